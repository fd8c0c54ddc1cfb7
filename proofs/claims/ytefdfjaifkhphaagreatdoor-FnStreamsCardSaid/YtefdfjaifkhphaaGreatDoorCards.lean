/-
  DERIVED. GIVEN WITH THE SEED: THE CARDS: each row of YtefdfjaifkhphaaGreatDoorRows.lean that lists a variable, with what it lists TIED to the program's text (the seventh form; the later family's looks); each row that meets fmt, with fmt's text TOLD by the authors' own Lean function (tested against real Go, not proved from fmt's source: count such statements apart). THE CARD IS WHAT COUNTS. Prove the row's statement (the work); the ties are given (YtefdfjaifkhphaaGreatDoorTie.lean); close each card by the builder's one call (the guide's Derived/Test/ToyasCard.lean, 'card_holds'). Laid BY PROGRAM, IN A SANDBOX (cutbox-door.mjs). By AI agents, Wed Nov 11 2026. No macro, syntax, notation, axiom, sorry.
-/
import Derived.Test.YtefdfjaifkhphaaGreatDoorRows
import GoSem.ClaimSeven
namespace Go.Proofs.YtefdfjaifkhphaaGreatDoor
namespace Rows

/-- THE TIED CARD OF 'laws.FnStreams'. -/
def fnStreamsCard : Claim7 := { stood := { row := fnStreamsRow, standIns := [], harness := (true, "58e5a2fddd16576daa48984a6285018d2c05c01d92fd149b81d9587b8c08a752"), looks := false }, kinds := [], alts := [], laidByText := true, laidKinds := [.data, .pinned], laidTests := true, laidLooks := .later }
def FnStreamsCardSaid : Prop := Claim7.holds Tryz.pinned (.plain (OpenSpec.ofChange fnStreamsSpec)) fnStreamsCard

/-- THE TIED CARD OF 'laws.FnStreamReady'. -/
def fnStreamReadyCard : Claim7 := { stood := { row := fnStreamReadyRow, standIns := [], harness := (true, "58e5a2fddd16576daa48984a6285018d2c05c01d92fd149b81d9587b8c08a752"), looks := false }, kinds := [], alts := [], laidByText := true, laidKinds := [.data, .pinned], laidTests := true, laidLooks := .later }
def FnStreamReadyCardSaid : Prop := Claim7.holds Tryz.pinned (.plain (OpenSpec.ofChange fnStreamReadySpec)) fnStreamReadyCard

/-- THE SECOND FORM's CARD OF 'laws.FnStreams'. -/
def fnStreamsUptoCard : Claim7 := { stood := { row := fnStreamsUptoRow, standIns := [], harness := (true, "58e5a2fddd16576daa48984a6285018d2c05c01d92fd149b81d9587b8c08a752"), looks := false }, kinds := [], alts := [], laidByText := true, laidKinds := [.data, .pinned], laidTests := true, laidLooks := .later }
def FnStreamsUptoCardSaid : Prop := Claim7.holds Tryz.pinned (.plain (OpenSpec.upto fnStreamsSpec)) fnStreamsUptoCard

/-- THE SECOND FORM's CARD OF 'laws.FnStreamReady'. -/
def fnStreamReadyUptoCard : Claim7 := { stood := { row := fnStreamReadyUptoRow, standIns := [], harness := (true, "58e5a2fddd16576daa48984a6285018d2c05c01d92fd149b81d9587b8c08a752"), looks := false }, kinds := [], alts := [], laidByText := true, laidKinds := [.data, .pinned], laidTests := true, laidLooks := .later }
def FnStreamReadyUptoCardSaid : Prop := Claim7.holds Tryz.pinned (.plain (OpenSpec.upto fnStreamReadySpec)) fnStreamReadyUptoCard
end Rows
end Go.Proofs.YtefdfjaifkhphaaGreatDoor
