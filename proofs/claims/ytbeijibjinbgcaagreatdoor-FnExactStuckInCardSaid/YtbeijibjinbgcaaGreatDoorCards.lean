/-
  DERIVED. GIVEN WITH THE SEED: THE CARDS: each row of YtbeijibjinbgcaaGreatDoorRows.lean that lists a variable, with what it lists TIED to the program's text (the seventh form; the later family's looks); each row that meets fmt, with fmt's text TOLD by the authors' own Lean function (tested against real Go, not proved from fmt's source: count such statements apart). THE CARD IS WHAT COUNTS. Prove the row's statement (the work); the ties are given (YtbeijibjinbgcaaGreatDoorTie.lean); close each card by the builder's one call (the guide's Derived/Test/ToyasCard.lean, 'card_holds'). Laid BY PROGRAM, IN A SANDBOX (cutbox-door.mjs). By AI agents, Wed Nov 11 2026. No macro, syntax, notation, axiom, sorry.
-/
import Derived.Test.YtbeijibjinbgcaaGreatDoorRows
import GoSem.ClaimSeven
namespace Go.Proofs.YtbeijibjinbgcaaGreatDoor
namespace Rows

/-- THE TIED CARD OF 'laws.FnExactCanStep'. -/
def fnExactCanStepCard : Claim7 := { stood := { row := fnExactCanStepRow, standIns := [], harness := (true, "96005260f8c2fbbec7ebeff3431b594570e0e9c6dfa24c8ebd33bb3d97b4b62d"), looks := false }, kinds := [], alts := [], laidByText := true, laidKinds := [.data, .pinned], laidTests := true, laidLooks := .later }
def FnExactCanStepCardSaid : Prop := Claim7.holds Tryz.pinned (.plain (OpenSpec.ofChange fnExactCanStepSpec)) fnExactCanStepCard

/-- THE TIED CARD OF 'laws.FnExactStuckIn'. -/
def fnExactStuckInCard : Claim7 := { stood := { row := fnExactStuckInRow, standIns := [], harness := (true, "96005260f8c2fbbec7ebeff3431b594570e0e9c6dfa24c8ebd33bb3d97b4b62d"), looks := false }, kinds := [], alts := [], laidByText := true, laidKinds := [.data, .pinned], laidTests := true, laidLooks := .later }
def FnExactStuckInCardSaid : Prop := Claim7.holds Tryz.pinned (.plain (OpenSpec.ofChange fnExactStuckInSpec)) fnExactStuckInCard

/-- THE SECOND FORM's CARD OF 'laws.FnExactCanStep'. -/
def fnExactCanStepUptoCard : Claim7 := { stood := { row := fnExactCanStepUptoRow, standIns := [], harness := (true, "96005260f8c2fbbec7ebeff3431b594570e0e9c6dfa24c8ebd33bb3d97b4b62d"), looks := false }, kinds := [], alts := [], laidByText := true, laidKinds := [.data, .pinned], laidTests := true, laidLooks := .later }
def FnExactCanStepUptoCardSaid : Prop := Claim7.holds Tryz.pinned (.plain (OpenSpec.upto fnExactCanStepSpec)) fnExactCanStepUptoCard

/-- THE SECOND FORM's CARD OF 'laws.FnExactStuckIn'. -/
def fnExactStuckInUptoCard : Claim7 := { stood := { row := fnExactStuckInUptoRow, standIns := [], harness := (true, "96005260f8c2fbbec7ebeff3431b594570e0e9c6dfa24c8ebd33bb3d97b4b62d"), looks := false }, kinds := [], alts := [], laidByText := true, laidKinds := [.data, .pinned], laidTests := true, laidLooks := .later }
def FnExactStuckInUptoCardSaid : Prop := Claim7.holds Tryz.pinned (.plain (OpenSpec.upto fnExactStuckInSpec)) fnExactStuckInUptoCard
end Rows
end Go.Proofs.YtbeijibjinbgcaaGreatDoor
