/-
  DERIVED. GIVEN WITH THE SEED: THE CARDS: each row of YtgonjnjoklpegaaGreatDoorRows.lean that lists a variable, with what it lists TIED to the program's text (the seventh form; the later family's looks); each row that meets fmt, with fmt's text TOLD by the authors' own Lean function (tested against real Go, not proved from fmt's source: count such statements apart). THE CARD IS WHAT COUNTS. Prove the row's statement (the work); the ties are given (YtgonjnjoklpegaaGreatDoorTie.lean); close each card by the builder's one call (the guide's Derived/Test/ToyasCard.lean, 'card_holds'). Laid BY PROGRAM, IN A SANDBOX (cutbox-door.mjs). By AI agents, Wed Nov 11 2026. No macro, syntax, notation, axiom, sorry.
-/
import Derived.Test.YtgonjnjoklpegaaGreatDoorRows
import GoSem.ClaimSeven
namespace Go.Proofs.YtgonjnjoklpegaaGreatDoor
namespace Rows

/-- THE TIED CARD OF 'laws.FnExactNotesOf'. -/
def fnExactNotesOfCard : Claim7 := { stood := { row := fnExactNotesOfRow, standIns := [], harness := (true, "88542106f2c05d60633cbaa20de42ae74a0f1d1db7573bbdebb3fa9dbe5d5280"), looks := false }, kinds := [], alts := [], laidByText := true, laidKinds := [.data, .pinned], laidTests := true, laidLooks := .later }
def FnExactNotesOfCardSaid : Prop := Claim7.holds Tryz.pinned (.plain (OpenSpec.ofChange fnExactNotesOfSpec)) fnExactNotesOfCard

/-- THE SECOND FORM's CARD OF 'laws.FnExactNotesOf'. -/
def fnExactNotesOfUptoCard : Claim7 := { stood := { row := fnExactNotesOfUptoRow, standIns := [], harness := (true, "88542106f2c05d60633cbaa20de42ae74a0f1d1db7573bbdebb3fa9dbe5d5280"), looks := false }, kinds := [], alts := [], laidByText := true, laidKinds := [.data, .pinned], laidTests := true, laidLooks := .later }
def FnExactNotesOfUptoCardSaid : Prop := Claim7.holds Tryz.pinned (.plain (OpenSpec.upto fnExactNotesOfSpec)) fnExactNotesOfUptoCard
end Rows
end Go.Proofs.YtgonjnjoklpegaaGreatDoor
