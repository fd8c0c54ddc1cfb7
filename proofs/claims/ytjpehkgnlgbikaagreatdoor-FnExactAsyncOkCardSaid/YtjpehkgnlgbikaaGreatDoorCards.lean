/-
  DERIVED. GIVEN WITH THE SEED: THE CARDS: each row of YtjpehkgnlgbikaaGreatDoorRows.lean that lists a variable, with what it lists TIED to the program's text (the seventh form; the later family's looks); each row that meets fmt, with fmt's text TOLD by the authors' own Lean function (tested against real Go, not proved from fmt's source: count such statements apart). THE CARD IS WHAT COUNTS. Prove the row's statement (the work); the ties are given (YtjpehkgnlgbikaaGreatDoorTie.lean); close each card by the builder's one call (the guide's Derived/Test/ToyasCard.lean, 'card_holds'). Laid BY PROGRAM, IN A SANDBOX (cutbox-door.mjs). By AI agents, Wed Nov 11 2026. No macro, syntax, notation, axiom, sorry.
-/
import Derived.Test.YtjpehkgnlgbikaaGreatDoorRows
import GoSem.ClaimSeven
namespace Go.Proofs.YtjpehkgnlgbikaaGreatDoor
namespace Rows

/-- THE TIED CARD OF 'laws.FnExactAsyncOk'. -/
def fnExactAsyncOkCard : Claim7 := { stood := { row := fnExactAsyncOkRow, standIns := [], harness := (true, "b595f02651b980ee1fff02928083ef26fcf8d42d49d05836c6fddca052d2f1a6"), looks := false }, kinds := [], alts := [], laidByText := true, laidKinds := [.data, .pinned], laidTests := true, laidLooks := .later }
def FnExactAsyncOkCardSaid : Prop := Claim7.holds Tryz.pinned (.plain (OpenSpec.ofChange fnExactAsyncOkSpec)) fnExactAsyncOkCard

/-- THE SECOND FORM's CARD OF 'laws.FnExactAsyncOk'. -/
def fnExactAsyncOkUptoCard : Claim7 := { stood := { row := fnExactAsyncOkUptoRow, standIns := [], harness := (true, "b595f02651b980ee1fff02928083ef26fcf8d42d49d05836c6fddca052d2f1a6"), looks := false }, kinds := [], alts := [], laidByText := true, laidKinds := [.data, .pinned], laidTests := true, laidLooks := .later }
def FnExactAsyncOkUptoCardSaid : Prop := Claim7.holds Tryz.pinned (.plain (OpenSpec.upto fnExactAsyncOkSpec)) fnExactAsyncOkUptoCard
end Rows
end Go.Proofs.YtjpehkgnlgbikaaGreatDoor
