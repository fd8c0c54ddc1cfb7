/-
  A closed fact of the row: it goes by no other.
-/
import Derived.Test.YtjgokmknlclpgaaGreatDoorRows
import Derived.SevenTiedAt
import Derived.ProofKit
set_option linter.unusedVariables false
set_option maxRecDepth 100000
namespace Go.Proofs.YtjgokmknlclpgaaGreatDoor
open Go
theorem aIc:false=Rows.fnExactComponentNeedsRow.goesBy Tryz.prog:=by kernel_rfl
end Go.Proofs.YtjgokmknlclpgaaGreatDoor
