/-
  A closed fact of the row: it goes by no other.
-/
import Derived.Test.YtdehjkmaaljlpaaGreatDoorRows
import Derived.SevenTiedAt
import Derived.ProofKit
set_option linter.unusedVariables false
set_option maxRecDepth 100000
namespace Go.Proofs.YtdehjkmaaljlpaaGreatDoor
open Go
theorem azi:false=Rows.fnExactComponentTextRow.goesBy Tryz.prog:=by kernel_rfl
end Go.Proofs.YtdehjkmaaljlpaaGreatDoor
