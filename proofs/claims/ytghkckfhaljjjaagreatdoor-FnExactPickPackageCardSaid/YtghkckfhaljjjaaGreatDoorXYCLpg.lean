/-
  A closed fact of the row: it goes by no other.
-/
import Derived.Test.YtghkckfhaljjjaaGreatDoorRows
import Derived.SevenTiedAt
import Derived.ProofKit
set_option linter.unusedVariables false
set_option maxRecDepth 100000
namespace Go.Proofs.YtghkckfhaljjjaaGreatDoor
open Go
theorem atB:false=Rows.fnExactPickPackageRow.goesBy Tryz.prog:=by kernel_rfl
end Go.Proofs.YtghkckfhaljjjaaGreatDoor
