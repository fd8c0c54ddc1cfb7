/-
  A closed fact of the row: it goes by no other.
-/
import Derived.Test.YtadnfbiaknpllaaGreatDoorRows
import Derived.SevenTiedAt
import Derived.ProofKit
set_option linter.unusedVariables false
set_option maxRecDepth 100000
namespace Go.Proofs.YtadnfbiaknpllaaGreatDoor
open Go
theorem aru:false=Rows.fnResolveOneRow.goesBy Tryz.prog:=by kernel_rfl
end Go.Proofs.YtadnfbiaknpllaaGreatDoor
