/-
  A closed fact of the row: it goes by no other.
-/
import Derived.Test.YtiacpoahkccfaaaGreatDoorRows
import Derived.SevenTiedAt
import Derived.ProofKit
set_option linter.unusedVariables false
set_option maxRecDepth 100000
namespace Go.Proofs.YtiacpoahkccfaaaGreatDoor
open Go
theorem asK:false=Rows.fnExactPackageTextRow.goesBy Tryz.prog:=by kernel_rfl
end Go.Proofs.YtiacpoahkccfaaaGreatDoor
