/-
  A closed fact of the row: it goes by no other.
-/
import Derived.Test.YthggbkhhdgnmaaaGreatDoorRows
import Derived.SevenTiedAt
import Derived.ProofKit
set_option linter.unusedVariables false
set_option maxRecDepth 100000
namespace Go.Proofs.YthggbkhhdgnmaaaGreatDoor
open Go
theorem aAx:false=Rows.fnExactLowerAtRow.goesBy Tryz.prog:=by kernel_rfl
end Go.Proofs.YthggbkhhdgnmaaaGreatDoor
