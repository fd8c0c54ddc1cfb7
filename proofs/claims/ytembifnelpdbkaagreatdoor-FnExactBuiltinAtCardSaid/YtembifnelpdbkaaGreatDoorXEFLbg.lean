/-
  A closed fact of the row: it goes by no other.
-/
import Derived.Test.YtembifnelpdbkaaGreatDoorRows
import Derived.SevenTiedAt
import Derived.ProofKit
set_option linter.unusedVariables false
set_option maxRecDepth 100000
namespace Go.Proofs.YtembifnelpdbkaaGreatDoor
open Go
theorem aDe : false=Rows.fnExactBuiltinAtRow.goesBy Tryz.prog:=by kernel_rfl
end Go.Proofs.YtembifnelpdbkaaGreatDoor
