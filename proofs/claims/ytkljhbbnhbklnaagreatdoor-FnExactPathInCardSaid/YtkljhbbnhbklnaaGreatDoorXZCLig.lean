/-
  A closed fact of the row: it goes by no other.
-/
import Derived.Test.YtkljhbbnhbklnaaGreatDoorRows
import Derived.SevenTiedAt
import Derived.ProofKit
set_option linter.unusedVariables false
set_option maxRecDepth 100000
namespace Go.Proofs.YtkljhbbnhbklnaaGreatDoor
open Go
theorem awg:false=Rows.fnExactPathInRow.goesBy Tryz.prog:=by kernel_rfl
end Go.Proofs.YtkljhbbnhbklnaaGreatDoor
