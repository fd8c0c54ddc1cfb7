/-
  A closed fact of the row: it goes by no other.
-/
import Derived.Test.YtnkkcmdomlkdmaaGreatDoorRows
import Derived.SevenTiedAt
import Derived.ProofKit
set_option linter.unusedVariables false
set_option maxRecDepth 100000
namespace Go.Proofs.YtnkkcmdomlkdmaaGreatDoor
open Go
theorem aBF:false=Rows.fnExactPackageBytesRow.goesBy Tryz.prog:=by kernel_rfl
end Go.Proofs.YtnkkcmdomlkdmaaGreatDoor
