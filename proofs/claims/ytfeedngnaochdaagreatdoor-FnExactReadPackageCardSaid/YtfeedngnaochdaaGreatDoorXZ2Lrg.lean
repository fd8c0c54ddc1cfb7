/-
  A closed fact of the row: it goes by no other.
-/
import Derived.Test.YtfeedngnaochdaaGreatDoorRows
import Derived.SevenTiedAt
import Derived.ProofKit
set_option linter.unusedVariables false
set_option maxRecDepth 100000
namespace Go.Proofs.YtfeedngnaochdaaGreatDoor
open Go
theorem ahn:false=Rows.fnExactReadPackageRow.goesBy Tryz.prog:=by kernel_rfl
end Go.Proofs.YtfeedngnaochdaaGreatDoor
