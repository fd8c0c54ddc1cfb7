/-
  A closed fact of the row: it goes by no other.
-/
import Derived.Test.YtojfkjgemgjjkaaGreatDoorRows
import Derived.SevenTiedAt
import Derived.ProofKit
set_option linter.unusedVariables false
set_option maxRecDepth 100000
namespace Go.Proofs.YtojfkjgemgjjkaaGreatDoor
open Go
theorem apL:false=Rows.fnLanguagePrintRow.goesBy Tryz.prog:=by kernel_rfl
end Go.Proofs.YtojfkjgemgjjkaaGreatDoor
