/-
  For every argument the law FnExactTypeBytes returns true, and its arguments read behind the call as they read before. Conditions: none beside those of the given row.
-/
import Derived.Test.YtlnailoffdmkiaaXTBC
import Derived.Test.YtlnailoffdmkiaaXBlaw2
import Derived.Test.YtlnailoffdmkiaaXBU2
import Derived.Test.YtlnailoffdmkiaaRows
set_option linter.unusedVariables false
set_option maxRecDepth 100000
namespace Go.Proofs.Ytlnailoffdmkiaa
open Go Go.V
theorem own : ownKnob Try.prog.godebug = none := by kernel_rfl
theorem laid : laidOutB Try.prog = true := by kernel_rfl
def tab : List Nat := [2, 3, 4, 5, 6, 9, 10, 11, 12, 21, 22, 23, 25, 28, 30, 52, 53, 73, 90, 99, 101, 102, 117, 118, 120, 121]
theorem tabOk : tyOk Try.prog Tryty tab = true := by kernel_rfl
theorem tabIn : ∀ e c, Tryty e = some c → e ∈ tab := lookN_in _

theorem pure_FnExactTypeBytes (x1 : M.SType) (hx1 : ∀ m, ValE m U.Type x1) : M.l_FnExactTypeBytes x1 = some true := M.law_TypeBytes x1 (M.SType.ok_of x1 hx1)

theorem lifted (os : Os) (started : os.Started) (H : Type) (enc : TypeId × Value → H) :
    ReturnsInHanded {} Try.checked os 3 .any (Rows.fnExactTypeBytesSpec.pre6 enc Try.prog Try.f3 Rows.fnExactTypeBytesRow.domain false) (Rows.fnExactTypeBytesSpec.post enc Try.prog Try.f3 false true false false) := by
  refine returnsInHanded_of_change (C := Try.checked) own started (by kernel_rfl) Try.func3
    (ChangeSpec.witness6 (enc := enc) (C := Try.checked) false ⟨#[], #[.agg #[.int .i64 0, .string ⟨#[]⟩, .slice none 0 0, .slice none 0 0]], []⟩ 8 (by kernel_rfl) (by kernel_rfl) (by kernel_rfl) (by kernel_rfl)) ?_
  intro W base args ds gs before hval hW _ _
  exact law_step (C := Try.checked) (c := con_l_FnExactTypeBytes M.l_FnExactTypeBytes) laid tabOk tabIn (by kernel_rfl) rfl (fun | [d1], _ => rfl) rfl Try.underlying4 rfl ok_l_FnExactTypeBytes rfl (by kernel_rfl)
    ⟨true, rfl, fun x y h => pure_FnExactTypeBytes x.1 (fun m => (h m).1)⟩ hval hW trivial

theorem over : Rows.fnExactTypeBytesRow.holds Try.pinned (OpenSpec.ofChange Rows.fnExactTypeBytesSpec) :=
  OpenClaim.holds_of_wide 3 Try.f3 rfl rfl rfl rfl rfl rfl rfl ⟨rfl, rfl, rfl, rfl, rfl⟩ rfl rfl rfl rfl rfl (by kernel_rfl) Try.func3 (by kernel_rfl)
    (of_decide_eq_true (by kernel_rfl)) (by unfold Func.isWrapper; first | (rw [if_pos (by decide +kernel)]; kernel_rfl) | (rw [if_neg (by decide +kernel)]; exact ⟨rfl, rfl⟩))
    (fun os started H enc _ => lifted os started H enc)
theorem fnExactTypeBytes_holds : Rows.FnExactTypeBytesSaid := over
end Go.Proofs.Ytlnailoffdmkiaa
