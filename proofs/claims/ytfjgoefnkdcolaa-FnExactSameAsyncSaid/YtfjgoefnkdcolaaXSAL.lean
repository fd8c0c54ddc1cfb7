/-
  For every argument the law FnExactSameAsync returns true, and its arguments read behind the call as they read before. Conditions: none beside those of the given row.
-/
import Derived.Test.YtfjgoefnkdcolaaXSAC
import Derived.Test.YtfjgoefnkdcolaaXVlaw2
import Derived.Test.YtfjgoefnkdcolaaXSAP3
import Derived.Test.YtfjgoefnkdcolaaRows
set_option linter.unusedVariables false
set_option maxRecDepth 100000
namespace Go.Proofs.Ytfjgoefnkdcolaa
open Go Go.V
theorem own : ownKnob Try.prog.godebug = none := by kernel_rfl
theorem laid : laidOutB Try.prog = true := by kernel_rfl
def tab : List Nat := [2, 3, 4, 5, 6, 9, 10, 11, 12, 21, 22, 24, 27, 29, 33, 34, 35, 36, 37, 39, 42, 43, 44, 45, 47, 50, 51, 53, 56, 58, 66, 77, 79, 82, 84, 105, 109, 111, 113, 118, 121, 138, 139, 158, 180, 189, 191, 192, 207, 208, 210, 211]
theorem tabOk : tyOk Try.prog Tryty tab = true := by kernel_rfl
theorem tabIn : ∀ e c, Tryty e = some c → e ∈ tab := lookN_in _

theorem pure_FnExactSameAsync (x1 : M.SAsync) (hx1 : ∀ m, ValE m U.Async x1) (x2 : M.SAsync) (hx2 : ∀ m, ValE m U.Async x2) : M.l_FnExactSameAsync x1 x2 = some true := M.law_SameAsync x1 x2 (M.SAsync.ok_of x1 hx1) (M.SAsync.ok_of x2 hx2)

theorem lifted (os : Os) (started : os.Started) (H : Type) (enc : TypeId × Value → H) :
    ReturnsInHanded {} Try.checked os 4 .any (Rows.fnExactSameAsyncSpec.pre6 enc Try.prog Try.f4 Rows.fnExactSameAsyncRow.domain false) (Rows.fnExactSameAsyncSpec.post enc Try.prog Try.f4 false true false false) := by
  refine returnsInHanded_of_change (C := Try.checked) own started (by kernel_rfl) Try.func4
    (ChangeSpec.witness6 (enc := enc) (C := Try.checked) false ⟨#[], #[.agg #[.slice none 0 0, .slice none 0 0, .slice none 0 0, .slice none 0 0, .slice none 0 0], .agg #[.slice none 0 0, .slice none 0 0, .slice none 0 0, .slice none 0 0, .slice none 0 0]], []⟩ 8 (by kernel_rfl) (by kernel_rfl) (by kernel_rfl) (by kernel_rfl)) ?_
  intro W base args ds gs before hval hW _ _
  exact law_step (C := Try.checked) (c := con_l_FnExactSameAsync M.l_FnExactSameAsync) laid tabOk tabIn (by kernel_rfl) rfl (fun | [d1, d2], _ => rfl) rfl Try.underlying4 rfl ok_l_FnExactSameAsync rfl (by kernel_rfl)
    ⟨true, rfl, fun x y h => pure_FnExactSameAsync x.1 (fun m => (h m).1) x.2.1 (fun m => (h m).2.1)⟩ hval hW

theorem over : Rows.fnExactSameAsyncRow.holds Try.pinned (OpenSpec.ofChange Rows.fnExactSameAsyncSpec) :=
  OpenClaim.holds_of_wide 4 Try.f4 rfl rfl rfl rfl rfl rfl rfl ⟨rfl, rfl, rfl, rfl, rfl⟩ rfl rfl rfl rfl rfl (by kernel_rfl) Try.func4 (by kernel_rfl)
    (of_decide_eq_true (by kernel_rfl)) (by unfold Func.isWrapper; first | (rw [if_pos (by decide +kernel)]; kernel_rfl) | (rw [if_neg (by decide +kernel)]; exact ⟨rfl, rfl⟩))
    (fun os started H enc _ => lifted os started H enc)
theorem fnExactSameAsync_holds : Rows.FnExactSameAsyncSaid := over
end Go.Proofs.Ytfjgoefnkdcolaa
