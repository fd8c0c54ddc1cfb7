/-
  For every argument the law FnExactCheckCore returns true, and its arguments read behind the call as they read before. Conditions: none beside those of the given row.
-/
import Derived.Test.YtnipodhclifmmaaGreatXCDC
import Derived.Test.YtnipodhclifmmaaGreatXKlaw2
import Derived.Test.YtnipodhclifmmaaGreatXKK
import Derived.Test.YtnipodhclifmmaaGreatRows
set_option linter.unusedVariables false
set_option maxRecDepth 100000
namespace Go.Proofs.YtnipodhclifmmaaGreat
open Go Go.V
theorem own : ownKnob Tryz.prog.godebug = none := by kernel_rfl
theorem laid : laidOutB Tryz.prog = true := by kernel_rfl
def tab : List Nat := [2, 3, 4, 5, 6, 9, 10, 11, 12, 21, 22, 23, 25, 27, 30, 31, 33, 50, 54, 56, 64, 66, 68, 69, 73, 75, 80, 89, 91, 101, 104, 112, 117, 121, 141, 143, 152, 154, 155, 171, 172, 175, 176]
theorem tabOk : tyOk Tryz.prog Tryzty tab = true := by kernel_rfl
theorem tabIn : ∀ e c, Tryzty e = some c → e ∈ tab := lookN_in _

theorem pure_FnExactCheckCore (x1 : M.SModule) (hx1 : ∀ m, ValE m U.Module x1) (x2 : Int) : M.l_FnExactCheckCore x1 x2 = some true := M.law_CheckCore x1 x2 (M.SModule.ok_of x1 hx1)

theorem lifted (os : Os) (started : os.Started) (H : Type) (enc : TypeId × Value → H) :
    ReturnsInHanded {} Tryz.checked os 3 .any (Rows.fnExactCheckCoreSpec.pre6 enc Tryz.prog Tryz.f3 Rows.fnExactCheckCoreRow.domain false) (Rows.fnExactCheckCoreSpec.post enc Tryz.prog Tryz.f3 false true false false) := by
  refine returnsInHanded_of_change (C := Tryz.checked) own started (by kernel_rfl) Tryz.func3
    (ChangeSpec.witness6 (enc := enc) (C := Tryz.checked) false ⟨#[], #[.agg #[.int .i64 0, .slice none 0 0, .slice none 0 0], .int .i64 0], []⟩ 8 (by kernel_rfl) (by kernel_rfl) (by kernel_rfl) (by kernel_rfl)) ?_
  intro W base args ds gs before hval hW _ _
  exact law_step (C := Tryz.checked) (c := con_l_FnExactCheckCore M.l_FnExactCheckCore) laid tabOk tabIn (by kernel_rfl) rfl (fun | [d1, d2], _ => rfl) rfl Tryz.underlying4 rfl ok_l_FnExactCheckCore rfl (by kernel_rfl)
    ⟨true, rfl, fun x y h => pure_FnExactCheckCore x.1 (fun m => (h m).1) x.2.1⟩ hval hW trivial

theorem over : Rows.fnExactCheckCoreRow.holds Tryz.pinned (OpenSpec.ofChange Rows.fnExactCheckCoreSpec) :=
  OpenClaim.holds_of_wide 3 Tryz.f3 rfl rfl rfl rfl rfl rfl rfl ⟨rfl, rfl, rfl, rfl, rfl⟩ rfl rfl rfl rfl rfl (by kernel_rfl) Tryz.func3 (by kernel_rfl)
    (of_decide_eq_true (by kernel_rfl)) (by unfold Func.isWrapper; first | (rw [if_pos (by decide +kernel)]; kernel_rfl) | (rw [if_neg (by decide +kernel)]; exact ⟨rfl, rfl⟩))
    (fun os started H enc _ => lifted os started H enc)
theorem fnExactCheckCore_holds : Rows.FnExactCheckCoreSaid := over
end Go.Proofs.YtnipodhclifmmaaGreat
