/-
  For every argument the law FnExactMachineOk returns true, and its arguments read behind the call as they read before. Conditions: none beside those of the given row.
-/
import Derived.Test.YtjpehkgnlgbikaaGreatXJMC
import Derived.Test.YtjpehkgnlgbikaaGreatXJlaw2
import Derived.Test.YtjpehkgnlgbikaaGreatXJH
import Derived.Test.YtjpehkgnlgbikaaGreatRows
set_option linter.unusedVariables false
set_option maxRecDepth 100000
namespace Go.Proofs.YtjpehkgnlgbikaaGreat
open Go Go.V
theorem own : ownKnob Tryz.prog.godebug = none := by kernel_rfl
theorem laid : laidOutB Tryz.prog = true := by kernel_rfl
def tab : List Nat := [2, 3, 4, 5, 6, 9, 10, 11, 12, 21, 22, 23, 25, 26, 27, 29, 33, 34, 36, 38, 40, 64, 66, 68, 71, 75, 77, 79, 81, 83, 84, 86, 88, 89, 93, 104, 109, 116, 129, 132, 136, 139, 165, 167, 176, 178, 179, 195, 196, 199, 200]
theorem tabOk : tyOk Tryz.prog Tryzty tab = true := by kernel_rfl
theorem tabIn : ∀ e c, Tryzty e = some c → e ∈ tab := lookN_in _

theorem pure_FnExactMachineOk (x1 : M.SModule) (hx1 : ∀ m, ValE m U.Module x1) (x2 : M.SMachine) (hx2 : ∀ m, ValE m U.Machine x2) : M.l_FnExactMachineOk x1 x2 = some true := M.law_MachineOk x1 x2 (M.SModule.ok_of x1 hx1) (M.SMachine.ok_of x2 hx2)

theorem lifted (os : Os) (started : os.Started) (H : Type) (enc : TypeId × Value → H) :
    ReturnsInHanded {} Tryz.checked os 3 .any (Rows.fnExactMachineOkSpec.pre6 enc Tryz.prog Tryz.f3 Rows.fnExactMachineOkRow.domain false) (Rows.fnExactMachineOkSpec.post enc Tryz.prog Tryz.f3 false true false false) := by
  refine returnsInHanded_of_change (C := Tryz.checked) own started (by kernel_rfl) Tryz.func3
    (ChangeSpec.witness6 (enc := enc) (C := Tryz.checked) false ⟨#[], #[.agg #[.int .i64 0, .slice none 0 0, .slice none 0 0], .agg #[.int .i64 0, .slice none 0 0, .slice none 0 0, .int .i64 0, .slice none 0 0, .int .i64 0, .int .i64 0]], []⟩ 8 (by kernel_rfl) (by kernel_rfl) (by kernel_rfl) (by kernel_rfl)) ?_
  intro W base args ds gs before hval hW _ _
  exact law_step (C := Tryz.checked) (c := con_l_FnExactMachineOk M.l_FnExactMachineOk) laid tabOk tabIn (by kernel_rfl) rfl (fun | [d1, d2], _ => rfl) rfl Tryz.underlying4 rfl ok_l_FnExactMachineOk rfl (by kernel_rfl)
    ⟨true, rfl, fun x y h => pure_FnExactMachineOk x.1 (fun m => (h m).1) x.2.1 (fun m => (h m).2.1)⟩ hval hW trivial

theorem over : Rows.fnExactMachineOkRow.holds Tryz.pinned (OpenSpec.ofChange Rows.fnExactMachineOkSpec) :=
  OpenClaim.holds_of_wide 3 Tryz.f3 rfl rfl rfl rfl rfl rfl rfl ⟨rfl, rfl, rfl, rfl, rfl⟩ rfl rfl rfl rfl rfl (by kernel_rfl) Tryz.func3 (by kernel_rfl)
    (of_decide_eq_true (by kernel_rfl)) (by unfold Func.isWrapper; first | (rw [if_pos (by decide +kernel)]; kernel_rfl) | (rw [if_neg (by decide +kernel)]; exact ⟨rfl, rfl⟩))
    (fun os started H enc _ => lifted os started H enc)
theorem fnExactMachineOk_holds : Rows.FnExactMachineOkSaid := over
end Go.Proofs.YtjpehkgnlgbikaaGreat
