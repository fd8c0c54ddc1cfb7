/-
  For every argument the law FnTargets returns true, and its arguments read behind the call as they read before. Conditions: none beside those of the given row.
-/
import Derived.Test.YtlnailoffdmkiaaGreatXYFC
import Derived.Test.YtlnailoffdmkiaaGreatXYlaw2
import Derived.Test.YtlnailoffdmkiaaGreatXYG
import Derived.Test.YtlnailoffdmkiaaGreatRows
set_option linter.unusedVariables false
set_option maxRecDepth 100000
namespace Go.Proofs.YtlnailoffdmkiaaGreat
open Go Go.V
theorem own : ownKnob Tryz.prog.godebug = none := by kernel_rfl
theorem laid : laidOutB Tryz.prog = true := by kernel_rfl
def tab : List Nat := [2, 3, 4, 5, 6, 9, 10, 11, 12, 21, 22, 23, 24, 26, 28, 32, 33, 35, 37, 41, 42, 44, 48, 49, 51, 61, 77, 80, 82, 83, 85, 107, 118, 126, 131, 134, 137, 154, 156, 158, 159, 172, 176, 179, 182, 184, 217, 236, 247, 266, 274, 276, 291, 292, 294, 295]
theorem tabOk : tyOk Tryz.prog Tryzty tab = true := by kernel_rfl
theorem tabIn : ∀ e c, Tryzty e = some c → e ∈ tab := lookN_in _

theorem pure_FnTargets (x1 : List UInt8) : M.l_FnTargets x1 = some true := M.law_Targets x1

theorem lifted (os : Os) (started : os.Started) (H : Type) (enc : TypeId × Value → H) :
    ReturnsInHanded {} Tryz.checked os 9 .any (Rows.fnTargetsSpec.pre6 enc Tryz.prog Tryz.f9 Rows.fnTargetsRow.domain false) (Rows.fnTargetsSpec.post enc Tryz.prog Tryz.f9 false true false false) := by
  refine returnsInHanded_of_change (C := Tryz.checked) own started (by kernel_rfl) Tryz.func9
    (ChangeSpec.witness6 (enc := enc) (C := Tryz.checked) false ⟨#[], #[.slice none 0 0], []⟩ 8 (by kernel_rfl) (by kernel_rfl) (by kernel_rfl) (by kernel_rfl)) ?_
  intro W base args ds gs before hval hW _ _
  exact law_step (C := Tryz.checked) (c := con_l_FnTargets M.l_FnTargets) laid tabOk tabIn (by kernel_rfl) rfl (fun | [d1], _ => rfl) rfl Tryz.underlying4 rfl ok_l_FnTargets rfl (by kernel_rfl)
    ⟨true, rfl, fun x y h => pure_FnTargets x.1⟩ hval hW trivial

theorem over : Rows.fnTargetsRow.holds Tryz.pinned (OpenSpec.ofChange Rows.fnTargetsSpec) :=
  OpenClaim.holds_of_wide 9 Tryz.f9 rfl rfl rfl rfl rfl rfl rfl ⟨rfl, rfl, rfl, rfl, rfl⟩ rfl rfl rfl rfl rfl (by kernel_rfl) Tryz.func9 (by kernel_rfl)
    (of_decide_eq_true (by kernel_rfl)) (by unfold Func.isWrapper; first | (rw [if_pos (by decide +kernel)]; kernel_rfl) | (rw [if_neg (by decide +kernel)]; exact ⟨rfl, rfl⟩))
    (fun os started H enc _ => lifted os started H enc)
theorem fnTargets_holds : Rows.FnTargetsSaid := over
end Go.Proofs.YtlnailoffdmkiaaGreat
