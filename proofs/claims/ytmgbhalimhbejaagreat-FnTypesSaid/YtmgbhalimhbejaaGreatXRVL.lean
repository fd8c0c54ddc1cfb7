/-
  For every argument the law FnTypes returns true, and its arguments read behind the call as they read before. Conditions: none beside those of the given row.
-/
import Derived.Test.YtmgbhalimhbejaaGreatXRVC
import Derived.Test.YtmgbhalimhbejaaGreatXRlaw2
import Derived.Test.YtmgbhalimhbejaaGreatXSW
import Derived.Test.YtmgbhalimhbejaaGreatRows
set_option linter.unusedVariables false
set_option maxRecDepth 100000
namespace Go.Proofs.YtmgbhalimhbejaaGreat
open Go Go.V
theorem own : ownKnob Tryz.prog.godebug = none := by kernel_rfl
theorem laid : laidOutB Tryz.prog = true := by kernel_rfl
def tab : List Nat := [2, 3, 4, 5, 6, 9, 10, 11, 12, 21, 22, 23, 25, 31, 33, 38, 50, 54, 63, 90, 92, 104, 120, 140, 148, 150, 165, 166, 168, 169]
theorem tabOk : tyOk Tryz.prog Tryzty tab = true := by kernel_rfl
theorem tabIn : ∀ e c, Tryzty e = some c → e ∈ tab := lookN_in _

theorem pure_FnTypes (x1 : List UInt8) : M.l_FnTypes x1 = some true := M.law_Types x1

theorem lifted (os : Os) (started : os.Started) (H : Type) (enc : TypeId × Value → H) :
    ReturnsInHanded {} Tryz.checked os 5 .any (Rows.fnTypesSpec.pre6 enc Tryz.prog Tryz.f5 Rows.fnTypesRow.domain false) (Rows.fnTypesSpec.post enc Tryz.prog Tryz.f5 false true false false) := by
  refine returnsInHanded_of_change (C := Tryz.checked) own started (by kernel_rfl) Tryz.func5
    (ChangeSpec.witness6 (enc := enc) (C := Tryz.checked) false ⟨#[], #[.slice none 0 0], []⟩ 8 (by kernel_rfl) (by kernel_rfl) (by kernel_rfl) (by kernel_rfl)) ?_
  intro W base args ds gs before hval hW _ _
  exact law_step (C := Tryz.checked) (c := con_l_FnTypes M.l_FnTypes) laid tabOk tabIn (by kernel_rfl) rfl (fun | [d1], _ => rfl) rfl Tryz.underlying4 rfl ok_l_FnTypes rfl (by kernel_rfl)
    ⟨true, rfl, fun x y h => pure_FnTypes x.1⟩ hval hW trivial

theorem over : Rows.fnTypesRow.holds Tryz.pinned (OpenSpec.ofChange Rows.fnTypesSpec) :=
  OpenClaim.holds_of_wide 5 Tryz.f5 rfl rfl rfl rfl rfl rfl rfl ⟨rfl, rfl, rfl, rfl, rfl⟩ rfl rfl rfl rfl rfl (by kernel_rfl) Tryz.func5 (by kernel_rfl)
    (of_decide_eq_true (by kernel_rfl)) (by unfold Func.isWrapper; first | (rw [if_pos (by decide +kernel)]; kernel_rfl) | (rw [if_neg (by decide +kernel)]; exact ⟨rfl, rfl⟩))
    (fun os started H enc _ => lifted os started H enc)
theorem fnTypes_holds : Rows.FnTypesSaid := over
end Go.Proofs.YtmgbhalimhbejaaGreat
