/-
  For every argument the law FnExactSameComponent returns true, and its arguments read behind the call as they read before. Conditions: none beside those of the given row.
-/
import Derived.Test.YtfjgoefnkdcolaaGreatXSCC
import Derived.Test.YtfjgoefnkdcolaaGreatXVlaw2
import Derived.Test.YtfjgoefnkdcolaaGreatXSCP3
import Derived.Test.YtfjgoefnkdcolaaGreatRows
set_option linter.unusedVariables false
set_option maxRecDepth 100000
namespace Go.Proofs.YtfjgoefnkdcolaaGreat
open Go Go.V
theorem own : ownKnob Tryz.prog.godebug = none := by kernel_rfl
theorem laid : laidOutB Tryz.prog = true := by kernel_rfl
def tab : List Nat := [2, 3, 4, 5, 6, 9, 10, 11, 12, 21, 22, 23, 24, 26, 27, 28, 29, 31, 34, 35, 36, 38, 39, 40, 41, 43, 46, 47, 48, 50, 52, 56, 57, 59, 61, 78, 80, 82, 89, 91, 106, 112, 118, 120, 124, 126, 128, 130, 132, 134, 143, 153, 157, 159, 185, 187, 189, 191, 210, 213, 238, 250, 256, 264, 266, 267, 282, 283, 285, 286]
theorem tabOk : tyOk Tryz.prog Tryzty tab = true := by kernel_rfl
theorem tabIn : ∀ e c, Tryzty e = some c → e ∈ tab := lookN_in _

theorem pure_FnExactSameComponent (x1 : M.SComponent) (hx1 : ∀ m, ValE m U.Component x1) (x2 : M.SComponent) (hx2 : ∀ m, ValE m U.Component x2) : M.l_FnExactSameComponent x1 x2 = some true := M.law_SameComponent x1 x2 (M.SComponent.ok_of x1 hx1) (M.SComponent.ok_of x2 hx2)

theorem lifted (os : Os) (started : os.Started) (H : Type) (enc : TypeId × Value → H) :
    ReturnsInHanded {} Tryz.checked os 3 .any (Rows.fnExactSameComponentSpec.pre6 enc Tryz.prog Tryz.f3 Rows.fnExactSameComponentRow.domain false) (Rows.fnExactSameComponentSpec.post enc Tryz.prog Tryz.f3 false true false false) := by
  refine returnsInHanded_of_change (C := Tryz.checked) own started (by kernel_rfl) Tryz.func3
    (ChangeSpec.witness6 (enc := enc) (C := Tryz.checked) false ⟨#[], #[.agg #[.string ⟨#[]⟩, .string ⟨#[]⟩, .slice none 0 0, .slice none 0 0, .int .i64 0, .int .i64 0, .int .i64 0, .slice none 0 0, .slice none 0 0, .slice none 0 0, .slice none 0 0, .slice none 0 0], .agg #[.string ⟨#[]⟩, .string ⟨#[]⟩, .slice none 0 0, .slice none 0 0, .int .i64 0, .int .i64 0, .int .i64 0, .slice none 0 0, .slice none 0 0, .slice none 0 0, .slice none 0 0, .slice none 0 0]], []⟩ 8 (by kernel_rfl) (by kernel_rfl) (by kernel_rfl) (by kernel_rfl)) ?_
  intro W base args ds gs before hval hW _ _
  exact law_step (C := Tryz.checked) (c := con_l_FnExactSameComponent M.l_FnExactSameComponent) laid tabOk tabIn (by kernel_rfl) rfl (fun | [d1, d2], _ => rfl) rfl Tryz.underlying4 rfl ok_l_FnExactSameComponent rfl (by kernel_rfl)
    ⟨true, rfl, fun x y h => pure_FnExactSameComponent x.1 (fun m => (h m).1) x.2.1 (fun m => (h m).2.1)⟩ hval hW

theorem over : Rows.fnExactSameComponentRow.holds Tryz.pinned (OpenSpec.ofChange Rows.fnExactSameComponentSpec) :=
  OpenClaim.holds_of_wide 3 Tryz.f3 rfl rfl rfl rfl rfl rfl rfl ⟨rfl, rfl, rfl, rfl, rfl⟩ rfl rfl rfl rfl rfl (by kernel_rfl) Tryz.func3 (by kernel_rfl)
    (of_decide_eq_true (by kernel_rfl)) (by unfold Func.isWrapper; first | (rw [if_pos (by decide +kernel)]; kernel_rfl) | (rw [if_neg (by decide +kernel)]; exact ⟨rfl, rfl⟩))
    (fun os started H enc _ => lifted os started H enc)
theorem fnExactSameComponent_holds : Rows.FnExactSameComponentSaid := over
end Go.Proofs.YtfjgoefnkdcolaaGreat
