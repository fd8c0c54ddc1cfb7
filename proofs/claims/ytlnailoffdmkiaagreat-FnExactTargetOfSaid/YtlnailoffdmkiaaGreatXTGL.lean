/-
  For every argument the law FnExactTargetOf returns true, and its arguments read behind the call as they read before. Conditions: none beside those of the given row.
-/
import Derived.Test.YtlnailoffdmkiaaGreatXTGC
import Derived.Test.YtlnailoffdmkiaaGreatXZlaw2
import Derived.Test.YtlnailoffdmkiaaGreatXTNZ
import Derived.Test.YtlnailoffdmkiaaGreatRows
set_option linter.unusedVariables false
set_option maxRecDepth 100000
namespace Go.Proofs.YtlnailoffdmkiaaGreat
open Go Go.V
theorem own : ownKnob Tryz.prog.godebug = none := by kernel_rfl
theorem laid : laidOutB Tryz.prog = true := by kernel_rfl
def tab : List Nat := [2, 3, 4, 5, 6, 9, 10, 11, 12, 21, 22, 23, 24, 26, 28, 32, 33, 35, 37, 41, 42, 44, 48, 49, 51, 61, 77, 80, 82, 83, 85, 107, 118, 126, 131, 134, 137, 154, 156, 158, 159, 172, 176, 179, 182, 184, 217, 236, 247, 266, 274, 276, 291, 292, 294, 295]
theorem tabOk : tyOk Tryz.prog Tryzty tab = true := by kernel_rfl
theorem tabIn : ∀ e c, Tryzty e = some c → e ∈ tab := lookN_in _

theorem pure_FnExactTargetOf (x1 : M.SModule) (hx1 : ∀ m, ValE m U.Module x1) (x2 : Int) (x3 : Int) (x4 : Int) : M.l_FnExactTargetOf x1 x2 x3 x4 = some true := M.law_TargetOf x1 x2 x3 x4 (M.SModule.ok_of x1 hx1)

theorem lifted (os : Os) (started : os.Started) (H : Type) (enc : TypeId × Value → H) :
    ReturnsInHanded {} Tryz.checked os 6 .any (Rows.fnExactTargetOfSpec.pre6 enc Tryz.prog Tryz.f6 Rows.fnExactTargetOfRow.domain false) (Rows.fnExactTargetOfSpec.post enc Tryz.prog Tryz.f6 false true false false) := by
  refine returnsInHanded_of_change (C := Tryz.checked) own started (by kernel_rfl) Tryz.func6
    (ChangeSpec.witness6 (enc := enc) (C := Tryz.checked) false ⟨#[], #[.agg #[.int .i64 0, .slice none 0 0, .slice none 0 0], .int .i64 0, .int .i64 0, .int .i64 0], []⟩ 8 (by kernel_rfl) (by kernel_rfl) (by kernel_rfl) (by kernel_rfl)) ?_
  intro W base args ds gs before hval hW _ _
  exact law_step (C := Tryz.checked) (c := con_l_FnExactTargetOf M.l_FnExactTargetOf) laid tabOk tabIn (by kernel_rfl) rfl (fun | [d1, d2, d3, d4], _ => rfl) rfl Tryz.underlying4 rfl ok_l_FnExactTargetOf rfl (by kernel_rfl)
    ⟨true, rfl, fun x y h => pure_FnExactTargetOf x.1 (fun m => (h m).1) x.2.1 x.2.2.1 x.2.2.2.1⟩ hval hW trivial

theorem over : Rows.fnExactTargetOfRow.holds Tryz.pinned (OpenSpec.ofChange Rows.fnExactTargetOfSpec) :=
  OpenClaim.holds_of_wide 6 Tryz.f6 rfl rfl rfl rfl rfl rfl rfl ⟨rfl, rfl, rfl, rfl, rfl⟩ rfl rfl rfl rfl rfl (by kernel_rfl) Tryz.func6 (by kernel_rfl)
    (of_decide_eq_true (by kernel_rfl)) (by unfold Func.isWrapper; first | (rw [if_pos (by decide +kernel)]; kernel_rfl) | (rw [if_neg (by decide +kernel)]; exact ⟨rfl, rfl⟩))
    (fun os started H enc _ => lifted os started H enc)
theorem fnExactTargetOf_holds : Rows.FnExactTargetOfSaid := over
end Go.Proofs.YtlnailoffdmkiaaGreat
