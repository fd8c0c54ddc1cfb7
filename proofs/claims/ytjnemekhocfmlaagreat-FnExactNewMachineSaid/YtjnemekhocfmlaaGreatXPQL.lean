/-
  For every argument the law FnExactNewMachine returns true, and its arguments read behind the call as they read before. Conditions: none beside those of the given row.
-/
import Derived.Test.YtjnemekhocfmlaaGreatXPQC
import Derived.Test.YtjnemekhocfmlaaGreatXPlaw2
import Derived.Test.YtjnemekhocfmlaaGreatXPN
import Derived.Test.YtjnemekhocfmlaaGreatRows
set_option linter.unusedVariables false
set_option maxRecDepth 100000
namespace Go.Proofs.YtjnemekhocfmlaaGreat
open Go Go.V
theorem own : ownKnob Tryz.prog.godebug = none := by kernel_rfl
theorem laid : laidOutB Tryz.prog = true := by kernel_rfl
def tab : List Nat := [2, 3, 4, 5, 6, 9, 10, 11, 12, 21, 22, 23, 25, 26, 28, 30, 33, 34, 36, 50, 52, 68, 70, 72, 77, 78, 81, 82, 84, 86, 87, 105, 112, 114, 116, 124, 128, 131, 135, 138, 143, 166, 168, 177, 179, 180, 196, 197, 200, 201]
theorem tabOk : tyOk Tryz.prog Tryzty tab = true := by kernel_rfl
theorem tabIn : ∀ e c, Tryzty e = some c → e ∈ tab := lookN_in _

theorem pure_FnExactNewMachine (x1 : M.SModule) (hx1 : ∀ m, ValE m U.Module x1) (x2 : List UInt8) (x3 : List Int) (hx3 : ∀ m, Val m [.dsl U.i64] (x3, ())) : M.l_FnExactNewMachine x1 x2 x3 = some true := M.law_NewMachine x1 x2 x3 (M.SModule.ok_of x1 hx1)

theorem lifted (os : Os) (started : os.Started) (H : Type) (enc : TypeId × Value → H) :
    ReturnsInHanded {} Tryz.checked os 3 .any (Rows.fnExactNewMachineSpec.pre6 enc Tryz.prog Tryz.f3 Rows.fnExactNewMachineRow.domain false) (Rows.fnExactNewMachineSpec.post enc Tryz.prog Tryz.f3 false true false false) := by
  refine returnsInHanded_of_change (C := Tryz.checked) own started (by kernel_rfl) Tryz.func3
    (ChangeSpec.witness6 (enc := enc) (C := Tryz.checked) false ⟨#[], #[.agg #[.int .i64 0, .slice none 0 0, .slice none 0 0], .string ⟨#[]⟩, .slice none 0 0], []⟩ 8 (by kernel_rfl) (by kernel_rfl) (by kernel_rfl) (by kernel_rfl)) ?_
  intro W base args ds gs before hval hW _ _
  exact law_step (C := Tryz.checked) (c := con_l_FnExactNewMachine M.l_FnExactNewMachine) laid tabOk tabIn (by kernel_rfl) rfl (fun | [d1, d2, d3], _ => rfl) rfl Tryz.underlying4 rfl ok_l_FnExactNewMachine rfl (by kernel_rfl)
    ⟨true, rfl, fun x y h => pure_FnExactNewMachine x.1 (fun m => (h m).1) x.2.1 x.2.2.1 (fun m => (h m).2.2.1)⟩ hval hW trivial

theorem over : Rows.fnExactNewMachineRow.holds Tryz.pinned (OpenSpec.ofChange Rows.fnExactNewMachineSpec) :=
  OpenClaim.holds_of_wide 3 Tryz.f3 rfl rfl rfl rfl rfl rfl rfl ⟨rfl, rfl, rfl, rfl, rfl⟩ rfl rfl rfl rfl rfl (by kernel_rfl) Tryz.func3 (by kernel_rfl)
    (of_decide_eq_true (by kernel_rfl)) (by unfold Func.isWrapper; first | (rw [if_pos (by decide +kernel)]; kernel_rfl) | (rw [if_neg (by decide +kernel)]; exact ⟨rfl, rfl⟩))
    (fun os started H enc _ => lifted os started H enc)
theorem fnExactNewMachine_holds : Rows.FnExactNewMachineSaid := over
end Go.Proofs.YtjnemekhocfmlaaGreat
