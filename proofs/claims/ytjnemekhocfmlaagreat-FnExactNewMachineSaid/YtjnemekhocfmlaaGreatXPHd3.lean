/-
  The contract of the program's function that asks whether names are distinct.
-/
import Derived.Test.YtjnemekhocfmlaaGreatXPHd2
set_option linter.unusedVariables false
noncomputable def con_i_distinct (m : (List (List UInt8)) → Option (Bool)) : Go.V.ConD Go.V.K := { f := 79, sh := ⟨[.dsl Go.V.U.str], []⟩, R := Bool, run := fun x => m x.1.1, dflt := default, out := fun r => (Go.V.Sh.enc Go.V.D (.bool) r, Go.V.OSh.encs Go.V.D [] ()) }
namespace Go.Proofs
open Go.V
theorem Tryzh.ok_distinct : (con_i_distinct M.i_distinct).Ok Go.V.D Tryz.prog := by
  intro x r hr
  obtain ⟨hl, hv⟩ : x.1.1.length ≤ 1099511627776 ∧ ((uq x.1.1).length == x.1.1.length) = r := by
    change M.i_distinct x.1.1 = some r at hr
    unfold M.i_distinct at hr
    by_cases h : x.1.1.length ≤ 1099511627776
    · simp only [h, decide_true, cond_true] at hr; exact ⟨h, Option.some.inj hr⟩
    · simp [h] at hr
  subst hv
  refine rc_below ⟨Tryz.f79, Tryz.func79, by kernel_rfl, by kernel_rfl⟩ fun S w vals hS ha => ?_
  obtain ⟨X, rfl, hX⟩ := reps_single (x := .dsl U.str x.1.1) ha
  have hI := rep_strs hS hX
  obtain ⟨a, cap, hsv⟩ := hI.len
  refine (callsIn_wide.1 (Tryzh.distinct_in X a cap x.1.1 (by have h : maxLen = 9223372036854775807 := (by decide); omega) (by omega) w hsv hI)).mono ?_
  rintro e w' ⟨rfl, hb⟩
  exact ⟨_, rfl, hb, S, fun _ h => h, fun _ h => .inl h, .bool _⟩
end Go.Proofs
theorem ok_i_distinct : (con_i_distinct M.i_distinct).Ok Go.V.D Go.Proofs.Tryz.prog := Go.Proofs.Tryzh.ok_distinct
