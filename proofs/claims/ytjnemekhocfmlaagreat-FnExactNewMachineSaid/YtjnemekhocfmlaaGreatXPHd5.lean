/-
  The contract of slices.Grow at the nil slice of int64.
-/
import Derived.Test.YtjnemekhocfmlaaGreatXPhand5
import Derived.Shelf.RegionOpenPlain
import Derived.WalkKit
import Derived.OwnWalk
import Derived.Lib.Walk
import Derived.Lib.SliceRun
import Derived.Lib.AppendZerosOnto
import Derived.Test.YtjnemekhocfmlaaGreatProg
set_option linter.unusedVariables false
noncomputable def con_slices_Grow_int64_int64 (m : Int → Option (List Int)) : Go.V.ConD Go.V.K := { f := 90, sh := ⟨[.nilsl, .int .i64], []⟩, R := List Int, run := fun x => m x.1.2.1, dflt := default, out := fun r => (Go.V.Sh.enc Go.V.D (.own 0) (), Go.V.OSh.encs Go.V.D [.arr Go.V.U.i64] (r, ())) }
namespace Go.Proofs
open Go.RowKit Go.Shelf Go.V
namespace Tryzh

set_option maxHeartbeats 4000000 in
set_option maxRecDepth 100000 in
theorem grow_some (n : Nat) (w : World) (h0 : 0 < n) (hn : n ≤ 1099511627776) :
    Calls Tryz.prog 90 #[.slice none 0 0, .int .i64 n] w fun e w' => ∃ cap, e = .returned (.slice (some ⟨w.heap.size, 0, none⟩) 0 cap) ∧ cap = grownCap w n 0 2 ∧
      w' = w.drew.alloc (.cells (#[] ++ Builtin.zeroCells #[.int .i64 0] n ++ Builtin.zeroCells #[.int .i64 0] (grownCap w n 0 2 - n)) 2) := by
  have h1 : ¬ ((n : Int) < 0) := by omega
  have h2 : wrap64 (((0 : Nat) : Int) - ((0 : Nat) : Int)) = 0 := by unfold wrap64; omega
  have h3 : wrap64 ((n : Int) - 0) = (n : Int) := by unfold wrap64; omega
  have h4 : (n : Int) > 0 := by omega
  have hrz : ∀ ty, (Builtin.append_ #[26, 3] ty #[.slice none 0 0, .int .i64 (n : Int)]).run Tryz.prog w =
      .ok (.slice (some ⟨w.heap.size, 0, none⟩) n (grownCap w n 0 2)) (w.drew.alloc (.cells (#[] ++ Builtin.zeroCells #[.int .i64 0] n ++ Builtin.zeroCells #[.int .i64 0] (grownCap w n 0 2 - n)) 2)) := fun ty => by
    have hfit : Builtin.nextslicecap n 0 * 8 ≤ 281474976710656 := growslice_fits h0 (by omega)
    have h := Lib.run_append_grow_zeros (P := Tryz.prog) w 26 3 ty 2 Tryz.t2 (.int .i64 0) .i64 .i64 Tryz.underlying26 Tryz.underlying3 (by kernel_rfl) (by kernel_rfl) none 0 0 [] (run_firstCells_none w.drew _ 0 0 0) n h0 (by decide) (by omega) (by omega)
      (show n * 8 ≤ _ by omega) (by rw [Nat.zero_add]; exact hfit)
    rw [Nat.zero_add] at h
    exact h
  have hGn : n ≤ grownCap w n 0 2 := grownCap_ge w _ _ _
  have hG63 : grownCap w n 0 2 ≤ 9223372036854775807 := by
    have := grownCap_le_maxLen w n 0 2 (by unfold maxLen; omega)
    unfold maxLen at this
    omega
  generalize hG : grownCap w n 0 2 = G at hrz hGn hG63 ⊢
  clear hG
  go_enter Tryz.func90, Tryz.ntmps90
  go_wp2_with (at_builtin; refine Lib.wpList_append_run _ rfl _ _ _ _ rfl _ _ rfl rfl _ _ (hrz _) ?_)
  all_goals (go_ret; exact ⟨_, rfl, rfl, rfl⟩)

set_option maxHeartbeats 1000000 in
set_option maxRecDepth 100000 in
theorem grow_none (w : World) : Calls Tryz.prog 90 #[.slice none 0 0, .int .i64 0] w fun e w' => e = .returned (.slice none 0 0) ∧ w' = w := by
  have h2 : wrap64 (((0 : Nat) : Int) - ((0 : Nat) : Int)) = 0 := by unfold wrap64; omega
  have h3 : wrap64 ((0 : Int) - 0) = 0 := by unfold wrap64; omega
  go_enter Tryz.func90, Tryz.ntmps90
  go_wp2
  go_ret
  exact ⟨rfl, rfl⟩

theorem grow_rc (n : Nat) (hn : n ≤ 1099511627776) : RC Go.V.D Tryz.prog 90 [.nilsl, .int .i64 n] [] (.sl 0) [.arr U.i64 []] := by
  refine rc_row (T := 2) (c := U.i64) (l := []) oneAt_i64 ⟨Tryz.f90, Tryz.func90, by kernel_rfl, by kernel_rfl⟩ (fun t h => by cases h) fun S w vals hS ha => ?_
  obtain ⟨X, r1, rfl, hX, hr1⟩ := Reps.uncons (v := .nilsl) (l := [.int .i64 n]) ha
  obtain ⟨Y, r2, rfl, hY, hr2⟩ := hr1.uncons
  cases hX
  rw [hr2.nil_iff, rep_int hY]
  rcases Nat.eq_zero_or_pos n with h0 | h0
  · subst h0
    refine (grow_none w).mono ?_
    rintro e w' ⟨rfl, rfl⟩
    exact ⟨_, rfl, World.ownsRow_nil _ _ _ _, Below.refl _ _⟩
  · refine (grow_some n w h0 hn).mono ?_
    rintro e w' ⟨cap, rfl, hc, rfl⟩
    have hGn : n ≤ grownCap w n 0 2 := grownCap_ge w _ _ _
    have hG63 := grownCap_le_maxLen w n 0 2 (by unfold maxLen; omega)
    subst hc
    refine ⟨_, rfl, ⟨by simp, .inr ⟨w.heap.size, _, (#[] ++ Builtin.zeroCells #[.int .i64 0] n ++ Builtin.zeroCells #[.int .i64 0] (grownCap w n 0 2 - n)), rfl, Nat.le_refl _, ?_, Nat.zero_le _, hG63, ?_, by simp⟩⟩, ?_⟩
    · exact Array.getElem?_push_size
    · rw [Array.size_append, Array.size_append, size_zeroCells, size_zeroCells]; simp; omega
    · exact ((Below.refl _ w).drew).alloc (Nat.le_refl _) _
theorem ok_grow : (con_slices_Grow_int64_int64 M.slices_Grow_int64_int64).Ok Go.V.D Tryz.prog := by
  intro x r hr
  have key : ∀ k : Int, M.slices_Grow_int64_int64 k = some r → RC Go.V.D Tryz.prog 90 [.nilsl, .int .i64 k] [] (.sl 0) [.arr U.i64 r] := fun k hk => by
    unfold M.slices_Grow_int64_int64 at hk
    by_cases h : 0 ≤ k ∧ k ≤ 1099511627776
    · rw [if_pos h] at hk
      obtain rfl := Option.some.inj hk
      obtain ⟨n, rfl⟩ := Int.eq_ofNat_of_zero_le h.1
      exact grow_rc n (by omega)
    · rw [if_neg h] at hk; cases hk
  exact key x.1.2.1 hr
end Tryzh
end Go.Proofs
theorem ok_slices_Grow_int64_int64 : (con_slices_Grow_int64_int64 M.slices_Grow_int64_int64).Ok Go.V.D Go.Proofs.Tryz.prog := Go.Proofs.Tryzh.ok_grow
