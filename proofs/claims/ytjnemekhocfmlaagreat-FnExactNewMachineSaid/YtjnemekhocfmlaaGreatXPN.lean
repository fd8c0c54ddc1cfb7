/-
  NewMachine: what both sides hand back.
-/
import Derived.Test.YtjnemekhocfmlaaGreatXPH
import Derived.Test.YtjnemekhocfmlaaGreatXPK
set_option linter.unusedVariables false
set_option linter.unusedSimpArgs false
namespace M
open Go.V (inB slB bigN bigN_le)

theorem szL_nil (l : List Int) : szL (fun _ => 0) l = l.length := by
  induction l with
  | nil => rfl
  | cons x r ih => simp only [szL, ih, List.length_cons]; omega
noncomputable def mach0 : SMachine := SMachine.mk 0 [] [] 0 [] 0 0
noncomputable def mach1 (k : Nat) (l : List Int) : SMachine := SMachine.mk 1 [SCoreFrame.mk (k : Int) 0 0 l] [] 0 [] 0 0
noncomputable def locR (c : SCore) (args : List Int) : List Int := args ++ List.replicate c.Locals.toNat 0
noncomputable def newM (m : SModule) (core : List UInt8) (args : List Int) : SMachine × Int :=
  match m.Cores.findIdx? (fun c => c.Name == core) with
  | none => (mach0, 3)
  | some k => if (args.length : Int) = (m.Cores.getD k SCore.zero).Params then (mach1 k (locR (m.Cores.getD k SCore.zero) args), 0) else (mach0, 2)
noncomputable def nmR (m : SModule) (core : List UInt8) (args : List Int) : SMachine × Int :=
  if (mOkB m && badAt m) = true then newM m core args else (mach0, 1)

theorem coreAt_s (l : List SCore) (name : List UInt8) (h : l.length ≤ 1048576) : M.s_l15CoreAt l name = some (match l.findIdx? (fun c => c.Name == name) with
    | some k => (k : Int)
    | none => -1) := by
  have e := find_list (p := fun x : SCore => x.Name == name) (F := M.s_l15CoreAt_l0 l name) (e := ()) (fun k => k) l (by omega) (fun f k hk => by
    rw [M.s_l15CoreAt_l0]
    simp only [getD_lt hk, Int.toNat_natCast, inB_nat, Int.ofNat_lt, hk, decide_true, cond_true, Bool.and_true, wrapk hk (by omega : l.length < 2 ^ 62)]) (fun f => by rw [M.s_l15CoreAt_l0]; simp)
  unfold M.s_l15CoreAt
  rw [e]
  cases l.findIdx? (fun c => c.Name == name) <;> rfl
theorem coreAt_i (l : List SCore) (name : List UInt8) (h : l.length ≤ 1048576) : M.slices_IndexFunc_Core_Core l name = some (match l.findIdx? (fun c => c.Name == name) with
    | some k => (k : Int)
    | none => -1) := by
  have e := find_list (p := fun x : SCore => x.Name == name) (F := M.slices_IndexFunc_Core_Core_l0 l name (l.length : Int)) (e := ()) (fun k => k) l (by omega) (fun f k hk => by
    rw [M.slices_IndexFunc_Core_Core_l0]
    simp only [getD_lt hk, Int.toNat_natCast, inB_nat, Int.ofNat_lt, hk, decide_true, cond_true, Bool.and_true, wrapk hk (by omega : l.length < 2 ^ 62)]) (fun f => by rw [M.slices_IndexFunc_Core_Core_l0]; simp)
  unfold M.slices_IndexFunc_Core_Core
  rw [e]
  cases l.findIdx? (fun c => c.Name == name) <;> rfl

theorem locals_loop {m : SModule} {k : Nat} (hk : k < m.Cores.length) {L : Nat} (hL : (m.Cores.getD k SCore.zero).Locals = (L : Int)) (hL8 : L ≤ 8) : ∀ (n i f : Nat) (out : List Int), i + n = L → n < f → out.length + n ≤ 100 →
    M.s_l18Locals_l0 (k : Int) m f (i : Int) out = some (out ++ List.replicate n 0)
  | n, i, 0, out, _, h, _ => by omega
  | 0, i, f + 1, out, h1, h2, h3 => by
    rw [M.s_l18Locals_l0]
    have e : i = L := by omega
    have hin : inB (k : Int) m.Cores.length = true := by rw [inB_nat, decide_eq_true_eq]; exact hk
    simp only [Int.toNat_natCast, hL, e, hin, Int.lt_irrefl, decide_false, cond_false, cond_true, Bool.and_self, List.replicate_zero, List.append_nil]
  | n + 1, i, f + 1, out, h1, h2, h3 => by
    rw [M.s_l18Locals_l0]
    have e : (i : Int) < (L : Int) := by omega
    have hin : inB (k : Int) m.Cores.length = true := by rw [inB_nat, decide_eq_true_eq]; exact hk
    have hw : Go.IntKind.wrap .i64 ((i : Int) + 1) = ((i + 1 : Nat) : Int) := by rw [wrap_i64 (by omega) (by omega)]; rfl
    have hd : decide (out.length + ([(0 : Int)]).length ≤ 1073741824) = true := by rw [decide_eq_true_eq]; simp only [List.length_cons, List.length_nil]; omega
    have ih := locals_loop hk hL hL8 n (i + 1) f (out ++ [0]) (by omega) (by omega) (by rw [List.length_append]; simp only [List.length_cons, List.length_nil]; omega)
    simp only [Int.toNat_natCast, hL, e, hin, hd, hw, decide_true, cond_true, Bool.and_self, ih]
    rw [List.append_assoc, List.replicate_succ]; rfl
theorem new_s {m : SModule} (hm : MOk m) {k : Nat} (hk : k < m.Cores.length) (args : List Int) (ha : args.length ≤ 8) : M.s_l18New m (k : Int) args = some (mach1 k (locR (m.Cores.getD k SCore.zero) args)) := by
  obtain ⟨hp, hl, -⟩ := hm.core _ (List.getElem_mem hk)
  rw [← getD_lt (z := SCore.zero) hk] at hp hl
  obtain ⟨L, hL⟩ := Int.eq_ofNat_of_zero_le hl.1
  have hd : decide (0 + args.length ≤ 1073741824) = true := by rw [decide_eq_true_eq]; omega
  have e1 : M.s_l00Own args = some args := by unfold M.s_l00Own; rw [hd]; rfl
  have e2 := locals_loop hk hL (by omega) L 0 bigN args (by omega) (by have := bigN_le; omega) (by omega)
  unfold M.s_l18New M.s_l18Locals
  rw [e1]
  simp only [Option.getD_some]
  rw [show ((0 : Int)) = ((0 : Nat) : Int) from rfl, e2]
  simp only [Option.isSome_some, Bool.and_self, cond_true, Option.getD_some]
  unfold mach1 locR
  rw [hL]; rfl

theorem concat_two (a b : List Int) (ha : a.length ≤ 100) (hb : b.length ≤ 100) : M.slices_Concat_int64_int64 [a, b] = some (a ++ b) := by
  obtain ⟨f, hf⟩ : ∃ f, bigN = f + 3 := ⟨bigN - 3, by have := bigN_le; omega⟩
  have w1 : Go.IntKind.wrap .i64 ((0 : Int) + (a.length : Int)) = ((a.length : Nat) : Int) := by rw [wrap_i64 (by omega) (by omega)]; omega
  have w2 : Go.IntKind.wrap .i64 ((a.length : Int) + (b.length : Int)) = ((a.length + b.length : Nat) : Int) := by rw [wrap_i64 (by omega) (by omega)]; omega
  have w3 : Go.IntKind.wrap .i64 ((0 : Int) + 1) = 1 := by rw [wrap_i64 (by omega) (by omega)]; rfl
  have w4 : Go.IntKind.wrap .i64 ((1 : Int) + 1) = 2 := by rw [wrap_i64 (by omega) (by omega)]; rfl
  have n1 : ¬ (((a.length : Nat) : Int) < 0) := by omega
  have n2 : ¬ (((a.length + b.length : Nat) : Int) < 0) := by omega
  have i0 : inB 0 2 = true := rfl
  have i1 : inB 1 2 = true := rfl
  have t1 : (1 : Int).toNat = 1 := rfl
  have t0 : (0 : Int).toNat = 0 := rfl
  have l0 : M.slices_Concat_int64_int64_l0 [a, b] [a, b] 2 bigN 0 0 = some ([a, b], ((a.length + b.length : Nat) : Int)) := by
    rw [hf, M.slices_Concat_int64_int64_l0]
    simp only [show decide ((0 : Int) < 2) = true from rfl, cond_true, t0, List.getD_cons_zero, w1, n1, decide_false, cond_false, List.length_cons, List.length_nil, i0, Bool.and_self, w3]
    rw [M.slices_Concat_int64_int64_l0]
    simp only [show decide ((1 : Int) < 2) = true from rfl, cond_true, t1, List.getD_cons_succ, List.getD_cons_zero, w2, n2, decide_false, cond_false, List.length_cons, List.length_nil, i1, Bool.and_self, w4]
    rw [M.slices_Concat_int64_int64_l0]
    rfl
  have g : M.slices_Grow_int64_int64 ((a.length + b.length : Nat) : Int) = some [] := by unfold M.slices_Grow_int64_int64; rw [if_pos ⟨by omega, by omega⟩]
  have d1 : decide (0 + a.length ≤ 1073741824) = true := by rw [decide_eq_true_eq]; omega
  have d2 : decide (a.length + b.length ≤ 1073741824) = true := by rw [decide_eq_true_eq]; omega
  have l1 : M.slices_Concat_int64_int64_l1 [a, b] 2 bigN 0 [] = some (a ++ b) := by
    rw [hf, M.slices_Concat_int64_int64_l1]
    simp only [show decide ((0 : Int) < 2) = true from rfl, cond_true, t0, List.getD_cons_zero, List.length_cons, List.length_nil, d1, i0, Bool.and_self, w3, List.nil_append]
    rw [M.slices_Concat_int64_int64_l1]
    simp only [show decide ((1 : Int) < 2) = true from rfl, cond_true, t1, List.getD_cons_succ, List.getD_cons_zero, List.length_cons, List.length_nil, d2, i1, Bool.and_self, w4]
    rw [M.slices_Concat_int64_int64_l1]
    rfl
  unfold M.slices_Concat_int64_int64
  rw [show (([a, b].length : Nat) : Int) = 2 from rfl, l0]
  simp only
  rw [g, show (([a, b].length : Nat) : Int) = 2 from rfl]
  simp only [Option.getD_some, l1, Option.isSome_some, Bool.and_self, cond_true]

theorem locals_i {m : SModule} (hm : MOk m) (p : List (List SCodePlace)) (bl : List (List SCodeBlock)) {k : Nat} (hk : k < m.Cores.length) (args : List Int) (ha : args.length ≤ 8) : M.i_code_locals (Scode.mk m p bl) (k : Int) args = some (locR (m.Cores.getD k SCore.zero) args) := by
  obtain ⟨hp, hl, -⟩ := hm.core _ (List.getElem_mem hk)
  rw [← getD_lt (z := SCore.zero) hk] at hp hl
  have hin : inB (k : Int) m.Cores.length = true := by rw [inB_nat, decide_eq_true_eq]; exact hk
  have c := concat_two args (List.replicate (m.Cores.getD k SCore.zero).Locals.toNat 0) (by omega) (by rw [List.length_replicate]; omega)
  have d1 : decide (0 ≤ (m.Cores.getD k SCore.zero).Locals) = true := decide_eq_true hl.1
  have d2 : decide ((m.Cores.getD k SCore.zero).Locals ≤ (m.Cores.getD k SCore.zero).Locals) = true := decide_eq_true (Int.le_refl _)
  have d3 : decide ((m.Cores.getD k SCore.zero).Locals ≤ 1073741824) = true := by rw [decide_eq_true_eq]; omega
  unfold M.i_code_locals
  simp only [Int.toNat_natCast, c, d1, d2, d3, hin, Option.isSome_some, Option.getD_some, Bool.and_self, cond_true]
  rfl
noncomputable def outM (r : SMachine × Int) : Int × Int × Int × Int × Int × List SCoreFrame × List Int × List Int := (r.1.Status, r.1.Import, r.1.Result, r.1.Trap, r.2, r.1.Frames, r.1.Stack, r.1.Args)
theorem newM_i {m : SModule} (h : m.sz ≤ 1048576) (hb : mOkB m = true) (p : List (List SCodePlace)) (bl : List (List SCodeBlock)) (core : List UInt8) (args : List Int) : M.i_newMachine_2 (Scode.mk m p bl) core args = some (outM (newM m core args)) := by
  have hm := mOk_of hb
  have e : M.i_CoreOf m core = some (match m.Cores.findIdx? (fun c => c.Name == core) with
      | some k => ((k : Int), true)
      | none => (0, false)) := by
    unfold M.i_CoreOf
    rw [coreAt_i m.Cores core (by have := hm.cores; omega), shape_m_i m h, hb]
    cases m.Cores.findIdx? (fun c => c.Name == core) with
    | none => rfl
    | some k =>
      have n : ¬ ((k : Int) < 0) := by omega
      simp only [Option.getD_some, Option.isSome_some, n, decide_false, Bool.not_true, Bool.or_self, cond_false, Bool.true_or, Bool.and_self, cond_true]
  unfold M.i_newMachine_2 newM
  rw [e]
  cases hf : m.Cores.findIdx? (fun c => c.Name == core) with
  | none => rfl
  | some k =>
    rw [List.findIdx?_eq_some_iff_getElem] at hf
    obtain ⟨hk, -, -⟩ := hf
    have hin : inB (k : Int) m.Cores.length = true := by rw [inB_nat, decide_eq_true_eq]; exact hk
    obtain ⟨hp, hl, -⟩ := hm.core _ (List.getElem_mem hk)
    rw [← getD_lt (z := SCore.zero) hk] at hp hl
    by_cases hq : (args.length : Int) = (m.Cores.getD k SCore.zero).Params
    · have hl := locals_i hm p bl hk args (by omega)
      simp only [Option.getD_some, Bool.not_true, cond_false, Int.toNat_natCast, hq, bne_self_eq_false, hl, hin, Option.isSome_some, Bool.and_self, cond_true, if_true]
      rfl
    · have hq' : ((args.length : Int) != (m.Cores.getD k SCore.zero).Params) = true := bne_iff_ne.2 hq
      simp only [Option.getD_some, Bool.not_true, cond_false, Int.toNat_natCast, hq', hin, Option.isSome_some, Bool.and_self, cond_true, if_neg hq]
      rfl
theorem new_i (m : SModule) (h : m.sz ≤ 1048576) (core : List UInt8) (args : List Int) : M.i_NewMachine m core args = some (outM (nmR m core args)) := by
  unfold M.i_NewMachine M.i_NewMachine_a nmR
  rw [codeOf_a m h]
  cases hq : mOkB m && badAt m
  · rfl
  · rw [Bool.and_eq_true] at hq
    obtain ⟨bl, hw⟩ := codeOf_w h hq.1 hq.2
    have hw' : M.i_NewMachine_w m core args = some (outM (newM m core args)) := by
      unfold M.i_NewMachine_w
      rw [hw]
      simp only [Option.getD_some, Bool.not_true, cond_false]
      have e : SModule.mk m.Pages m.Imports m.Cores = m := rfl
      rw [e, newM_i h hq.1]
      simp only [Option.getD_some, Option.isSome_some, Bool.and_self, cond_true]
    rw [hw', if_pos rfl]
    rfl
theorem new_s_eq (m : SModule) (h : m.sz ≤ 1048576) (core : List UInt8) (args : List Int) : M.s_NewMachine m core args = some (nmR m core args) := by
  unfold M.s_NewMachine nmR newM
  rw [right_s m h]
  cases hq : mOkB m && badAt m
  · rfl
  · rw [Bool.and_eq_true] at hq
    have hm := mOk_of hq.1
    rw [coreAt_s m.Cores core (by have := hm.cores; omega), if_pos rfl]
    cases hf : m.Cores.findIdx? (fun c => c.Name == core) with
    | none => rfl
    | some k =>
      rw [List.findIdx?_eq_some_iff_getElem] at hf
      obtain ⟨hk, -, -⟩ := hf
      have hin : inB (k : Int) m.Cores.length = true := by rw [inB_nat, decide_eq_true_eq]; exact hk
      obtain ⟨hp, hl, -⟩ := hm.core _ (List.getElem_mem hk)
      rw [← getD_lt (z := SCore.zero) hk] at hp hl
      have n : ¬ ((k : Int) < 0) := by omega
      by_cases hq : (args.length : Int) = (m.Cores.getD k SCore.zero).Params
      · have hl := new_s hm hk args (by omega)
        simp only [Option.getD_some, Bool.not_true, cond_false, Int.toNat_natCast, n, decide_false, hq, bne_self_eq_false, hl, hin, Option.isSome_some, Bool.and_self, cond_true, if_true]
      · have hq' : ((args.length : Int) != (m.Cores.getD k SCore.zero).Params) = true := bne_iff_ne.2 hq
        simp only [Option.getD_some, Bool.not_true, cond_false, Int.toNat_natCast, n, decide_false, hq', hin, Option.isSome_some, Bool.and_self, cond_true, if_neg hq]
        rfl
theorem nmR_small (m : SModule) (core : List UInt8) (args : List Int) : (nmR m core args).1 = mach0 ∨ ∃ k l, (nmR m core args).1 = mach1 k l ∧ l.length ≤ 16 := by
  unfold nmR newM
  cases hq : mOkB m && badAt m
  · exact .inl rfl
  · rw [Bool.and_eq_true] at hq
    have hm := mOk_of hq.1
    rw [if_pos rfl]
    cases hf : m.Cores.findIdx? (fun c => c.Name == core) with
    | none => exact .inl rfl
    | some k =>
      rw [List.findIdx?_eq_some_iff_getElem] at hf
      obtain ⟨hk, -, -⟩ := hf
      obtain ⟨hp, hl, -⟩ := hm.core _ (List.getElem_mem hk)
      rw [← getD_lt (z := SCore.zero) hk] at hp hl
      by_cases hq : (args.length : Int) = (m.Cores.getD k SCore.zero).Params
      · refine .inr ⟨k, locR (m.Cores.getD k SCore.zero) args, by simp only [if_pos hq], by unfold locR; rw [List.length_append, List.length_replicate]; omega⟩
      · exact .inl (by simp only [if_neg hq])
end M
/-
  NewMachine: running numbers on what is handed back.
-/
set_option linter.unusedVariables false
set_option linter.unusedSimpArgs false
namespace M
open Go.V (inB slB bigN bigN_le)

theorem mark_nil (k : Int) (h0 : 0 ≤ k) (h1 : k ≤ 100000000000) : M.l_markInt64S k [] = some (k, []) := by
  rw [markNu_ok [] (by simp) k h0 h1]; rfl
theorem held_nil (k : Int) (h0 : 0 ≤ k) (h1 : k ≤ 100000000000) : M.l_heldInt64S [] k = some k := by
  have := heldNu_ok [] (by simp) k h0 h1
  simpa [markL] using this
theorem bigN_two : ∃ f, bigN = f + 2 := ⟨bigN - 2, by have := bigN_le; omega⟩
theorem markF_one (k : Nat) (l : List Int) (hl : l.length ≤ 16) : M.l_markCoreFrameS 1 [SCoreFrame.mk (k : Int) 0 0 l] = some (4 + (l.length : Int), [SCoreFrame.mk 1 2 3 (markL mNu 4 l).2]) := by
  obtain ⟨f, hf⟩ := bigN_two
  have e := markNu_ok l (by omega) 4 (by omega) (by omega)
  have e2 := (mNu_le l 4).2
  unfold M.l_markCoreFrameS
  rw [hf, M.l_markCoreFrameS_l0]
  have w2 : Go.IntKind.wrap .i64 ((1 : Int) + 1) = 2 := by rw [wrap_i64 (by omega) (by omega)]; rfl
  have w3 : Go.IntKind.wrap .i64 ((2 : Int) + 1) = 3 := by rw [wrap_i64 (by omega) (by omega)]; rfl
  have w4 : Go.IntKind.wrap .i64 ((3 : Int) + 1) = 4 := by rw [wrap_i64 (by omega) (by omega)]; rfl
  have w0 : Go.IntKind.wrap .i64 ((0 : Int) + 1) = 1 := by rw [wrap_i64 (by omega) (by omega)]; rfl
  have hm : markL mNu 4 l = (4 + (l.length : Int), (markL mNu 4 l).2) := by rw [← e2]
  have t0 : (0 : Int).toNat = 0 := rfl
  have c1 : decide ((0 : Int) < (([SCoreFrame.mk (k : Int) 0 0 l].length : Nat) : Int)) = true := rfl
  have i0 : inB 0 1 = true := rfl
  simp only [c1, t0, List.set_cons_zero, List.getD_cons_zero, w2, w3, w4, w0, e, Option.getD_some, Option.isSome_some, List.length_cons, List.length_nil, Nat.zero_add, i0, Bool.and_self, cond_true]
  rw [M.l_markCoreFrameS_l0]
  have c2 : decide ((1 : Int) < (([SCoreFrame.mk 1 2 3 (markL mNu 4 l).2].length : Nat) : Int)) = false := rfl
  simp only [c2, cond_false, e2, show decide ((0 : Int) < ((1 : Nat) : Int)) = true from rfl, cond_true]
theorem heldF_one (l : List Int) (hl : l.length ≤ 16) : M.l_heldCoreFrameS [SCoreFrame.mk 1 2 3 (markL mNu 4 l).2] 1 = some (4 + (l.length : Int)) := by
  obtain ⟨f, hf⟩ := bigN_two
  have e := heldNu_ok l (by omega) 4 (by omega) (by omega)
  rw [(mNu_le l 4).2] at e
  unfold M.l_heldCoreFrameS
  rw [hf, M.l_heldCoreFrameS_l0]
  have w2 : Go.IntKind.wrap .i64 ((1 : Int) + 1) = 2 := by rw [wrap_i64 (by omega) (by omega)]; rfl
  have w3 : Go.IntKind.wrap .i64 ((2 : Int) + 1) = 3 := by rw [wrap_i64 (by omega) (by omega)]; rfl
  have w4 : Go.IntKind.wrap .i64 ((3 : Int) + 1) = 4 := by rw [wrap_i64 (by omega) (by omega)]; rfl
  have w0 : Go.IntKind.wrap .i64 ((0 : Int) + 1) = 1 := by rw [wrap_i64 (by omega) (by omega)]; rfl
  have t0 : (0 : Int).toNat = 0 := rfl
  have c1 : decide ((0 : Int) < (([SCoreFrame.mk 1 2 3 (markL mNu 4 l).2].length : Nat) : Int)) = true := rfl
  have i0 : inB 0 1 = true := rfl
  have n : ¬ (4 + (l.length : Int) < 0) := by omega
  simp only [c1, t0, List.getD_cons_zero, w2, w3, w4, w0, e, bne_self_eq_false, n, decide_false, cond_false, Option.getD_some, Option.isSome_some, List.length_cons, List.length_nil, Nat.zero_add, i0, Bool.and_self, cond_true]
  rw [M.l_heldCoreFrameS_l0]
  have c2 : decide ((1 : Int) < ((1 : Nat) : Int)) = false := rfl
  simp only [List.length_cons, List.length_nil, Nat.zero_add, c2, cond_false, show decide ((0 : Int) < ((1 : Nat) : Int)) = true from rfl, cond_true]
theorem markF_nil : M.l_markCoreFrameS 1 [] = some (1, []) := by
  obtain ⟨f, hf⟩ := bigN_two
  unfold M.l_markCoreFrameS
  rw [hf, M.l_markCoreFrameS_l0]; rfl
theorem heldF_nil : M.l_heldCoreFrameS [] 1 = some 1 := by
  obtain ⟨f, hf⟩ := bigN_two
  unfold M.l_heldCoreFrameS
  rw [hf, M.l_heldCoreFrameS_l0]; rfl
theorem held_ok (x : SMachine) (h : x = mach0 ∨ ∃ k l, x = mach1 k l ∧ l.length ≤ 16) : ∃ q a b c, M.l_markMachine x.Status x.Import x.Result x.Trap 1 x.Frames x.Stack x.Args = some (q, a, b, c) ∧ 0 ≤ q ∧ M.l_heldMachine (SMachine.mk x.Status a b x.Import c x.Result x.Trap) 1 = some q := by
  rcases h with rfl | ⟨k, l, rfl, hl⟩
  · refine ⟨1, [], [], [], ?_, by omega, ?_⟩
    · unfold M.l_markMachine mach0
      simp only [markF_nil, Option.getD_some, mark_nil 1 (by omega) (by omega), Option.isSome_some, Bool.and_self, cond_true]
    · unfold M.l_heldMachine
      simp only [heldF_nil, Option.getD_some, held_nil 1 (by omega) (by omega), Option.isSome_some, Bool.and_self, cond_true]
      rfl
  · refine ⟨4 + (l.length : Int), [SCoreFrame.mk 1 2 3 (markL mNu 4 l).2], [], [], ?_, by omega, ?_⟩
    · unfold M.l_markMachine mach1
      simp only [markF_one k l hl, Option.getD_some, mark_nil (4 + (l.length : Int)) (by omega) (by omega), Option.isSome_some, Bool.and_self, cond_true]
    · have n : ¬ (4 + (l.length : Int) < 0) := by omega
      unfold M.l_heldMachine
      simp only [heldF_one l hl, Option.getD_some, held_nil (4 + (l.length : Int)) (by omega) (by omega), Option.isSome_some, Bool.and_self, cond_true, n, decide_false, cond_false]
end M
/-
  NewMachine: the law.
-/
set_option linter.unusedVariables false
set_option linter.unusedSimpArgs false
namespace M
open Go.V (inB slB bigN bigN_le)

theorem law_NewMachine (m : SModule) (core : List UInt8) (args : List Int) (hm : m.Ok) : M.l_FnExactNewMachine m core args = some true := by
  unfold M.l_FnExactNewMachine
  by_cases hc : (1048576 : Int) < (core.length : Int)
  · rw [decide_eq_true hc]; rfl
  rw [decide_eq_false hc, cond_false]
  by_cases ha : (1048576 : Int) < (args.length : Int)
  · rw [decide_eq_true ha]; rfl
  rw [decide_eq_false ha, cond_false, sz_Module m 1048576 hm (by omega) (by omega)]
  by_cases h1 : (m.sz : Int) ≤ 1048576
  · have h : m.sz ≤ 1048576 := by omega
    have n1 : ¬ (1048576 - (m.sz : Int) < 0) := by omega
    have hal : args.length ≤ 1048576 := by omega
    rw [if_pos h1]
    have q0 := to_Module m h
    have q1 := toS_Int64 args (by rw [szL_nil]; exact hal)
    have q2 := new_i m h core args
    have q3 := new_s_eq m h core args
    have hs := nmR_small m core args
    obtain ⟨q, fa, sa, aa, q4, hq, q5⟩ := held_ok _ hs
    obtain ⟨k, a, b, q6, hk, hk2⟩ := markMo_ok m.Pages m h
    have q8 : SModule.mk m.Pages m.Imports m.Cores = m := rfl
    have q9 := eq_Module m h
    have q10 := eqS_Int64 args (by rw [szL_nil]; exact hal)
    have hsz : (nmR m core args).1.sz ≤ 1048576 := by
      rcases hs with e | ⟨k, l, e, hl⟩
      · rw [e]; decide
      · rw [e, SMachine.sz_eq]
        have := szL_nil l
        simp only [mach1, szL, SCoreFrame.sz_eq]
        omega
    have q11 := eq_Machine (nmR m core args).1 hsz
    generalize nmR m core args = r at *
    obtain ⟨x, c⟩ := r
    simp only at q4 q5 q11
    have q12 : SMachine.mk x.Status x.Frames x.Stack x.Import x.Args x.Result x.Trap = x := rfl
    have n2 : ¬ (q < 0) := by omega
    obtain ⟨q7, n3⟩ : M.l_markInt64S k args = some (markL mNu k args) ∧ ¬ ((markL mNu k args).1 < 0) := by
      exact ⟨markNu_ok args hal k hk hk2, by have := mNu_le args k; omega⟩
    simp only [q0, q1, q8, q2, q3, outM, Option.getD_some, Option.isSome_some, n1, decide_false, cond_false, q12, q11, q9, q10, q6, q7, n3, q4, q5, n2, Bool.and_self, Bool.and_true, Bool.true_and, bne_self_eq_false, Bool.not_true, Bool.or_self, Bool.or_false, cond_true, Bool.true_or, beq_self_eq_true]
  · rw [if_neg h1]; simp
end M
