/-
  A CORE THAT STANDS: its blocks, its places, step by step.
-/
import Derived.Test.YtlnailoffdmkiaaGreatXYT
import Derived.Test.YtlnailoffdmkiaaGreatXYU
set_option linter.unusedVariables false
set_option linter.unusedSimpArgs false
namespace M
open Go.V (inB slB bigN bigN_le)

/-! ### when all are closed, what End was at first plays no part -/

structure ERel (s t : BS) : Prop where
  op : s.2 = t.2
  len : s.1.length = t.1.length
  st : s.1.map strip = t.1.map strip
  cl : ∀ j : Nat, (j : Int) ∉ s.2 → s.1[j]? = t.1[j]?
theorem strip_getD (l : List SCodeBlock) (j : Nat) : (l.map strip).getD j (strip SCodeBlock.zero) = strip (l.getD j SCodeBlock.zero) := by
  rw [List.getD_eq_getElem?_getD, List.getD_eq_getElem?_getD, List.getElem?_map]
  cases l[j]? <;> rfl
theorem ERel.top {s t : BS} (h : ERel s t) : topI s = topI t ∧ (topB s).At = (topB t).At ∧ (topB s).Else = (topB t).Else ∧ (topB s).Height = (topB t).Height ∧ (topB s).Result = (topB t).Result := by
  have h1 : topI s = topI t := by unfold topI; rw [h.op]
  have h2 : strip (topB s) = strip (topB t) := by
    unfold topB
    rw [← strip_getD, ← strip_getD, h.st, h1]
  refine ⟨h1, ?_, ?_, ?_, ?_⟩
  · have h3 := congrArg SCodeBlock.At h2; exact h3
  · have h3 := congrArg SCodeBlock.Else h2; exact h3
  · have h3 := congrArg SCodeBlock.Height h2; exact h3
  · have h3 := congrArg SCodeBlock.Result h2; exact h3
theorem bStep_erel {e e' : Int} {c : List SIns} {k : Nat} {i : SIns} {s t s' : BS} (hI : BInv k s) (h : ERel s t) (hs : bStep e c k i s = .inr s') : ∃ t', bStep e' c k i t = .inr t' ∧ ERel s' t' := by
  obtain ⟨t1, t2, t3, t4, t5⟩ := h.top
  unfold bStep at hs ⊢
  rw [← h.op, ← t1, ← t2, ← t3, ← t5, ← h.len]
  by_cases ho : opnB i.Op = true
  · rw [if_pos ho] at hs ⊢
    by_cases h6 : s.2.length = 6
    · rw [if_pos h6] at hs; cases hs
    · rw [if_neg h6] at hs ⊢
      injection hs with hs; subst hs
      refine ⟨_, rfl, ⟨rfl, ?_, ?_, ?_⟩⟩
      · simp only [List.length_append, h.len, List.length_cons, List.length_nil]
      · simp only [List.map_append, h.st, List.map_cons, List.map_nil]; rfl
      · intro j hj
        simp only [List.mem_append, List.mem_cons, List.not_mem_nil, or_false, not_or] at hj
        have hjl : j ≠ s.1.length := fun q => hj.2 (by rw [q])
        rcases Nat.lt_or_ge j s.1.length with h1 | h1
        · rw [List.getElem?_append_left h1, List.getElem?_append_left (by rw [← h.len]; exact h1)]
          exact h.cl j hj.1
        · rw [List.getElem?_eq_none (by rw [List.length_append, List.length_cons, List.length_nil]; omega), List.getElem?_eq_none (by rw [List.length_append, ← h.len, List.length_cons, List.length_nil]; omega)]
  · rw [if_neg ho] at hs ⊢
    by_cases h27 : i.Op = 27
    · rw [if_pos h27] at hs ⊢
      by_cases h0 : s.2.length = 0
      · rw [if_pos h0] at hs; cases hs
      · rw [if_neg h0] at hs ⊢
        by_cases hc : opAt c (topB s).At ≠ 26 ∨ 0 ≤ (topB s).Else
        · rw [if_pos hc] at hs; cases hs
        · rw [if_neg hc] at hs ⊢
          injection hs with hs; subst hs
          have ht := topI_lt hI h0
          refine ⟨_, rfl, ⟨rfl, ?_, ?_, ?_⟩⟩
          · simp only [List.length_set, h.len]
          · simp only [List.map_set, h.st]
            rw [← t4]; rfl
          · intro j hj
            have hne : topI s ≠ j := fun q => hj (by
              rw [← q, ht.2, getD_lt (by omega)]; exact List.getElem_mem _)
            rw [List.getElem?_set, List.getElem?_set, if_neg hne, if_neg hne]
            exact h.cl j hj
    · rw [if_neg h27] at hs ⊢
      by_cases h28 : i.Op = 28
      · rw [if_pos h28] at hs ⊢
        by_cases h0 : s.2.length = 0
        · rw [if_pos h0] at hs; cases hs
        · rw [if_neg h0] at hs ⊢
          by_cases hc : (opAt c (topB s).At = 26 ∧ (topB s).Result = true) ∧ (topB s).Else < 0
          · rw [if_pos hc] at hs; cases hs
          · rw [if_neg hc] at hs ⊢
            injection hs with hs; subst hs
            have ht := topI_lt hI h0
            refine ⟨_, rfl, ⟨rfl, ?_, ?_, ?_⟩⟩
            · simp only [List.length_set, h.len]
            · simp only [List.map_set, h.st]
              rw [← t4]
            · intro j hj
              rw [← t4, List.getElem?_set, List.getElem?_set, h.len]
              by_cases hne : topI s = j
              · rw [if_pos hne, if_pos hne]
              · rw [if_neg hne, if_neg hne]
                refine h.cl j fun hm => hj ?_
                simp only at hj ⊢
                rw [List.mem_iff_getElem] at hm ⊢
                obtain ⟨q, hq, hq2⟩ := hm
                have hql : q ≠ s.2.length - 1 := fun w => hne (by
                  unfold topI; rw [← w, getD_lt hq, hq2, Int.toNat_natCast])
                refine ⟨q, by rw [List.length_take]; omega, ?_⟩
                rw [List.getElem_take]; exact hq2
      · rw [if_neg h28] at hs ⊢
        injection hs with hs; subst hs
        exact ⟨_, rfl, h⟩
theorem bRun_erel {e e' : Int} {c : List SIns} : ∀ (n k : Nat) (s t S : BS), BInv k s → ERel s t → bRun e c n k s = .inr S → ∃ T, bRun e' c n k t = .inr T ∧ ERel S T
  | 0, k, s, t, S, hI, h, hs => by
    simp only [bRun] at hs ⊢
    injection hs with hs; subst hs
    exact ⟨_, rfl, h⟩
  | n + 1, k, s, t, S, hI, h, hs => by
    simp only [bRun] at hs ⊢
    cases hx : bStep e c k (c.getD k SIns.zero) s with
    | inl x => rw [hx] at hs; cases hs
    | inr s' =>
      rw [hx] at hs
      obtain ⟨t', ht, hr⟩ := bStep_erel (e' := e') hI h hx
      rw [ht]
      exact bRun_erel n (k + 1) s' t' S (bStep_inv hI hx) hr hs
theorem bRun_closed {e : Int} (e' : Int) {c : List SIns} {n : Nat} {S : BS} (h : bRun e c n 0 ([], []) = .inr S) (h0 : S.2 = []) : bRun e' c n 0 ([], []) = .inr S := by
  obtain ⟨T, hT, hr⟩ := bRun_erel (e' := e') n 0 ([], []) ([], []) S bInv0 ⟨rfl, rfl, rfl, fun _ _ => rfl⟩ h
  rw [hT]
  have h1 : S.1 = T.1 := List.ext_getElem? fun j => hr.cl j (by rw [h0]; simp)
  have h2 : S.2 = T.2 := hr.op
  rw [Prod.ext h1 h2]

theorem blocksP_err {e : Int} {c : SCore} {p : Int × Int} (h : blocksP e c = .inl p) : p.2 ≠ 0 := by
  unfold blocksP at h
  cases hx : bRun e c.Code c.Code.length 0 ([], []) with
  | inl q => rw [hx] at h; injection h with h; subst h; exact bRun_err _ _ _ _ hx
  | inr q =>
    rw [hx] at h
    simp only at h
    split at h
    · cases h
    · injection h with h; subst h
      show (5 : Int) ≠ 0
      decide
theorem core_ok {m : SModule} {c : SCore} (h : (coreR m c).2.2 = 0) : ∃ (Bf : BS) (p : CSt × List SCodePlace), (∀ e, bRun e c.Code c.Code.length 0 ([], []) = .inr Bf) ∧ Bf.2 = [] ∧ cRun m c (prS Bf) c.Code.length 0 s0 [] = .inr p ∧ ¬ (p.1.kn = true ∧ p.1.h ≠ bitI c.Result) ∧ coreR m c = (p.2 ++ [SCodePlace.mk true (bitI c.Result) []], 0, 0) := by
  unfold coreR pbl at h ⊢
  cases hb : blocksP 0 c with
  | inl p =>
    rw [hb] at h
    exact absurd h (blocksP_err hb)
  | inr b =>
    rw [hb] at h
    simp only [mapR] at h ⊢
    obtain ⟨Bf, hrun, hbf, h0⟩ : ∃ Bf : BS, bRun 0 c.Code c.Code.length 0 ([], []) = .inr Bf ∧ Bf.1 = b ∧ Bf.2 = [] := by
      unfold blocksP at hb
      cases hx : bRun 0 c.Code c.Code.length 0 ([], []) with
      | inl q => rw [hx] at hb; cases hb
      | inr q =>
        rw [hx] at hb
        simp only at hb
        split at hb
        · rename_i hl
          injection hb with hb; exact ⟨q, rfl, hb, List.length_eq_zero_iff.1 hl⟩
        · cases hb
    have hP : b.map pr = prS Bf := by rw [← hbf]; rfl
    rw [hP] at h ⊢
    cases hcr : cRun m c (prS Bf) c.Code.length 0 s0 [] with
    | inl p =>
      rw [hcr] at h
      exact absurd h (cRun_err _ _ _ _ _ hcr)
    | inr p =>
      rw [hcr] at h
      simp only at h ⊢
      by_cases hq : p.1.kn = true ∧ p.1.h ≠ bitI c.Result
      · rw [if_pos hq] at h; exact absurd (show (7 : Int) = 0 from h) (by decide)
      · rw [if_neg hq]
        exact ⟨Bf, p, fun e => bRun_closed e hrun h0, h0, hcr, hq, rfl⟩
theorem blocksP_ok {c : SCore} {Bf : BS} (h : ∀ e, bRun e c.Code c.Code.length 0 ([], []) = .inr Bf) (h0 : Bf.2 = []) (e : Int) : blocksP e c = .inr Bf.1 := by
  unfold blocksP
  rw [h e]
  simp only
  rw [if_pos (by rw [h0]; rfl)]
theorem fin_ok {m : SModule} {c : SCore} (hm : MOk m) (hc : c ∈ m.Cores) {Bf : BS} (h : ∀ e, bRun e c.Code c.Code.length 0 ([], []) = .inr Bf) : Fin_ m c (prS Bf) Bf := by
  have hinv := (bRun_pre c.Code.length 0 ([], []) Bf bInv0 (h 0)).2
  rw [Nat.zero_add] at hinv
  exact ⟨hm, hc, rfl, hinv⟩
theorem core_i_ok {m : SModule} (hm : MOk m) {k : Nat} (hk : k < m.Cores.length) {Bf : BS} {p : CSt × List SCodePlace} (h : ∀ e, bRun e m.Cores[k].Code m.Cores[k].Code.length 0 ([], []) = .inr Bf) (h0 : Bf.2 = []) (hcr : cRun m m.Cores[k] (prS Bf) m.Cores[k].Code.length 0 s0 [] = .inr p) (hq : ¬ (p.1.kn = true ∧ p.1.h ≠ bitI m.Cores[k].Result)) :
    M.i_checked m (k : Int) = some (p.2 ++ [SCodePlace.mk true (bitI m.Cores[k].Result) []], Bf.1, 0, 0) := by
  have hmem := List.getElem_mem hk
  have hn := (hm.core _ hmem).2.2
  unfold M.i_checked
  simp only [Int.toNat_natCast, getD_lt hk, inB_nat, hk, decide_true, Bool.and_true, Bool.and_self]
  generalize hc : m.Cores[k] = c at hn hmem h hcr hq ⊢
  rw [blocks_i c hn, blocksP_ok h h0]
  have hf := fin_ok hm hmem h
  have ho := core_loop_i (e := 0) hf (bl := Bf.1) rfl bigN 0 ([], []) s0 [] (Nat.zero_le _) (by have := bigN_le; omega) bInv0 cinv0 (by rw [Nat.sub_zero]; exact h 0) rfl
  have ho' : M.i_checked_l0 Bf.1 c.Code (c.Code.length : Int) c bigN 0 m.Pages m.Imports m.Cores c.Name c.Params c.Locals c.Result c.Code Bf.1 0 0 true [] [] [] = _ := ho
  rw [Nat.sub_zero, hcr] at ho'
  have hz : ((0 : Int) != 0) = false := by decide
  simp only [Option.getD_some, Option.isSome_some, mapR, hz, cond_false, ho']
  have hlen := cRun_len _ _ _ _ _ hcr
  simp only [bit_i, Option.getD_some, Option.isSome_some, Bool.true_or, Bool.and_self, Bool.and_true, cond_true]
  have hd : decide (p.2.length + ([SCodePlace.mk true (bitI c.Result) []] : List SCodePlace).length ≤ 1073741824) = true := by
    rw [decide_eq_true_eq, hlen]; simp only [List.length_cons, List.length_nil]; omega
  have q : (p.1.kn && (p.1.h != bitI c.Result)) = false := by rw [Bool.eq_false_iff, ne_eq, Bool.and_eq_true, bne_iff_ne]; exact hq
  rw [q, hd]; rfl

/-! ### step by step -/

theorem seq_of {m : SModule} {c : SCore} {P : List (Int × Bool)} {e : Int} : ∀ (n k : Nat) (s : CSt) (B : BS) (a : List SCodePlace) (q : CSt × List SCodePlace) (Bf : BS), bRun e c.Code n k B = .inr Bf → cRun m c P n k s a = .inr q → a.length = k →
    ∃ (S : Nat → CSt) (T : Nat → BS), S k = s ∧ T k = B ∧ S (k + n) = q.1 ∧ T (k + n) = Bf ∧ (∃ r, q.2 = a ++ r) ∧
      ∀ j, k ≤ j → j < k + n → cStep m c P (c.Code.getD j SIns.zero) (S j) = .inr (S (j + 1)) ∧ bStep e c.Code j (c.Code.getD j SIns.zero) (T j) = .inr (T (j + 1)) ∧ q.2.getD j SCodePlace.zero = placeP (S j)
  | 0, k, s, B, a, q, Bf, hb, hc, hl => by
    simp only [bRun] at hb
    simp only [cRun] at hc
    injection hb with hb; injection hc with hc
    subst hb; subst hc
    exact ⟨fun _ => s, fun _ => B, rfl, rfl, rfl, rfl, ⟨[], by simp⟩, fun j h1 h2 => by omega⟩
  | n + 1, k, s, B, a, q, Bf, hb, hc, hl => by
    simp only [bRun] at hb
    simp only [cRun] at hc
    cases hx : bStep e c.Code k (c.Code.getD k SIns.zero) B with
    | inl x => rw [hx] at hb; cases hb
    | inr B' =>
      rw [hx] at hb
      cases hy : cStep m c P (c.Code.getD k SIns.zero) s with
      | inl x => rw [hy] at hc; cases hc
      | inr s' =>
        rw [hy] at hc
        obtain ⟨S, T, h1, h2, h3, h4, ⟨r, hr⟩, h5⟩ := seq_of n (k + 1) s' B' (a ++ [placeP s]) q Bf hb hc (by rw [List.length_append, hl]; rfl)
        refine ⟨fun j => if j = k then s else S j, fun j => if j = k then B else T j, by simp, by simp, ?_, ?_, ⟨placeP s :: r, by rw [hr, List.append_assoc]; rfl⟩, fun j g1 g2 => ?_⟩
        · simp only; rw [if_neg (by omega), ← h3]; congr 1; omega
        · simp only; rw [if_neg (by omega), ← h4]; congr 1; omega
        · by_cases hj : j = k
          · subst hj
            simp only [if_true, if_neg (show ¬ j + 1 = j by omega)]
            refine ⟨by rw [hy, h1], by rw [hx, h2], ?_⟩
            rw [hr, List.append_assoc, List.getD_eq_getElem?_getD, List.getElem?_append_right (by omega), hl, Nat.sub_self]; rfl
          · simp only [if_neg hj, if_neg (show ¬ j + 1 = k by omega)]
            exact h5 j (by omega) (by omega)
structure Run (m : SModule) (c : SCore) (Bf : BS) (p : CSt × List SCodePlace) (S : Nat → CSt) (T : Nat → BS) : Prop where
  s0 : S 0 = M.s0
  t0 : T 0 = ([], [])
  sn : S c.Code.length = p.1
  tn : T c.Code.length = Bf
  st : ∀ j, j < c.Code.length → cStep m c (prS Bf) (c.Code.getD j SIns.zero) (S j) = .inr (S (j + 1)) ∧ bStep 0 c.Code j (c.Code.getD j SIns.zero) (T j) = .inr (T (j + 1)) ∧ p.2.getD j SCodePlace.zero = placeP (S j)
  bi : ∀ j, j ≤ c.Code.length → BInv j (T j)
  ci : ∀ j, j ≤ c.Code.length → CInv (T j) (S j)
  pre : ∀ j, j ≤ c.Code.length → ∃ r, prS Bf = prS (T j) ++ r
theorem run_of {m : SModule} (hm : MOk m) {c : SCore} {Bf : BS} {p : CSt × List SCodePlace} (h : ∀ e, bRun e c.Code c.Code.length 0 ([], []) = .inr Bf) (hcr : cRun m c (prS Bf) c.Code.length 0 M.s0 [] = .inr p) : ∃ S T, Run m c Bf p S T := by
  obtain ⟨S, T, h1, h2, h3, h4, -, h5⟩ := seq_of c.Code.length 0 M.s0 ([], []) [] p Bf (h 0) hcr rfl
  rw [Nat.zero_add] at h3 h4
  have inv : ∀ j, j ≤ c.Code.length → BInv j (T j) ∧ CInv (T j) (S j) := fun j => by
    induction j with
    | zero => intro _; rw [h1, h2]; exact ⟨bInv0, cinv0⟩
    | succ j ih =>
      intro hj
      obtain ⟨i1, i2⟩ := ih (by omega)
      obtain ⟨g1, g2, -⟩ := h5 j (by omega) (by omega)
      exact ⟨bStep_inv i1 g2, cStep_inv hm i2 g2 g1⟩
  have pre : ∀ d j, j + d = c.Code.length → ∃ r, prS Bf = prS (T j) ++ r := fun d => by
    induction d with
    | zero => intro j hj; rw [Nat.add_zero] at hj; rw [hj, h4]; exact ⟨[], by simp⟩
    | succ d ih =>
      intro j hj
      obtain ⟨r, hr⟩ := ih (j + 1) (by omega)
      obtain ⟨-, g2, -⟩ := h5 j (by omega) (by omega)
      rcases bStep_pr g2 with ⟨_, _, hp, _⟩ | ⟨_, hp, _⟩
      · exact ⟨[((j : Int), (c.Code.getD j SIns.zero).A == 1)] ++ r, by rw [hr, hp, List.append_assoc]⟩
      · exact ⟨r, by rw [hr, hp]⟩
  exact ⟨S, T, h1, h2, h3, h4, fun j hj => h5 j (by omega) (by omega), fun j hj => (inv j hj).1, fun j hj => (inv j hj).2, fun j hj => pre (c.Code.length - j) j (by omega)⟩
end M
/-
  A CORE THAT STANDS: the heights under its blocks, where each block ends.
-/
set_option linter.unusedVariables false
set_option linter.unusedSimpArgs false
namespace M
open Go.V (inB slB bigN bigN_le)

theorem prS_len (t : BS) : (prS t).length = t.1.length := by simp [prS]
theorem prS_getD {t : BS} {x : Nat} (h : x < t.1.length) : (prS t).getD x (0, false) = pr (t.1.getD x SCodeBlock.zero) := by
  have h2 : x < (prS t).length := by rw [prS_len]; exact h
  rw [getD_lt h, getD_lt h2]
  simp [prS]
theorem Run.P_at {m : SModule} {c : SCore} {Bf : BS} {p : CSt × List SCodePlace} {S : Nat → CSt} {T : Nat → BS} (R : Run m c Bf p S T) {j : Nat} (hj : j ≤ c.Code.length) {x : Nat} (hx : x < (T j).1.length) : (prS Bf).getD x (0, false) = (prS (T j)).getD x (0, false) := by
  obtain ⟨r, hr⟩ := R.pre j hj
  rw [hr, List.getD_eq_getElem?_getD, List.getD_eq_getElem?_getD, List.getElem?_append_left (by rw [prS_len]; exact hx)]
theorem map_append_one {α β : Type} (f : α → β) (l : List α) (x : α) : (l ++ [x]).map f = l.map f ++ [f x] := by simp
def hB (S : Nat → CSt) (P : List (Int × Bool)) (x : Int) : Int := (S ((P.getD x.toNat (0, false)).1.toNat + 1)).h
theorem Run.ba {m : SModule} {c : SCore} {Bf : BS} {p : CSt × List SCodePlace} {S : Nat → CSt} {T : Nat → BS} (R : Run m c Bf p S T) : ∀ j, j ≤ c.Code.length → (S j).ba = (S j).op.map (hB S (prS Bf))
  | 0, _ => by rw [R.s0]; rfl
  | j + 1, hj => by
    have ih := R.ba j (by omega)
    obtain ⟨g1, g2, -⟩ := R.st j (by omega)
    have hc := R.ci j (by omega)
    by_cases hn : (c.Code.getD j SIns.zero).Op = 27 ∨ (c.Code.getD j SIns.zero).Op = 28
    · unfold cStep at g1
      rw [if_pos hn] at g1
      split at g1
      · cases g1
      · split at g1
        · injection g1 with g1; rw [← g1]; exact ih
        · split at g1
          · cases g1
          · injection g1 with g1; rw [← g1]
            simp only
            rw [ih, List.map_take, List.length_map]
    · obtain ⟨⟨q1, -⟩, e⟩ := cStep_next hn g1
      by_cases ho : opnB (c.Code.getD j SIns.zero).Op = true
      · have e1 : (S (j + 1)).ba = (S j).ba ++ [(S (j + 1)).h] := by rw [e]; unfold nextP; simp only [ho, if_true]
        have e2 : (S (j + 1)).op = (S j).op ++ [(S j).nxt] := by rw [e]; unfold nextP; simp only [ho, if_true]
        rw [e1, e2, map_append_one, ih]
        have : hB S (prS Bf) (S j).nxt = (S (j + 1)).h := by
          rcases bStep_pr g2 with ⟨_, _, hp, _⟩ | ⟨h', _, _⟩
          · have hl : (T (j + 1)).1.length = (T j).1.length + 1 := by rw [← prS_len (T (j + 1)), hp, List.length_append, prS_len]; rfl
            unfold hB
            rw [hc.nxt, Int.toNat_natCast, R.P_at (j := j + 1) hj (by omega), hp, List.getD_eq_getElem?_getD, List.getElem?_append_right (by rw [prS_len]; exact Nat.le_refl _), prS_len, Nat.sub_self]
            simp
          · rw [ho] at h'; cases h'
        rw [this]
      · have ho' : opnB (c.Code.getD j SIns.zero).Op = false := by simpa using ho
        rw [e]
        unfold nextP
        simp only [ho', Bool.false_eq_true, if_false]
        exact ih
def Closed (c : SCore) (T : Nat → BS) (j x : Nat) : Prop := ∃ e, e < j ∧ ((T j).1.getD x SCodeBlock.zero).End = (e : Int) ∧ ((T j).1.getD x SCodeBlock.zero).At < (e : Int) ∧ (c.Code.getD e SIns.zero).Op = 28 ∧ (T e).2.length ≠ 0 ∧ topI (T e) = x
theorem take_last {l : List Int} {x : Int} (h : x ∈ l) (hx : x ≠ l.getD (l.length - 1) 0) : x ∈ l.take (l.length - 1) := by
  obtain ⟨i, hi, rfl⟩ := List.mem_iff_getElem.1 h
  have hne : i ≠ l.length - 1 := fun e => hx (by rw [getD_lt (by omega)]; congr 1)
  rw [List.mem_iff_getElem]
  exact ⟨i, by rw [List.length_take]; omega, List.getElem_take⟩
theorem getD_set_ne {l : List SCodeBlock} {i x : Nat} {b : SCodeBlock} (h : i ≠ x) : (l.set i b).getD x SCodeBlock.zero = l.getD x SCodeBlock.zero := by
  rw [List.getD_eq_getElem?_getD, List.getD_eq_getElem?_getD, List.getElem?_set_ne h]
theorem getD_set_self {l : List SCodeBlock} {i : Nat} {b : SCodeBlock} (h : i < l.length) : (l.set i b).getD i SCodeBlock.zero = b := by
  rw [List.getD_eq_getElem?_getD, List.getElem?_set_self h]; rfl
theorem Run.cl {m : SModule} {c : SCore} {Bf : BS} {p : CSt × List SCodePlace} {S : Nat → CSt} {T : Nat → BS} (R : Run m c Bf p S T) : ∀ j, j ≤ c.Code.length → ∀ x, x < (T j).1.length → opnB (opAt c.Code ((T j).1.getD x SCodeBlock.zero).At) = true ∧ ((x : Int) ∈ (T j).2 ∨ Closed c T j x)
  | 0, _, x, hx => by rw [R.t0] at hx; simp at hx
  | j + 1, hj, x, hx => by
    have ih := R.cl j (by omega)
    obtain ⟨-, g2, -⟩ := R.st j (by omega)
    have hB := R.bi j (by omega)
    unfold bStep at g2
    by_cases ho : opnB (c.Code.getD j SIns.zero).Op = true
    · rw [if_pos ho] at g2
      by_cases h6 : (T j).2.length = 6
      · rw [if_pos h6] at g2; cases g2
      · rw [if_neg h6] at g2
        injection g2 with g2
        rw [← g2] at hx ⊢
        simp only [List.length_append, List.length_cons, List.length_nil] at hx
        by_cases hlt : x < (T j).1.length
        · have e : ((T j).1 ++ [SCodeBlock.mk (j : Int) (-1) 0 0 ((c.Code.getD j SIns.zero).A == 1)]).getD x SCodeBlock.zero = (T j).1.getD x SCodeBlock.zero := by
            simp only [List.getD_eq_getElem?_getD, List.getElem?_append_left hlt]
          obtain ⟨i1, i2⟩ := ih x hlt
          refine ⟨by simp only [e]; exact i1, ?_⟩
          rcases i2 with i2 | ⟨e0, k1, k2, k3, k4, k5, k6⟩
          · exact .inl (List.mem_append.2 (.inl i2))
          · refine .inr ⟨e0, by omega, ?_, ?_, k4, k5, k6⟩
            · rw [← g2]; simp only [e]; exact k2
            · rw [← g2]; simp only [e]; exact k3
        · have hxe : x = (T j).1.length := by omega
          subst hxe
          have e : ((T j).1 ++ [SCodeBlock.mk (j : Int) (-1) 0 0 ((c.Code.getD j SIns.zero).A == 1)]).getD (T j).1.length SCodeBlock.zero = SCodeBlock.mk (j : Int) (-1) 0 0 ((c.Code.getD j SIns.zero).A == 1) := by
            rw [List.getD_eq_getElem?_getD, List.getElem?_append_right (Nat.le_refl _), Nat.sub_self]; rfl
          refine ⟨?_, .inl (List.mem_append.2 (.inr (by simp)))⟩
          simp only [e]
          unfold opAt
          rw [Int.toNat_natCast]; exact ho
    · rw [if_neg ho] at g2
      by_cases h27 : (c.Code.getD j SIns.zero).Op = 27
      · rw [if_pos h27] at g2
        by_cases h0 : (T j).2.length = 0
        · rw [if_pos h0] at g2; cases g2
        · rw [if_neg h0] at g2
          by_cases hc : opAt c.Code (topB (T j)).At ≠ 26 ∨ 0 ≤ (topB (T j)).Else
          · rw [if_pos hc] at g2; cases g2
          · rw [if_neg hc] at g2
            injection g2 with g2
            have ht := topI_lt hB h0
            have hx' : x < (T j).1.length := by rw [← g2] at hx; simpa using hx
            obtain ⟨i1, i2⟩ := ih x hx'
            have hAE : ((T (j + 1)).1.getD x SCodeBlock.zero).At = ((T j).1.getD x SCodeBlock.zero).At ∧ ((T (j + 1)).1.getD x SCodeBlock.zero).End = ((T j).1.getD x SCodeBlock.zero).End := by
              rw [← g2]
              by_cases hxt : topI (T j) = x
              · subst hxt
                simp only [getD_set_self ht.1]
                exact ⟨rfl, rfl⟩
              · simp only [getD_set_ne hxt]
                exact ⟨trivial, trivial⟩
            refine ⟨by rw [hAE.1]; exact i1, ?_⟩
            rcases i2 with i2 | ⟨e0, k1, k2, k3, k4, k5, k6⟩
            · left; rw [← g2]; exact i2
            · exact .inr ⟨e0, by omega, by rw [hAE.2]; exact k2, by rw [hAE.1]; exact k3, k4, k5, k6⟩
      · rw [if_neg h27] at g2
        by_cases h28 : (c.Code.getD j SIns.zero).Op = 28
        · rw [if_pos h28] at g2
          by_cases h0 : (T j).2.length = 0
          · rw [if_pos h0] at g2; cases g2
          · rw [if_neg h0] at g2
            by_cases hc : (opAt c.Code (topB (T j)).At = 26 ∧ (topB (T j)).Result = true) ∧ (topB (T j)).Else < 0
            · rw [if_pos hc] at g2; cases g2
            · rw [if_neg hc] at g2
              injection g2 with g2
              have ht := topI_lt hB h0
              have hx' : x < (T j).1.length := by rw [← g2] at hx; simpa using hx
              obtain ⟨i1, i2⟩ := ih x hx'
              by_cases hxt : topI (T j) = x
              · subst hxt
                have e : (T (j + 1)).1.getD (topI (T j)) SCodeBlock.zero = SCodeBlock.mk (topB (T j)).At (topB (T j)).Else (j : Int) (topB (T j)).Height (topB (T j)).Result := by
                  rw [← g2]; exact getD_set_self ht.1
                refine ⟨by rw [e]; exact i1, .inr ⟨j, by omega, by rw [e], ?_, h28, h0, rfl⟩⟩
                rw [e]
                have hm : pr (topB (T j)) ∈ prS (T j) := by
                  have h3 := prS_getD ht.1
                  have h4 : topI (T j) < (prS (T j)).length := by rw [prS_len]; exact ht.1
                  rw [getD_lt h4] at h3
                  have : topB (T j) = (T j).1.getD (topI (T j)) SCodeBlock.zero := rfl
                  rw [this, ← h3]; exact List.getElem_mem h4
                exact (hB.lt _ hm).2
              · have e : (T (j + 1)).1.getD x SCodeBlock.zero = (T j).1.getD x SCodeBlock.zero := by
                  rw [← g2]; exact getD_set_ne hxt
                refine ⟨by rw [e]; exact i1, ?_⟩
                rcases i2 with i2 | ⟨e0, k1, k2, k3, k4, k5, k6⟩
                · left
                  rw [← g2]
                  refine take_last i2 fun hq => hxt ?_
                  have := ht.2
                  omega
                · exact .inr ⟨e0, by omega, by rw [e]; exact k2, by rw [e]; exact k3, k4, k5, k6⟩
        · rw [if_neg h28] at g2
          injection g2 with g2
          obtain ⟨i1, i2⟩ := ih x (by rw [g2]; exact hx)
          refine ⟨by rw [← g2]; exact i1, ?_⟩
          rcases i2 with i2 | ⟨e0, k1, k2, k3, k4, k5, k6⟩
          · left; rw [← g2]; exact i2
          · exact .inr ⟨e0, by omega, by rw [← g2]; exact k2, by rw [← g2]; exact k3, k4, k5, k6⟩
theorem Run.blk {m : SModule} {c : SCore} {Bf : BS} {p : CSt × List SCodePlace} {S : Nat → CSt} {T : Nat → BS} (R : Run m c Bf p S T) (h0 : Bf.2 = []) {x : Nat} (hx : x < Bf.1.length) :
    ∃ q e : Nat, (Bf.1.getD x SCodeBlock.zero).At = (q : Int) ∧ (Bf.1.getD x SCodeBlock.zero).End = (e : Int) ∧ q < e ∧ e < c.Code.length ∧ opnB (opAt c.Code (q : Int)) = true ∧ (S q).kn = true ∧ (S (q + 1)).h = (S q).h - (if opAt c.Code (q : Int) = 26 then 1 else 0) ∧ (opAt c.Code (q : Int) = 25 → (S (q + 1)).kn = true) ∧
      (S (e + 1)).kn = true ∧ (S (e + 1)).h = (S (q + 1)).h + bitI (Bf.1.getD x SCodeBlock.zero).Result := by
  have hx' : x < (T c.Code.length).1.length := by rw [R.tn]; exact hx
  obtain ⟨i1, i2⟩ := R.cl c.Code.length (Nat.le_refl _) x hx'
  rw [R.tn] at i1 i2
  rcases i2 with i2 | ⟨e, k1, k2, k3, k4, k5, k6⟩
  · rw [h0] at i2; simp at i2
  rw [R.tn] at k2 k3
  have hlt := (R.bi c.Code.length (Nat.le_refl _)).lt (pr (Bf.1.getD x SCodeBlock.zero)) (by
    rw [R.tn, ← prS_getD hx, getD_lt (by rw [prS_len]; exact hx)]; exact List.getElem_mem _)
  obtain ⟨q, hq⟩ := Int.eq_ofNat_of_zero_le (show 0 ≤ (Bf.1.getD x SCodeBlock.zero).At from hlt.1)
  rw [hq] at i1 k3
  have hqe : q < e := by omega
  have hop : (c.Code.getD q SIns.zero).Op = opAt c.Code (q : Int) := by unfold opAt; rw [Int.toNat_natCast]
  have h3 : opAt c.Code (q : Int) = 24 ∨ opAt c.Code (q : Int) = 25 ∨ opAt c.Code (q : Int) = 26 := by
    have := i1
    unfold opnB at this
    rw [Bool.or_eq_true, Bool.or_eq_true, beq_iff_eq, beq_iff_eq, beq_iff_eq] at this; omega
  obtain ⟨g1, -, -⟩ := R.st q (by omega)
  obtain ⟨⟨q1, -⟩, eq⟩ := cStep_next (by rw [hop]; omega) g1
  obtain ⟨f1, -, -⟩ := R.st e k1
  have hP : (prS Bf).getD x (0, false) = pr (Bf.1.getD x SCodeBlock.zero) := prS_getD hx
  refine ⟨q, e, hq, k2, hqe, k1, i1, q1, ?_, ?_, ?_⟩
  · rw [eq]
    unfold nextP
    simp only [takeP, hop]
    rcases h3 with h3 | h3 | h3 <;> rw [h3] <;> simp
  · intro h25
    rw [eq]
    unfold nextP
    simp only [hop, h25]; decide
  · have hci := R.ci e (by omega)
    have hba := R.ba e (by omega)
    have hop2 : (S e).op = (T e).2 := hci.op
    unfold cStep at f1
    rw [if_pos (.inr k4)] at f1
    split at f1
    · cases f1
    · rw [if_neg (by omega)] at f1
      split at f1
      · cases f1
      · injection f1 with f1
        rw [← f1]
        refine ⟨rfl, ?_⟩
        simp only
        have ht : topP (prS Bf) (S e) = pr (Bf.1.getD x SCodeBlock.zero) := by
          unfold topP
          rw [hop2]
          have : ((T e).2.getD ((T e).2.length - 1) 0).toNat = x := k6
          rw [this, hP]
        have hb : baseP (S e) = (S (q + 1)).h := by
          unfold baseP
          have hne : (S e).ba.length ≠ 0 := by rw [hba, List.length_map, hop2]; exact k5
          rw [if_neg hne, hba, List.length_map]
          have hl : (S e).op.length - 1 < (S e).op.length := by rw [hop2]; omega
          rw [getD_lt (by rw [List.length_map]; exact hl), List.getElem_map]
          unfold hB
          have h5 : ((S e).op[(S e).op.length - 1]).toNat = x := by
            rw [← k6]; unfold topI; rw [← hop2, getD_lt hl]
          rw [h5, hP]
          show (S ((Bf.1.getD x SCodeBlock.zero).At.toNat + 1)).h = _
          rw [hq, Int.toNat_natCast]
        rw [ht, hb]; rfl
end M
/-
  WHERE A BRANCH LEADS: the height there.
-/
set_option linter.unusedVariables false
set_option linter.unusedSimpArgs false
namespace M
open Go.V (inB slB bigN bigN_le)
def leadB (c : SCore) (b : SCodeBlock) (q : Nat) (h : Int) : Int × Int :=
  if opAt c.Code (q : Int) = 25 then (Go.IntKind.wrap .i64 (b.At + 1), h)
  else (Go.IntKind.wrap .i64 (b.End + 1), h - (if opAt c.Code (q : Int) = 26 then 1 else 0) + bitI b.Result)
structure Lead (c : SCore) (Bf : BS) (p : CSt × List SCodePlace) (pl : List SCodePlace) (a : Nat) (d : Int) : Prop where
  ple : pl = p.2 ++ [SCodePlace.mk true (bitI c.Result) []]
  len : p.2.length = c.Code.length
  n : c.Code.length ≤ 120
  al : a < pl.length
  d0 : 0 ≤ d
  d1 : d ≤ ((pl.getD a SCodePlace.zero).Blocks.length : Int)
  bl : ∀ x ∈ p.2, x.Blocks.length ≤ 6 ∧ ∀ y ∈ x.Blocks, 0 ≤ y ∧ y < (Bf.1.length : Int)
theorem Lead.blocks {c : SCore} {Bf : BS} {p : CSt × List SCodePlace} {pl : List SCodePlace} {a : Nat} {d : Int} (h : Lead c Bf p pl a d) : (pl.getD a SCodePlace.zero).Blocks.length ≤ 6 ∧ ∀ y ∈ (pl.getD a SCodePlace.zero).Blocks, 0 ≤ y ∧ y < (Bf.1.length : Int) := by
  have ha := h.al
  rw [getD_lt ha]
  have hm : pl[a] ∈ pl := List.getElem_mem ha
  generalize pl[a] = x at hm
  rw [h.ple] at hm
  rcases List.mem_append.1 hm with hx | hx
  · exact h.bl x hx
  · simp only [List.mem_cons, List.not_mem_nil, or_false] at hx; subst hx
    exact ⟨by simp, fun y hy => by simp at hy⟩
theorem Lead.idx {c : SCore} {Bf : BS} {p : CSt × List SCodePlace} {pl : List SCodePlace} {a : Nat} {d : Int} (h : Lead c Bf p pl a d) (hd : d ≠ ((pl.getD a SCodePlace.zero).Blocks.length : Int)) :
    ∃ i j : Nat, Go.IntKind.wrap .i64 (Go.IntKind.wrap .i64 (((pl.getD a SCodePlace.zero).Blocks.length : Int) - 1) - d) = (i : Int) ∧ i < (pl.getD a SCodePlace.zero).Blocks.length ∧ (pl.getD a SCodePlace.zero).Blocks.getD i 0 = (j : Int) ∧ j < Bf.1.length := by
  obtain ⟨h6, hb⟩ := h.blocks
  have h0 := h.d0
  have h1 := h.d1
  obtain ⟨i, hi⟩ := Int.eq_ofNat_of_zero_le (by omega : 0 ≤ ((pl.getD a SCodePlace.zero).Blocks.length : Int) - 1 - d)
  have hil : i < (pl.getD a SCodePlace.zero).Blocks.length := by omega
  have hm := hb _ (List.getElem_mem hil)
  obtain ⟨j, hj⟩ := Int.eq_ofNat_of_zero_le hm.1
  refine ⟨i, j, ?_, hil, ?_, by omega⟩
  · rw [wrap_i64 (n := ((pl.getD a SCodePlace.zero).Blocks.length : Int) - 1) (by omega) (by omega), wrap_i64 (by omega) (by omega)]; omega
  · rw [getD_lt hil]; exact hj
theorem Lead.pget {c : SCore} {Bf : BS} {p : CSt × List SCodePlace} {pl : List SCodePlace} {a : Nat} {d : Int} (h : Lead c Bf p pl a d) {q : Nat} (hq : q < p.2.length) : q < pl.length ∧ q < c.Code.length ∧ pl.getD q SCodePlace.zero = p.2.getD q SCodePlace.zero := by
  refine ⟨by rw [h.ple, List.length_append]; omega, by rw [← h.len]; exact hq, ?_⟩
  rw [h.ple, List.getD_eq_getElem?_getD, List.getD_eq_getElem?_getD, List.getElem?_append_left hq]
theorem target_i {c : SCore} {Bf : BS} {p : CSt × List SCodePlace} {pl : List SCodePlace} {a : Nat} {d : Int} (h : Lead c Bf p pl a d) :
    (d = ((pl.getD a SCodePlace.zero).Blocks.length : Int) → M.i_target c pl Bf.1 (a : Int) d = some ((c.Code.length : Int), bitI c.Result)) ∧
    (d ≠ ((pl.getD a SCodePlace.zero).Blocks.length : Int) → ∀ i j q : Nat, Go.IntKind.wrap .i64 (Go.IntKind.wrap .i64 (((pl.getD a SCodePlace.zero).Blocks.length : Int) - 1) - d) = (i : Int) → i < (pl.getD a SCodePlace.zero).Blocks.length → (pl.getD a SCodePlace.zero).Blocks.getD i 0 = (j : Int) → j < Bf.1.length → q < p.2.length → (Bf.1.getD j SCodeBlock.zero).At = (q : Int) → (0 ≤ (p.2.getD q SCodePlace.zero).Height ∧ (p.2.getD q SCodePlace.zero).Height ≤ 24) →
      M.i_target c pl Bf.1 (a : Int) d = some (leadB c (Bf.1.getD j SCodeBlock.zero) q (p.2.getD q SCodePlace.zero).Height)) := by
  have ha := h.al
  constructor
  · intro hd
    unfold M.i_target
    simp only [Int.toNat_natCast, bit_i, Option.isSome_some, Option.getD_some, inB_nat, ha, decide_true, Bool.and_self, cond_true]
    rw [hd, beq_self_eq_true, cond_true]
  · intro hd i j q e1 hi e2 hj hq e3 hh
    obtain ⟨g1, g2, g3⟩ := h.pget hq
    have hdb : (d == ((pl.getD a SCodePlace.zero).Blocks.length : Int)) = false := by rw [beq_eq_false_iff_ne]; exact hd
    have hbit := bitI_le (Bf.1.getD j SCodeBlock.zero).Result
    unfold M.i_target leadB
    simp only [Int.toNat_natCast, bit_i, Option.isSome_some, Option.getD_some, inB_nat, ha, decide_true, hdb, cond_false, e1, e2, e3, hi, hj, g1, g2, g3, Bool.and_self, Bool.true_and, Bool.true_or, cond_true]
    rw [show (c.Code.getD q SIns.zero).Op = opAt c.Code (q : Int) from rfl]
    generalize (p.2.getD q SCodePlace.zero).Height = hh' at hh ⊢
    by_cases h25 : opAt c.Code (q : Int) = 25
    · rw [if_pos h25, h25]; rfl
    · have q25 : (opAt c.Code (q : Int) == 25) = false := by rw [beq_eq_false_iff_ne]; exact h25
      rw [if_neg h25, q25, cond_false]
      by_cases h26 : opAt c.Code (q : Int) = 26
      · rw [if_pos h26, h26]
        simp only [beq_self_eq_true, cond_true]
        rw [wrap_i64 (n := hh' - 1) (by omega) (by omega), wrap_i64 (n := hh' - 1 + bitI (Bf.1.getD j SCodeBlock.zero).Result) (by omega) (by omega)]
      · have q26 : (opAt c.Code (q : Int) == 26) = false := by rw [beq_eq_false_iff_ne]; exact h26
        rw [if_neg h26, q26, cond_false, wrap_i64 (n := hh' + bitI (Bf.1.getD j SCodeBlock.zero).Result) (by omega) (by omega)]
        simp
def askB (pl : List SCodePlace) (a d : Int) : Bool := (decide (0 ≤ a) && decide (a ≤ (pl.length : Int) - 1)) && (decide (0 ≤ d) && decide (d ≤ ((pl.getD a.toNat SCodePlace.zero).Blocks.length : Int)))
theorem askB_nat {pl : List SCodePlace} {a d : Int} (h : askB pl a d = true) : ∃ j : Nat, a = (j : Int) ∧ j < pl.length ∧ 0 ≤ d ∧ d ≤ ((pl.getD j SCodePlace.zero).Blocks.length : Int) := by
  unfold askB at h
  simp only [Bool.and_eq_true, decide_eq_true_eq] at h
  obtain ⟨⟨h1, h2⟩, h3, h4⟩ := h
  obtain ⟨j, rfl⟩ := Int.eq_ofNat_of_zero_le h1
  rw [Int.toNat_natCast] at h4
  exact ⟨j, rfl, by omega, h3, h4⟩
def preT (m : SModule) (k : Nat) (a d : Int) : Option (Int × Int × Int) :=
  let r := coreR m (m.Cores.getD k SCore.zero)
  if r.2.2 ≠ 0 then some (0, 0, r.2.2)
  else if askB r.1 a d = false then some (0, 0, 2)
  else if (r.1.getD a.toNat SCodePlace.zero).Known = false then some (0, 0, 3) else none
theorem ask_bool (pl : List SCodePlace) (a d : Int) : ((!(decide (0 ≤ a) && decide (a ≤ (pl.length : Int) - 1))) || !(decide (0 ≤ d) && decide (d ≤ ((pl.getD a.toNat SCodePlace.zero).Blocks.length : Int)))) = !askB pl a d := by
  unfold askB
  generalize (decide (0 ≤ a) && decide (a ≤ (pl.length : Int) - 1)) = x
  generalize (decide (0 ≤ d) && decide (d ≤ ((pl.getD a.toNat SCodePlace.zero).Blocks.length : Int))) = y
  cases x <;> cases y <;> rfl
theorem ask_in (pl : List SCodePlace) (a : Int) : (inB a pl.length || !((!(decide (0 ≤ a) && decide (a ≤ (pl.length : Int) - 1))) == false)) = true := by
  by_cases h : 0 ≤ a ∧ a ≤ (pl.length : Int) - 1
  · rw [inB_int ⟨h.1, by omega⟩, Bool.true_or]
  · have : (decide (0 ≤ a) && decide (a ≤ (pl.length : Int) - 1)) = false := by
      rw [Bool.eq_false_iff, ne_eq, Bool.and_eq_true, decide_eq_true_eq, decide_eq_true_eq]; exact h
    rw [this]; simp
theorem wrapL {n : Nat} (h : n ≤ 1048576) : Go.IntKind.wrap .i64 ((n : Int) - 1) = (n : Int) - 1 := wrap_i64 (by omega) (by omega)

theorem target_pre_i {m : SModule} (h : m.sz ≤ 1048576) (hb : mOkB m = true) {k : Nat} (hk : k < m.Cores.length) (a d : Int) (r : Int × Int × Int) (hp : preT m k a d = some r) : M.i_TargetOf m (k : Int) a d = some r := by
  have hm := mOk_of hb
  have hcl := hm.cores
  have hr := coreR_len hm (List.getElem_mem hk)
  have hkk : (decide ((0 : Int) ≤ (k : Int)) && decide ((k : Int) ≤ (m.Cores.length : Int) - 1)) = true := by
    rw [Bool.and_eq_true, decide_eq_true_eq, decide_eq_true_eq]; omega
  obtain ⟨bl, hbl⟩ := core_i_eq hm hk
  rw [← hp]
  unfold M.i_TargetOf M.i_shapedCore preT at *
  simp only [shape_m_i m h, hb, wrapc (show m.Cores.length ≤ 1048576 by omega), hkk, hbl, getD_lt hk, Option.getD_some, Option.isSome_some, Bool.not_true, Bool.or_self, cond_false, Bool.and_self, cond_true, Bool.and_true, Bool.true_or] at hp ⊢
  by_cases h0 : (coreR m m.Cores[k]).2.2 ≠ 0
  · have q : ((coreR m m.Cores[k]).2.2 != 0) = true := by rw [bne_iff_ne]; exact h0
    rw [if_pos h0, q]; rfl
  · have q : ((coreR m m.Cores[k]).2.2 != 0) = false := by rw [Bool.eq_false_iff, ne_eq, bne_iff_ne]; exact h0
    rw [if_neg h0] at hp ⊢
    rw [q, cond_false]
    generalize (coreR m m.Cores[k]).1 = pl at hr hp ⊢
    simp only [wrapL hr.1, ask_bool, ask_in, cond_true]
    cases ha : askB pl a d
    · rfl
    · rw [ha] at hp
      simp only [Bool.not_true, cond_false, Bool.true_eq_false, if_false] at hp ⊢
      obtain ⟨j, rfl, hj, -, -⟩ := askB_nat ha
      simp only [inB_nat, hj, decide_true, Bool.and_self, cond_true, Int.toNat_natCast] at hp ⊢
      have hkn : (pl.getD j SCodePlace.zero).Known = false := by
        by_cases hkn : (pl.getD j SCodePlace.zero).Known = false
        · exact hkn
        · rw [if_neg hkn] at hp; cases hp
      simp only [hkn, Bool.not_false, cond_true, if_true]
theorem target_last_i {m : SModule} (h : m.sz ≤ 1048576) (hb : mOkB m = true) {k : Nat} (hk : k < m.Cores.length) {Bf : BS} {p : CSt × List SCodePlace} {j : Nat} {d : Int} {pl : List SCodePlace} (hpl : pl = p.2 ++ [SCodePlace.mk true (bitI m.Cores[k].Result) []])
    (h1 : ∀ e, bRun e m.Cores[k].Code m.Cores[k].Code.length 0 ([], []) = .inr Bf) (h2 : Bf.2 = []) (h3 : cRun m m.Cores[k] (prS Bf) m.Cores[k].Code.length 0 s0 [] = .inr p) (h4 : ¬ (p.1.kn = true ∧ p.1.h ≠ bitI m.Cores[k].Result))
    (ha : askB pl (j : Int) d = true) (hlen : pl.length ≤ 1048576) (hkn : (pl.getD j SCodePlace.zero).Known = true) {y : Int × Int} (hy : M.i_target m.Cores[k] pl Bf.1 (j : Int) d = some y) : M.i_TargetOf m (k : Int) (j : Int) d = some (y.1, y.2, 0) := by
  have hm := mOk_of hb
  have hcl := hm.cores
  have hkk : (decide ((0 : Int) ≤ (k : Int)) && decide ((k : Int) ≤ (m.Cores.length : Int) - 1)) = true := by
    rw [Bool.and_eq_true, decide_eq_true_eq, decide_eq_true_eq]; omega
  have hi := core_i_ok hm hk h1 h2 h3 h4
  rw [← hpl] at hi
  have ask := ask_bool pl (j : Int) d
  rw [ha] at ask
  have aski := ask_in pl (j : Int)
  obtain ⟨j', e, hj, -, -⟩ := askB_nat ha
  have : j = j' := by omega
  subst this
  have hz : ((0 : Int) != 0) = false := by decide
  unfold M.i_TargetOf M.i_shapedCore
  simp only [Int.toNat_natCast] at ask
  simp only [shape_m_i m h, hb, wrapc (show m.Cores.length ≤ 1048576 by omega), hkk, hi, getD_lt hk, Option.getD_some, Option.isSome_some, Bool.not_true, Bool.or_self, cond_false, Bool.and_self, cond_true, Bool.and_true, Bool.true_or, hz, wrapL hlen, Int.toNat_natCast, ask, aski, hkn, hy, inB_nat, hj, hk, decide_true]
structure Good (m : SModule) (k : Nat) (pl : List SCodePlace) : Prop where
  len : pl.length = (m.Cores.getD k SCore.zero).Code.length + 1
  n : pl.length ≤ 121
  ht : ∀ x ∈ pl, 0 ≤ x.Height ∧ x.Height ≤ 24
  six : ∀ x ∈ pl, x.Blocks.length ≤ 6
  un : ∀ j, j < pl.length → (pl.getD j SCodePlace.zero).Known = false → (pl.getD j SCodePlace.zero).Blocks = [] ∧ M.i_TargetOf m (k : Int) (j : Int) 0 = some (0, 0, 3)
  kn : ∀ j, j < pl.length → (pl.getD j SCodePlace.zero).Known = true → ∀ d : Int, 0 ≤ d → d ≤ ((pl.getD j SCodePlace.zero).Blocks.length : Int) →
    ∃ (to : Nat) (hh : Int), M.i_TargetOf m (k : Int) (j : Int) d = some ((to : Int), hh, 0) ∧ to < pl.length ∧ ((pl.getD to SCodePlace.zero).Known = true → (pl.getD to SCodePlace.zero).Height = hh)
theorem placeP_un {s : CSt} (h : (placeP s).Known = false) : (placeP s).Blocks = [] := by
  unfold placeP at h ⊢
  split
  · rename_i hk; rw [if_pos hk] at h; cases h
  · rfl
theorem placeP_kn {s : CSt} (h : s.kn = true) : (placeP s).Height = s.h := by unfold placeP; rw [if_pos h]
theorem good_of {m : SModule} (h : m.sz ≤ 1048576) (hb : mOkB m = true) {k : Nat} (hk : k < m.Cores.length) (hok : (coreR m m.Cores[k]).2.2 = 0) : Good m k (coreR m m.Cores[k]).1 := by
  have hm := mOk_of hb
  have hn := (hm.core _ (List.getElem_mem hk)).2.2
  obtain ⟨Bf, p, h1, h2, h3, h4, h5⟩ := core_ok (m := m) (c := m.Cores[k]) hok
  have hlen := cRun_len _ _ _ _ _ h3
  rw [List.length_nil, Nat.zero_add] at hlen
  obtain ⟨S, T, R⟩ := run_of hm h1 h3
  have hci := core_i_ok hm hk h1 h2 h3 h4
  have hpl : (coreR m m.Cores[k]).1 = p.2 ++ [SCodePlace.mk true (bitI m.Cores[k].Result) []] := by rw [h5]
  have hmem : ∀ x ∈ p.2, ∃ j, j < m.Cores[k].Code.length ∧ x = placeP (S j) := fun x hx => by
    obtain ⟨j, hj, rfl⟩ := List.mem_iff_getElem.1 hx
    refine ⟨j, by omega, ?_⟩
    rw [← (R.st j (by omega)).2.2, getD_lt hj]
  have hbl : ∀ x ∈ p.2, x.Blocks.length ≤ 6 ∧ ∀ y ∈ x.Blocks, 0 ≤ y ∧ y < (Bf.1.length : Int) := fun x hx => by
    obtain ⟨j, hj, rfl⟩ := hmem x hx
    have hB := R.bi j (by omega)
    have hC := R.ci j (by omega)
    obtain ⟨r, hr⟩ := R.pre j (by omega)
    have hle : (T j).1.length ≤ Bf.1.length := by rw [← prS_len Bf, hr, List.length_append, prS_len]; omega
    unfold placeP
    split
    · simp only [hC.op]
      exact ⟨hB.six, fun y hy => by have := hB.opn y hy; omega⟩
    · simp
  have hht : ∀ x ∈ p.2, 0 ≤ x.Height ∧ x.Height ≤ 24 := fun x hx => by
    obtain ⟨j, hj, rfl⟩ := hmem x hx
    have hC := (R.ci j (by omega)).h
    unfold placeP
    split
    · exact hC
    · simp
  have hbit := bitI_le m.Cores[k].Result
  rw [hpl]
  generalize hpe : p.2 ++ [SCodePlace.mk true (bitI m.Cores[k].Result) []] = pl at *
  have hll : pl.length = m.Cores[k].Code.length + 1 := by rw [← hpe, List.length_append, hlen]; rfl
  have gl : ∀ j, j < m.Cores[k].Code.length → pl.getD j SCodePlace.zero = placeP (S j) := fun j hj => by
    rw [← (R.st j hj).2.2, ← hpe, List.getD_eq_getElem?_getD, List.getD_eq_getElem?_getD, List.getElem?_append_left (by omega)]
  have gn : pl.getD m.Cores[k].Code.length SCodePlace.zero = SCodePlace.mk true (bitI m.Cores[k].Result) [] := by
    rw [← hpe, List.getD_eq_getElem?_getD, List.getElem?_append_right (by omega), hlen, Nat.sub_self]; rfl
  refine ⟨by rw [getD_lt hk]; exact hll, by omega, fun x hx => ?_, fun x hx => ?_, fun j hj hu => ?_, fun j hj hkn d d0 d1 => ?_⟩
  · rw [← hpe] at hx
    rcases List.mem_append.1 hx with hx | hx
    · exact hht x hx
    · simp only [List.mem_cons, List.not_mem_nil, or_false] at hx; subst hx; exact ⟨hbit.1, by have := hbit.2; simp only; omega⟩
  · rw [← hpe] at hx
    rcases List.mem_append.1 hx with hx | hx
    · exact (hbl x hx).1
    · simp only [List.mem_cons, List.not_mem_nil, or_false] at hx; subst hx; simp
  · have hj' : j < m.Cores[k].Code.length := by
      rcases Nat.lt_or_ge j m.Cores[k].Code.length with h | h
      · exact h
      · have : j = m.Cores[k].Code.length := by omega
        subst this; rw [gn] at hu; cases hu
    have hbl0 : (pl.getD j SCodePlace.zero).Blocks = [] := by rw [gl j hj'] at hu ⊢; exact placeP_un hu
    refine ⟨hbl0, target_pre_i h hb hk (j : Int) 0 _ ?_⟩
    unfold preT
    simp only [getD_lt hk]
    rw [if_neg (by rw [hok]; simp), hpl]
    have ha : askB pl (j : Int) 0 = true := by
      unfold askB
      rw [Int.toNat_natCast, hbl0]
      simp only [Bool.and_eq_true, decide_eq_true_eq, List.length_nil]; omega
    rw [ha, if_neg (by simp), Int.toNat_natCast, if_pos hu]
  · have ha : askB pl (j : Int) d = true := by
      unfold askB
      rw [Int.toNat_natCast]
      simp only [Bool.and_eq_true, decide_eq_true_eq]; omega
    have hL : Lead m.Cores[k] Bf p pl j d := ⟨hpe.symm, hlen, hn, hj, d0, d1, hbl⟩
    have hpl2 : pl.length ≤ 1048576 := by omega
    have ti := target_i hL
    by_cases hd : d = ((pl.getD j SCodePlace.zero).Blocks.length : Int)
    · refine ⟨m.Cores[k].Code.length, bitI m.Cores[k].Result, target_last_i h hb hk hpe.symm h1 h2 h3 h4 ha hpl2 hkn (ti.1 hd), by omega, fun _ => by rw [gn]⟩
    · obtain ⟨i, x, e1, hi1, e2, hx⟩ := hL.idx hd
      obtain ⟨q, e, b1, b2, b3, b4, b5, b6, b7, b8, b9, b10⟩ := R.blk h2 hx
      have hq : p.2.getD q SCodePlace.zero = placeP (S q) := (R.st q (by omega)).2.2
      have hqh : (p.2.getD q SCodePlace.zero).Height = (S q).h := by rw [hq]; exact placeP_kn b6
      have hle : 0 ≤ (p.2.getD q SCodePlace.zero).Height ∧ (p.2.getD q SCodePlace.zero).Height ≤ 24 := by
        rw [getD_lt (show q < p.2.length by omega)]; exact hht _ (List.getElem_mem _)
      have htl := target_last_i h hb hk hpe.symm h1 h2 h3 h4 ha hpl2 hkn (ti.2 hd i x q e1 hi1 e2 hx (by omega) b1 hle)
      unfold leadB at htl
      rw [b1, b2, hqh] at htl
      by_cases h25 : opAt m.Cores[k].Code (q : Int) = 25
      · rw [if_pos h25, wrap_i64 (n := (q : Int) + 1) (by omega) (by omega)] at htl
        refine ⟨q + 1, (S q).h, by rw [htl]; rfl, by omega, fun _ => ?_⟩
        rw [gl (q + 1) (by omega), placeP_kn (b8 h25), b7, h25]; simp
      · rw [if_neg h25, wrap_i64 (n := (e : Int) + 1) (by omega) (by omega)] at htl
        refine ⟨e + 1, _, by rw [htl]; rfl, by omega, fun _ => ?_⟩
        by_cases he : e + 1 < m.Cores[k].Code.length
        · rw [gl (e + 1) he, placeP_kn b9, b10, b7]
        · have : e + 1 = m.Cores[k].Code.length := by omega
          rw [this, gn]
          rw [this, R.sn] at b9 b10
          rw [← b7, ← b10]
          exact (Decidable.byContradiction fun hne => h4 ⟨b9, fun q => hne q.symm⟩)
end M
/-
  BRANCHES: the law.
-/
set_option linter.unusedVariables false
set_option linter.unusedSimpArgs false
namespace M
open Go.V (inB slB bigN bigN_le)

theorem tmod_in {a n : Int} (ha : 0 ≤ a) (hn : 0 < n) : 0 ≤ Int.tmod a n ∧ Int.tmod a n < n := ⟨Int.tmod_nonneg _ ha, Int.tmod_lt_of_pos _ hn⟩
theorem a8At_ok (code : List UInt8) (hc : code.length ≤ 1048576) (i : Nat) (hi : i ≤ 1000) (n : Nat) (h1 : 1 ≤ n) (hn : n ≤ 100) : ∃ d : Int, M.l_a8At code (i : Int) (n : Int) = some d ∧ 0 ≤ d ∧ d < n := by
  unfold M.l_a8At
  by_cases h : (n : Int) ≤ 1
  · rw [decide_eq_true h]
    exact ⟨0, rfl, by omega, by omega⟩
  · rw [decide_eq_false h, cond_false]
    have hn0 : ((n : Int) != 0) = true := by simp; omega
    by_cases h0 : code.length = 0
    · have : (((code.length : Nat) : Int) == 0) = true := by rw [h0]; rfl
      rw [this, cond_true, hn0]
      have hw : Go.IntKind.wrap .i64 ((i : Int) * 7) = (i : Int) * 7 := wrap_i64 (by omega) (by omega)
      rw [hw]
      have := tmod_in (a := (i : Int) * 7) (n := (n : Int)) (by omega) (by omega)
      exact ⟨_, rfl, this.1, this.2⟩
    · have hl0 : (((code.length : Nat) : Int) == 0) = false := by rw [beq_eq_false_iff_ne]; omega
      have hl1 : (((code.length : Nat) : Int) != 0) = true := by rw [bne_iff_ne]; omega
      rw [hl0, cond_false]
      have hw : Go.IntKind.wrap .i64 ((i : Int) + 1) = (i : Int) + 1 := wrap_i64 (by omega) (by omega)
      have t1 := tmod_in (a := (i : Int)) (n := ((code.length : Nat) : Int)) (by omega) (by omega)
      have t2 := tmod_in (a := (i : Int) + 1) (n := ((code.length : Nat) : Int)) (by omega) (by omega)
      have q1 : inB (Int.tmod (i : Int) ((code.length : Nat) : Int)) code.length = true := inB_int t1
      have q2 : inB (Int.tmod ((i : Int) + 1) ((code.length : Nat) : Int)) code.length = true := inB_int t2
      have hb1 := (code.getD (Int.tmod (i : Int) ((code.length : Nat) : Int)).toNat 0).toNat_lt
      have hb2 := (code.getD (Int.tmod ((i : Int) + 1) ((code.length : Nat) : Int)).toNat 0).toNat_lt
      simp only [hw, hn0, hl1, q1, q2, Bool.and_self, cond_true]
      generalize (code.getD (Int.tmod (i : Int) ((code.length : Nat) : Int)).toNat 0).toNat = x at hb1
      generalize (code.getD (Int.tmod ((i : Int) + 1) ((code.length : Nat) : Int)).toNat 0).toNat = y at hb2
      have hd : 0 ≤ Int.tdiv (i : Int) ((code.length : Nat) : Int) := Int.tdiv_nonneg (by omega) (by omega)
      have hd2 : Int.tdiv (i : Int) ((code.length : Nat) : Int) ≤ (i : Int) := Int.tdiv_le_self _ (by omega)
      generalize Int.tdiv (i : Int) ((code.length : Nat) : Int) = z at hd hd2
      rw [wrap_i64 (n := (x : Int)) (by omega) (by omega), wrap_i64 (n := (y : Int)) (by omega) (by omega), wrap_i64 (n := z) (by omega) (by omega), wrap_i64 (n := (x : Int) * 31) (by omega) (by omega), wrap_i64 (n := (x : Int) * 31 + (y : Int)) (by omega) (by omega), wrap_i64 (n := (x : Int) * 31 + (y : Int) + z) (by omega) (by omega)]
      have := tmod_in (a := (x : Int) * 31 + (y : Int) + z) (n := (n : Int)) (by omega) (by omega)
      exact ⟨_, rfl, this.1, this.2⟩
theorem foldl_maxI : ∀ (l : List SCodePlace) (a : Int), a ≤ l.foldl maxI a ∧ (∀ x ∈ l, x.Height ≤ l.foldl maxI a) ∧ (∀ N, a ≤ N → (∀ x ∈ l, x.Height ≤ N) → l.foldl maxI a ≤ N)
  | [], a => ⟨Int.le_refl _, fun x hx => by simp at hx, fun N h _ => h⟩
  | y :: r, a => by
    obtain ⟨h1, h2, h3⟩ := foldl_maxI r (maxI a y)
    have hm : a ≤ maxI a y ∧ y.Height ≤ maxI a y ∧ (∀ N, a ≤ N → y.Height ≤ N → maxI a y ≤ N) := by
      unfold maxI
      split
      · exact ⟨Int.le_refl _, by omega, fun N h _ => h⟩
      · exact ⟨by omega, Int.le_refl _, fun N _ h => h⟩
    refine ⟨by simp only [List.foldl_cons]; omega, fun x hx => ?_, fun N ha hx => ?_⟩
    · simp only [List.foldl_cons]
      rcases List.mem_cons.1 hx with rfl | hx
      · omega
      · exact h2 x hx
    · simp only [List.foldl_cons]
      exact h3 N (hm.2.2 N ha (hx y (List.mem_cons.2 (.inl rfl)))) fun x hx' => hx x (List.mem_cons.2 (.inr hx'))
theorem inner_ok (code : List UInt8) (hc : code.length ≤ 1048576) {m : SModule} {k : Nat} {pl : List SCodePlace} (hg : Good m k pl) {high : Int} (hh : ∀ x ∈ pl, x.Height ≤ high) : ∀ (r f j : Nat), r < f → j + r = pl.length →
    M.l_FnTargets_l0_0 code (k : Int) pl high m f (j : Int) = some (.inr (code, (k : Int), m))
  | 0, f, j, h1, h2 => by
    obtain ⟨f, rfl⟩ : ∃ g, f = g + 1 := ⟨f - 1, by omega⟩
    have hk : decide ((j : Int) < ((pl.length : Nat) : Int)) = false := decide_eq_false (by omega)
    rw [M.l_FnTargets_l0_0, hk]; rfl
  | r + 1, f, j, h1, h2 => by
    obtain ⟨f, rfl⟩ : ∃ g, f = g + 1 := ⟨f - 1, by omega⟩
    have hjl : j < pl.length := by omega
    have hn := hg.n
    have hk : decide ((j : Int) < ((pl.length : Nat) : Int)) = true := decide_eq_true (by omega)
    have hin : inB (j : Int) pl.length = true := by rw [inB_nat]; simpa using hjl
    have hw : Go.IntKind.wrap .i64 ((j : Int) + 1) = ((j + 1 : Nat) : Int) := by rw [wrap_i64 (by omega) (by omega)]; omega
    have hmem : pl.getD j SCodePlace.zero ∈ pl := getD_mem _ hjl
    have b1 : decide (high < (pl.getD j SCodePlace.zero).Height) = false := decide_eq_false (by have := hh _ hmem; omega)
    have b2 : decide ((pl.getD j SCodePlace.zero).Height < 0) = false := decide_eq_false (by have := (hg.ht _ hmem).1; omega)
    have ih := inner_ok code hc hg hh r f (j + 1) (by omega) (by omega)
    have h6 := hg.six _ hmem
    rw [M.l_FnTargets_l0_0]
    simp only [hk, cond_true, Int.toNat_natCast, b1, b2, Bool.or_self, cond_false, hin, hw, Bool.true_or, Bool.and_self, Bool.true_and]
    cases hkn : (pl.getD j SCodePlace.zero).Known with
    | false =>
      obtain ⟨u1, u2⟩ := hg.un j hjl hkn
      have hw1 : Go.IntKind.wrap .i64 ((((pl.getD j SCodePlace.zero).Blocks.length : Nat) : Int) + 1) = ((1 : Nat) : Int) := by rw [u1]; exact wrap_i64 (by simp) (by simp)
      obtain ⟨d, e1, d0, d1⟩ := a8At_ok code hc j (by omega) 1 (by omega) (by omega)
      have hd : d = 0 := by omega
      subst hd
      have h3 : ((3 : Int) != 3) = false := rfl
      simp only [Bool.not_false, cond_true, hw1, e1, Option.getD_some, u2, h3, cond_false, Option.isSome_some, Bool.and_self]
      exact ih
    | true =>
      have hw1 : Go.IntKind.wrap .i64 ((((pl.getD j SCodePlace.zero).Blocks.length : Nat) : Int) + 1) = (((pl.getD j SCodePlace.zero).Blocks.length + 1 : Nat) : Int) := by rw [wrap_i64 (by omega) (by omega)]; omega
      obtain ⟨d, e1, d0, d1⟩ := a8At_ok code hc j (by omega) ((pl.getD j SCodePlace.zero).Blocks.length + 1) (by omega) (by omega)
      obtain ⟨to, ht, e2, t1, t2⟩ := hg.kn j hjl hkn d d0 (by omega)
      have h0 : ((0 : Int) != 0) = false := rfl
      have c1 : decide (((to : Nat) : Int) < 0) = false := decide_eq_false (by omega)
      have c2 : decide (((pl.length : Nat) : Int) ≤ ((to : Nat) : Int)) = false := decide_eq_false (by omega)
      have hin2 : inB (to : Int) pl.length = true := by rw [inB_nat]; simpa using t1
      have c3 : ((pl.getD to SCodePlace.zero).Known && ((pl.getD to SCodePlace.zero).Height != ht)) = false := by
        cases hk2 : (pl.getD to SCodePlace.zero).Known with
        | false => rfl
        | true => rw [t2 hk2]; simp
      simp only [Bool.not_true, cond_false, hw1, e1, Option.getD_some, e2, h0, c1, c2, Int.toNat_natCast, c3, Bool.or_self, hin2, Bool.true_or, Option.isSome_some, Bool.and_self, cond_true]
      exact ih
theorem checkCore_i {m : SModule} (h : m.sz ≤ 1048576) (hb : mOkB m = true) {k : Nat} (hk : k < m.Cores.length) : M.i_CheckCore m (k : Int) = some (coreR m m.Cores[k]) := by
  have hcl := (mOk_of hb).cores
  have hkk : (decide ((0 : Int) ≤ (k : Int)) && decide ((k : Int) ≤ (m.Cores.length : Int) - 1)) = true := by
    rw [Bool.and_eq_true, decide_eq_true_eq, decide_eq_true_eq]; omega
  obtain ⟨bl, hbl⟩ := core_i_eq (mOk_of hb) hk
  unfold M.i_CheckCore M.i_shapedCore
  simp only [shape_m_i m h, hb, wrapc (show m.Cores.length ≤ 1048576 by omega), hkk, hbl, Option.getD_some, Option.isSome_some, Bool.not_true, cond_false, Bool.and_self, cond_true, Bool.and_true, Bool.true_or, Bool.true_and]
theorem outer_ok (code : List UInt8) (hc : code.length ≤ 1048576) {m : SModule} (h : m.sz ≤ 1048576) (hb : mOkB m = true) (hok : ∀ k (hk : k < m.Cores.length), (coreR m m.Cores[k]).2.2 = 0) : ∀ (r f k : Nat), r < f → k + r = m.Cores.length →
    M.l_FnTargets_l0 f code (k : Int) m = some (.inr m)
  | 0, f, k, h1, h2 => by
    obtain ⟨f, rfl⟩ : ∃ g, f = g + 1 := ⟨f - 1, by omega⟩
    have hk : decide ((k : Int) < ((m.Cores.length : Nat) : Int)) = false := decide_eq_false (by omega)
    rw [M.l_FnTargets_l0, hk]; rfl
  | r + 1, f, k, h1, h2 => by
    obtain ⟨f, rfl⟩ : ∃ g, f = g + 1 := ⟨f - 1, by omega⟩
    have hkl : k < m.Cores.length := by omega
    have hcl := (mOk_of hb).cores
    have hk : decide ((k : Int) < ((m.Cores.length : Nat) : Int)) = true := decide_eq_true (by omega)
    have hin : inB (k : Int) m.Cores.length = true := by rw [inB_nat]; simpa using hkl
    have hw : Go.IntKind.wrap .i64 ((k : Int) + 1) = ((k + 1 : Nat) : Int) := by rw [wrap_i64 (by omega) (by omega)]; omega
    have hg := good_of h hb hkl (hok k hkl)
    have hcc := checkCore_i h hb hkl
    have h0 := hok k hkl
    have hhi : M.i_HighestOf m (k : Int) = some ((coreR m m.Cores[k]).1.foldl maxI 0, 0) := by
      rw [highest_i m _ h]
      unfold highR coreH
      have hkk : (decide ((0 : Int) ≤ (k : Int)) && decide ((k : Int) ≤ (m.Cores.length : Int) - 1)) = true := by
        rw [Bool.and_eq_true, decide_eq_true_eq, decide_eq_true_eq]; omega
      rw [hb, hkk, Bool.and_self, if_pos rfl, Int.toNat_natCast, getD_lt hkl, if_neg (by rw [h0]; simp)]
    have hfm := foldl_maxI (coreR m m.Cores[k]).1 0
    have hcr : coreR m m.Cores[k] = ((coreR m m.Cores[k]).1, (coreR m m.Cores[k]).2.1, 0) := by rw [← h0]
    have hlen := hg.len
    have hn := hg.n
    have hz : ((0 : Int) != 0) = false := rfl
    have ih := outer_ok code hc h hb hok r f (k + 1) (by omega) (by omega)
    generalize (coreR m m.Cores[k]).1 = pl at *
    have hwl : Go.IntKind.wrap .i64 ((((m.Cores.getD k SCore.zero).Code.length : Nat) : Int) + 1) = ((pl.length : Nat) : Int) := by rw [wrap_i64 (by omega) (by omega)]; omega
    have hne : (((pl.length : Nat) : Int) != ((pl.length : Nat) : Int)) = false := by simp
    have h24 : decide ((24 : Int) < pl.foldl maxI 0) = false := decide_eq_false (by
      have := hfm.2.2 24 (by omega) fun x hx => (hg.ht x hx).2
      omega)
    have hinn := inner_ok code hc hg hfm.2.1 pl.length bigN 0 (by have := bigN_le; omega) (by omega)
    have hinn' : M.l_FnTargets_l0_0 code (k : Int) pl (pl.foldl maxI 0) m bigN 0 = _ := hinn
    rw [M.l_FnTargets_l0]
    rw [hcr] at hcc
    simp only [hk, cond_true, hcc, hhi, Option.getD_some, hz, Bool.or_self, Int.toNat_natCast, hwl, hne, h24, cond_false, hinn', hin, Bool.true_or, Option.isSome_some, Bool.and_self, hw]
    exact ih
theorem law_Targets (code : List UInt8) : M.l_FnTargets code = some true := by
  unfold M.l_FnTargets
  by_cases hc : (1048576 : Int) < ((code.length : Nat) : Int)
  · rw [decide_eq_true hc]; rfl
  · rw [decide_eq_false hc, cond_false]
    have hc' : code.length ≤ 1048576 := by omega
    obtain ⟨md, e, hsz, hv⟩ := a8_ok code hc'
    have hb : mOkB md = true := by
      unfold chkR at hv
      cases hm : mOkB md
      · rw [hm] at hv; simp at hv
      · rfl
    have hok : ∀ k (hk : k < md.Cores.length), (coreR md md.Cores[k]).2.2 = 0 := fun k hk => by
      unfold chkR at hv
      rw [hb, if_pos rfl] at hv
      unfold modR at hv
      cases hf : md.Cores.findIdx? (fun c => (coreR md c).2.2 != 0) with
      | none =>
        have := (List.findIdx?_eq_none_iff.1 hf) _ (List.getElem_mem hk)
        simpa using this
      | some j =>
        rw [hf] at hv
        obtain ⟨hj, hp, -⟩ := List.findIdx?_eq_some_iff_getElem.1 hf
        simp only [getD_lt hj] at hv
        rw [hv] at hp; simp at hp
    have ho := outer_ok code hc' hsz hb hok md.Cores.length bigN 0 (by have := (mOk_of hb).cores; have := bigN_le; omega) (by omega)
    have ho' : M.l_FnTargets_l0 bigN code 0 md = _ := ho
    have hz : ((0 : Int) == 0) = true := rfl
    simp only [e, Option.getD_some, ho', mok_i md hsz, check_i md hsz, hv, hz, Option.isSome_some, Bool.true_or, Bool.and_self, cond_true]
end M
