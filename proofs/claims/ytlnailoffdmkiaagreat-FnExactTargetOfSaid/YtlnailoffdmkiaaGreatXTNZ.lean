/-
  WHAT THE PLACES TELL of the blocks' heights; the blocks, whatever End is at first.
-/
import Derived.Test.YtlnailoffdmkiaaGreatXTNX
import Derived.Test.YtlnailoffdmkiaaGreatXTNY
set_option linter.unusedVariables false
set_option linter.unusedSimpArgs false
namespace M
open Go.V (inB slB bigN bigN_le)

/-! ### when all are closed, what End was at first plays no part -/

structure ERel (s t : BS) : Prop where
  op : s.2 = t.2
  len : s.1.length = t.1.length
  st : s.1.map strip = t.1.map strip
  cl : ∀ j : Nat, (j : Int) ∉ s.2 → s.1[j]? = t.1[j]?
theorem strip_getD (l : List SCodeBlock) (j : Nat) : (l.map strip).getD j (strip SCodeBlock.zero) = strip (l.getD j SCodeBlock.zero) := by
  rw [List.getD_eq_getElem?_getD, List.getD_eq_getElem?_getD, List.getElem?_map]
  cases l[j]? <;> rfl
theorem ERel.top {s t : BS} (h : ERel s t) : topI s = topI t ∧ (topB s).At = (topB t).At ∧ (topB s).Else = (topB t).Else ∧ (topB s).Height = (topB t).Height ∧ (topB s).Result = (topB t).Result := by
  have h1 : topI s = topI t := by unfold topI; rw [h.op]
  have h2 : strip (topB s) = strip (topB t) := by
    unfold topB
    rw [← strip_getD, ← strip_getD, h.st, h1]
  refine ⟨h1, ?_, ?_, ?_, ?_⟩
  · have h3 := congrArg SCodeBlock.At h2; exact h3
  · have h3 := congrArg SCodeBlock.Else h2; exact h3
  · have h3 := congrArg SCodeBlock.Height h2; exact h3
  · have h3 := congrArg SCodeBlock.Result h2; exact h3
theorem bStep_erel {e e' : Int} {c : List SIns} {k : Nat} {i : SIns} {s t s' : BS} (hI : BInv k s) (h : ERel s t) (hs : bStep e c k i s = .inr s') : ∃ t', bStep e' c k i t = .inr t' ∧ ERel s' t' := by
  obtain ⟨t1, t2, t3, t4, t5⟩ := h.top
  unfold bStep at hs ⊢
  rw [← h.op, ← t1, ← t2, ← t3, ← t5, ← h.len]
  by_cases ho : opnB i.Op = true
  · rw [if_pos ho] at hs ⊢
    by_cases h6 : s.2.length = 6
    · rw [if_pos h6] at hs; cases hs
    · rw [if_neg h6] at hs ⊢
      injection hs with hs; subst hs
      refine ⟨_, rfl, ⟨rfl, ?_, ?_, ?_⟩⟩
      · simp only [List.length_append, h.len, List.length_cons, List.length_nil]
      · simp only [List.map_append, h.st, List.map_cons, List.map_nil]; rfl
      · intro j hj
        simp only [List.mem_append, List.mem_cons, List.not_mem_nil, or_false, not_or] at hj
        have hjl : j ≠ s.1.length := fun q => hj.2 (by rw [q])
        rcases Nat.lt_or_ge j s.1.length with h1 | h1
        · rw [List.getElem?_append_left h1, List.getElem?_append_left (by rw [← h.len]; exact h1)]
          exact h.cl j hj.1
        · rw [List.getElem?_eq_none (by rw [List.length_append, List.length_cons, List.length_nil]; omega), List.getElem?_eq_none (by rw [List.length_append, ← h.len, List.length_cons, List.length_nil]; omega)]
  · rw [if_neg ho] at hs ⊢
    by_cases h27 : i.Op = 27
    · rw [if_pos h27] at hs ⊢
      by_cases h0 : s.2.length = 0
      · rw [if_pos h0] at hs; cases hs
      · rw [if_neg h0] at hs ⊢
        by_cases hc : opAt c (topB s).At ≠ 26 ∨ 0 ≤ (topB s).Else
        · rw [if_pos hc] at hs; cases hs
        · rw [if_neg hc] at hs ⊢
          injection hs with hs; subst hs
          have ht := topI_lt hI h0
          refine ⟨_, rfl, ⟨rfl, ?_, ?_, ?_⟩⟩
          · simp only [List.length_set, h.len]
          · simp only [List.map_set, h.st]
            rw [← t4]; rfl
          · intro j hj
            have hne : topI s ≠ j := fun q => hj (by
              rw [← q, ht.2, getD_lt (by omega)]; exact List.getElem_mem _)
            rw [List.getElem?_set, List.getElem?_set, if_neg hne, if_neg hne]
            exact h.cl j hj
    · rw [if_neg h27] at hs ⊢
      by_cases h28 : i.Op = 28
      · rw [if_pos h28] at hs ⊢
        by_cases h0 : s.2.length = 0
        · rw [if_pos h0] at hs; cases hs
        · rw [if_neg h0] at hs ⊢
          by_cases hc : (opAt c (topB s).At = 26 ∧ (topB s).Result = true) ∧ (topB s).Else < 0
          · rw [if_pos hc] at hs; cases hs
          · rw [if_neg hc] at hs ⊢
            injection hs with hs; subst hs
            have ht := topI_lt hI h0
            refine ⟨_, rfl, ⟨rfl, ?_, ?_, ?_⟩⟩
            · simp only [List.length_set, h.len]
            · simp only [List.map_set, h.st]
              rw [← t4]
            · intro j hj
              rw [← t4, List.getElem?_set, List.getElem?_set, h.len]
              by_cases hne : topI s = j
              · rw [if_pos hne, if_pos hne]
              · rw [if_neg hne, if_neg hne]
                refine h.cl j fun hm => hj ?_
                simp only at hj ⊢
                rw [List.mem_iff_getElem] at hm ⊢
                obtain ⟨q, hq, hq2⟩ := hm
                have hql : q ≠ s.2.length - 1 := fun w => hne (by
                  unfold topI; rw [← w, getD_lt hq, hq2, Int.toNat_natCast])
                refine ⟨q, by rw [List.length_take]; omega, ?_⟩
                rw [List.getElem_take]; exact hq2
      · rw [if_neg h28] at hs ⊢
        injection hs with hs; subst hs
        exact ⟨_, rfl, h⟩
theorem bRun_erel {e e' : Int} {c : List SIns} : ∀ (n k : Nat) (s t S : BS), BInv k s → ERel s t → bRun e c n k s = .inr S → ∃ T, bRun e' c n k t = .inr T ∧ ERel S T
  | 0, k, s, t, S, hI, h, hs => by
    simp only [bRun] at hs ⊢
    injection hs with hs; subst hs
    exact ⟨_, rfl, h⟩
  | n + 1, k, s, t, S, hI, h, hs => by
    simp only [bRun] at hs ⊢
    cases hx : bStep e c k (c.getD k SIns.zero) s with
    | inl x => rw [hx] at hs; cases hs
    | inr s' =>
      rw [hx] at hs
      obtain ⟨t', ht, hr⟩ := bStep_erel (e' := e') hI h hx
      rw [ht]
      exact bRun_erel n (k + 1) s' t' S (bStep_inv hI hx) hr hs
theorem bRun_closed {e : Int} (e' : Int) {c : List SIns} {n : Nat} {S : BS} (h : bRun e c n 0 ([], []) = .inr S) (h0 : S.2 = []) : bRun e' c n 0 ([], []) = .inr S := by
  obtain ⟨T, hT, hr⟩ := bRun_erel (e' := e') n 0 ([], []) ([], []) S bInv0 ⟨rfl, rfl, rfl, fun _ _ => rfl⟩ h
  rw [hT]
  have h1 : S.1 = T.1 := List.ext_getElem? fun j => hr.cl j (by rw [h0]; simp)
  have h2 : S.2 = T.2 := hr.op
  rw [Prod.ext h1 h2]

/-! ### the places -/

theorem cStep_hs {m : SModule} {c : SCore} {P : List (Int × Bool)} {i : SIns} {s s' : CSt} (h : cStep m c P i s = .inr s') :
    (opnB i.Op = false ∧ s'.hs = s.hs) ∨ (opnB i.Op = true ∧ s.kn = true ∧ s'.hs = s.hs ++ [s'.h] ∧ s'.h = s.h - (if i.Op = 26 then 1 else 0)) := by
  by_cases hn : i.Op = 27 ∨ i.Op = 28
  · left
    have ho : opnB i.Op = false := by
      unfold opnB
      rw [Bool.eq_false_iff, ne_eq, Bool.or_eq_true, Bool.or_eq_true, beq_iff_eq, beq_iff_eq, beq_iff_eq]; omega
    refine ⟨ho, ?_⟩
    unfold cStep at h
    rw [if_pos hn] at h
    split at h
    · cases h
    · split at h
      · injection h with h; subst h; rfl
      · split at h
        · cases h
        · injection h with h; subst h; rfl
  · obtain ⟨⟨q1, -⟩, rfl⟩ := cStep_next hn h
    by_cases ho : opnB i.Op = true
    · right
      refine ⟨ho, q1, ?_, ?_⟩
      · unfold nextP; simp only [ho, if_true]
      · unfold nextP
        have h3 : i.Op = 24 ∨ i.Op = 25 ∨ i.Op = 26 := by
          unfold opnB at ho
          rw [Bool.or_eq_true, Bool.or_eq_true, beq_iff_eq, beq_iff_eq, beq_iff_eq] at ho; omega
        simp only [takeP]
        rcases h3 with h3 | h3 | h3 <;> rw [h3] <;> simp
    · left
      have ho' : opnB i.Op = false := by simpa using ho
      refine ⟨ho', ?_⟩
      unfold nextP; simp only [ho', Bool.false_eq_true, if_false]
/-- what holds of the places ahead of a place -/
structure PInv (c : SCore) (P : List (Int × Bool)) (s : CSt) (a : List SCodePlace) : Prop where
  bl : ∀ x ∈ a, x.Blocks.length ≤ 6 ∧ ∀ y ∈ x.Blocks, 0 ≤ y ∧ y < (s.hs.length : Int)
  ht : ∀ j, j < s.hs.length → ∃ q : Nat, q < a.length ∧ (P.getD j (0, false)).1 = (q : Int) ∧ s.hs.getD j 0 = (a.getD q SCodePlace.zero).Height - (if opAt c.Code (q : Int) = 26 then 1 else 0)
  ah : ∀ x ∈ a, 0 ≤ x.Height ∧ x.Height ≤ 24
theorem pInv_step {m : SModule} {c : SCore} {P : List (Int × Bool)} {e : Int} {k : Nat} {B B' : BS} {s s' : CSt} {a : List SCodePlace} (hI : CInv B s) (hB : BInv k B) (hb : bStep e c.Code k (c.Code.getD k SIns.zero) B = .inr B') (hc : cStep m c P (c.Code.getD k SIns.zero) s = .inr s') (hp : ∃ r, P = prS B' ++ r) (hl : a.length = k) (h : PInv c P s a) : PInv c P s' (a ++ [placeP s]) := by
  have hhs := cStep_hs hc
  have hle : s.hs.length ≤ s'.hs.length := by
    rcases hhs with ⟨_, hh⟩ | ⟨_, _, hh, _⟩ <;> rw [hh]
    · exact Nat.le_refl _
    · rw [List.length_append]; omega
  have hpl : (placeP s).Blocks.length ≤ 6 ∧ (∀ y ∈ (placeP s).Blocks, 0 ≤ y ∧ y < (s.hs.length : Int)) ∧ 0 ≤ (placeP s).Height ∧ (placeP s).Height ≤ 24 := by
    unfold placeP
    have hh := hI.h
    split
    · refine ⟨by simp only [hI.op]; exact hB.six, ?_, hh⟩
      simp only [hI.op, hI.hs]
      exact hB.opn
    · simp
  refine ⟨?_, ?_, ?_⟩
  · intro x hx
    rcases List.mem_append.1 hx with hx | hx
    · have := h.bl x hx
      exact ⟨this.1, fun y hy => by have := this.2 y hy; omega⟩
    · simp only [List.mem_cons, List.not_mem_nil, or_false] at hx; subst hx
      exact ⟨hpl.1, fun y hy => by have := hpl.2.1 y hy; omega⟩
  · have old : ∀ j, j < s.hs.length → ∃ q : Nat, q < (a ++ [placeP s]).length ∧ (P.getD j (0, false)).1 = (q : Int) ∧ s.hs.getD j 0 = ((a ++ [placeP s]).getD q SCodePlace.zero).Height - (if opAt c.Code (q : Int) = 26 then 1 else 0) := fun j hj => by
      obtain ⟨q, q1, q2, q3⟩ := h.ht j hj
      refine ⟨q, by rw [List.length_append]; omega, q2, ?_⟩
      rw [q3, List.getD_eq_getElem?_getD (l := a ++ [placeP s]), List.getElem?_append_left q1, ← List.getD_eq_getElem?_getD]
    rcases hhs with ⟨_, hh⟩ | ⟨ho, hkn, hh, hh'⟩
    · rw [hh]; exact old
    · rw [hh]
      intro j hj
      rw [List.length_append, List.length_cons, List.length_nil] at hj
      rcases Nat.lt_or_ge j s.hs.length with h1 | h1
      · obtain ⟨q, q1, q2, q3⟩ := old j h1
        refine ⟨q, q1, q2, ?_⟩
        rw [← q3, List.getD_eq_getElem?_getD, List.getD_eq_getElem?_getD, List.getElem?_append_left h1]
      · have : j = s.hs.length := by omega
        subst this
        obtain ⟨r, hr⟩ := hp
        refine ⟨k, by rw [List.length_append, hl]; exact Nat.lt_succ_self k, ?_, ?_⟩
        · rcases bStep_pr hb with ⟨_, _, hq, _⟩ | ⟨ho', _, _⟩
          · have hP : P = prS B ++ ((k : Int), (c.Code.getD k SIns.zero).A == 1) :: r := by rw [hr, hq, List.append_assoc]; rfl
            have hlB : (prS B).length = B.1.length := by simp [prS]
            rw [hP, hI.hs, List.getD_eq_getElem?_getD, List.getElem?_append_right (by rw [hlB]; exact Nat.le_refl _), hlB, Nat.sub_self]; rfl
          · rw [ho] at ho'; cases ho'
        · have e1 : (s.hs ++ [s'.h]).getD s.hs.length 0 = s'.h := by
            rw [List.getD_eq_getElem?_getD, List.getElem?_append_right (Nat.le_refl _), Nat.sub_self]; rfl
          have e2 : (a ++ [placeP s]).getD k SCodePlace.zero = placeP s := by
            rw [← hl, List.getD_eq_getElem?_getD, List.getElem?_append_right (Nat.le_refl _), Nat.sub_self]; rfl
          have e3 : (placeP s).Height = s.h := by unfold placeP; rw [if_pos hkn]
          rw [e1, e2, e3, hh']
          rfl
  · intro x hx
    rcases List.mem_append.1 hx with hx | hx
    · exact h.ah x hx
    · simp only [List.mem_cons, List.not_mem_nil, or_false] at hx; subst hx
      exact hpl.2.2
theorem pInv_run {m : SModule} {c : SCore} {P : List (Int × Bool)} {Bf : BS} {e : Int} (hm : MOk m) (hP : P = prS Bf) : ∀ (n k : Nat) (B : BS) (s : CSt) (a : List SCodePlace) (q : CSt × List SCodePlace), BInv k B → CInv B s → bRun e c.Code n k B = .inr Bf → PInv c P s a → a.length = k → cRun m c P n k s a = .inr q → PInv c P q.1 q.2 ∧ CInv Bf q.1
  | 0, k, B, s, a, q, hB, hI, hb, h, hl, hc => by
    simp only [bRun] at hb
    simp only [cRun] at hc
    injection hb with hb; injection hc with hc
    subst hb; subst hc
    exact ⟨h, hI⟩
  | n + 1, k, B, s, a, q, hB, hI, hb, h, hl, hc => by
    simp only [bRun] at hb
    simp only [cRun] at hc
    cases hx : bStep e c.Code k (c.Code.getD k SIns.zero) B with
    | inl x => rw [hx] at hb; cases hb
    | inr B' =>
      rw [hx] at hb
      cases hy : cStep m c P (c.Code.getD k SIns.zero) s with
      | inl x => rw [hy] at hc; cases hc
      | inr s' =>
        rw [hy] at hc
        exact pInv_run hm hP n (k + 1) B' s' _ q (bStep_inv hB hx) (cStep_inv hm hI hx hy) hb
          (pInv_step hI hB hx hy (by rw [hP]; exact (bRun_pre n (k + 1) B' Bf (bStep_inv hB hx) hb).1) hl h) (by rw [List.length_append, hl]; rfl) hc
end M
/-
  A CORE THAT STANDS: its blocks, its places, the heights under the blocks.
-/
set_option linter.unusedVariables false
set_option linter.unusedSimpArgs false
namespace M
open Go.V (inB slB bigN bigN_le)

theorem coreR_len {m : SModule} (hm : MOk m) {c : SCore} (hc : c ∈ m.Cores) : (coreR m c).1.length ≤ 1048576 ∧ ((coreR m c).2.2 ≠ 0 → (coreR m c).1 = []) := by
  have hn := (hm.core _ hc).2.2
  unfold coreR
  cases pbl 0 c with
  | inl p => exact ⟨by simp, fun _ => rfl⟩
  | inr P =>
    simp only
    cases hcr : cRun m c P c.Code.length 0 s0 [] with
    | inl p => exact ⟨by simp, fun _ => rfl⟩
    | inr p =>
      have hlen := cRun_len _ _ _ _ _ hcr
      simp only
      by_cases hq : p.1.kn = true ∧ p.1.h ≠ bitI c.Result
      · rw [if_pos hq]; exact ⟨by simp, fun _ => rfl⟩
      · rw [if_neg hq]
        refine ⟨?_, fun h => absurd rfl h⟩
        rw [List.length_append, hlen]; simp only [List.length_cons, List.length_nil]; omega
theorem wrapc {m : SModule} (h : m.Cores.length ≤ 1048576) : Go.IntKind.wrap .i64 ((m.Cores.length : Int) - 1) = (m.Cores.length : Int) - 1 := wrap_i64 (by omega) (by omega)
theorem blocksP_err {e : Int} {c : SCore} {p : Int × Int} (h : blocksP e c = .inl p) : p.2 ≠ 0 := by
  unfold blocksP at h
  cases hx : bRun e c.Code c.Code.length 0 ([], []) with
  | inl q => rw [hx] at h; injection h with h; subst h; exact bRun_err _ _ _ _ hx
  | inr q =>
    rw [hx] at h
    simp only at h
    split at h
    · cases h
    · injection h with h; subst h
      show (5 : Int) ≠ 0
      decide
theorem core_ok {m : SModule} {c : SCore} (h : (coreR m c).2.2 = 0) : ∃ (Bf : BS) (p : CSt × List SCodePlace), (∀ e, bRun e c.Code c.Code.length 0 ([], []) = .inr Bf) ∧ Bf.2 = [] ∧ cRun m c (prS Bf) c.Code.length 0 s0 [] = .inr p ∧ ¬ (p.1.kn = true ∧ p.1.h ≠ bitI c.Result) ∧ coreR m c = (p.2 ++ [SCodePlace.mk true (bitI c.Result) []], 0, 0) := by
  unfold coreR pbl at h ⊢
  cases hb : blocksP 0 c with
  | inl p =>
    rw [hb] at h
    exact absurd h (blocksP_err hb)
  | inr b =>
    rw [hb] at h
    simp only [mapR] at h ⊢
    obtain ⟨Bf, hrun, hbf, h0⟩ : ∃ Bf : BS, bRun 0 c.Code c.Code.length 0 ([], []) = .inr Bf ∧ Bf.1 = b ∧ Bf.2 = [] := by
      unfold blocksP at hb
      cases hx : bRun 0 c.Code c.Code.length 0 ([], []) with
      | inl q => rw [hx] at hb; cases hb
      | inr q =>
        rw [hx] at hb
        simp only at hb
        split at hb
        · rename_i hl
          injection hb with hb; exact ⟨q, rfl, hb, List.length_eq_zero_iff.1 hl⟩
        · cases hb
    have hP : b.map pr = prS Bf := by rw [← hbf]; rfl
    rw [hP] at h ⊢
    cases hcr : cRun m c (prS Bf) c.Code.length 0 s0 [] with
    | inl p =>
      rw [hcr] at h
      exact absurd h (cRun_err _ _ _ _ _ hcr)
    | inr p =>
      rw [hcr] at h
      simp only at h ⊢
      by_cases hq : p.1.kn = true ∧ p.1.h ≠ bitI c.Result
      · rw [if_pos hq] at h; exact absurd (show (7 : Int) = 0 from h) (by decide)
      · rw [if_neg hq]
        exact ⟨Bf, p, fun e => bRun_closed e hrun h0, h0, hcr, hq, rfl⟩
theorem blocksP_ok {c : SCore} {Bf : BS} (h : ∀ e, bRun e c.Code c.Code.length 0 ([], []) = .inr Bf) (h0 : Bf.2 = []) (e : Int) : blocksP e c = .inr Bf.1 := by
  unfold blocksP
  rw [h e]
  simp only
  rw [if_pos (by rw [h0]; rfl)]
theorem pinv0 (c : SCore) (P : List (Int × Bool)) : PInv c P s0 [] := ⟨fun x hx => by simp at hx, fun j hj => by simp [s0] at hj, fun x hx => by simp at hx⟩
theorem core_inv {m : SModule} {c : SCore} (hm : MOk m) {Bf : BS} {p : CSt × List SCodePlace} (h : ∀ e, bRun e c.Code c.Code.length 0 ([], []) = .inr Bf) (hcr : cRun m c (prS Bf) c.Code.length 0 s0 [] = .inr p) : PInv c (prS Bf) p.1 p.2 ∧ CInv Bf p.1 :=
  pInv_run hm rfl c.Code.length 0 ([], []) s0 [] p bInv0 cinv0 (h 0) (pinv0 c _) rfl hcr
theorem noH_getD (l : List SCodeBlock) (j : Nat) : (l.map noH).getD j (noH SCodeBlock.zero) = noH (l.getD j SCodeBlock.zero) := by
  rw [List.getD_eq_getElem?_getD, List.getD_eq_getElem?_getD, List.getElem?_map]
  cases l[j]? <;> rfl
/-- what both sides know of a block -/
structure BFact (c : SCore) (a : List SCodePlace) (b o : SCodeBlock) (q : Nat) : Prop where
  at_ : o.At = b.At
  end_ : o.End = b.End
  res : o.Result = b.Result
  lt : q < a.length
  qe : b.At = (q : Int)
  ht : o.Height = (a.getD q SCodePlace.zero).Height - (if opAt c.Code (q : Int) = 26 then 1 else 0)
  le : 0 ≤ (a.getD q SCodePlace.zero).Height ∧ (a.getD q SCodePlace.zero).Height ≤ 24
theorem blk_facts {c : SCore} {Bf : BS} {p : CSt × List SCodePlace} {o1 : List SCodeBlock} (hr : SRel (prS Bf) Bf.1 p.1 o1) (hP : PInv c (prS Bf) p.1 p.2) (hI : CInv Bf p.1) {j : Nat} (hj : j < Bf.1.length) :
    ∃ q, BFact c p.2 (Bf.1.getD j SCodeBlock.zero) (o1.getD j SCodeBlock.zero) q := by
  have h2 : noH (o1.getD j SCodeBlock.zero) = noH (Bf.1.getD j SCodeBlock.zero) := by rw [← noH_getD, ← noH_getD, hr.nh]
  have hjh : j < p.1.hs.length := by rw [hI.hs]; exact hj
  obtain ⟨q, q1, q2, q3⟩ := hP.ht j hjh
  refine ⟨q, ?_, ?_, ?_, q1, ?_, ?_, ?_⟩
  · have h3 := congrArg SCodeBlock.At h2; exact h3
  · have h3 := congrArg SCodeBlock.End h2; exact h3
  · have h3 := congrArg SCodeBlock.Result h2; exact h3
  · unfold prS at q2
    rw [pr_getD] at q2
    exact q2
  · rw [hr.hh j hjh, q3]
  · rw [getD_lt q1]
    exact hP.ah _ (List.getElem_mem q1)
theorem srel_len {P : List (Int × Bool)} {b0 : List SCodeBlock} {s : CSt} {o1 : List SCodeBlock} (hr : SRel P b0 s o1) : o1.length = b0.length := by
  have := congrArg List.length hr.nh
  rw [List.length_map, List.length_map] at this
  exact this

/-! ### both sides of a core that stands -/

theorem fin_ok {m : SModule} {c : SCore} (hm : MOk m) (hc : c ∈ m.Cores) {Bf : BS} (h : ∀ e, bRun e c.Code c.Code.length 0 ([], []) = .inr Bf) : Fin_ m c (prS Bf) Bf := by
  have hinv := (bRun_pre c.Code.length 0 ([], []) Bf bInv0 (h 0)).2
  rw [Nat.zero_add] at hinv
  exact ⟨hm, hc, rfl, hinv⟩
theorem core_i_ok {m : SModule} (hm : MOk m) {k : Nat} (hk : k < m.Cores.length) {Bf : BS} {p : CSt × List SCodePlace} (h : ∀ e, bRun e m.Cores[k].Code m.Cores[k].Code.length 0 ([], []) = .inr Bf) (h0 : Bf.2 = []) (hcr : cRun m m.Cores[k] (prS Bf) m.Cores[k].Code.length 0 s0 [] = .inr p) (hq : ¬ (p.1.kn = true ∧ p.1.h ≠ bitI m.Cores[k].Result)) :
    M.i_checked m (k : Int) = some (p.2 ++ [SCodePlace.mk true (bitI m.Cores[k].Result) []], Bf.1, 0, 0) := by
  have hmem := List.getElem_mem hk
  have hn := (hm.core _ hmem).2.2
  unfold M.i_checked
  simp only [Int.toNat_natCast, getD_lt hk, inB_nat, hk, decide_true, Bool.and_true, Bool.and_self]
  generalize hc : m.Cores[k] = c at hn hmem h hcr hq ⊢
  rw [blocks_i c hn, blocksP_ok h h0]
  have hf := fin_ok hm hmem h
  have ho := core_loop_i (e := 0) hf (bl := Bf.1) rfl bigN 0 ([], []) s0 [] (Nat.zero_le _) (by have := bigN_le; omega) bInv0 cinv0 (by rw [Nat.sub_zero]; exact h 0) rfl
  have ho' : M.i_checked_l0 Bf.1 c.Code (c.Code.length : Int) c bigN 0 m.Pages m.Imports m.Cores c.Name c.Params c.Locals c.Result c.Code Bf.1 0 0 true [] [] [] = _ := ho
  rw [Nat.sub_zero, hcr] at ho'
  have hz : ((0 : Int) != 0) = false := by decide
  simp only [Option.getD_some, Option.isSome_some, mapR, hz, cond_false, ho']
  have hlen := cRun_len _ _ _ _ _ hcr
  simp only [bit_i, Option.getD_some, Option.isSome_some, Bool.true_or, Bool.and_self, Bool.and_true, cond_true]
  have hd : decide (p.2.length + ([SCodePlace.mk true (bitI c.Result) []] : List SCodePlace).length ≤ 1073741824) = true := by
    rw [decide_eq_true_eq, hlen]; simp only [List.length_cons, List.length_nil]; omega
  have q : (p.1.kn && (p.1.h != bitI c.Result)) = false := by rw [Bool.eq_false_iff, ne_eq, Bool.and_eq_true, bne_iff_ne]; exact hq
  rw [q, hd]; rfl
end M
/-
  WHERE A BRANCH LEADS: both sides.
-/
set_option linter.unusedVariables false
set_option linter.unusedSimpArgs false
namespace M
open Go.V (inB slB bigN bigN_le)

/-- where a branch out of block b leads, the height there; q: where it opens; h: the height there -/
def leadB (c : SCore) (b : SCodeBlock) (q : Nat) (h : Int) : Int × Int :=
  if opAt c.Code (q : Int) = 25 then (Go.IntKind.wrap .i64 (b.At + 1), h)
  else (Go.IntKind.wrap .i64 (b.End + 1), h - (if opAt c.Code (q : Int) = 26 then 1 else 0) + bitI b.Result)
/-- a place of a core that stands, and a depth that it knows -/
structure Lead (c : SCore) (Bf : BS) (p : CSt × List SCodePlace) (pl : List SCodePlace) (a : Nat) (d : Int) : Prop where
  ple : pl = p.2 ++ [SCodePlace.mk true (bitI c.Result) []]
  len : p.2.length = c.Code.length
  n : c.Code.length ≤ 120
  al : a < pl.length
  d0 : 0 ≤ d
  d1 : d ≤ ((pl.getD a SCodePlace.zero).Blocks.length : Int)
  inv : PInv c (prS Bf) p.1 p.2
  cinv : CInv Bf p.1
theorem Lead.blocks {c : SCore} {Bf : BS} {p : CSt × List SCodePlace} {pl : List SCodePlace} {a : Nat} {d : Int} (h : Lead c Bf p pl a d) : (pl.getD a SCodePlace.zero).Blocks.length ≤ 6 ∧ ∀ y ∈ (pl.getD a SCodePlace.zero).Blocks, 0 ≤ y ∧ y < (Bf.1.length : Int) := by
  have ha := h.al
  rw [getD_lt ha]
  have hm : pl[a] ∈ pl := List.getElem_mem ha
  generalize pl[a] = x at hm
  rw [h.ple] at hm
  rcases List.mem_append.1 hm with hx | hx
  · have := h.inv.bl x hx
    rw [h.cinv.hs] at this
    exact this
  · simp only [List.mem_cons, List.not_mem_nil, or_false] at hx; subst hx
    exact ⟨by simp, fun y hy => by simp at hy⟩
/-- the index of the block that a depth names -/
theorem Lead.idx {c : SCore} {Bf : BS} {p : CSt × List SCodePlace} {pl : List SCodePlace} {a : Nat} {d : Int} (h : Lead c Bf p pl a d) (hd : d ≠ ((pl.getD a SCodePlace.zero).Blocks.length : Int)) :
    ∃ i j : Nat, Go.IntKind.wrap .i64 (Go.IntKind.wrap .i64 (((pl.getD a SCodePlace.zero).Blocks.length : Int) - 1) - d) = (i : Int) ∧ i < (pl.getD a SCodePlace.zero).Blocks.length ∧ (pl.getD a SCodePlace.zero).Blocks.getD i 0 = (j : Int) ∧ j < Bf.1.length := by
  obtain ⟨h6, hb⟩ := h.blocks
  have h0 := h.d0
  have h1 := h.d1
  obtain ⟨i, hi⟩ := Int.eq_ofNat_of_zero_le (by omega : 0 ≤ ((pl.getD a SCodePlace.zero).Blocks.length : Int) - 1 - d)
  have hil : i < (pl.getD a SCodePlace.zero).Blocks.length := by omega
  have hm := hb _ (List.getElem_mem hil)
  obtain ⟨j, hj⟩ := Int.eq_ofNat_of_zero_le hm.1
  refine ⟨i, j, ?_, hil, ?_, by omega⟩
  · rw [wrap_i64 (n := ((pl.getD a SCodePlace.zero).Blocks.length : Int) - 1) (by omega) (by omega), wrap_i64 (by omega) (by omega)]; omega
  · rw [getD_lt hil]; exact hj
theorem Lead.pget {c : SCore} {Bf : BS} {p : CSt × List SCodePlace} {pl : List SCodePlace} {a : Nat} {d : Int} (h : Lead c Bf p pl a d) {q : Nat} (hq : q < p.2.length) : q < pl.length ∧ q < c.Code.length ∧ pl.getD q SCodePlace.zero = p.2.getD q SCodePlace.zero := by
  refine ⟨by rw [h.ple, List.length_append]; omega, by rw [← h.len]; exact hq, ?_⟩
  rw [h.ple, List.getD_eq_getElem?_getD, List.getD_eq_getElem?_getD, List.getElem?_append_left hq]
theorem target_i {c : SCore} {Bf : BS} {p : CSt × List SCodePlace} {pl : List SCodePlace} {a : Nat} {d : Int} (h : Lead c Bf p pl a d) :
    (d = ((pl.getD a SCodePlace.zero).Blocks.length : Int) → M.i_target c pl Bf.1 (a : Int) d = some ((c.Code.length : Int), bitI c.Result)) ∧
    (d ≠ ((pl.getD a SCodePlace.zero).Blocks.length : Int) → ∀ i j q : Nat, Go.IntKind.wrap .i64 (Go.IntKind.wrap .i64 (((pl.getD a SCodePlace.zero).Blocks.length : Int) - 1) - d) = (i : Int) → i < (pl.getD a SCodePlace.zero).Blocks.length → (pl.getD a SCodePlace.zero).Blocks.getD i 0 = (j : Int) → j < Bf.1.length → q < p.2.length → (Bf.1.getD j SCodeBlock.zero).At = (q : Int) → (0 ≤ (p.2.getD q SCodePlace.zero).Height ∧ (p.2.getD q SCodePlace.zero).Height ≤ 24) →
      M.i_target c pl Bf.1 (a : Int) d = some (leadB c (Bf.1.getD j SCodeBlock.zero) q (p.2.getD q SCodePlace.zero).Height)) := by
  have ha := h.al
  constructor
  · intro hd
    unfold M.i_target
    simp only [Int.toNat_natCast, bit_i, Option.isSome_some, Option.getD_some, inB_nat, ha, decide_true, Bool.and_self, cond_true]
    rw [hd, beq_self_eq_true, cond_true]
  · intro hd i j q e1 hi e2 hj hq e3 hh
    obtain ⟨g1, g2, g3⟩ := h.pget hq
    have hdb : (d == ((pl.getD a SCodePlace.zero).Blocks.length : Int)) = false := by rw [beq_eq_false_iff_ne]; exact hd
    have hbit := bitI_le (Bf.1.getD j SCodeBlock.zero).Result
    unfold M.i_target leadB
    simp only [Int.toNat_natCast, bit_i, Option.isSome_some, Option.getD_some, inB_nat, ha, decide_true, hdb, cond_false, e1, e2, e3, hi, hj, g1, g2, g3, Bool.and_self, Bool.true_and, Bool.true_or, cond_true]
    rw [show (c.Code.getD q SIns.zero).Op = opAt c.Code (q : Int) from rfl]
    generalize (p.2.getD q SCodePlace.zero).Height = hh' at hh ⊢
    by_cases h25 : opAt c.Code (q : Int) = 25
    · rw [if_pos h25, h25]; rfl
    · have q25 : (opAt c.Code (q : Int) == 25) = false := by rw [beq_eq_false_iff_ne]; exact h25
      rw [if_neg h25, q25, cond_false]
      by_cases h26 : opAt c.Code (q : Int) = 26
      · rw [if_pos h26, h26]
        simp only [beq_self_eq_true, cond_true]
        rw [wrap_i64 (n := hh' - 1) (by omega) (by omega), wrap_i64 (n := hh' - 1 + bitI (Bf.1.getD j SCodeBlock.zero).Result) (by omega) (by omega)]
      · have q26 : (opAt c.Code (q : Int) == 26) = false := by rw [beq_eq_false_iff_ne]; exact h26
        rw [if_neg h26, q26, cond_false, wrap_i64 (n := hh' + bitI (Bf.1.getD j SCodeBlock.zero).Result) (by omega) (by omega)]
        simp
end M
/-
  A CORE THAT STANDS, as the spec hands it on; where a branch leads: what both sides ask first.
-/
set_option linter.unusedVariables false
set_option linter.unusedSimpArgs false
namespace M
open Go.V (inB slB bigN bigN_le)

theorem core_w_ok {m : SModule} (hm : MOk m) {k : Nat} (hk : k < m.Cores.length) {Bf : BS} {p : CSt × List SCodePlace} (h : ∀ e, bRun e m.Cores[k].Code m.Cores[k].Code.length 0 ([], []) = .inr Bf) (h0 : Bf.2 = []) (hcr : cRun m m.Cores[k] (prS Bf) m.Cores[k].Code.length 0 s0 [] = .inr p) (hq : ¬ (p.1.kn = true ∧ p.1.h ≠ bitI m.Cores[k].Result)) :
    ∃ o1, M.s_l16Core_w m (k : Int) = some (p.2 ++ [SCodePlace.mk true (bitI m.Cores[k].Result) []], 0, 0, m.Pages, m.Imports, m.Cores, m.Cores[k].Name, m.Cores[k].Params, m.Cores[k].Locals, m.Cores[k].Result, m.Cores[k].Code, p.1.h, !p.1.kn, o1, p.1.op) ∧ SRel (prS Bf) Bf.1 p.1 o1 := by
  have hmem := List.getElem_mem hk
  have hn := (hm.core _ hmem).2.2
  unfold M.s_l16Core_w
  simp only [Int.toNat_natCast, getD_lt hk, inB_nat, hk, decide_true, Bool.and_true, Bool.and_self]
  generalize hc : m.Cores[k] = c at hn hmem h hcr hq ⊢
  rw [blocks_s c hn, blocksP_ok h h0]
  have hf := fin_ok hm hmem h
  obtain ⟨o1', ho, hr⟩ := core_loop_w (b0 := Bf.1) (e := -1) hf bigN 0 ([], []) s0 Bf.1 [] (Nat.zero_le _) (by have := bigN_le; omega) bInv0 cinv0 (by rw [Nat.sub_zero]; exact h (-1)) ⟨rfl, fun j hj => by simp [s0] at hj, fun j hj => by simp [s0] at hj, rfl⟩ rfl
  have ho' : M.s_l16Core_w_l0 c bigN 0 m.Pages m.Imports m.Cores c.Name c.Params c.Locals c.Result c.Code 0 false [] Bf.1 [] = _ := ho
  rw [Nat.sub_zero] at ho' hr
  rw [hcr] at ho'
  have hz : ((0 : Int) != 0) = false := by decide
  simp only [Option.getD_some, Option.isSome_some, mapR, hz, cond_false, ho']
  have hlen := cRun_len _ _ _ _ _ hcr
  simp only [one_s, Option.getD_some, Option.isSome_some, Bool.not_not, Bool.true_or, Bool.and_self, Bool.and_true, cond_true]
  have hd : decide (p.2.length + ([SCodePlace.mk true (bitI c.Result) []] : List SCodePlace).length ≤ 1073741824) = true := by
    rw [decide_eq_true_eq, hlen]; simp only [List.length_cons, List.length_nil]; omega
  have q : (p.1.kn && (p.1.h != bitI c.Result)) = false := by rw [Bool.eq_false_iff, ne_eq, Bool.and_eq_true, bne_iff_ne]; exact hq
  rw [q, hd]
  exact ⟨o1', rfl, hr p hcr⟩

/-- the asked place and depth are there -/
def askB (pl : List SCodePlace) (a d : Int) : Bool := (decide (0 ≤ a) && decide (a ≤ (pl.length : Int) - 1)) && (decide (0 ≤ d) && decide (d ≤ ((pl.getD a.toNat SCodePlace.zero).Blocks.length : Int)))
theorem askB_nat {pl : List SCodePlace} {a d : Int} (h : askB pl a d = true) : ∃ j : Nat, a = (j : Int) ∧ j < pl.length ∧ 0 ≤ d ∧ d ≤ ((pl.getD j SCodePlace.zero).Blocks.length : Int) := by
  unfold askB at h
  simp only [Bool.and_eq_true, decide_eq_true_eq] at h
  obtain ⟨⟨h1, h2⟩, h3, h4⟩ := h
  obtain ⟨j, rfl⟩ := Int.eq_ofNat_of_zero_le h1
  rw [Int.toNat_natCast] at h4
  exact ⟨j, rfl, by omega, h3, h4⟩
/-- ahead of a branch's place: what both answer, if it is no place of the code -/
def preT (m : SModule) (k : Nat) (a d : Int) : Option (Int × Int × Int) :=
  let r := coreR m (m.Cores.getD k SCore.zero)
  if r.2.2 ≠ 0 then some (0, 0, r.2.2)
  else if askB r.1 a d = false then some (0, 0, 2)
  else if (r.1.getD a.toNat SCodePlace.zero).Known = false then some (0, 0, 3) else none
theorem ask_bool (pl : List SCodePlace) (a d : Int) : ((!(decide (0 ≤ a) && decide (a ≤ (pl.length : Int) - 1))) || !(decide (0 ≤ d) && decide (d ≤ ((pl.getD a.toNat SCodePlace.zero).Blocks.length : Int)))) = !askB pl a d := by
  unfold askB
  generalize (decide (0 ≤ a) && decide (a ≤ (pl.length : Int) - 1)) = x
  generalize (decide (0 ≤ d) && decide (d ≤ ((pl.getD a.toNat SCodePlace.zero).Blocks.length : Int))) = y
  cases x <;> cases y <;> rfl
theorem ask_in (pl : List SCodePlace) (a : Int) : (inB a pl.length || !((!(decide (0 ≤ a) && decide (a ≤ (pl.length : Int) - 1))) == false)) = true := by
  by_cases h : 0 ≤ a ∧ a ≤ (pl.length : Int) - 1
  · rw [inB_int ⟨h.1, by omega⟩, Bool.true_or]
  · have : (decide (0 ≤ a) && decide (a ≤ (pl.length : Int) - 1)) = false := by
      rw [Bool.eq_false_iff, ne_eq, Bool.and_eq_true, decide_eq_true_eq, decide_eq_true_eq]; exact h
    rw [this]; simp
theorem wrapL {n : Nat} (h : n ≤ 1048576) : Go.IntKind.wrap .i64 ((n : Int) - 1) = (n : Int) - 1 := wrap_i64 (by omega) (by omega)

theorem targetA_s {m : SModule} (h : m.sz ≤ 1048576) (hb : mOkB m = true) {k : Nat} (hk : k < m.Cores.length) (a d : Int) : M.s_TargetOf_a m (k : Int) a d = preT m k a d := by
  have hm := mOk_of hb
  have hcl := hm.cores
  have hr := coreR_len hm (List.getElem_mem hk)
  have hkk : (decide ((0 : Int) ≤ (k : Int)) && decide ((k : Int) ≤ (m.Cores.length : Int) - 1)) = true := by
    rw [Bool.and_eq_true, decide_eq_true_eq, decide_eq_true_eq]; omega
  unfold M.s_TargetOf_a preT
  simp only [shape_m_s m h, hb, wrapc (show m.Cores.length ≤ 1048576 by omega), hkk, core_s_eq hm hk, getD_lt hk, Option.getD_some, Option.isSome_some, Bool.not_true, Bool.or_self, cond_false, Bool.and_self, cond_true, Bool.and_true]
  by_cases h0 : (coreR m m.Cores[k]).2.2 ≠ 0
  · have q : ((coreR m m.Cores[k]).2.2 != 0) = true := by rw [bne_iff_ne]; exact h0
    rw [if_pos h0, q]; rfl
  · have q : ((coreR m m.Cores[k]).2.2 != 0) = false := by rw [Bool.eq_false_iff, ne_eq, bne_iff_ne]; exact h0
    rw [if_neg h0, q, cond_false]
    generalize (coreR m m.Cores[k]).1 = pl at hr ⊢
    simp only [wrapL hr.1, ask_bool, ask_in, cond_true]
    cases ha : askB pl a d
    · rfl
    · simp only [Bool.not_true, cond_false, Bool.true_eq_false, if_false]
      obtain ⟨j, rfl, hj, -, -⟩ := askB_nat ha
      simp only [inB_nat, hj, decide_true, Bool.and_self, cond_true]
      cases (pl.getD (j : Int).toNat SCodePlace.zero).Known <;> rfl
theorem target_pre_i {m : SModule} (h : m.sz ≤ 1048576) (hb : mOkB m = true) {k : Nat} (hk : k < m.Cores.length) (a d : Int) (r : Int × Int × Int) (hp : preT m k a d = some r) : M.i_TargetOf m (k : Int) a d = some r := by
  have hm := mOk_of hb
  have hcl := hm.cores
  have hr := coreR_len hm (List.getElem_mem hk)
  have hkk : (decide ((0 : Int) ≤ (k : Int)) && decide ((k : Int) ≤ (m.Cores.length : Int) - 1)) = true := by
    rw [Bool.and_eq_true, decide_eq_true_eq, decide_eq_true_eq]; omega
  obtain ⟨bl, hbl⟩ := core_i_eq hm hk
  rw [← hp]
  unfold M.i_TargetOf M.i_shapedCore preT at *
  simp only [shape_m_i m h, hb, wrapc (show m.Cores.length ≤ 1048576 by omega), hkk, hbl, getD_lt hk, Option.getD_some, Option.isSome_some, Bool.not_true, Bool.or_self, cond_false, Bool.and_self, cond_true, Bool.and_true, Bool.true_or] at hp ⊢
  by_cases h0 : (coreR m m.Cores[k]).2.2 ≠ 0
  · have q : ((coreR m m.Cores[k]).2.2 != 0) = true := by rw [bne_iff_ne]; exact h0
    rw [if_pos h0, q]; rfl
  · have q : ((coreR m m.Cores[k]).2.2 != 0) = false := by rw [Bool.eq_false_iff, ne_eq, bne_iff_ne]; exact h0
    rw [if_neg h0] at hp ⊢
    rw [q, cond_false]
    generalize (coreR m m.Cores[k]).1 = pl at hr hp ⊢
    simp only [wrapL hr.1, ask_bool, ask_in, cond_true]
    cases ha : askB pl a d
    · rfl
    · rw [ha] at hp
      simp only [Bool.not_true, cond_false, Bool.true_eq_false, if_false] at hp ⊢
      obtain ⟨j, rfl, hj, -, -⟩ := askB_nat ha
      simp only [inB_nat, hj, decide_true, Bool.and_self, cond_true, Int.toNat_natCast] at hp ⊢
      have hkn : (pl.getD j SCodePlace.zero).Known = false := by
        by_cases hkn : (pl.getD j SCodePlace.zero).Known = false
        · exact hkn
        · rw [if_neg hkn] at hp; cases hp
      simp only [hkn, Bool.not_false, cond_true, if_true]
end M
/-
  WHERE A BRANCH LEADS: the law.
-/
set_option linter.unusedVariables false
set_option linter.unusedSimpArgs false
namespace M
open Go.V (inB slB bigN bigN_le)

/-- a core that stands, an asked place that is reached -/
theorem preT_none {m : SModule} (hb : mOkB m = true) {k : Nat} (hk : k < m.Cores.length) {a d : Int} (hp : preT m k a d = none) :
    ∃ (Bf : BS) (p : CSt × List SCodePlace) (j : Nat), (∀ e, bRun e m.Cores[k].Code m.Cores[k].Code.length 0 ([], []) = .inr Bf) ∧ Bf.2 = [] ∧ cRun m m.Cores[k] (prS Bf) m.Cores[k].Code.length 0 s0 [] = .inr p ∧ ¬ (p.1.kn = true ∧ p.1.h ≠ bitI m.Cores[k].Result) ∧
      a = (j : Int) ∧ askB (p.2 ++ [SCodePlace.mk true (bitI m.Cores[k].Result) []]) a d = true ∧ Lead m.Cores[k] Bf p (p.2 ++ [SCodePlace.mk true (bitI m.Cores[k].Result) []]) j d ∧ ((p.2 ++ [SCodePlace.mk true (bitI m.Cores[k].Result) []]).getD j SCodePlace.zero).Known = true := by
  have hm := mOk_of hb
  have hn := (hm.core _ (List.getElem_mem hk)).2.2
  unfold preT at hp
  simp only [getD_lt hk] at hp
  by_cases h0 : (coreR m m.Cores[k]).2.2 ≠ 0
  · rw [if_pos h0] at hp; cases hp
  · rw [if_neg h0] at hp
    obtain ⟨Bf, p, h1, h2, h3, h4, h5⟩ := core_ok (m := m) (c := m.Cores[k]) (by omega)
    rw [h5] at hp
    simp only at hp
    cases ha : askB (p.2 ++ [SCodePlace.mk true (bitI m.Cores[k].Result) []]) a d with
    | false => rw [ha, if_pos rfl] at hp; cases hp
    | true =>
      rw [ha] at hp
      obtain ⟨j, rfl, hj, hd0, hd1⟩ := askB_nat ha
      simp only [Bool.true_eq_false, if_false, Int.toNat_natCast] at hp
      obtain ⟨hP, hC⟩ := core_inv hm h1 h3
      have hlen := cRun_len _ _ _ _ _ h3
      refine ⟨Bf, p, j, h1, h2, h3, h4, rfl, ha, ⟨rfl, by rw [hlen]; simp, hn, hj, hd0, hd1, hP, hC⟩, ?_⟩
      by_cases hkn : ((p.2 ++ [SCodePlace.mk true (bitI m.Cores[k].Result) []]).getD j SCodePlace.zero).Known = false
      · rw [if_pos hkn] at hp; cases hp
      · simpa using hkn
theorem target_last_i {m : SModule} (h : m.sz ≤ 1048576) (hb : mOkB m = true) {k : Nat} (hk : k < m.Cores.length) {Bf : BS} {p : CSt × List SCodePlace} {j : Nat} {d : Int} {pl : List SCodePlace} (hpl : pl = p.2 ++ [SCodePlace.mk true (bitI m.Cores[k].Result) []])
    (h1 : ∀ e, bRun e m.Cores[k].Code m.Cores[k].Code.length 0 ([], []) = .inr Bf) (h2 : Bf.2 = []) (h3 : cRun m m.Cores[k] (prS Bf) m.Cores[k].Code.length 0 s0 [] = .inr p) (h4 : ¬ (p.1.kn = true ∧ p.1.h ≠ bitI m.Cores[k].Result))
    (ha : askB pl (j : Int) d = true) (hlen : pl.length ≤ 1048576) (hkn : (pl.getD j SCodePlace.zero).Known = true) {y : Int × Int} (hy : M.i_target m.Cores[k] pl Bf.1 (j : Int) d = some y) : M.i_TargetOf m (k : Int) (j : Int) d = some (y.1, y.2, 0) := by
  have hm := mOk_of hb
  have hcl := hm.cores
  have hkk : (decide ((0 : Int) ≤ (k : Int)) && decide ((k : Int) ≤ (m.Cores.length : Int) - 1)) = true := by
    rw [Bool.and_eq_true, decide_eq_true_eq, decide_eq_true_eq]; omega
  have hi := core_i_ok hm hk h1 h2 h3 h4
  rw [← hpl] at hi
  have ask := ask_bool pl (j : Int) d
  rw [ha] at ask
  have aski := ask_in pl (j : Int)
  obtain ⟨j', e, hj, -, -⟩ := askB_nat ha
  have : j = j' := by omega
  subst this
  have hz : ((0 : Int) != 0) = false := by decide
  unfold M.i_TargetOf M.i_shapedCore
  simp only [Int.toNat_natCast] at ask
  simp only [shape_m_i m h, hb, wrapc (show m.Cores.length ≤ 1048576 by omega), hkk, hi, getD_lt hk, Option.getD_some, Option.isSome_some, Bool.not_true, Bool.or_self, cond_false, Bool.and_self, cond_true, Bool.and_true, Bool.true_or, hz, wrapL hlen, Int.toNat_natCast, ask, aski, hkn, hy, inB_nat, hj, hk, decide_true]
end M
/-
  WHERE A BRANCH LEADS: as the spec answers; the law.
-/
set_option linter.unusedVariables false
set_option linter.unusedSimpArgs false
namespace M
open Go.V (inB slB bigN bigN_le)

theorem target_s {c : SCore} {Bf : BS} {p : CSt × List SCodePlace} {pl : List SCodePlace} {a : Nat} {d : Int} (h : Lead c Bf p pl a d) {o1 : List SCodeBlock} (hr : SRel (prS Bf) Bf.1 p.1 o1) (r : Int) (r2 : List SImport) (r3 : List SCore) (r9 : Int) (r10 : Bool) (o2 : List Int) :
    (d = ((pl.getD a SCodePlace.zero).Blocks.length : Int) → M.s_l16Target_2 (pl.getD a SCodePlace.zero) d r r2 r3 c.Name c.Params c.Locals c.Result c.Code r9 r10 o1 o2 = some ((c.Code.length : Int), bitI c.Result, r, r2, r3, c.Name, c.Params, c.Locals, c.Result, c.Code, r9, r10, o1, o2)) ∧
    (d ≠ ((pl.getD a SCodePlace.zero).Blocks.length : Int) → ∀ i j q : Nat, Go.IntKind.wrap .i64 (Go.IntKind.wrap .i64 (((pl.getD a SCodePlace.zero).Blocks.length : Int) - 1) - d) = (i : Int) → i < (pl.getD a SCodePlace.zero).Blocks.length → (pl.getD a SCodePlace.zero).Blocks.getD i 0 = (j : Int) → j < Bf.1.length → BFact c p.2 (Bf.1.getD j SCodeBlock.zero) (o1.getD j SCodeBlock.zero) q →
      M.s_l16Target_2 (pl.getD a SCodePlace.zero) d r r2 r3 c.Name c.Params c.Locals c.Result c.Code r9 r10 o1 o2 = some ((leadB c (Bf.1.getD j SCodeBlock.zero) q (p.2.getD q SCodePlace.zero).Height).1, (leadB c (Bf.1.getD j SCodeBlock.zero) q (p.2.getD q SCodePlace.zero).Height).2, r, r2, r3, c.Name, c.Params, c.Locals, c.Result, c.Code, r9, r10, o1, o2)) := by
  constructor
  · intro hd
    unfold M.s_l16Target_2
    rw [hd, beq_self_eq_true]
    simp only [one_s, Option.isSome_some, Option.getD_some, Bool.and_self, cond_true]
  · intro hd i j q e1 hi e2 hj hf
    obtain ⟨g1, g2, g3⟩ := h.pget hf.lt
    have hdb : (d == ((pl.getD a SCodePlace.zero).Blocks.length : Int)) = false := by rw [beq_eq_false_iff_ne]; exact hd
    have hl := srel_len hr
    have hjo : j < o1.length := by rw [hl]; exact hj
    have hbit := bitI_le (Bf.1.getD j SCodeBlock.zero).Result
    have hle := hf.le
    have hht := hf.ht
    have hqe := hf.qe
    unfold M.s_l16Target_2 leadB
    simp only [Int.toNat_natCast, one_s, Option.isSome_some, Option.getD_some, inB_nat, decide_true, hdb, cond_false, e1, e2, hi, hjo, hf.at_, hf.end_, hf.res, hqe, g2, Bool.and_self, Bool.true_and, Bool.and_true, Bool.true_or, cond_true, hht]
    rw [show (c.Code.getD q SIns.zero).Op = opAt c.Code (q : Int) from rfl]
    generalize (p.2.getD q SCodePlace.zero).Height = hh' at hle ⊢
    by_cases h25 : opAt c.Code (q : Int) = 25
    · rw [if_pos h25, h25]; simp
    · have q25 : (opAt c.Code (q : Int) == 25) = false := by rw [beq_eq_false_iff_ne]; exact h25
      rw [if_neg h25, q25, cond_false]
      by_cases h26 : opAt c.Code (q : Int) = 26
      · rw [if_pos h26, wrap_i64 (n := hh' - 1 + bitI (Bf.1.getD j SCodeBlock.zero).Result) (by omega) (by omega)]
      · rw [if_neg h26, wrap_i64 (n := hh' - 0 + bitI (Bf.1.getD j SCodeBlock.zero).Result) (by omega) (by omega)]
theorem target_last_s {m : SModule} (h : m.sz ≤ 1048576) (hb : mOkB m = true) {k : Nat} (hk : k < m.Cores.length) {p : CSt × List SCodePlace} {j : Nat} {d : Int} {pl : List SCodePlace} {o1 : List SCodeBlock} {t1 t2 : Int} {R : Int × List SImport × List SCore × List UInt8 × Int × Int × Bool × List SIns × Int × Bool × List SCodeBlock × List Int}
    (hw : M.s_l16Core_w m (k : Int) = some (pl, 0, 0, m.Pages, m.Imports, m.Cores, m.Cores[k].Name, m.Cores[k].Params, m.Cores[k].Locals, m.Cores[k].Result, m.Cores[k].Code, p.1.h, !p.1.kn, o1, p.1.op))
    (ha : askB pl (j : Int) d = true) (hlen : pl.length ≤ 1048576) (hkn : (pl.getD j SCodePlace.zero).Known = true) (hy : M.s_l16Target_2 (pl.getD j SCodePlace.zero) d m.Pages m.Imports m.Cores m.Cores[k].Name m.Cores[k].Params m.Cores[k].Locals m.Cores[k].Result m.Cores[k].Code p.1.h (!p.1.kn) o1 p.1.op = some (t1, t2, R)) : M.s_TargetOf_w m (k : Int) (j : Int) d = some (t1, t2, 0) := by
  have hm := mOk_of hb
  have hcl := hm.cores
  have hkk : (decide ((0 : Int) ≤ (k : Int)) && decide ((k : Int) ≤ (m.Cores.length : Int) - 1)) = true := by
    rw [Bool.and_eq_true, decide_eq_true_eq, decide_eq_true_eq]; omega
  have ask := ask_bool pl (j : Int) d
  rw [ha] at ask
  have aski := ask_in pl (j : Int)
  obtain ⟨j', e, hj, -, -⟩ := askB_nat ha
  have : j = j' := by omega
  subst this
  have hz : ((0 : Int) != 0) = false := by decide
  unfold M.s_TargetOf_w
  simp only [Int.toNat_natCast] at ask
  simp only [shape_m_s m h, hb, wrapc (show m.Cores.length ≤ 1048576 by omega), hkk, hw, Option.getD_some, Option.isSome_some, Bool.not_true, Bool.or_self, cond_false, Bool.and_self, cond_true, Bool.and_true, Bool.true_or, hz, wrapL hlen, Int.toNat_natCast, ask, aski, hkn, hy, inB_nat, hj, decide_true]

theorem targetOf (m : SModule) (k a d : Int) (h : m.sz ≤ 1048576) : ∃ r, M.i_TargetOf m k a d = some r ∧ M.s_TargetOf m k a d = some r := by
  have hcl : m.Cores.length ≤ 1048576 := by
    rw [SModule.sz_eq] at h
    exact Nat.le_trans (szL_len SCore.sz _) (by omega)
  by_cases hg : mOkB m = true ∧ (decide (0 ≤ k) && decide (k ≤ (m.Cores.length : Int) - 1)) = true
  · obtain ⟨hb, hw⟩ := hg
    rw [Bool.and_eq_true, decide_eq_true_eq, decide_eq_true_eq] at hw
    obtain ⟨k, rfl⟩ := Int.eq_ofNat_of_zero_le hw.1
    have hk : k < m.Cores.length := by omega
    have hm := mOk_of hb
    unfold M.s_TargetOf
    show ∃ r, M.i_TargetOf m (k : Int) a d = some r ∧ Option.orElse (M.s_TargetOf_a m (k : Int) a d) (fun _ => M.s_TargetOf_w m (k : Int) a d) = some r
    rw [targetA_s h hb hk]
    cases hp : preT m k a d with
    | some r => exact ⟨r, target_pre_i h hb hk a d r hp, rfl⟩
    | none =>
      obtain ⟨Bf, p, j, h1, h2, h3, h4, rfl, ha, hL, hkn⟩ := preT_none hb hk hp
      obtain ⟨o1, hw, hr⟩ := core_w_ok hm hk h1 h2 h3 h4
      have hlen := cRun_len _ _ _ _ _ h3
      have hn := (hm.core _ (List.getElem_mem hk)).2.2
      generalize hpl : p.2 ++ [SCodePlace.mk true (bitI m.Cores[k].Result) []] = pl at ha hL hkn hw
      have hl : pl.length ≤ 1048576 := by
        rw [← hpl, List.length_append, hlen]; simp only [List.length_cons, List.length_nil]; omega
      have hi := target_i hL
      have hs := target_s hL hr m.Pages m.Imports m.Cores p.1.h (!p.1.kn) p.1.op
      by_cases hd : d = ((pl.getD j SCodePlace.zero).Blocks.length : Int)
      · exact ⟨_, target_last_i h hb hk hpl.symm h1 h2 h3 h4 ha hl hkn (hi.1 hd), target_last_s h hb hk hw ha hl hkn (hs.1 hd)⟩
      · obtain ⟨i, j', e1, hi1, e2, hj'⟩ := hL.idx hd
        obtain ⟨q, hq⟩ := blk_facts hr hL.inv hL.cinv hj'
        exact ⟨_, target_last_i h hb hk hpl.symm h1 h2 h3 h4 ha hl hkn (hi.2 hd i j' q e1 hi1 e2 hj' hq.lt hq.qe hq.le), target_last_s h hb hk hw ha hl hkn (hs.2 hd i j' q e1 hi1 e2 hj' hq)⟩
  · refine ⟨(0, 0, 1), ?_, ?_⟩
    · unfold M.i_TargetOf M.i_shapedCore
      rw [shape_m_i m h, wrapc hcl]
      simp only [Option.getD_some, Option.isSome_some, Bool.and_self, Bool.true_or, Bool.and_true, cond_true]
      have : (mOkB m && (decide (0 ≤ k) && decide (k ≤ (m.Cores.length : Int) - 1))) = false := by
        rw [Bool.eq_false_iff, ne_eq, Bool.and_eq_true]; exact hg
      rw [this]; rfl
    · unfold M.s_TargetOf
      have : M.s_TargetOf_a m k a d = some (0, 0, 1) := by
        unfold M.s_TargetOf_a
        rw [shape_m_s m h, wrapc hcl]
        simp only [Option.getD_some, Option.isSome_some, Bool.and_self, Bool.true_or, Bool.and_true, cond_true]
        have : ((!mOkB m) || !(decide (0 ≤ k) && decide (k ≤ (m.Cores.length : Int) - 1))) = true := by
          rw [← Bool.not_and, Bool.not_eq_true', Bool.eq_false_iff, ne_eq, Bool.and_eq_true]; exact hg
        rw [this]; rfl
      rw [this]; rfl
theorem law_TargetOf (x : SModule) (k a d : Int) (hx : x.Ok) : M.l_FnExactTargetOf x k a d = some true := by
  unfold M.l_FnExactTargetOf
  rw [sz_Module x 1048576 hx (by omega) (by omega)]
  by_cases h1 : (x.sz : Int) ≤ 1048576
  · have n1 : ¬ (1048576 - (x.sz : Int) < 0) := by omega
    obtain ⟨r, hi, hs⟩ := targetOf x k a d (by omega)
    rw [if_pos h1]
    simp only [to_Module x (by omega), hi, hs, eq_Module x (by omega), Option.getD_some, Option.isSome_some, n1, decide_false, cond_false, Bool.and_true, Bool.and_self, cond_true, beq_self_eq_true, bne_self_eq_false, Bool.not_true, Bool.or_false]
  · rw [if_neg h1]; simp
end M
