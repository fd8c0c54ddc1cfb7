/-
  RUNNING NUMBERS in plain Lean: a list whose elements are marked one behind the other.
-/
import Derived.Test.YtmgbhalimhbejaaGreatXRpl4
import Derived.Test.YtmgbhalimhbejaaGreatXRSM
import Derived.Test.YtmgbhalimhbejaaGreatXRSH
import Derived.Test.YtmgbhalimhbejaaGreatXRY
set_option linter.unusedVariables false
namespace M
open Go.V (inB slB bigN bigN_le)

def markL {α : Type} (mk : Int → α → Int × α) : Int → List α → Int × List α
  | k, [] => (k, [])
  | k, x :: r => ((markL mk (mk k x).1 r).1, (mk k x).2 :: (markL mk (mk k x).1 r).2)
theorem markL_len {α : Type} (mk : Int → α → Int × α) : ∀ (k : Int) (l : List α), (markL mk k l).2.length = l.length
  | k, [] => rfl
  | k, x :: r => by simp [markL, markL_len mk _ r]
theorem getD_set {α : Type} {l : List α} {i : Nat} (h : i < l.length) (x d : α) : (l.set i x).getD i d = x := by
  rw [List.getD_eq_getElem?_getD, List.getElem?_set_self h]; rfl
theorem mark_loop {α : Type} {F : Nat → Int → Int → List α → Option (Int × List α)} {mk : Int → α → Int × α} (a : List α) (ha : a.length ≤ 1048576) (I : Nat → Int → Prop) (d : α)
    (step : ∀ f k i (l : List α), ∀ h : i < a.length, i < l.length → l.getD i d = a[i] → I i k → F (f + 1) k (i : Int) l = F f (mk k a[i]).1 ((i + 1 : Nat) : Int) (l.set i (mk k a[i]).2) ∧ I (i + 1) (mk k a[i]).1)
    (stop : ∀ f k (l : List α), l.length = a.length → F (f + 1) k (a.length : Int) l = some (k, l)) (k0 : Int) (h0 : I 0 k0) : F bigN k0 0 a = some (markL mk k0 a) := by
  have key : ∀ f i k (l : List α), i ≤ a.length → a.length - i < f → l.length = a.length → (∀ j, i ≤ j → l[j]? = a[j]?) → I i k → F f k (i : Int) l = some ((markL mk k (a.drop i)).1, l.take i ++ (markL mk k (a.drop i)).2) := by
    intro f
    induction f with
    | zero => intro i k l h1 h2; omega
    | succ f ih =>
      intro i k l h1 h2 hl hj hI
      rcases Nat.lt_or_ge i a.length with hi | hi
      · have hg : l.getD i d = a[i] := by rw [List.getD_eq_getElem?_getD, hj i (Nat.le_refl _), List.getElem?_eq_getElem hi]; rfl
        obtain ⟨e, hI'⟩ := step f k i l hi (by omega) hg hI
        rw [e, ih (i + 1) _ _ (by omega) (by omega) (by simpa using hl) (fun j hj' => by rw [List.getElem?_set, if_neg (by omega)]; exact hj j (by omega)) hI', drop_get hi]
        simp only [markL]
        congr 2
        rw [List.take_add_one, List.getElem?_set_self (by omega), List.take_set_of_le (Nat.le_refl _)]
        simp
      · have : i = a.length := by omega
        subst this
        rw [stop f k l hl, List.drop_length, ← hl, List.take_length]
        simp [markL]
  have := key bigN 0 k0 a (Nat.zero_le _) (by have := bigN_le; omega) rfl (fun _ _ => rfl) h0
  simpa using this
theorem held_loop {α E : Type} {F : Nat → Int → Int → Option (Int ⊕ E)} {mk : Int → α → Int × α} {fin : Int → E} (a : List α) (ha : a.length ≤ 1048576) (I : Nat → Int → Prop) (d : α) (k0 : Int) (h0 : I 0 k0)
    (step : ∀ f k i (y : α), ∀ h : i < a.length, ((markL mk k0 a).2).getD i d = y → y = (mk k a[i]).2 → I i k → F (f + 1) k (i : Int) = F f (mk k a[i]).1 ((i + 1 : Nat) : Int) ∧ I (i + 1) (mk k a[i]).1)
    (stop : ∀ f k, F (f + 1) k (a.length : Int) = some (.inr (fin k))) : F bigN k0 0 = some (.inr (fin (markL mk k0 a).1)) := by
  have key : ∀ f i k, i ≤ a.length → a.length - i < f → (markL mk k0 a).2.drop i = (markL mk k (a.drop i)).2 → (markL mk k0 a).1 = (markL mk k (a.drop i)).1 → I i k → F f k (i : Int) = some (.inr (fin (markL mk k (a.drop i)).1)) := by
    intro f
    induction f with
    | zero => intro i k h1 h2; omega
    | succ f ih =>
      intro i k h1 h2 hd hk hI
      rcases Nat.lt_or_ge i a.length with hi | hi
      · have hlen := markL_len mk k0 a
        have hi' : i < (markL mk k0 a).2.length := by omega
        have hd' := hd
        rw [drop_get hi, markL, drop_get hi'] at hd
        have hg : ((markL mk k0 a).2).getD i d = (mk k a[i]).2 := by
          rw [getD_lt hi']; exact (List.cons.inj hd).1
        obtain ⟨e, hI'⟩ := step f k i _ hi rfl hg hI
        rw [e, ih (i + 1) _ (by omega) (by omega) (List.cons.inj hd).2 (by rw [hk, drop_get hi, markL]) hI', drop_get hi, markL]
      · have : i = a.length := by omega
        subst this
        rw [stop, List.drop_length]; rfl
  have := key bigN 0 k0 (Nat.zero_le _) (by have := bigN_le; omega) rfl rfl h0
  simpa using this
end M
/-
  RUNNING NUMBERS: the mark of a text is some text.
-/
set_option linter.unusedVariables false
set_option linter.unusedSimpArgs false
namespace M
open Go.V (inB slB bigN bigN_le)

theorem mk_digit {n : Nat} (h : n < 10) : Go.IntKind.wrap .u8 (Go.IntKind.wrap .i64 ((48 : Int) + (n : Int))) = ((48 + n : Nat) : Int) := by
  rw [wrap_i64 (by omega) (by omega)]
  have : ∀ m : Fin 10, Go.IntKind.wrap .u8 ((48 : Int) + ((m.val : Nat) : Int)) = ((48 + m.val : Nat) : Int) := by decide
  exact this ⟨n, h⟩
theorem mk_digit_ok {n : Nat} (h : n < 10) : Go.V.u8ok ((48 + n : Nat) : Int) = true := by
  unfold Go.V.u8ok; simp only [Bool.and_eq_true, decide_eq_true_eq]; omega
theorem mk_cat {a b : List UInt8} (h : a.length + b.length ≤ 100000) : Go.V.catB a b = true := by
  unfold Go.V.catB; rw [decide_eq_true_eq]; omega

theorem markText_loop : ∀ (j f k : Nat) (out : List UInt8), k < 10 ^ j → j < f → k < 4611686018427387904 → out.length + j ≤ 1000 → ∃ s, M.l_markText_l0 f (k : Int) out = some s ∧ s.length ≤ out.length + j
  | j, 0, k, out, _, h, _, _ => by omega
  | 0, f + 1, k, out, h1, h2, h3, h4 => by
    have : k = 0 := by simpa using h1
    subst this
    exact ⟨out, by rw [M.l_markText_l0]; simp, Nat.le_refl _⟩
  | j + 1, f + 1, k, out, h1, h2, h3, h4 => by
    rw [M.l_markText_l0]
    rcases Nat.eq_zero_or_pos k with h0 | h0
    · subst h0
      exact ⟨out, by simp, by omega⟩
    · have hd : decide ((0 : Int) < (k : Int)) = true := by rw [decide_eq_true_eq]; omega
      have e3 : Int.tmod (k : Int) 10 = ((k % 10 : Nat) : Int) := (Int.ofNat_tmod k 10).symm
      have e4 : Go.IntKind.wrap .i64 (Int.tdiv (k : Int) 10) = ((k / 10 : Nat) : Int) := by
        rw [show Int.tdiv (k : Int) 10 = ((k / 10 : Nat) : Int) from (Int.ofNat_tdiv k 10).symm, wrap_i64 (by omega) (by omega)]
      have hm : k % 10 < 10 := Nat.mod_lt _ (by decide)
      obtain ⟨s, g1, g2⟩ := markText_loop j f (k / 10) ([Go.V.u8of ((48 + k % 10 : Nat) : Int)] ++ out) (by rw [Nat.pow_succ] at h1; omega) (by omega) (by omega) (by simp; omega)
      refine ⟨s, ?_, by simp at g2; omega⟩
      simp only [hd, e3, e4, mk_digit hm, mk_digit_ok hm, cond_true, List.map_cons, List.map_nil]
      rw [mk_cat (by simp; omega)]
      exact g1
theorem markText_ok (k : Int) (h0 : 0 ≤ k) (h1 : k ≤ 1000000000000) : ∃ s, M.l_markText k = some s := by
  obtain ⟨n, rfl⟩ := Int.eq_ofNat_of_zero_le h0
  unfold M.l_markText
  by_cases hz : (n : Int) ≤ 0
  · rw [decide_eq_true hz]; exact ⟨_, rfl⟩
  · rw [decide_eq_false hz]
    obtain ⟨s, e, hl⟩ := markText_loop 13 bigN n [] (by omega) (by have := bigN_le; omega) (by omega) (by simp)
    rw [e]
    simp only [cond_false]
    rw [mk_cat (by simp at hl ⊢; omega)]
    exact ⟨_, rfl⟩
noncomputable def mT (k : Int) : List UInt8 := (M.l_markText k).getD Inhabited.default
theorem mT_eq {k : Int} (h0 : 0 ≤ k) (h1 : k ≤ 1000000000000) : M.l_markText k = some (mT k) := by
  obtain ⟨s, e⟩ := markText_ok k h0 h1
  unfold mT; rw [e]; rfl

/-! ### texts -/
noncomputable def mS (k : Int) (_ : List UInt8) : Int × List UInt8 := (k + 1, mT k)
theorem mS_le (l : List (List UInt8)) (k : Int) : k ≤ (markL mS k l).1 ∧ (markL mS k l).1 = k + (l.length : Int) := by
  induction l generalizing k with
  | nil => simp [markL]
  | cons x r ih => have := ih (k + 1); simp only [markL, mS, List.length_cons] at *; omega
theorem markS_ok (a : List (List UInt8)) (ha : a.length ≤ 1048576) (k : Int) (h0 : 0 ≤ k) (h1 : k ≤ 100000000000) : M.l_markStringS k a = some (markL mS k a) := by
  unfold M.l_markStringS
  rw [mark_loop (F := M.l_markStringS_l0) (mk := mS) a ha (fun i q => q = k + (i : Int)) [] (fun f q i l hi hl hg hI => by
    subst hI
    rw [M.l_markStringS_l0]
    have hmt := mT_eq (k := k + (i : Int)) (by omega) (by omega)
    have hlt : decide ((i : Int) < ((l.length : Nat) : Int)) = true := by rw [decide_eq_true_eq]; omega
    have hin : inB (i : Int) l.length = true := by rw [inB_nat]; simpa using hl
    simp only [hlt, hin, hmt, Int.toNat_natCast, cond_true, Bool.true_and, Bool.and_true, Option.isSome_some, Option.getD_some, wrapk hi (big_of ha)]
    have hw : Go.IntKind.wrap .i64 (k + (i : Int) + 1) = k + (i : Int) + 1 := wrap_i64 (by omega) (by omega)
    rw [hw]
    exact ⟨rfl, by simp [mS]; omega⟩) (fun f q l hl => by rw [M.l_markStringS_l0]; simp [hl]) k (by simp)]

end M
/-
  RUNNING NUMBERS on types: what is marked is held.
-/
set_option linter.unusedVariables false
set_option linter.unusedSimpArgs false
namespace M
open Go.V (inB slB bigN bigN_le)
theorem SType.p1 (a b c d) : (SType.mk a b c d).Kind = a := rfl
theorem SType.p2 (a b c d) : (SType.mk a b c d).Name = b := rfl
theorem SType.p3 (a b c d) : (SType.mk a b c d).Labels = c := rfl
theorem SType.p4 (a b c d) : (SType.mk a b c d).Kids = d := rfl
mutual
noncomputable def mTy : Int → SType → Int × SType
  | k, .mk _ _ ls ks => ((mTys (markL mS (k + 1 + 1) ls).1 ks).1, .mk k (mT (k + 1)) (markL mS (k + 1 + 1) ls).2 (mTys (markL mS (k + 1 + 1) ls).1 ks).2)
noncomputable def mTys : Int → List SType → Int × List SType
  | k, [] => (k, [])
  | k, x :: r => ((mTys (mTy k x).1 r).1, (mTy k x).2 :: (mTys (mTy k x).1 r).2)
end
theorem mTys_eq : ∀ (k : Int) (l : List SType), mTys k l = markL mTy k l
  | k, [] => by simp only [mTys, markL]
  | k, x :: r => by simp only [mTys, markL, mTys_eq]
theorem mTy_eq (k : Int) (a : SType) : mTy k a = ((markL mTy (markL mS (k + 1 + 1) a.Labels).1 a.Kids).1, .mk k (mT (k + 1)) (markL mS (k + 1 + 1) a.Labels).2 (markL mTy (markL mS (k + 1 + 1) a.Labels).1 a.Kids).2) := by
  cases a; simp only [mTy, mTys_eq]; rfl
mutual
theorem mTy_le : ∀ (x : SType) (k : Int), k ≤ (mTy k x).1 ∧ (mTy k x).1 ≤ k + 2 + 2 * (x.sz : Int)
  | .mk a b ls ks, k => by
    have h1 := mS_le ls (k + 1 + 1)
    have h2 := mTys_le ks (markL mS (k + 1 + 1) ls).1
    have h3 := szL_len List.length ls
    have h4 := SType.szs_eq ks
    simp only [mTy, SType.sz]
    omega
theorem mTys_le : ∀ (l : List SType) (k : Int), k ≤ (mTys k l).1 ∧ (mTys k l).1 ≤ k + 2 * (szL SType.sz l : Int)
  | [], k => by simp [mTys, szL]
  | x :: r, k => by
    have h1 := mTy_le x k
    have h2 := mTys_le r (mTy k x).1
    simp only [mTys, szL]
    omega
end
theorem markTys_le (l : List SType) (k : Int) : k ≤ (markL mTy k l).1 ∧ (markL mTy k l).1 ≤ k + 2 * (szL SType.sz l : Int) := by
  rw [← mTys_eq]; exact mTys_le l k
theorem markTys_n : ∀ (n : Nat) (a : List SType) (k : Int), szL SType.sz a < n → szL SType.sz a ≤ 1048576 → 0 ≤ k → k + 2 * (szL SType.sz a : Int) ≤ 100000000000 → M.l_markTypeS_n n k a = some (markL mTy k a)
  | 0, a, k, h, _, _, _ => by omega
  | n + 1, a, k, h, hz, h0, h1 => by
    have hlen := szL_len SType.sz a
    show M.l_markTypeS_b (M.l_markTypeS_n n) k a = _
    unfold M.l_markTypeS_b
    rw [mark_loop (F := M.l_markTypeS_l0 (M.l_markTypeS_n n)) (mk := mTy) a (by omega) (fun i q => 0 ≤ q ∧ q + 2 * (szL SType.sz (a.drop i) : Int) ≤ 100000000000) SType.zero (fun f q i l hi hl hg hI => by
      rw [drop_get hi, szL] at hI
      have hle := mTy_le a[i] q
      have hmem := szL_mem SType.sz a a[i] (List.getElem_mem hi)
      have hpos := szL_pos SType.sz a a[i] (List.getElem_mem hi)
      have hs := SType.sz_eq a[i]
      have hll := szL_len List.length a[i].Labels
      have hkk := szL_len SType.sz a[i].Kids
      have hms := mS_le a[i].Labels (q + 1 + 1)
      rw [M.l_markTypeS_l0]
      have hlt : decide ((i : Int) < ((l.length : Nat) : Int)) = true := by rw [decide_eq_true_eq]; omega
      have hin : inB (i : Int) l.length = true := by rw [inB_nat]; simpa using hl
      have w1 : Go.IntKind.wrap .i64 (q + 1) = q + 1 := wrap_i64 (by omega) (by omega)
      have w2 : Go.IntKind.wrap .i64 (q + 1 + 1) = q + 1 + 1 := wrap_i64 (by omega) (by omega)
      have e1 := mT_eq (k := q + 1) (by omega) (by omega)
      have e2 := markS_ok a[i].Labels (by omega) (q + 1 + 1) (by omega) (by omega)
      have e3 := markTys_n n a[i].Kids (markL mS (q + 1 + 1) a[i].Labels).1 (by omega) (by omega) (by omega) (by omega)
      refine ⟨?_, by omega, by omega⟩
      simp only [hlt, hin, Int.toNat_natCast, cond_true, Bool.true_and, Bool.and_true, getD_set, hl, List.length_set, hg, w1, w2, SType.p1, SType.p2, SType.p3, SType.p4, e1, e2, e3, Option.isSome_some, Option.getD_some, wrapk hi (big_of (show a.length ≤ 1048576 by omega)), List.set_set]
      rw [mTy_eq]) (fun f q l hl => by rw [M.l_markTypeS_l0]; simp [hl]) k ⟨h0, by simpa using h1⟩]
theorem markTys_ok (a : List SType) (k : Int) (hz : szL SType.sz a ≤ 1048576) (h0 : 0 ≤ k) (h1 : k ≤ 1000000000) : M.l_markTypeS k a = some (markL mTy k a) :=
  markTys_n _ a k (by have := bigN_le; omega) hz h0 (by omega)
theorem heldS_ok (a : List (List UInt8)) (ha : a.length ≤ 1048576) (k : Int) (h0 : 0 ≤ k) (h1 : k ≤ 100000000000) : M.l_heldStringS (markL mS k a).2 k = some (markL mS k a).1 := by
  unfold M.l_heldStringS
  rw [held_loop (F := M.l_heldStringS_l0 (markL mS k a).2) (mk := mS) (fin := id) a ha (fun i q => q = k + (i : Int)) [] k (by simp) (fun f q i y hi e1 e2 hI => by
    subst hI; subst e2
    rw [M.l_heldStringS_l0]
    have hmt := mT_eq (k := k + (i : Int)) (by omega) (by omega)
    have hlt : decide ((i : Int) < (((markL mS k a).2.length : Nat) : Int)) = true := by rw [decide_eq_true_eq, markL_len]; omega
    have hin : inB (i : Int) (markL mS k a).2.length = true := by rw [inB_nat, markL_len]; simpa using hi
    have hw : Go.IntKind.wrap .i64 (k + (i : Int) + 1) = k + (i : Int) + 1 := wrap_i64 (by omega) (by omega)
    simp only [hlt, hin, hmt, e1, mS, Int.toNat_natCast, cond_true, cond_false, Bool.true_and, Bool.and_true, Option.isSome_some, Option.getD_some, wrapk hi (big_of ha), beq_self_eq_true, Bool.not_true, hw]
    exact ⟨trivial, by omega⟩) (fun f q => by rw [M.l_heldStringS_l0]; simp [markL_len])]
  rfl

theorem mTy_Kind (k : Int) (a : SType) : (mTy k a).2.Kind = k := by rw [mTy_eq]; rfl
theorem mTy_Name (k : Int) (a : SType) : (mTy k a).2.Name = mT (k + 1) := by rw [mTy_eq]; rfl
theorem mTy_Labels (k : Int) (a : SType) : (mTy k a).2.Labels = (markL mS (k + 1 + 1) a.Labels).2 := by rw [mTy_eq]; rfl
theorem mTy_Kids (k : Int) (a : SType) : (mTy k a).2.Kids = (markL mTy (markL mS (k + 1 + 1) a.Labels).1 a.Kids).2 := by rw [mTy_eq]; rfl
theorem mTy_1 (k : Int) (a : SType) : (mTy k a).1 = (markL mTy (markL mS (k + 1 + 1) a.Labels).1 a.Kids).1 := by rw [mTy_eq]
theorem neg_false {n : Int} (h : 0 ≤ n) : decide (n < 0) = false := by rw [decide_eq_false_iff_not]; omega

theorem heldTys_n : ∀ (n : Nat) (a : List SType) (k : Int), szL SType.sz a < n → szL SType.sz a ≤ 1048576 → 0 ≤ k → k + 2 * (szL SType.sz a : Int) ≤ 100000000000 → M.l_heldTypeS_n n (markL mTy k a).2 k = some (markL mTy k a).1
  | 0, a, k, h, _, _, _ => by omega
  | n + 1, a, k, h, hz, h0, h1 => by
    have hlen := szL_len SType.sz a
    show M.l_heldTypeS_b (M.l_heldTypeS_n n) (markL mTy k a).2 k = _
    unfold M.l_heldTypeS_b
    rw [held_loop (F := M.l_heldTypeS_l0 (M.l_heldTypeS_n n) (markL mTy k a).2) (mk := mTy) (fin := id) a (by omega) (fun i q => 0 ≤ q ∧ q + 2 * (szL SType.sz (a.drop i) : Int) ≤ 100000000000) SType.zero k ⟨h0, by simpa using h1⟩ (fun f q i y hi e1 e2 hI => by
      subst e2
      rw [drop_get hi, szL] at hI
      have hle := mTy_le a[i] q
      have hmem := szL_mem SType.sz a a[i] (List.getElem_mem hi)
      have hpos := szL_pos SType.sz a a[i] (List.getElem_mem hi)
      have hs := SType.sz_eq a[i]
      have hll := szL_len List.length a[i].Labels
      have hkk := szL_len SType.sz a[i].Kids
      have hms := mS_le a[i].Labels (q + 1 + 1)
      rw [M.l_heldTypeS_l0]
      have hlt : decide ((i : Int) < (((markL mTy k a).2.length : Nat) : Int)) = true := by rw [decide_eq_true_eq, markL_len]; omega
      have hin : inB (i : Int) (markL mTy k a).2.length = true := by rw [inB_nat, markL_len]; simpa using hi
      have w1 : Go.IntKind.wrap .i64 (q + 1) = q + 1 := wrap_i64 (by omega) (by omega)
      have w2 : Go.IntKind.wrap .i64 (q + 1 + 1) = q + 1 + 1 := wrap_i64 (by omega) (by omega)
      have m1 := mT_eq (k := q + 1) (by omega) (by omega)
      have m2 := heldS_ok a[i].Labels (by omega) (q + 1 + 1) (by omega) (by omega)
      have m3 := heldTys_n n a[i].Kids (markL mS (q + 1 + 1) a[i].Labels).1 (by omega) (by omega) (by omega) (by omega)
      have n1 := neg_false (n := (markL mS (q + 1 + 1) a[i].Labels).1) (by omega)
      have n2 := neg_false (n := (markL mTy (markL mS (q + 1 + 1) a[i].Labels).1 a[i].Kids).1) (by rw [← mTy_1]; omega)
      refine ⟨?_, by omega, by omega⟩
      simp only [hlt, hin, e1, Int.toNat_natCast, cond_true, cond_false, Bool.true_and, Bool.and_true, mTy_Kind, mTy_Name, mTy_Labels, mTy_Kids, w1, w2, m1, m2, m3, n1, n2, Option.isSome_some, Option.getD_some, wrapk hi (big_of (show a.length ≤ 1048576 by omega)), beq_self_eq_true, bne_self_eq_false, Bool.not_true, Bool.and_self]
      rw [mTy_1]) (fun f q => by rw [M.l_heldTypeS_l0]; simp [markL_len])]
    rfl
theorem heldTys_ok (a : List SType) (k : Int) (hz : szL SType.sz a ≤ 1048576) (h0 : 0 ≤ k) (h1 : k ≤ 1000000000) : M.l_heldTypeS (markL mTy k a).2 k = some (markL mTy k a).1 :=
  heldTys_n _ a k (by have := bigN_le; omega) hz h0 (by omega)

end M
/-
  READING: the law in plain Lean.
-/
set_option linter.unusedVariables false
set_option linter.unusedSimpArgs false
namespace M
open Go.V (inB slB catB bigN bigN_le)

theorem szL_const {α : Type} (f : α → Nat) (N : Nat) : ∀ (l : List α), (∀ x ∈ l, f x ≤ N) → szL f l ≤ (N + 1) * l.length
  | [], _ => by simp [szL]
  | x :: r, h => by
    have h1 := h x (by simp)
    have h2 := szL_const f N r fun y hy => h y (by simp [hy])
    simp only [szL, List.length_cons, Nat.mul_succ]; omega
theorem name_12 {s : List UInt8} (h : nameOk s = true) : s.length ≤ 12 := by
  unfold nameOk at h
  simp only [Bool.and_eq_true, decide_eq_true_eq] at h
  exact h.2.1.2
theorem sz_parts : ∀ (n : Nat) (t : SType), t.sz < n → tShape t = true → t.sz + 1 ≤ 221 * tParts t
  | 0, t, h, _ => by omega
  | n + 1, t, h, ht => by
    have hs := shp ht
    have hz := SType.sz_eq t
    have h1 : t.Name.length ≤ 12 := by
      by_cases hN : t.Name = []
      · rw [hN]; simp
      · exact name_12 (hs.nam hN)
    have h2 : szL List.length t.Labels ≤ 208 := by
      by_cases hL : t.Labels = []
      · rw [hL]; simp [szL]
      · have := hs.labs hL
        unfold labOk at this
        simp only [Bool.and_eq_true, decide_eq_true_eq] at this
        have h3 := szL_const List.length 12 t.Labels fun x hx => name_12 (List.all_eq_true.1 this.2.2 x hx)
        omega
    have h3 : szL SType.sz t.Kids ≤ 221 * kSum t.Kids := by
      have key : ∀ l : List SType, (∀ x ∈ l, x.sz < n ∧ tShape x = true) → szL SType.sz l ≤ 221 * kSum l := fun l => by
        induction l with
        | nil => intro _; simp [szL, kSum]
        | cons y r ih =>
          intro hl
          have a1 := sz_parts n y (hl y (by simp)).1 (hl y (by simp)).2
          have a2 := ih fun x hx => hl x (by simp [hx])
          simp only [szL, kSum]; omega
      exact key _ fun x hx => ⟨by have := SType.kid_lt hx; omega, hs.all x hx⟩
    rw [tParts_eq]; omega
theorem tOk_small {t : SType} (h : tOk t = true) : t.sz ≤ 6000 := by
  unfold tOk at h
  simp only [Bool.and_eq_true, decide_eq_true_eq] at h
  have := sz_parts _ t (Nat.lt_succ_self _) h.2
  omega
end M
