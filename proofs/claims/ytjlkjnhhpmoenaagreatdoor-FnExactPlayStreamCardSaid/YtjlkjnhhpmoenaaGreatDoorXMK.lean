/-
  RUNNING NUMBERS: the mark of a text is some text.
-/
import Derived.Test.YtjlkjnhhpmoenaaGreatDoorXMK0
import Derived.Test.YtjlkjnhhpmoenaaGreatDoorXLSM
import Derived.Test.YtjlkjnhhpmoenaaGreatDoorXLSH
import Derived.Test.YtjlkjnhhpmoenaaGreatDoorXQU
set_option linter.unusedVariables false
set_option linter.unusedSimpArgs false
namespace M
open Go.V (inB slB bigN bigN_le)

theorem mk_digit {n : Nat} (h : n < 10) : Go.IntKind.wrap .u8 (Go.IntKind.wrap .i64 ((48 : Int) + (n : Int))) = ((48 + n : Nat) : Int) := by
  rw [wrap_i64 (by omega) (by omega)]
  have : ∀ m : Fin 10, Go.IntKind.wrap .u8 ((48 : Int) + ((m.val : Nat) : Int)) = ((48 + m.val : Nat) : Int) := by decide
  exact this ⟨n, h⟩
theorem mk_digit_ok {n : Nat} (h : n < 10) : Go.V.u8ok ((48 + n : Nat) : Int) = true := by
  unfold Go.V.u8ok; simp only [Bool.and_eq_true, decide_eq_true_eq]; omega
theorem mk_cat {a b : List UInt8} (h : a.length + b.length ≤ 100000) : Go.V.catB a b = true := by
  unfold Go.V.catB; rw [decide_eq_true_eq]; omega

theorem markText_loop : ∀ (j f k : Nat) (out : List UInt8), k < 10 ^ j → j < f → k < 4611686018427387904 → out.length + j ≤ 1000 → ∃ s, M.l_markText_l0 f (k : Int) out = some s ∧ s.length ≤ out.length + j
  | j, 0, k, out, _, h, _, _ => by omega
  | 0, f + 1, k, out, h1, h2, h3, h4 => by
    have : k = 0 := by simpa using h1
    subst this
    exact ⟨out, by rw [M.l_markText_l0]; simp, Nat.le_refl _⟩
  | j + 1, f + 1, k, out, h1, h2, h3, h4 => by
    rw [M.l_markText_l0]
    rcases Nat.eq_zero_or_pos k with h0 | h0
    · subst h0
      exact ⟨out, by simp, by omega⟩
    · have hd : decide ((0 : Int) < (k : Int)) = true := by rw [decide_eq_true_eq]; omega
      have e3 : Int.tmod (k : Int) 10 = ((k % 10 : Nat) : Int) := (Int.ofNat_tmod k 10).symm
      have e4 : Go.IntKind.wrap .i64 (Int.tdiv (k : Int) 10) = ((k / 10 : Nat) : Int) := by
        rw [show Int.tdiv (k : Int) 10 = ((k / 10 : Nat) : Int) from (Int.ofNat_tdiv k 10).symm, wrap_i64 (by omega) (by omega)]
      have hm : k % 10 < 10 := Nat.mod_lt _ (by decide)
      obtain ⟨s, g1, g2⟩ := markText_loop j f (k / 10) ([Go.V.u8of ((48 + k % 10 : Nat) : Int)] ++ out) (by rw [Nat.pow_succ] at h1; omega) (by omega) (by omega) (by simp; omega)
      refine ⟨s, ?_, by simp at g2; omega⟩
      simp only [hd, e3, e4, mk_digit hm, mk_digit_ok hm, cond_true, List.map_cons, List.map_nil]
      rw [mk_cat (by simp; omega)]
      exact g1
theorem markText_ok (k : Int) (h0 : 0 ≤ k) (h1 : k ≤ 1000000000000) : ∃ s, M.l_markText k = some s := by
  obtain ⟨n, rfl⟩ := Int.eq_ofNat_of_zero_le h0
  unfold M.l_markText
  by_cases hz : (n : Int) ≤ 0
  · rw [decide_eq_true hz]; exact ⟨_, rfl⟩
  · rw [decide_eq_false hz]
    obtain ⟨s, e, hl⟩ := markText_loop 13 bigN n [] (by omega) (by have := bigN_le; omega) (by omega) (by simp)
    rw [e]
    simp only [cond_false]
    rw [mk_cat (by simp at hl ⊢; omega)]
    exact ⟨_, rfl⟩
noncomputable def mT (k : Int) : List UInt8 := (M.l_markText k).getD Inhabited.default
theorem mT_eq {k : Int} (h0 : 0 ≤ k) (h1 : k ≤ 1000000000000) : M.l_markText k = some (mT k) := by
  obtain ⟨s, e⟩ := markText_ok k h0 h1
  unfold mT; rw [e]; rfl

/-! ### texts -/
noncomputable def mS (k : Int) (_ : List UInt8) : Int × List UInt8 := (k + 1, mT k)
theorem mS_le (l : List (List UInt8)) (k : Int) : k ≤ (markL mS k l).1 ∧ (markL mS k l).1 = k + (l.length : Int) := by
  induction l generalizing k with
  | nil => simp [markL]
  | cons x r ih => have := ih (k + 1); simp only [markL, mS, List.length_cons] at *; omega
theorem markS_ok (a : List (List UInt8)) (ha : a.length ≤ 1048576) (k : Int) (h0 : 0 ≤ k) (h1 : k ≤ 100000000000) : M.l_markStringS k a = some (markL mS k a) := by
  unfold M.l_markStringS
  rw [mark_loop (F := M.l_markStringS_l0) (mk := mS) a ha (fun i q => q = k + (i : Int)) [] (fun f q i l hi hl hg hI => by
    subst hI
    rw [M.l_markStringS_l0]
    have hmt := mT_eq (k := k + (i : Int)) (by omega) (by omega)
    have hlt : decide ((i : Int) < ((l.length : Nat) : Int)) = true := by rw [decide_eq_true_eq]; omega
    have hin : inB (i : Int) l.length = true := by rw [inB_nat]; simpa using hl
    simp only [hlt, hin, hmt, Int.toNat_natCast, cond_true, Bool.true_and, Bool.and_true, Option.isSome_some, Option.getD_some, wrapk hi (big_of ha)]
    have hw : Go.IntKind.wrap .i64 (k + (i : Int) + 1) = k + (i : Int) + 1 := wrap_i64 (by omega) (by omega)
    rw [hw]
    exact ⟨rfl, by simp [mS]; omega⟩) (fun f q l hl => by rw [M.l_markStringS_l0]; simp [hl]) k (by simp)]

end M
/-
  RUNNING NUMBERS on types and values.
-/
set_option linter.unusedVariables false
set_option linter.unusedSimpArgs false
namespace M
open Go.V (inB slB bigN bigN_le)
theorem SType.p1 (a b c d) : (SType.mk a b c d).Kind = a := rfl
theorem SType.p2 (a b c d) : (SType.mk a b c d).Name = b := rfl
theorem SType.p3 (a b c d) : (SType.mk a b c d).Labels = c := rfl
theorem SType.p4 (a b c d) : (SType.mk a b c d).Kids = d := rfl
theorem SValue.p1 (a b c d) : (SValue.mk a b c d).Kind = a := rfl
theorem SValue.p2 (a b c d) : (SValue.mk a b c d).Num = b := rfl
theorem SValue.p3 (a b c d) : (SValue.mk a b c d).Text = c := rfl
theorem SValue.p4 (a b c d) : (SValue.mk a b c d).Kids = d := rfl
mutual
noncomputable def mTy : Int → SType → Int × SType
  | k, .mk _ _ ls ks => ((mTys (markL mS (k + 1 + 1) ls).1 ks).1, .mk k (mT (k + 1)) (markL mS (k + 1 + 1) ls).2 (mTys (markL mS (k + 1 + 1) ls).1 ks).2)
noncomputable def mTys : Int → List SType → Int × List SType
  | k, [] => (k, [])
  | k, x :: r => ((mTys (mTy k x).1 r).1, (mTy k x).2 :: (mTys (mTy k x).1 r).2)
end
theorem mTys_eq : ∀ (k : Int) (l : List SType), mTys k l = markL mTy k l
  | k, [] => by simp only [mTys, markL]
  | k, x :: r => by simp only [mTys, markL, mTys_eq]
theorem mTy_eq (k : Int) (a : SType) : mTy k a = ((markL mTy (markL mS (k + 1 + 1) a.Labels).1 a.Kids).1, .mk k (mT (k + 1)) (markL mS (k + 1 + 1) a.Labels).2 (markL mTy (markL mS (k + 1 + 1) a.Labels).1 a.Kids).2) := by
  cases a; simp only [mTy, mTys_eq]; rfl
mutual
theorem mTy_le : ∀ (x : SType) (k : Int), k ≤ (mTy k x).1 ∧ (mTy k x).1 ≤ k + 2 + 2 * (x.sz : Int)
  | .mk a b ls ks, k => by
    have h1 := mS_le ls (k + 1 + 1)
    have h2 := mTys_le ks (markL mS (k + 1 + 1) ls).1
    have h3 := szL_len List.length ls
    have h4 := SType.szs_eq ks
    simp only [mTy, SType.sz]
    omega
theorem mTys_le : ∀ (l : List SType) (k : Int), k ≤ (mTys k l).1 ∧ (mTys k l).1 ≤ k + 2 * (szL SType.sz l : Int)
  | [], k => by simp [mTys, szL]
  | x :: r, k => by
    have h1 := mTy_le x k
    have h2 := mTys_le r (mTy k x).1
    simp only [mTys, szL]
    omega
end
theorem markTys_le (l : List SType) (k : Int) : k ≤ (markL mTy k l).1 ∧ (markL mTy k l).1 ≤ k + 2 * (szL SType.sz l : Int) := by
  rw [← mTys_eq]; exact mTys_le l k
theorem markTys_n : ∀ (n : Nat) (a : List SType) (k : Int), szL SType.sz a < n → szL SType.sz a ≤ 1048576 → 0 ≤ k → k + 2 * (szL SType.sz a : Int) ≤ 100000000000 → M.l_markTypeS_n n k a = some (markL mTy k a)
  | 0, a, k, h, _, _, _ => by omega
  | n + 1, a, k, h, hz, h0, h1 => by
    have hlen := szL_len SType.sz a
    show M.l_markTypeS_b (M.l_markTypeS_n n) k a = _
    unfold M.l_markTypeS_b
    rw [mark_loop (F := M.l_markTypeS_l0 (M.l_markTypeS_n n)) (mk := mTy) a (by omega) (fun i q => 0 ≤ q ∧ q + 2 * (szL SType.sz (a.drop i) : Int) ≤ 100000000000) SType.zero (fun f q i l hi hl hg hI => by
      rw [drop_get hi, szL] at hI
      have hle := mTy_le a[i] q
      have hmem := szL_mem SType.sz a a[i] (List.getElem_mem hi)
      have hpos := szL_pos SType.sz a a[i] (List.getElem_mem hi)
      have hs := SType.sz_eq a[i]
      have hll := szL_len List.length a[i].Labels
      have hkk := szL_len SType.sz a[i].Kids
      have hms := mS_le a[i].Labels (q + 1 + 1)
      rw [M.l_markTypeS_l0]
      have hlt : decide ((i : Int) < ((l.length : Nat) : Int)) = true := by rw [decide_eq_true_eq]; omega
      have hin : inB (i : Int) l.length = true := by rw [inB_nat]; simpa using hl
      have w1 : Go.IntKind.wrap .i64 (q + 1) = q + 1 := wrap_i64 (by omega) (by omega)
      have w2 : Go.IntKind.wrap .i64 (q + 1 + 1) = q + 1 + 1 := wrap_i64 (by omega) (by omega)
      have e1 := mT_eq (k := q + 1) (by omega) (by omega)
      have e2 := markS_ok a[i].Labels (by omega) (q + 1 + 1) (by omega) (by omega)
      have e3 := markTys_n n a[i].Kids (markL mS (q + 1 + 1) a[i].Labels).1 (by omega) (by omega) (by omega) (by omega)
      refine ⟨?_, by omega, by omega⟩
      simp only [hlt, hin, Int.toNat_natCast, cond_true, Bool.true_and, Bool.and_true, getD_set, hl, List.length_set, hg, w1, w2, SType.p1, SType.p2, SType.p3, SType.p4, e1, e2, e3, Option.isSome_some, Option.getD_some, wrapk hi (big_of (show a.length ≤ 1048576 by omega)), List.set_set]
      rw [mTy_eq]) (fun f q l hl => by rw [M.l_markTypeS_l0]; simp [hl]) k ⟨h0, by simpa using h1⟩]
theorem markTys_ok (a : List SType) (k : Int) (hz : szL SType.sz a ≤ 1048576) (h0 : 0 ≤ k) (h1 : k ≤ 1000000000) : M.l_markTypeS k a = some (markL mTy k a) :=
  markTys_n _ a k (by have := bigN_le; omega) hz h0 (by omega)

mutual
noncomputable def mVa : Int → SValue → Int × SValue
  | k, .mk _ _ _ ks => ((mVas (k + 1 + 1 + 1) ks).1, .mk k (k + 1) (mT (k + 1 + 1)) (mVas (k + 1 + 1 + 1) ks).2)
noncomputable def mVas : Int → List SValue → Int × List SValue
  | k, [] => (k, [])
  | k, x :: r => ((mVas (mVa k x).1 r).1, (mVa k x).2 :: (mVas (mVa k x).1 r).2)
end
theorem mVas_eq : ∀ (k : Int) (l : List SValue), mVas k l = markL mVa k l
  | k, [] => by simp only [mVas, markL]
  | k, x :: r => by simp only [mVas, markL, mVas_eq]
theorem mVa_eq (k : Int) (a : SValue) : mVa k a = ((markL mVa (k + 1 + 1 + 1) a.Kids).1, .mk k (k + 1) (mT (k + 1 + 1)) (markL mVa (k + 1 + 1 + 1) a.Kids).2) := by
  cases a; simp only [mVa, mVas_eq]; rfl
mutual
theorem mVa_le : ∀ (x : SValue) (k : Int), k ≤ (mVa k x).1 ∧ (mVa k x).1 ≤ k + 3 + 3 * (x.sz : Int)
  | .mk a b t ks, k => by
    have h2 := mVas_le ks (k + 1 + 1 + 1)
    have h4 := SValue.szs_eq ks
    simp only [mVa, SValue.sz]
    omega
theorem mVas_le : ∀ (l : List SValue) (k : Int), k ≤ (mVas k l).1 ∧ (mVas k l).1 ≤ k + 3 * (szL SValue.sz l : Int)
  | [], k => by simp [mVas, szL]
  | x :: r, k => by
    have h1 := mVa_le x k
    have h2 := mVas_le r (mVa k x).1
    simp only [mVas, szL]
    omega
end
theorem markVas_le (l : List SValue) (k : Int) : k ≤ (markL mVa k l).1 ∧ (markL mVa k l).1 ≤ k + 3 * (szL SValue.sz l : Int) := by
  rw [← mVas_eq]; exact mVas_le l k
theorem markVas_n : ∀ (n : Nat) (a : List SValue) (k : Int), szL SValue.sz a < n → szL SValue.sz a ≤ 1048576 → 0 ≤ k → k + 3 * (szL SValue.sz a : Int) ≤ 100000000000 → M.l_markValueS_n n k a = some (markL mVa k a)
  | 0, a, k, h, _, _, _ => by omega
  | n + 1, a, k, h, hz, h0, h1 => by
    have hlen := szL_len SValue.sz a
    show M.l_markValueS_b (M.l_markValueS_n n) k a = _
    unfold M.l_markValueS_b
    rw [mark_loop (F := M.l_markValueS_l0 (M.l_markValueS_n n)) (mk := mVa) a (by omega) (fun i q => 0 ≤ q ∧ q + 3 * (szL SValue.sz (a.drop i) : Int) ≤ 100000000000) SValue.zero (fun f q i l hi hl hg hI => by
      rw [drop_get hi, szL] at hI
      have hle := mVa_le a[i] q
      have hmem := szL_mem SValue.sz a a[i] (List.getElem_mem hi)
      have hpos := szL_pos SValue.sz a a[i] (List.getElem_mem hi)
      have hs := SValue.sz_eq a[i]
      have hkk := szL_len SValue.sz a[i].Kids
      rw [M.l_markValueS_l0]
      have hlt : decide ((i : Int) < ((l.length : Nat) : Int)) = true := by rw [decide_eq_true_eq]; omega
      have hin : inB (i : Int) l.length = true := by rw [inB_nat]; simpa using hl
      have w1 : Go.IntKind.wrap .i64 (q + 1) = q + 1 := wrap_i64 (by omega) (by omega)
      have w2 : Go.IntKind.wrap .i64 (q + 1 + 1) = q + 1 + 1 := wrap_i64 (by omega) (by omega)
      have w3 : Go.IntKind.wrap .i64 (q + 1 + 1 + 1) = q + 1 + 1 + 1 := wrap_i64 (by omega) (by omega)
      have e1 := mT_eq (k := q + 1 + 1) (by omega) (by omega)
      have e3 := markVas_n n a[i].Kids (q + 1 + 1 + 1) (by omega) (by omega) (by omega) (by omega)
      refine ⟨?_, by omega, by omega⟩
      simp only [hlt, hin, Int.toNat_natCast, cond_true, Bool.true_and, Bool.and_true, getD_set, hl, List.length_set, hg, w1, w2, w3, SValue.p1, SValue.p2, SValue.p3, SValue.p4, e1, e3, Option.isSome_some, Option.getD_some, wrapk hi (big_of (show a.length ≤ 1048576 by omega)), List.set_set]
      rw [mVa_eq]) (fun f q l hl => by rw [M.l_markValueS_l0]; simp [hl]) k ⟨h0, by simpa using h1⟩]
theorem markVas_ok (a : List SValue) (k : Int) (hz : szL SValue.sz a ≤ 1048576) (h0 : 0 ≤ k) (h1 : k ≤ 1000000000) : M.l_markValueS k a = some (markL mVa k a) :=
  markVas_n _ a k (by have := bigN_le; omega) hz h0 (by omega)
end M
/-
  COPIES in plain Lean: what is put behind, one by one; the copy of a type, of a value.
-/
set_option linter.unusedVariables false
set_option linter.unusedSimpArgs false
namespace M
open Go.V (inB slB bigN bigN_le)

theorem push_loop {α β Y : Type} {F : Nat → Int → List β → Option Y} {h : List β → Option Y} (g : α → β) (l : List α) (hn : l.length ≤ 1048576) (out0 : List β)
    (step : ∀ f k out, ∀ hk : k < l.length, out.length = out0.length + k → F (f + 1) (k : Int) out = F f ((k + 1 : Nat) : Int) (out ++ [g l[k]]))
    (stop : ∀ f out, F (f + 1) (l.length : Int) out = h out) : F bigN 0 out0 = h (out0 ++ l.map g) := by
  have key : ∀ f k out, k ≤ l.length → l.length - k < f → out.length = out0.length + k → F f (k : Int) out = h (out ++ (l.drop k).map g) := by
    intro f
    induction f with
    | zero => intro k out h1 h2; omega
    | succ f ih =>
      intro k out h1 h2 ho
      rcases Nat.lt_or_ge k l.length with hk | hk
      · rw [step f k out hk ho, ih (k + 1) _ (by omega) (by omega) (by simp [ho]; omega), drop_get hk]
        simp only [List.map_cons, List.append_assoc, List.singleton_append]
      · have : k = l.length := by omega
        subst this
        rw [stop, List.drop_length]; simp
  have := key bigN 0 out0 (Nat.zero_le _) (by have := bigN_le; omega) rfl
  simpa using this
theorem cat_le {a b : Nat} (h : a + b ≤ 1073741824) : decide (a + b ≤ 1073741824) = true := by rw [decide_eq_true_eq]; exact h

/-! ### the copy of a type, as the program makes it -/
theorem copyTy_n : ∀ (m : Nat) (t : SType), t.sz < m → t.sz ≤ 1048576 → M.i_copyType_n m t = some (t.Kind, t.Name, t.Labels, t.Kids)
  | 0, t, h, _ => by omega
  | m + 1, t, h, hN => by
    have hs := SType.sz_eq t
    have hkk := szL_len SType.sz t.Kids
    have hll := szL_len List.length t.Labels
    show M.i_copyType_b (M.i_copyType_n m) t = _
    unfold M.i_copyType_b
    have e1 : M.i_copyTypes (M.i_copyType_n m) t.Kids = some t.Kids := by
      unfold M.i_copyTypes
      rw [push_loop (F := M.i_copyTypes_l0 (M.i_copyType_n m) t.Kids (t.Kids.length : Int)) (h := some) id t.Kids (by omega) [] (fun f k out hk ho => by
        have hmem := szL_mem SType.sz t.Kids t.Kids[k] (List.getElem_mem hk)
        have hpos := szL_pos SType.sz t.Kids t.Kids[k] (List.getElem_mem hk)
        rw [M.i_copyTypes_l0]
        have e := copyTy_n m t.Kids[k] (by omega) (by omega)
        have hc := cat_le (a := out.length) (b := 1) (by simp at ho; omega)
        simp only [SType.re_eq, Int.ofNat_lt, hk, decide_true, cond_true, Int.toNat_natCast, getD_lt hk, e, inB_nat, Option.isSome_some, Option.getD_some, SType.eta, List.length_cons, List.length_nil, Nat.zero_add, hc, Bool.true_and, Bool.and_true, wrapk hk (big_of (show t.Kids.length ≤ 1048576 by omega)), id]) (fun f out => by rw [M.i_copyTypes_l0]; simp)]
      simp
    have e2 : M.slices_Clone_string_string t.Labels = some t.Labels := by
      unfold M.slices_Clone_string_string; rw [decide_eq_true (by omega)]; rfl
    simp only [e1, e2, Option.isSome_some, Option.getD_some, Bool.true_and, Bool.and_true, cond_true]
theorem copyTy (t : SType) (h : t.sz ≤ 1048576) : M.i_copyType t = some (t.Kind, t.Name, t.Labels, t.Kids) :=
  copyTy_n _ t (by have := bigN_le; omega) h

/-! ### the copy of a value -/
theorem copyVals_r (rec : SValue → Option (Int × Int × List UInt8 × List SValue)) (l : List SValue) (hl : l.length ≤ 1048576) (hr : ∀ x ∈ l, rec x = some (x.Kind, x.Num, x.Text, x.Kids)) : M.i_copyValues rec l = some l := by
  unfold M.i_copyValues
  rw [push_loop (F := M.i_copyValues_l0 rec l (l.length : Int)) (h := some) id l hl [] (fun f k out hk ho => by
    rw [M.i_copyValues_l0]
    have e := hr l[k] (List.getElem_mem hk)
    have hc := cat_le (a := out.length) (b := 1) (by simp at ho; omega)
    simp only [SValue.re_eq, Int.ofNat_lt, hk, decide_true, cond_true, Int.toNat_natCast, getD_lt hk, e, inB_nat, Option.isSome_some, Option.getD_some, SValue.eta, List.length_cons, List.length_nil, Nat.zero_add, hc, Bool.true_and, Bool.and_true, wrapk hk (big_of hl), id]) (fun f out => by rw [M.i_copyValues_l0]; simp)]
  simp
theorem copyVa_n : ∀ (m : Nat) (t : SValue), t.sz < m → t.sz ≤ 1048576 → M.i_copyValue_n m t = some (t.Kind, t.Num, t.Text, t.Kids)
  | 0, t, h, _ => by omega
  | m + 1, t, h, hN => by
    have hs := SValue.sz_eq t
    have hkk := szL_len SValue.sz t.Kids
    show M.i_copyValue_b (M.i_copyValue_n m) t = _
    unfold M.i_copyValue_b
    have e1 := copyVals_r (M.i_copyValue_n m) t.Kids (by omega) fun x hx => by
      have := szL_mem SValue.sz t.Kids x hx; have := szL_pos SValue.sz t.Kids x hx
      exact copyVa_n m x (by omega) (by omega)
    simp only [e1, Option.isSome_some, Option.getD_some, Bool.true_and, Bool.and_true, cond_true]
theorem copyVa (t : SValue) (h : t.sz ≤ 1048576) : M.i_copyValue t = some (t.Kind, t.Num, t.Text, t.Kids) :=
  copyVa_n _ t (by have := bigN_le; omega) h
theorem copyVals (l : List SValue) (h : szL SValue.sz l ≤ 1048576) : M.i_copyValues M.i_copyValue l = some l :=
  copyVals_r _ l (Nat.le_trans (szL_len _ _) h) fun x hx => copyVa x (Nat.le_trans (szL_mem SValue.sz l x hx) h)
def SStream.tup (s : SStream) : Int × (List UInt8) × Int × Bool × Int × Int × Bool × Bool × (List (List UInt8)) × (List SType) × (List SValue) := (s.Type_.Kind, s.Type_.Name, s.Room, s.Future, s.Put, s.Got, s.Shut, s.Gone, s.Type_.Labels, s.Type_.Kids, s.Buffer)
theorem copyStream (s : SStream) (ht : s.Type_.sz ≤ 1048576) (hb : szL SValue.sz s.Buffer ≤ 1048576) : M.i_copyStream s = some s.tup := by
  unfold M.i_copyStream
  simp only [SType.re_eq, copyVals _ hb, copyTy _ ht, Option.isSome_some, Option.getD_some, Bool.true_and, Bool.and_true, cond_true]
  rfl
end M
/-
  WHAT IS MARKED IS HELD: texts, types, values, streams.
-/
set_option linter.unusedVariables false
set_option linter.unusedSimpArgs false
namespace M
open Go.V (inB slB bigN bigN_le)

theorem heldS_ok (a : List (List UInt8)) (ha : a.length ≤ 1048576) (k : Int) (h0 : 0 ≤ k) (h1 : k ≤ 100000000000) : M.l_heldStringS (markL mS k a).2 k = some (markL mS k a).1 := by
  unfold M.l_heldStringS
  rw [held_loop (F := M.l_heldStringS_l0 (markL mS k a).2) (mk := mS) (fin := id) a ha (fun i q => q = k + (i : Int)) [] k (by simp) (fun f q i y hi e1 e2 hI => by
    subst hI; subst e2
    rw [M.l_heldStringS_l0]
    have hmt := mT_eq (k := k + (i : Int)) (by omega) (by omega)
    have hlt : decide ((i : Int) < (((markL mS k a).2.length : Nat) : Int)) = true := by rw [decide_eq_true_eq, markL_len]; omega
    have hin : inB (i : Int) (markL mS k a).2.length = true := by rw [inB_nat, markL_len]; simpa using hi
    have hw : Go.IntKind.wrap .i64 (k + (i : Int) + 1) = k + (i : Int) + 1 := wrap_i64 (by omega) (by omega)
    simp only [hlt, hin, hmt, e1, mS, Int.toNat_natCast, cond_true, cond_false, Bool.true_and, Bool.and_true, Option.isSome_some, Option.getD_some, wrapk hi (big_of ha), beq_self_eq_true, Bool.not_true, hw]
    exact ⟨trivial, by omega⟩) (fun f q => by rw [M.l_heldStringS_l0]; simp [markL_len])]
  rfl

theorem mTy_Kind (k : Int) (a : SType) : (mTy k a).2.Kind = k := by rw [mTy_eq]; rfl
theorem mTy_Name (k : Int) (a : SType) : (mTy k a).2.Name = mT (k + 1) := by rw [mTy_eq]; rfl
theorem mTy_Labels (k : Int) (a : SType) : (mTy k a).2.Labels = (markL mS (k + 1 + 1) a.Labels).2 := by rw [mTy_eq]; rfl
theorem mTy_Kids (k : Int) (a : SType) : (mTy k a).2.Kids = (markL mTy (markL mS (k + 1 + 1) a.Labels).1 a.Kids).2 := by rw [mTy_eq]; rfl
theorem mTy_1 (k : Int) (a : SType) : (mTy k a).1 = (markL mTy (markL mS (k + 1 + 1) a.Labels).1 a.Kids).1 := by rw [mTy_eq]
theorem neg_false {n : Int} (h : 0 ≤ n) : decide (n < 0) = false := by rw [decide_eq_false_iff_not]; omega

theorem heldTys_n : ∀ (n : Nat) (a : List SType) (k : Int), szL SType.sz a < n → szL SType.sz a ≤ 1048576 → 0 ≤ k → k + 2 * (szL SType.sz a : Int) ≤ 100000000000 → M.l_heldTypeS_n n (markL mTy k a).2 k = some (markL mTy k a).1
  | 0, a, k, h, _, _, _ => by omega
  | n + 1, a, k, h, hz, h0, h1 => by
    have hlen := szL_len SType.sz a
    show M.l_heldTypeS_b (M.l_heldTypeS_n n) (markL mTy k a).2 k = _
    unfold M.l_heldTypeS_b
    rw [held_loop (F := M.l_heldTypeS_l0 (M.l_heldTypeS_n n) (markL mTy k a).2) (mk := mTy) (fin := id) a (by omega) (fun i q => 0 ≤ q ∧ q + 2 * (szL SType.sz (a.drop i) : Int) ≤ 100000000000) SType.zero k ⟨h0, by simpa using h1⟩ (fun f q i y hi e1 e2 hI => by
      subst e2
      rw [drop_get hi, szL] at hI
      have hle := mTy_le a[i] q
      have hmem := szL_mem SType.sz a a[i] (List.getElem_mem hi)
      have hpos := szL_pos SType.sz a a[i] (List.getElem_mem hi)
      have hs := SType.sz_eq a[i]
      have hll := szL_len List.length a[i].Labels
      have hkk := szL_len SType.sz a[i].Kids
      have hms := mS_le a[i].Labels (q + 1 + 1)
      rw [M.l_heldTypeS_l0]
      have hlt : decide ((i : Int) < (((markL mTy k a).2.length : Nat) : Int)) = true := by rw [decide_eq_true_eq, markL_len]; omega
      have hin : inB (i : Int) (markL mTy k a).2.length = true := by rw [inB_nat, markL_len]; simpa using hi
      have w1 : Go.IntKind.wrap .i64 (q + 1) = q + 1 := wrap_i64 (by omega) (by omega)
      have w2 : Go.IntKind.wrap .i64 (q + 1 + 1) = q + 1 + 1 := wrap_i64 (by omega) (by omega)
      have m1 := mT_eq (k := q + 1) (by omega) (by omega)
      have m2 := heldS_ok a[i].Labels (by omega) (q + 1 + 1) (by omega) (by omega)
      have m3 := heldTys_n n a[i].Kids (markL mS (q + 1 + 1) a[i].Labels).1 (by omega) (by omega) (by omega) (by omega)
      have n1 := neg_false (n := (markL mS (q + 1 + 1) a[i].Labels).1) (by omega)
      have n2 := neg_false (n := (markL mTy (markL mS (q + 1 + 1) a[i].Labels).1 a[i].Kids).1) (by rw [← mTy_1]; omega)
      refine ⟨?_, by omega, by omega⟩
      simp only [hlt, hin, e1, Int.toNat_natCast, cond_true, cond_false, Bool.true_and, Bool.and_true, mTy_Kind, mTy_Name, mTy_Labels, mTy_Kids, w1, w2, m1, m2, m3, n1, n2, Option.isSome_some, Option.getD_some, wrapk hi (big_of (show a.length ≤ 1048576 by omega)), beq_self_eq_true, bne_self_eq_false, Bool.not_true, Bool.and_self]
      rw [mTy_1]) (fun f q => by rw [M.l_heldTypeS_l0]; simp [markL_len])]
    rfl
theorem heldTys_ok (a : List SType) (k : Int) (hz : szL SType.sz a ≤ 1048576) (h0 : 0 ≤ k) (h1 : k ≤ 1000000000) : M.l_heldTypeS (markL mTy k a).2 k = some (markL mTy k a).1 :=
  heldTys_n _ a k (by have := bigN_le; omega) hz h0 (by omega)

theorem mVa_Kind (k : Int) (a : SValue) : (mVa k a).2.Kind = k := by rw [mVa_eq]; rfl
theorem mVa_Num (k : Int) (a : SValue) : (mVa k a).2.Num = k + 1 := by rw [mVa_eq]; rfl
theorem mVa_Text (k : Int) (a : SValue) : (mVa k a).2.Text = mT (k + 1 + 1) := by rw [mVa_eq]; rfl
theorem mVa_Kids (k : Int) (a : SValue) : (mVa k a).2.Kids = (markL mVa (k + 1 + 1 + 1) a.Kids).2 := by rw [mVa_eq]; rfl
theorem mVa_1 (k : Int) (a : SValue) : (mVa k a).1 = (markL mVa (k + 1 + 1 + 1) a.Kids).1 := by rw [mVa_eq]
theorem heldVas_n : ∀ (n : Nat) (a : List SValue) (k : Int), szL SValue.sz a < n → szL SValue.sz a ≤ 1048576 → 0 ≤ k → k + 3 * (szL SValue.sz a : Int) ≤ 100000000000 → M.l_heldValueS_n n (markL mVa k a).2 k = some (markL mVa k a).1
  | 0, a, k, h, _, _, _ => by omega
  | n + 1, a, k, h, hz, h0, h1 => by
    have hlen := szL_len SValue.sz a
    show M.l_heldValueS_b (M.l_heldValueS_n n) (markL mVa k a).2 k = _
    unfold M.l_heldValueS_b
    rw [held_loop (F := M.l_heldValueS_l0 (M.l_heldValueS_n n) (markL mVa k a).2) (mk := mVa) (fin := id) a (by omega) (fun i q => 0 ≤ q ∧ q + 3 * (szL SValue.sz (a.drop i) : Int) ≤ 100000000000) SValue.zero k ⟨h0, by simpa using h1⟩ (fun f q i y hi e1 e2 hI => by
      subst e2
      rw [drop_get hi, szL] at hI
      have hle := mVa_le a[i] q
      have hmem := szL_mem SValue.sz a a[i] (List.getElem_mem hi)
      have hpos := szL_pos SValue.sz a a[i] (List.getElem_mem hi)
      have hs := SValue.sz_eq a[i]
      have hkk := szL_len SValue.sz a[i].Kids
      rw [M.l_heldValueS_l0]
      have hlt : decide ((i : Int) < (((markL mVa k a).2.length : Nat) : Int)) = true := by rw [decide_eq_true_eq, markL_len]; omega
      have hin : inB (i : Int) (markL mVa k a).2.length = true := by rw [inB_nat, markL_len]; simpa using hi
      have w1 : Go.IntKind.wrap .i64 (q + 1) = q + 1 := wrap_i64 (by omega) (by omega)
      have w2 : Go.IntKind.wrap .i64 (q + 1 + 1) = q + 1 + 1 := wrap_i64 (by omega) (by omega)
      have w3 : Go.IntKind.wrap .i64 (q + 1 + 1 + 1) = q + 1 + 1 + 1 := wrap_i64 (by omega) (by omega)
      have m1 := mT_eq (k := q + 1 + 1) (by omega) (by omega)
      have m3 := heldVas_n n a[i].Kids (q + 1 + 1 + 1) (by omega) (by omega) (by omega) (by omega)
      have n2 := neg_false (n := (markL mVa (q + 1 + 1 + 1) a[i].Kids).1) (by rw [← mVa_1]; omega)
      refine ⟨?_, by omega, by omega⟩
      simp only [hlt, hin, e1, Int.toNat_natCast, cond_true, cond_false, Bool.true_and, Bool.and_true, mVa_Kind, mVa_Num, mVa_Text, mVa_Kids, w1, w2, w3, m1, m3, n2, Option.isSome_some, Option.getD_some, wrapk hi (big_of (show a.length ≤ 1048576 by omega)), beq_self_eq_true, bne_self_eq_false, Bool.not_true, Bool.and_self]
      rw [mVa_1]) (fun f q => by rw [M.l_heldValueS_l0]; simp [markL_len])]
    rfl
theorem heldVas_ok (a : List SValue) (k : Int) (hz : szL SValue.sz a ≤ 1048576) (h0 : 0 ≤ k) (h1 : k ≤ 1000000000) : M.l_heldValueS (markL mVa k a).2 k = some (markL mVa k a).1 :=
  heldVas_n _ a k (by have := bigN_le; omega) hz h0 (by omega)

/-! ### streams: what is written into the slices of one, and read back -/
noncomputable def k1 (k : Int) (s : SStream) : Int := (markL mS k s.Type_.Labels).1
noncomputable def k2 (k : Int) (s : SStream) : Int := (markL mTy (k1 k s) s.Type_.Kids).1
noncomputable def k3 (k : Int) (s : SStream) : Int := (markL mVa (k2 k s) s.Buffer).1
noncomputable def mkL (k : Int) (s : SStream) : List (List UInt8) := (markL mS k s.Type_.Labels).2
noncomputable def mkK (k : Int) (s : SStream) : List SType := (markL mTy (k1 k s) s.Type_.Kids).2
noncomputable def mkB (k : Int) (s : SStream) : List SValue := (markL mVa (k2 k s) s.Buffer).2
theorem ks_le {k : Int} {s : SStream} (ht : s.Type_.sz ≤ 1048576) (hb : szL SValue.sz s.Buffer ≤ 1048576) (h0 : 0 ≤ k) (h1 : k ≤ 100000000) :
    (k ≤ k1 k s ∧ k1 k s ≤ k2 k s ∧ k2 k s ≤ k3 k s ∧ k3 k s ≤ k + 10000000) ∧ s.Type_.Labels.length ≤ 1048576 ∧ szL SType.sz s.Type_.Kids ≤ 1048576 := by
  have hs := SType.sz_eq s.Type_
  have hll := szL_len List.length s.Type_.Labels
  have a1 := mS_le s.Type_.Labels k
  have a2 := markTys_le s.Type_.Kids (k1 k s)
  have a3 := markVas_le s.Buffer (k2 k s)
  unfold k3 k2 k1 at *
  refine ⟨?_, by omega, by omega⟩
  omega
theorem markStream_ok (a : Int) (a2 : List UInt8) (a3 : Int) (a4 : Bool) (a5 a6 : Int) (a7 a8 : Bool) (s : SStream) (k : Int) (ht : s.Type_.sz ≤ 1048576) (hb : szL SValue.sz s.Buffer ≤ 1048576) (h0 : 0 ≤ k) (h1 : k ≤ 100000000) :
    M.l_markStream a a2 a3 a4 a5 a6 a7 a8 k s.Type_.Labels s.Type_.Kids s.Buffer = some (k3 k s, mkL k s, mkK k s, mkB k s) := by
  have hk := ks_le (k := k) ht hb h0 h1
  unfold M.l_markStream M.l_markType
  have e1 := markS_ok s.Type_.Labels hk.2.1 k h0 (by omega)
  have e2 := markTys_ok s.Type_.Kids (k1 k s) hk.2.2 (by omega) (by omega)
  have e3 := markVas_ok s.Buffer (k2 k s) hb (by omega) (by omega)
  unfold k2 k1 at e3
  unfold k1 at e2
  simp only [e1, e2, e3, Option.isSome_some, Option.getD_some, Bool.true_and, Bool.and_true, cond_true]
  rfl
theorem heldStream_ok (a : Int) (a2 : List UInt8) (a3 : Int) (a4 : Bool) (a5 a6 : Int) (a7 a8 : Bool) (s : SStream) (k : Int) (ht : s.Type_.sz ≤ 1048576) (hb : szL SValue.sz s.Buffer ≤ 1048576) (h0 : 0 ≤ k) (h1 : k ≤ 100000000) :
    M.l_heldStream (SStream.mk (SType.mk a a2 (mkL k s) (mkK k s)) a3 a4 (mkB k s) a5 a6 a7 a8) k = some (k3 k s) := by
  have hk := ks_le (k := k) ht hb h0 h1
  have e1 : M.l_heldStringS (mkL k s) k = some (k1 k s) := heldS_ok s.Type_.Labels hk.2.1 k h0 (by omega)
  have e2 : M.l_heldTypeS (mkK k s) (k1 k s) = some (k2 k s) := heldTys_ok s.Type_.Kids (k1 k s) hk.2.2 (by omega) (by omega)
  have e3 : M.l_heldValueS (mkB k s) (k2 k s) = some (k3 k s) := heldVas_ok s.Buffer (k2 k s) hb (by omega) (by omega)
  have e0 : M.l_heldType (SType.mk a a2 (mkL k s) (mkK k s)) k = some (k2 k s) := by
    unfold M.l_heldType
    simp only [SType.p3, SType.p4, e1, e2, Option.isSome_some, Option.getD_some, Bool.true_and, Bool.and_true, cond_true, cond_false, neg_false (show 0 ≤ k1 k s by omega), neg_false (show 0 ≤ k2 k s by omega)]
  unfold M.l_heldStream
  simp only [SType.re_eq, e0, e3, Option.isSome_some, Option.getD_some, Bool.true_and, Bool.and_true, cond_true, cond_false, neg_false (show 0 ≤ k2 k s by omega), neg_false (show 0 ≤ k3 k s by omega)]
end M
/-
  STREAMS: the reference's copies; the reference's own copy.
-/
set_option linter.unusedVariables false
set_option linter.unusedSimpArgs false
namespace M
open Go.V (inB slB bigN bigN_le)

theorem own_s : ∀ (m : Nat) (t : SType), t.sz < m → t.sz ≤ 1048576 → M.s_l03Own_n m t = some t
  | 0, t, h, _ => absurd h (Nat.not_lt_zero _)
  | m + 1, t, h, hN => by
    have hl := SType.kids_len hN
    have hlb := SType.labels_len hN
    have key : ∀ f k, k ≤ t.Kids.length → t.Kids.length - k < f → M.s_l03Own_l0 (M.s_l03Own_n m) (0 : Int) [] t.Kind t.Name [] [] ([] ++ t.Labels) f (k : Int) t (t.Kids.take k) = some ((0 : Int), [], t.Kind, t.Name, [], [], t.Labels, t.Kids) := by
      intro f
      induction f with
      | zero => intro k h1 h2; omega
      | succ f ih =>
        intro k h1 h2
        rcases Nat.lt_or_ge k t.Kids.length with hk | hk
        · rw [M.s_l03Own_l0]
          have hx := SType.kid_lt (List.getElem_mem hk)
          have hd : decide (((t.Kids.take k).length + ([t.Kids[k]] : List SType).length) ≤ 1073741824) = true := by
            simp only [decide_eq_true_eq, List.length_take, List.length_cons, List.length_nil]; omega
          have ht : t.Kids.take k ++ [t.Kids[k]] = t.Kids.take (k + 1) := by
            rw [List.take_add_one, List.getElem?_eq_getElem hk]; rfl
          simp only [SType.re_eq, getD_lt hk, own_s m t.Kids[k] (by omega) (by omega), Int.toNat_natCast, inB_nat, Int.ofNat_lt, hk, decide_true, cond_true, Bool.true_and, Bool.and_true, wrapk hk (by omega : t.Kids.length < 2 ^ 62), Option.getD_some, Option.isSome_some, hd, ht]
          exact ih (k + 1) (by omega) (by omega)
        · have : k = t.Kids.length := by omega
          subst this
          rw [M.s_l03Own_l0]
          simp
    show M.s_l03Own_b (M.s_l03Own_n m) t = _
    unfold M.s_l03Own_b
    have e := key bigN 0 (Nat.zero_le _) (by have := bigN_le; omega)
    have e' : M.s_l03Own_l0 (M.s_l03Own_n m) (0 : Int) [] t.Kind t.Name [] [] ([] ++ t.Labels) bigN 0 t [] = _ := e
    have hd : decide (0 + t.Labels.length ≤ 1073741824) = true := by simp only [decide_eq_true_eq]; omega
    simp only [SType.re_eq, e', hd, Bool.and_self, cond_true]
    cases t; rfl
theorem val_n : ∀ (m : Nat) (v : SValue), v.sz < m → v.sz ≤ 1048576 → M.s_l21Value_n m v = some v
  | 0, v, h, _ => absurd h (Nat.not_lt_zero _)
  | m + 1, v, h, hN => by
    have hs := SValue.sz_eq v
    have hkk := szL_len SValue.sz v.Kids
    show M.s_l21Value_b (M.s_l21Value_n m) v = _
    unfold M.s_l21Value_b
    have e := push_loop (F := fun f i o => M.s_l21Value_l0 (M.s_l21Value_n m) 0 0 [] v.Kind v.Num v.Text [] f i v o) (h := fun o => some ((0 : Int), (0 : Int), ([] : List UInt8), v.Kind, v.Num, v.Text, ([] : List SValue), o)) id v.Kids (by omega) [] (fun f k out hk ho => by
        have hmem := szL_mem SValue.sz v.Kids v.Kids[k] (List.getElem_mem hk)
        have hpos := szL_pos SValue.sz v.Kids v.Kids[k] (List.getElem_mem hk)
        show M.s_l21Value_l0 (M.s_l21Value_n m) 0 0 [] v.Kind v.Num v.Text [] (f + 1) (k : Int) v out = _
        rw [M.s_l21Value_l0]
        have e := val_n m v.Kids[k] (by omega) (by omega)
        have hc := cat_le (a := out.length) (b := 1) (by simp at ho; omega)
        simp only [SValue.re_eq, Int.ofNat_lt, hk, decide_true, cond_true, Int.toNat_natCast, getD_lt hk, e, inB_nat, Option.isSome_some, Option.getD_some, List.length_cons, List.length_nil, Nat.zero_add, hc, Bool.true_and, Bool.and_true, wrapk hk (big_of (show v.Kids.length ≤ 1048576 by omega)), id]) (fun f out => by
        show M.s_l21Value_l0 (M.s_l21Value_n m) 0 0 [] v.Kind v.Num v.Text [] (f + 1) (v.Kids.length : Int) v out = _
        rw [M.s_l21Value_l0]; simp)
    simp only [List.map_id, List.nil_append] at e
    rw [SValue.re_eq, e]
    exact congrArg some (SValue.eta v)
theorem val_s (v : SValue) (h : v.sz ≤ 1048576) : M.s_l21Value v = some v := val_n _ v (by have := bigN_le; omega) h
theorem vals_s (l : List SValue) (h : szL SValue.sz l ≤ 1048576) : M.s_l21Values l = some l := by
  have hl := szL_len SValue.sz l
  unfold M.s_l21Values
  rw [push_loop (F := M.s_l21Values_l0 l) (h := some) id l (by omega) [] (fun f k out hk ho => by
    rw [M.s_l21Values_l0]
    have e := val_s l[k] (Nat.le_trans (szL_mem SValue.sz l l[k] (List.getElem_mem hk)) h)
    have hc := cat_le (a := out.length) (b := 1) (by simp at ho; omega)
    simp only [SValue.re_eq, Int.ofNat_lt, hk, decide_true, cond_true, Int.toNat_natCast, getD_lt hk, e, inB_nat, Option.isSome_some, Option.getD_some, List.length_cons, List.length_nil, Nat.zero_add, hc, Bool.true_and, Bool.and_true, wrapk hk (big_of (show l.length ≤ 1048576 by omega)), id]) (fun f out => by rw [M.s_l21Values_l0]; simp)]
  simp
theorem SStream.eta (s : SStream) : SStream.mk s.Type_ s.Room s.Future s.Buffer s.Put s.Got s.Shut s.Gone = s := rfl
theorem ownSt_s (s : SStream) (h : s.sz ≤ 1048576) : M.s_l21Own s = some s := by
  unfold M.s_l21Own
  have e := own_s bigN s.Type_ (by have := SStream.type_le h; have := bigN_le; omega) (SStream.type_le h)
  have e' : M.s_l03Own s.Type_ = some s.Type_ := e
  simp only [SType.re_eq, vals_s _ (SStream.buf_le h), e', Option.isSome_some, Option.getD_some, Bool.true_and, Bool.and_true, cond_true]
def errS : SStream := SStream.mk (SType.mk 0 [] [] []) 0 false [] 0 0 false false
theorem errS_sz : errS.sz = 0 := by rw [SStream.sz_eq]; rfl
end M
/-
  STREAMS: how far the numbers go.
-/
set_option linter.unusedVariables false
set_option linter.unusedSimpArgs false
namespace M
open Go.V (inB slB bigN bigN_le)
theorem k3_pos (s : SStream) (h : s.sz ≤ 1048576) : decide (k3 1 s < 0) = false := by
  have := ks_le (k := 1) (SStream.type_le h) (SStream.buf_le h) (by omega) (by omega)
  exact neg_false (by omega)
theorem k3_le (s : SStream) (h : s.sz ≤ 1048576) : 1 ≤ k3 1 s ∧ k3 1 s ≤ 10000001 := by
  have := ks_le (k := 1) (SStream.type_le h) (SStream.buf_le h) (by omega) (by omega)
  omega
theorem markS1 (s : SStream) (h : s.sz ≤ 1048576) (a : Int) (a2 : List UInt8) (a3 : Int) (a4 : Bool) (a5 a6 : Int) (a7 a8 : Bool) :
    M.l_markStream a a2 a3 a4 a5 a6 a7 a8 1 s.Type_.Labels s.Type_.Kids s.Buffer = some (k3 1 s, mkL 1 s, mkK 1 s, mkB 1 s) :=
  markStream_ok a a2 a3 a4 a5 a6 a7 a8 s 1 (SStream.type_le h) (SStream.buf_le h) (by omega) (by omega)
theorem heldS1 (s : SStream) (h : s.sz ≤ 1048576) (a : Int) (a2 : List UInt8) (a3 : Int) (a4 : Bool) (a5 a6 : Int) (a7 a8 : Bool) :
    M.l_heldStream (SStream.mk (SType.mk a a2 (mkL 1 s) (mkK 1 s)) a3 a4 (mkB 1 s) a5 a6 a7 a8) 1 = some (k3 1 s) :=
  heldStream_ok a a2 a3 a4 a5 a6 a7 a8 s 1 (SStream.type_le h) (SStream.buf_le h) (by omega) (by omega)

end M
/-
  How many values are read.
-/
set_option linter.unusedVariables false
set_option linter.unusedSimpArgs false
namespace M
open Go.V (inB slB bigN bigN_le)

theorem szL_append {α : Type} (f : α → Nat) (a b : List α) : szL f (a ++ b) = szL f a + szL f b := by
  induction a with
  | nil => simp [szL]
  | cons x r ih => simp only [List.cons_append, szL, ih]; omega
theorem szL_parts {α : Type} (f : α → Nat) (n : Nat) (l : List α) : szL f (l.take n) + szL f (l.drop n) = szL f l := by
  rw [← szL_append, List.take_append_drop]
def readN (s : SStream) (most : Int) : Nat := min most.toNat s.Buffer.length
theorem readN_i (s : SStream) (most : Int) (h : 1 ≤ most) : (bif decide ((s.Buffer.length : Int) < most) then (s.Buffer.length : Int) else most) = (readN s most : Int) := by
  unfold readN
  by_cases c : (s.Buffer.length : Int) < most
  · rw [decide_eq_true c, cond_true]; omega
  · rw [decide_eq_false c, cond_false]; omega
theorem readN_s (s : SStream) (most : Int) (h : 1 ≤ most) : M.s_l00Min most (s.Buffer.length : Int) = some (readN s most : Int) := by
  unfold M.s_l00Min readN
  by_cases c : most < (s.Buffer.length : Int)
  · rw [decide_eq_true c, cond_true]; congr 1; omega
  · rw [decide_eq_false c, cond_false]; congr 1; omega
theorem readN_le (s : SStream) (most : Int) : readN s most ≤ s.Buffer.length := by unfold readN; omega
theorem slB_ok {a b n : Nat} (h1 : a ≤ b) (h2 : b ≤ n) : slB (a : Int) (b : Int) n = true := by
  unfold slB; simp only [Bool.and_eq_true, decide_eq_true_eq]; omega
theorem slB_0 {b n : Nat} (h2 : b ≤ n) : slB (0 : Int) (b : Int) n = true := slB_ok (a := 0) (Nat.zero_le _) h2
end M
/-
  A write to a stream: the program's side.
-/
set_option linter.unusedVariables false
set_option linter.unusedSimpArgs false
namespace M
open Go.V (inB slB bigN bigN_le)

def mostS (s : SStream) : Int := if s.Future then 1 else 1000000
theorem most_i (s : SStream) : M.i_mostOf s = some (mostS s) := by unfold M.i_mostOf mostS; cases s.Future <;> rfl
theorem most_s (s : SStream) : M.s_l21Most s = some (mostS s) := by unfold M.s_l21Most mostS; cases s.Future <;> rfl
theorem stB_facts {s : SStream} (h : stB s = true) : typB s.Type_ = true ∧ 1 ≤ s.Room ∧ s.Room ≤ 6 ∧ (s.Buffer.length : Int) ≤ s.Room ∧ bufB s = true ∧ 0 ≤ s.Got ∧ s.Got ≤ s.Put ∧ s.Put ≤ 1000000 := by
  unfold stB at h
  simp only [Bool.and_eq_true, decide_eq_true_eq, Bool.not_eq_true', decide_eq_false_iff_not] at h
  have hp : s.Put ≤ 1000000 := by
    have := h.1.2.1.2.2
    cases hf : s.Future <;> simp [hf] at this <;> omega
  exact ⟨h.1.1.1.1, h.1.1.1.2.1.1, h.1.1.1.2.1.2, h.1.1.2.1, h.1.1.2.2, by have := h.1.2.1.1; omega, h.1.2.1.2.1, hp⟩
def writeK (s : SStream) (l : List SValue) : Nat := min l.length (s.Room - (s.Buffer.length : Int)).toNat
def wrP (s : SStream) (l : List SValue) : Int × Int × SStream :=
  bif decide ((8 : Int) < (l.length : Int)) || decide (mostS s < Go.IntKind.wrap .i64 (s.Put + (l.length : Int))) then (0, 4, s) else bif s.Shut then (0, 5, s) else bif s.Gone then (0, 17, s)
  else ((writeK s l : Int), 0, SStream.mk s.Type_ s.Room s.Future (s.Buffer ++ l.take (writeK s l)) (Go.IntKind.wrap .i64 (s.Put + (writeK s l : Int))) s.Got s.Shut s.Gone)
def SStream.flat3 (n c : Int) (s : SStream) : Int × Int × Int × (List UInt8) × Int × Bool × Int × Int × Bool × Bool × (List (List UInt8)) × (List M.SType) × (List M.SValue) := (n, c, s.Type_.Kind, s.Type_.Name, s.Room, s.Future, s.Put, s.Got, s.Shut, s.Gone, s.Type_.Labels, s.Type_.Kids, s.Buffer)
theorem writeK_i {s : SStream} {l : List SValue} (h : 0 ≤ s.Room) (h2 : s.Room ≤ 6) (hb : (s.Buffer.length : Int) ≤ s.Room) :
    (bif decide (Go.IntKind.wrap .i64 (s.Room - (s.Buffer.length : Int)) < (l.length : Int)) then Go.IntKind.wrap .i64 (s.Room - (s.Buffer.length : Int)) else (l.length : Int)) = (writeK s l : Int) := by
  have w : Go.IntKind.wrap .i64 (s.Room - (s.Buffer.length : Int)) = s.Room - (s.Buffer.length : Int) := wrap_i64 (by omega) (by omega)
  unfold writeK
  rw [w]
  by_cases c : s.Room - (s.Buffer.length : Int) < (l.length : Int)
  · rw [decide_eq_true c, cond_true]; omega
  · rw [decide_eq_false c, cond_false]; omega
theorem writeK_s {s : SStream} {l : List SValue} (h : 0 ≤ s.Room) (h2 : s.Room ≤ 6) (hb : (s.Buffer.length : Int) ≤ s.Room) :
    M.s_l00Min (l.length : Int) (Go.IntKind.wrap .i64 (s.Room - (s.Buffer.length : Int))) = some (writeK s l : Int) := by
  have w : Go.IntKind.wrap .i64 (s.Room - (s.Buffer.length : Int)) = s.Room - (s.Buffer.length : Int) := wrap_i64 (by omega) (by omega)
  unfold M.s_l00Min writeK
  rw [w]
  by_cases c : (l.length : Int) < s.Room - (s.Buffer.length : Int)
  · rw [decide_eq_true c, cond_true]; congr 1; omega
  · rw [decide_eq_false c, cond_false]; congr 1; omega
theorem writeK_le (s : SStream) (l : List SValue) : writeK s l ≤ l.length := by unfold writeK; omega
theorem wr_i (s : SStream) (l : List SValue) (hl : szL SValue.sz l ≤ 1048576) (h1 : 0 ≤ s.Room) (h2 : s.Room ≤ 6) (hb : (s.Buffer.length : Int) ≤ s.Room) :
    M.i_Stream_write l s.Type_.Kind s.Type_.Name s.Room s.Future s.Put s.Got s.Shut s.Gone s.Type_.Labels s.Type_.Kids s.Buffer = some (SStream.flat3 (wrP s l).1 (wrP s l).2.1 (wrP s l).2.2) := by
  unfold M.i_Stream_write wrP
  have hp := szL_parts SValue.sz (writeK s l) l
  have hlen := szL_len SValue.sz l
  have e1 := copyVals (l.take (writeK s l)) (by omega)
  have e2 := slB_0 (writeK_le s l)
  have e6 : List.drop (Int.toNat 0) (List.take (writeK s l) l) = List.take (writeK s l) l := rfl
  have e3 := cat_le (a := s.Buffer.length) (b := (l.take (writeK s l)).length) (by rw [List.length_take]; omega)
  simp only [SType.eta, SStream.eta, most_i, writeK_i h1 h2 hb, e1, e2, e3, e6, Option.getD_some, Option.isSome_some, Int.toNat_natCast, Bool.true_or, Bool.true_and, Bool.and_true, cond_true]
  generalize (decide ((8 : Int) < (l.length : Int)) || decide (mostS s < Go.IntKind.wrap .i64 (s.Put + (l.length : Int)))) = b
  generalize writeK s l = k
  clear e1 e2 e3 e6 hp
  obtain ⟨ty, room, fut, buf, put, got, shut, gone⟩ := s
  cases b <;> cases shut <;> cases gone <;> rfl
end M
/-
  A write to a stream: the reference's side.
-/
set_option linter.unusedVariables false
set_option linter.unusedSimpArgs false
namespace M
open Go.V (inB slB bigN bigN_le)
def wrS (s : SStream) (l : List SValue) : SStream × Int × Int := bif (wrP s l).2.1 == 0 then ((wrP s l).2.2, (wrP s l).1, 0) else (errS, 0, (wrP s l).2.1)
theorem wr_s (s : SStream) (l : List SValue) (hs : s.sz ≤ 1048576) (hl : szL SValue.sz l ≤ 1048576) (h1 : 0 ≤ s.Room) (h2 : s.Room ≤ 6) (hb : (s.Buffer.length : Int) ≤ s.Room) :
    M.s_l21Write s l = some (wrS s l) := by
  unfold M.s_l21Write wrS wrP
  have hp := szL_parts SValue.sz (writeK s l) l
  have hlen := szL_len SValue.sz l
  have e0 := vals_s s.Buffer (SStream.buf_le hs)
  have e1 := vals_s (l.take (writeK s l)) (by omega)
  have e2 := slB_0 (writeK_le s l)
  have e6 : List.drop (Int.toNat 0) (List.take (writeK s l) l) = List.take (writeK s l) l := rfl
  have e3 := cat_le (a := s.Buffer.length) (b := (l.take (writeK s l)).length) (by rw [List.length_take]; omega)
  simp only [SType.re_eq, SStream.re_eq, most_s, writeK_s h1 h2 hb, e0, e1, e2, e3, e6, Option.getD_some, Option.isSome_some, Int.toNat_natCast, Bool.true_or, Bool.true_and, Bool.and_true, cond_true]
  generalize (decide ((8 : Int) < (l.length : Int)) || decide (mostS s < Go.IntKind.wrap .i64 (s.Put + (l.length : Int)))) = b
  generalize writeK s l = k
  clear e0 e1 e2 e3 e6 hp
  obtain ⟨ty, room, fut, buf, put, got, shut, gone⟩ := s
  cases b <;> cases shut <;> cases gone <;> rfl
end M
/-
  PlayStream on both sides, and its law.
-/
set_option linter.unusedVariables false
set_option linter.unusedSimpArgs false
namespace M
open Go.V (inB slB bigN bigN_le)

theorem szL_zero {α : Type} {f : α → Nat} : ∀ {l : List α}, (∀ x ∈ l, f x = 0) → szL f l = l.length
  | [], _ => rfl
  | x :: r, h => by simp only [szL, List.length_cons, h x (by simp), szL_zero (l := r) fun y hy => h y (by simp [hy])]; omega
theorem fit9 {v : SValue} {t : SType} (h : vFits v t = true) (ht : t.Kind = 9) : v.sz = 0 := by
  rw [vFits_eq] at h
  simp only [kT, headB, ht, Bool.and_eq_true, Bool.or_eq_true] at h
  have h1 : v.Text = [] := by
    rcases h.1.1.2 with h | h
    · simpa using h
    · simp at h
  have h2 : v.Kids = [] := by
    have := h.2
    simp at this
    exact List.eq_nil_of_length_eq_zero this.1.symm
  rw [SValue.sz_eq, h1, h2]; rfl

/-! ### one act -/
structure PInv (s : SStream) : Prop where
  r0 : 0 ≤ s.Room
  r6 : s.Room ≤ 6
  len : (s.Buffer.length : Int) ≤ s.Room
  ty : s.Type_.sz ≤ 1048000
  vals : ∀ v ∈ s.Buffer, v.sz = 0
theorem PInv.buf {s : SStream} (h : PInv s) : szL SValue.sz s.Buffer ≤ 6 := by
  rw [szL_zero h.vals]; have := h.len; have := h.r6; omega
theorem PInv.sz {s : SStream} (h : PInv s) : s.sz ≤ 1048576 := by
  rw [SStream.sz_eq]; have := h.buf; have := h.ty; omega
def shP (s : SStream) : Int × SStream := bif s.Shut then (5, s) else bif (s.Future && !s.Gone) && (s.Put == 0) then (3, s) else (0, SStream.mk s.Type_ s.Room s.Future s.Buffer s.Put s.Got true s.Gone)
def lvP (s : SStream) : Int × SStream := bif s.Gone then (5, s) else (0, SStream.mk s.Type_ s.Room s.Future [] s.Put s.Got s.Shut true)
def rdP (s : SStream) (most : Int) : Int × SStream × List SValue := bif s.Gone then (5, s, []) else bif ((s.Buffer.length : Int) == 0) && s.Shut then (3, s, [])
  else (0, SStream.mk s.Type_ s.Room s.Future (s.Buffer.drop (readN s most)) s.Put (Go.IntKind.wrap .i64 (s.Got + (readN s most : Int))) s.Shut s.Gone, s.Buffer.take (readN s most))
def spc (c : Int) (s : SStream) : SStream := bif c == 0 then s else errS
theorem sh_s (s : SStream) : M.s_l21Shut s = some (spc (shP s).1 (shP s).2, (shP s).1) := by
  unfold M.s_l21Shut shP
  simp only [SType.re_eq]
  cases s.Shut <;> cases ((s.Future && !s.Gone) && (s.Put == 0)) <;> rfl
theorem lv_s (s : SStream) : M.s_l21Leave s = some (spc (lvP s).1 (lvP s).2, (lvP s).1) := by
  unfold M.s_l21Leave lvP
  simp only [SType.re_eq]
  cases s.Gone <;> rfl
def SStream.flat0 (c : Int) (s : SStream) : Int × Int × (List UInt8) × Int × Bool × Int × Int × Bool × Bool × (List (List UInt8)) × (List M.SType) × (List M.SValue) := (c, s.Type_.Kind, s.Type_.Name, s.Room, s.Future, s.Put, s.Got, s.Shut, s.Gone, s.Type_.Labels, s.Type_.Kids, s.Buffer)
theorem sh_i (s : SStream) : M.i_Stream_shut_2 s.Type_.Kind s.Type_.Name s.Room s.Future s.Put s.Got s.Shut s.Gone s.Type_.Labels s.Type_.Kids s.Buffer = some (SStream.flat0 (shP s).1 (shP s).2) := by
  unfold M.i_Stream_shut_2 shP
  have hc : ((s.Future && (s.Put == 0)) && !s.Gone) = ((s.Future && !s.Gone) && (s.Put == 0)) := by cases s.Future <;> cases s.Gone <;> cases (s.Put == 0) <;> rfl
  rw [hc]
  cases h : s.Shut <;> cases ((s.Future && !s.Gone) && (s.Put == 0)) <;> simp only [cond_true, cond_false, SStream.flat0, h]
theorem lv_i (s : SStream) : M.i_Stream_leave_2 s.Type_.Kind s.Type_.Name s.Room s.Future s.Put s.Got s.Shut s.Gone s.Type_.Labels s.Type_.Kids s.Buffer = some (SStream.flat0 (lvP s).1 (lvP s).2) := by
  unfold M.i_Stream_leave_2 lvP
  cases h : s.Gone <;> simp only [cond_true, cond_false, SStream.flat0, h]
theorem rd_s (s : SStream) (most : Int) (hm : 1 ≤ most) (hb : szL SValue.sz s.Buffer ≤ 1048576) : M.s_l21Read s most = some (spc (rdP s most).1 (rdP s most).2.1, (rdP s most).2.2, (rdP s most).1) := by
  unfold M.s_l21Read rdP
  have hp := szL_parts SValue.sz (readN s most) s.Buffer
  have e1 := readN_s s most hm
  have e2 := slB_ok (readN_le s most) (Nat.le_refl _)
  have e3 := slB_0 (readN_le s most)
  have e4 := vals_s (s.Buffer.take (readN s most)) (by omega)
  have e5 := vals_s (s.Buffer.drop (readN s most)) (by omega)
  have e6 : List.drop (Int.toNat 0) (List.take (readN s most) s.Buffer) = List.take (readN s most) s.Buffer := rfl
  simp only [SType.re_eq, e1, e2, e3, e4, e5, e6, Option.isSome_some, Option.getD_some, Int.toNat_natCast, List.take_length, Bool.not_true, cond_false, cond_true, Bool.true_and, Bool.and_true, Bool.not_false]
  cases h : s.Gone <;> cases (((s.Buffer.length : Int) == 0) && s.Shut) <;> simp only [cond_true, cond_false, spc, h] <;> rfl
def SStream.flat5 (c : Int) (s : SStream) (v : List SValue) : Int × Int × (List UInt8) × Int × Bool × Int × Int × Bool × Bool × (List M.SValue) × (List (List UInt8)) × (List M.SType) × (List M.SValue) := (c, s.Type_.Kind, s.Type_.Name, s.Room, s.Future, s.Put, s.Got, s.Shut, s.Gone, v, s.Type_.Labels, s.Type_.Kids, s.Buffer)
theorem rd_i (s : SStream) (most : Int) (hm : 1 ≤ most) (hm8 : most ≤ 8) (hb : szL SValue.sz s.Buffer ≤ 1048576) :
    M.i_Stream_read most s.Type_.Kind s.Type_.Name s.Room s.Future s.Put s.Got s.Shut s.Gone s.Type_.Labels s.Type_.Kids s.Buffer = some (SStream.flat5 (rdP s most).1 (rdP s most).2.1 (rdP s most).2.2) := by
  unfold M.i_Stream_read rdP
  have hp := szL_parts SValue.sz (readN s most) s.Buffer
  have e1 := readN_i s most hm
  have e2 := slB_ok (readN_le s most) (Nat.le_refl _)
  have e3 := slB_0 (readN_le s most)
  have e4 := copyVals (s.Buffer.take (readN s most)) (by omega)
  have e6 : List.drop (Int.toNat 0) (List.take (readN s most) s.Buffer) = List.take (readN s most) s.Buffer := rfl
  have e7 : (!(decide ((1 : Int) ≤ most) && decide (most ≤ (8 : Int)))) = false := by rw [decide_eq_true hm, decide_eq_true hm8]; rfl
  simp only [e1, e2, e3, e4, e6, e7, Option.isSome_some, Option.getD_some, Int.toNat_natCast, Bool.not_true, cond_false, cond_true, Bool.true_and, Bool.and_true, Bool.not_false]
  cases h : s.Gone <;> cases h2 : (((s.Buffer.length : Int) == 0) && s.Shut) <;> simp only [cond_true, cond_false, SStream.flat5, h]

/-! ### numbers one behind the other -/
def num9 (n : Int) : SValue := SValue.mk 9 n [] []
def numL (first : Int) (n : Nat) : List SValue := (List.range n).map fun (k : Nat) => num9 (Go.IntKind.wrap .i64 (first + (k : Int)))
theorem num9_sz (n : Int) : (num9 n).sz = 0 := by rw [SValue.sz_eq]; rfl
theorem numL_sz (first : Int) (n : Nat) : ∀ v ∈ numL first n, v.sz = 0 := fun v hv => by
  obtain ⟨k, -, rfl⟩ := List.mem_map.1 hv; exact num9_sz _
theorem numL_len (first : Int) (n : Nat) : (numL first n).length = n := by simp [numL]
theorem nums_loop {F : Nat → Int → List SValue → Option (List SValue)} (first : Int) (n : Nat) (hn : n ≤ 8)
    (step : ∀ f (k : Nat) out, k < n → out.length = k → F (f + 1) (k : Int) out = F f ((k + 1 : Nat) : Int) (out ++ [num9 (Go.IntKind.wrap .i64 (first + (k : Int)))])) (stop : ∀ f out, F (f + 1) (n : Int) out = some out) :
    F bigN 0 [] = some (numL first n) := by
  have key : ∀ f k, k ≤ n → n - k < f → F f (k : Int) (numL first k) = some (numL first n) := by
    intro f
    induction f with
    | zero => intro k h1 h2; omega
    | succ f ih =>
      intro k h1 h2
      rcases Nat.lt_or_ge k n with hk | hk
      · rw [step f k _ hk (numL_len _ _)]
        have : numL first k ++ [num9 (Go.IntKind.wrap .i64 (first + (k : Int)))] = numL first (k + 1) := by
          simp [numL, List.range_succ]
        rw [this]; exact ih (k + 1) (by omega) (by omega)
      · have : k = n := by omega
        subst this; exact stop f _
  exact key bigN 0 (Nat.zero_le _) (by have := bigN_le; omega)
theorem nums_s (first : Int) (n : Nat) (hn : n ≤ 8) : M.s_l21Numbers first (n : Int) = some (numL first n) := by
  unfold M.s_l21Numbers
  rw [nums_loop (F := M.s_l21Numbers_l0 first (n : Int)) first n hn (fun f k out hk ho => by
    rw [M.s_l21Numbers_l0]
    have hc := cat_le (a := out.length) (b := 1) (by omega)
    simp only [Int.ofNat_lt, hk, decide_true, cond_true, List.length_cons, List.length_nil, Nat.zero_add, hc, Bool.and_true, wrapk hk (by omega : n < 2 ^ 62)]
    rfl) (fun f out => by rw [M.s_l21Numbers_l0]; simp)]
theorem nums_i (first : Int) (n : Nat) (hn : n ≤ 8) : M.i_consecutive first (n : Int) = some (numL first n) := by
  unfold M.i_consecutive
  rw [nums_loop (F := M.i_consecutive_l0 first (n : Int)) first n hn (fun f k out hk ho => by
    rw [M.i_consecutive_l0]
    have hc := cat_le (a := out.length) (b := 1) (by omega)
    simp only [Int.ofNat_lt, hk, decide_true, cond_true, List.length_cons, List.length_nil, Nat.zero_add, hc, Bool.and_true, wrapk hk (by omega : n < 2 ^ 62)]
    rfl) (fun f out => by rw [M.i_consecutive_l0]; simp)]

/-! ### the acts -/
def actB (a : SStreamAct) : Bool := (!(decide ((0 : Int) ≤ a.Many) && decide (a.Many ≤ (8 : Int)))) || (a.Close && (a.Many != (0 : Int)))
def askN (n : Int) : Int := if 1 < n then n else 1
abbrev PSt := SStream × Int × List SValue
noncomputable def pStep (st : PSt) (a : SStreamAct) : PSt :=
  bif a.Write && a.Close then ((shP st.1).2, st.2.1, st.2.2) else bif a.Close then ((lvP st.1).2, st.2.1, st.2.2)
  else bif a.Write then ((wrP st.1 (numL st.2.1 a.Many.toNat)).2.2, Go.IntKind.wrap .i64 (st.2.1 + (wrP st.1 (numL st.2.1 a.Many.toNat)).1), st.2.2)
  else ((rdP st.1 (askN a.Many)).2.1, st.2.1, st.2.2 ++ (rdP st.1 (askN a.Many)).2.2)
theorem shP_inv {s : SStream} (h : PInv s) : PInv (shP s).2 := by
  unfold shP
  cases s.Shut <;> cases ((s.Future && !s.Gone) && (s.Put == 0)) <;> exact ⟨h.r0, h.r6, h.len, h.ty, h.vals⟩
theorem lvP_inv {s : SStream} (h : PInv s) : PInv (lvP s).2 := by
  unfold lvP
  cases s.Gone
  · exact ⟨h.r0, h.r6, by simpa using h.r0, h.ty, by simp⟩
  · exact h
theorem rdP_inv {s : SStream} (h : PInv s) (m : Int) : PInv (rdP s m).2.1 ∧ (rdP s m).2.2.length ≤ 6 ∧ ∀ v ∈ (rdP s m).2.2, v.sz = 0 := by
  unfold rdP
  have hl := h.len
  have h6 := h.r6
  cases s.Gone
  · cases (((s.Buffer.length : Int) == 0) && s.Shut)
    · exact ⟨⟨h.r0, h.r6, by simp only [List.length_drop, cond_false]; omega, h.ty, fun v hv => h.vals v (List.mem_of_mem_drop hv)⟩, by simp only [List.length_take, cond_false]; omega, fun v hv => h.vals v (List.mem_of_mem_take hv)⟩
    · exact ⟨h, by simp, by simp⟩
  · exact ⟨h, by simp, by simp⟩
theorem wrP_inv {s : SStream} (h : PInv s) (l : List SValue) (hl : ∀ v ∈ l, v.sz = 0) : PInv (wrP s l).2.2 := by
  unfold wrP
  have h1 := h.len
  have h6 := h.r6
  cases (decide ((8 : Int) < (l.length : Int)) || decide (mostS s < Go.IntKind.wrap .i64 (s.Put + (l.length : Int)))) <;> cases s.Shut <;> cases s.Gone <;> first
    | exact h
    | exact ⟨h.r0, h.r6, by simp only [cond_false, List.length_append, List.length_take]; unfold writeK; omega, h.ty, fun v hv => by
        simp only [cond_false, List.mem_append] at hv
        rcases hv with hv | hv
        · exact h.vals v hv
        · exact hl v (List.mem_of_mem_take hv)⟩
def PJ (k : Nat) (st : PSt) : Prop := PInv st.1 ∧ st.2.2.length ≤ 6 * k ∧ ∀ v ∈ st.2.2, v.sz = 0
theorem pStep_inv {k : Nat} {st : PSt} (h : PJ k st) (a : SStreamAct) : PJ (k + 1) (pStep st a) := by
  obtain ⟨h1, h2, h3⟩ := h
  unfold pStep
  cases (a.Write && a.Close)
  · cases a.Close
    · cases a.Write
      · have := rdP_inv h1 (askN a.Many)
        refine ⟨this.1, ?_, fun v hv => ?_⟩
        · simp only [cond_false, List.length_append]; omega
        · simp only [cond_false, List.mem_append] at hv
          rcases hv with hv | hv
          · exact h3 v hv
          · exact this.2.2 v hv
      · exact ⟨wrP_inv h1 _ (numL_sz _ _), by simp only [cond_false, cond_true]; omega, h3⟩
    · exact ⟨lvP_inv h1, by simp only [cond_false, cond_true]; omega, h3⟩
  · exact ⟨shP_inv h1, by simp only [cond_true]; omega, h3⟩
theorem spc_eq (c : Int) (s s' : SStream) (h : c ≠ 0 → s' = s) : (bif c == 0 then spc c s' else s) = s' := by
  unfold spc
  cases hc : (c == 0)
  · have : c ≠ 0 := by intro e; subst e; simp at hc
    exact (h this).symm
  · rfl
theorem sh_same (s : SStream) : (shP s).1 ≠ 0 → (shP s).2 = s := by
  unfold shP; cases s.Shut <;> cases ((s.Future && !s.Gone) && (s.Put == 0)) <;> simp
theorem lv_same (s : SStream) : (lvP s).1 ≠ 0 → (lvP s).2 = s := by unfold lvP; cases s.Gone <;> simp
theorem rd_same (s : SStream) (m : Int) : (rdP s m).1 ≠ 0 → (rdP s m).2.1 = s := by
  unfold rdP; cases s.Gone <;> cases (((s.Buffer.length : Int) == 0) && s.Shut) <;> simp
theorem wr_same (s : SStream) (l : List SValue) : (wrP s l).2.1 ≠ 0 → (wrP s l).2.2 = s ∧ (wrP s l).1 = 0 := by
  unfold wrP
  cases (decide ((8 : Int) < (l.length : Int)) || decide (mostS s < Go.IntKind.wrap .i64 (s.Put + (l.length : Int)))) <;> cases s.Shut <;> cases s.Gone <;> simp
end M
/-
  PlayStream: the two loops.
-/
set_option linter.unusedVariables false
set_option linter.unusedSimpArgs false
namespace M
open Go.V (inB slB bigN bigN_le)

theorem many_nat {a : SStreamAct} (h : actB a = false) : 0 ≤ a.Many ∧ a.Many ≤ 8 := by
  unfold actB at h
  simp only [Bool.or_eq_false_iff, Bool.not_eq_false', Bool.and_eq_true, decide_eq_true_eq] at h
  exact h.1
theorem ask_s {n : Int} (h : 0 ≤ n) : M.s_l00Max n (1 : Int) = some (askN n) := by
  unfold M.s_l00Max askN
  by_cases c : (1 : Int) < n
  · rw [if_pos c, decide_eq_true c]; rfl
  · rw [if_neg c, decide_eq_false c]; rfl
theorem ask_i (n : Int) : (bif decide ((1 : Int) < n) then n else (1 : Int)) = askN n := by
  unfold askN
  by_cases c : (1 : Int) < n
  · rw [if_pos c, decide_eq_true c]; rfl
  · rw [if_neg c, decide_eq_false c]; rfl
theorem askN_1 (n : Int) : 1 ≤ askN n := by unfold askN; split <;> omega
theorem askN_8 {n : Int} (h : n ≤ 8) : askN n ≤ 8 := by unfold askN; split <;> omega
set_option maxHeartbeats 1000000 in
theorem play_s (list : List SStreamAct) (hl : list.length ≤ 60) (hA : ∀ a ∈ list, actB a = false) (t6 : Int) (t62 : List UInt8) (t63 : Int) (t64 : Bool) (t65 t66 : Int) (t67 t68 : Bool) (o7 : List (List UInt8)) (o8 : List SType) (o9 : List SValue) (st : PSt) (h0 : PJ 0 st) :
    M.s_PlayStream_l1 list t6 t62 t63 t64 t65 t66 t67 t68 o7 o8 o9 bigN st.2.1 0 st.1 st.2.2 = some (t6, t62, t63, t64, t65, t66, t67, t68, (list.foldl pStep st).1, (list.foldl pStep st).2.2, o7, o8, o9) := by
  refine fold_loop (F := fun f i st => M.s_PlayStream_l1 list t6 t62 t63 t64 t65 t66 t67 t68 o7 o8 o9 f st.2.1 i st.1 st.2.2) (g := pStep) (h := fun st => (t6, t62, t63, t64, t65, t66, t67, t68, st.1, st.2.2, o7, o8, o9)) list (by omega) PJ (fun f k st hk hJ => ?_) (fun f st _ => ?_) st h0
  · refine ⟨?_, pStep_inv hJ _⟩
    have hP := hJ.1
    have hb := hP.buf
    have hm := many_nat (hA list[k] (List.getElem_mem hk))
    have hn : ((list[k].Many.toNat : Nat) : Int) = list[k].Many := by omega
    have e1 := sh_s st.1
    have e2 := lv_s st.1
    have e3 := nums_s st.2.1 list[k].Many.toNat (by omega)
    rw [hn] at e3
    have e4 := wr_s st.1 (numL st.2.1 list[k].Many.toNat) hP.sz (by rw [szL_zero (numL_sz _ _), numL_len]; omega) hP.r0 hP.r6 hP.len
    have e5 := ask_s hm.1
    have e6 := rd_s st.1 (askN list[k].Many) (askN_1 _) (by omega)
    have hr := (rdP_inv hP (askN list[k].Many)).2.1
    have hc := cat_le (a := st.2.2.length) (b := (rdP st.1 (askN list[k].Many)).2.2.length) (by have := hJ.2.1; omega)
    have w := wrapk hk (by omega : list.length < 2 ^ 62)
    show M.s_PlayStream_l1 list t6 t62 t63 t64 t65 t66 t67 t68 o7 o8 o9 (f + 1) st.2.1 (k : Int) st.1 st.2.2 = _
    rw [M.s_PlayStream_l1]
    simp only [Int.ofNat_lt, hk, decide_true, cond_true, Int.toNat_natCast, getD_lt hk, SStream.re_eq, e1, e2, e3, e4, e5, e6, inB_nat, Option.isSome_some, Option.getD_some, Bool.true_and, Bool.and_true, w, hc]
    unfold pStep
    cases hW : list[k].Write <;> cases hC : list[k].Close <;> simp only [Bool.and_true, Bool.and_false, Bool.false_and, Bool.true_and, cond_true, cond_false, Bool.and_self]
    · have := spc_eq (rdP st.1 (askN list[k].Many)).1 st.1 (rdP st.1 (askN list[k].Many)).2.1 (rd_same _ _)
      cases hz : ((rdP st.1 (askN list[k].Many)).1 == 0) <;> rw [hz] at this <;> simp only [cond_true, cond_false] at this ⊢
      · rw [← this]
      · rw [this]
    · have := spc_eq (lvP st.1).1 st.1 (lvP st.1).2 (lv_same _)
      cases hz : ((lvP st.1).1 == 0) <;> rw [hz] at this <;> simp only [cond_true, cond_false] at this ⊢
      · rw [← this]
      · rw [this]
    · unfold wrS
      cases hz : ((wrP st.1 (numL st.2.1 list[k].Many.toNat)).2.1 == 0)
      · have hne : (wrP st.1 (numL st.2.1 list[k].Many.toNat)).2.1 ≠ 0 := by intro e; rw [e] at hz; simp at hz
        have := wr_same _ _ hne
        simp only [cond_false, hz, this.1, this.2]
      · simp only [cond_true]
        rfl
    · have := spc_eq (shP st.1).1 st.1 (shP st.1).2 (sh_same _)
      cases hz : ((shP st.1).1 == 0) <;> rw [hz] at this <;> simp only [cond_true, cond_false] at this ⊢
      · rw [← this]
      · rw [this]
  · show M.s_PlayStream_l1 list t6 t62 t63 t64 t65 t66 t67 t68 o7 o8 o9 (f + 1) st.2.1 (list.length : Int) st.1 st.2.2 = _
    rw [M.s_PlayStream_l1]
    simp [SStream.re_eq]

set_option maxHeartbeats 1000000 in
theorem play_i (list : List SStreamAct) (hl : list.length ≤ 60) (hA : ∀ a ∈ list, actB a = false) (t6 : Int) (t62 : List UInt8) (t63 : Int) (t64 : Bool) (t65 t66 : Int) (t67 t68 : Bool) (o7 : List (List UInt8)) (o8 : List SType) (o9 : List SValue) (st : PSt) (h0 : PJ 0 st) :
    M.i_PlayStream_l0 list (list.length : Int) t6 t62 t63 t64 t65 t66 t67 t68 o7 o8 o9 bigN st.2.1 0 st.1.Type_.Kind st.1.Type_.Name st.1.Room st.1.Future st.1.Put st.1.Got st.1.Shut st.1.Gone st.2.2 st.1.Type_.Labels st.1.Type_.Kids st.1.Buffer
      = some (t6, t62, t63, t64, t65, t66, t67, t68, (list.foldl pStep st).1.Type_.Kind, (list.foldl pStep st).1.Type_.Name, (list.foldl pStep st).1.Room, (list.foldl pStep st).1.Future, (list.foldl pStep st).1.Put, (list.foldl pStep st).1.Got, (list.foldl pStep st).1.Shut, (list.foldl pStep st).1.Gone, (list.foldl pStep st).2.2, o7, o8, o9, (list.foldl pStep st).1.Type_.Labels, (list.foldl pStep st).1.Type_.Kids, (list.foldl pStep st).1.Buffer) := by
  refine fold_loop (F := fun f i st => M.i_PlayStream_l0 list (list.length : Int) t6 t62 t63 t64 t65 t66 t67 t68 o7 o8 o9 f st.2.1 i st.1.Type_.Kind st.1.Type_.Name st.1.Room st.1.Future st.1.Put st.1.Got st.1.Shut st.1.Gone st.2.2 st.1.Type_.Labels st.1.Type_.Kids st.1.Buffer) (g := pStep)
    (h := fun st => (t6, t62, t63, t64, t65, t66, t67, t68, st.1.Type_.Kind, st.1.Type_.Name, st.1.Room, st.1.Future, st.1.Put, st.1.Got, st.1.Shut, st.1.Gone, st.2.2, o7, o8, o9, st.1.Type_.Labels, st.1.Type_.Kids, st.1.Buffer)) list (by omega) PJ (fun f k st hk hJ => ?_) (fun f st _ => ?_) st h0
  · refine ⟨?_, pStep_inv hJ _⟩
    have hP := hJ.1
    have hb := hP.buf
    have hm := many_nat (hA list[k] (List.getElem_mem hk))
    have hn : ((list[k].Many.toNat : Nat) : Int) = list[k].Many := by omega
    have e1 := sh_i st.1
    have e2 := lv_i st.1
    have e3 := nums_i st.2.1 list[k].Many.toNat (by omega)
    rw [hn] at e3
    have e4 := wr_i st.1 (numL st.2.1 list[k].Many.toNat) (by rw [szL_zero (numL_sz _ _), numL_len]; omega) hP.r0 hP.r6 hP.len
    have e6 := rd_i st.1 (askN list[k].Many) (askN_1 _) (askN_8 hm.2) (by omega)
    have hr := (rdP_inv hP (askN list[k].Many)).2.1
    have hc := cat_le (a := st.2.2.length) (b := (rdP st.1 (askN list[k].Many)).2.2.length) (by have := hJ.2.1; omega)
    have w := wrapk hk (by omega : list.length < 2 ^ 62)
    show M.i_PlayStream_l0 list (list.length : Int) t6 t62 t63 t64 t65 t66 t67 t68 o7 o8 o9 (f + 1) st.2.1 (k : Int) st.1.Type_.Kind st.1.Type_.Name st.1.Room st.1.Future st.1.Put st.1.Got st.1.Shut st.1.Gone st.2.2 st.1.Type_.Labels st.1.Type_.Kids st.1.Buffer = _
    rw [M.i_PlayStream_l0]
    simp only [Int.ofNat_lt, hk, decide_true, cond_true, Int.toNat_natCast, getD_lt hk, ask_i, e1, e2, e3, e4, e6, inB_nat, Option.isSome_some, Option.getD_some, Bool.true_and, Bool.and_true, w, SStream.flat0, SStream.flat3, SStream.flat5, hc]
    unfold pStep
    cases hW : list[k].Write <;> cases hC : list[k].Close <;> simp only [Bool.and_true, Bool.and_false, Bool.false_and, Bool.true_and, cond_true, cond_false, Bool.and_self]
  · show M.i_PlayStream_l0 list (list.length : Int) t6 t62 t63 t64 t65 t66 t67 t68 o7 o8 o9 (f + 1) st.2.1 (list.length : Int) st.1.Type_.Kind st.1.Type_.Name st.1.Room st.1.Future st.1.Put st.1.Got st.1.Shut st.1.Gone st.2.2 st.1.Type_.Labels st.1.Type_.Kids st.1.Buffer = _
    rw [M.i_PlayStream_l0]
    simp
end M
/-
  PlayStream: both sides hand back the same; the law.
-/
set_option linter.unusedVariables false
set_option linter.unusedSimpArgs false
namespace M
open Go.V (inB slB bigN bigN_le)

theorem ty9 {t : SType} (h : tOk t = true) (hk : t.Kind = 9) : t.sz = 0 := by
  unfold tOk at h
  rw [tShape_eq] at h
  simp only [shape1, labB, namedB, kidsB, hk, Bool.and_eq_true] at h
  have h1 : t.Labels = [] := by
    have := h.2.1.1.1
    simp at this; exact this
  have h2 : t.Name = [] := by
    have := h.2.1.1.2
    simp at this; exact this
  have h3 : t.Kids = [] := by
    have := h.2.1.2
    simp at this; exact this
  rw [SType.sz_eq, h1, h2, h3]; rfl
noncomputable def playR (s : SStream) (first : Int) (l : List SStreamAct) : SStream × List SValue × Int :=
  bif !stB s then (errS, [], 1) else bif s.Type_.Kind != 9 then (errS, [], 7) else bif !(decide ((-(1000000 : Int)) ≤ first) && decide (first ≤ (1000000 : Int))) then (errS, [], 2)
  else bif decide ((60 : Int) < (l.length : Int)) then (errS, [], 4) else bif l.any actB then (errS, [], 1)
  else ((l.foldl pStep (s, first, [])).1, (l.foldl pStep (s, first, [])).2.2, 0)
theorem start {s : SStream} (hs : stB s = true) (hk : s.Type_.Kind = 9) (first : Int) : PJ 0 (s, first, []) := by
  have hf := stB_facts hs
  refine ⟨⟨show 0 ≤ s.Room by have := hf.2.1; omega, hf.2.2.1, hf.2.2.2.1, ?_, fun v hv => ?_⟩, by simp, by simp⟩
  · show s.Type_.sz ≤ 1048000
    rw [ty9 (typB_ok hf.1) hk]; omega
  · have := hf.2.2.2.2.1
    unfold bufB at this
    exact fit9 (List.all_eq_true.1 this v hv) hk
theorem fold_inv : ∀ (l : List SStreamAct) (k : Nat) (st : PSt), PJ k st → PJ (k + l.length) (l.foldl pStep st)
  | [], k, st, h => h
  | a :: r, k, st, h => by
    have := fold_inv r (k + 1) (pStep st a) (pStep_inv h a)
    rw [List.foldl_cons, List.length_cons]
    rwa [Nat.add_right_comm, Nat.add_assoc] at this
theorem bad_s (s : SStream) (first : Int) (l : List SStreamAct) (hl : l.length ≤ 60) :
    M.s_PlayStream_l0 first l (0 : Int) [] (0 : Int) false (0 : Int) (0 : Int) false false [] [] [] bigN (0 : Int) s = some (match l.findIdx? actB with
      | some k => .inl ((1 : Int), (0 : Int), [], (0 : Int), false, (0 : Int), (0 : Int), false, false, [], [], [], [])
      | none => .inr (first, l, s, (0 : Int), [], (0 : Int), false, (0 : Int), (0 : Int), false, false, [], [], [])) := by
  refine find_list (p := actB) (F := fun f i => M.s_PlayStream_l0 first l (0 : Int) [] (0 : Int) false (0 : Int) (0 : Int) false false [] [] [] f i s) (fun _ => ((1 : Int), (0 : Int), [], (0 : Int), false, (0 : Int), (0 : Int), false, false, [], [], [], [])) l (by omega) (fun f k hk => ?_) (fun f => ?_)
  · show M.s_PlayStream_l0 first l (0 : Int) [] (0 : Int) false (0 : Int) (0 : Int) false false [] [] [] (f + 1) (k : Int) s = _
    rw [M.s_PlayStream_l0]
    simp only [Int.ofNat_lt, hk, decide_true, cond_true, Int.toNat_natCast, getD_lt hk, SStream.re_eq, inB_nat, Bool.true_or, Bool.true_and, Bool.and_true, wrapk hk (by omega : l.length < 2 ^ 62)]
    rfl
  · show M.s_PlayStream_l0 first l (0 : Int) [] (0 : Int) false (0 : Int) (0 : Int) false false [] [] [] (f + 1) (l.length : Int) s = _
    rw [M.s_PlayStream_l0]; simp [SStream.re_eq]
theorem bad_i (l : List SStreamAct) (hl : l.length ≤ 60) : M.slices_ContainsFunc_StreamAct_StreamAct l = some (l.any actB) := by
  have e := contains_of (p := actB) (F := M.slices_IndexFunc_StreamAct_StreamAct_l0 l (l.length : Int)) l (by omega) (fun f k hk => by
    rw [M.slices_IndexFunc_StreamAct_StreamAct_l0]
    have c : M.i_PlayStream_c1 l[k] = some (actB l[k]) := rfl
    simp only [getD_lt hk, c, Int.toNat_natCast, inB_nat, Int.ofNat_lt, hk, decide_true, cond_true, Bool.true_or, Bool.true_and, Bool.and_true, wrapk hk (by omega : l.length < 2 ^ 62), Option.getD_some, Option.isSome_some]) (fun f => by
    rw [M.slices_IndexFunc_StreamAct_StreamAct_l0]; simp)
  have e2 : M.slices_IndexFunc_StreamAct_StreamAct l = _ := e
  unfold M.slices_ContainsFunc_StreamAct_StreamAct
  rw [e2]
  simp only [Option.getD_some, Option.isSome_some, Bool.and_true, cond_true]
  rw [index_ge]
theorem playR_s (s : SStream) (first : Int) (l : List SStreamAct) (h : s.sz ≤ 1048576) : M.s_PlayStream s first l = some (playR s first l) := by
  unfold M.s_PlayStream playR
  simp only [SStream.re_eq, stream_s s h, Option.isSome_some, Option.getD_some, Bool.true_and, Bool.and_true, cond_true]
  cases hs : stB s
  · rfl
  · cases hk : (s.Type_.Kind != 9)
    · have hk9 : s.Type_.Kind = 9 := by simpa using hk
      cases hf : (decide ((-(1000000 : Int)) ≤ first) && decide (first ≤ (1000000 : Int)))
      · rfl
      · cases hl : decide ((60 : Int) < (l.length : Int))
        · have hl' : l.length ≤ 60 := by simp at hl; omega
          rw [bad_s s first l hl']
          cases ha : l.any actB
          · have hn : l.findIdx? actB = none := by rw [findIdx_any] at ha; cases e : l.findIdx? actB <;> rw [e] at ha <;> simp_all
            have hJ := start hs hk9 first
            have hA : ∀ a ∈ l, actB a = false := fun a ha' => by
              rw [List.any_eq_false] at ha; simpa using ha a ha'
            have hJ2 := fold_inv l 0 _ hJ
            have e := play_s l hl' hA (0 : Int) [] (0 : Int) false (0 : Int) (0 : Int) false false [] [] [] (s, first, []) hJ
            simp only [hn, ownSt_s s h, Option.isSome_some, Option.getD_some, e, ownSt_s _ hJ2.1.sz, Bool.not_true, cond_false, Bool.true_and, Bool.and_true, cond_true]
          · obtain ⟨k, hn⟩ : ∃ k, l.findIdx? actB = some k := by
              rw [findIdx_any] at ha; cases e : l.findIdx? actB
              · rw [e] at ha; simp at ha
              · exact ⟨_, rfl⟩
            simp only [hn, Bool.not_true, cond_false, cond_true, Bool.true_and, Bool.and_true]
            rfl
        · rfl
    · rfl
def SStream.flat2 (s : SStream) (c : Int) (v : List SValue) : Int × (List UInt8) × Int × Bool × Int × Int × Bool × Bool × Int × (List (List UInt8)) × (List M.SType) × (List M.SValue) × (List M.SValue) := (s.Type_.Kind, s.Type_.Name, s.Room, s.Future, s.Put, s.Got, s.Shut, s.Gone, c, s.Type_.Labels, s.Type_.Kids, s.Buffer, v)
theorem playR_i (s : SStream) (first : Int) (l : List SStreamAct) (h : s.sz ≤ 1048576) : M.i_PlayStream s first l = some ((playR s first l).1.flat2 (playR s first l).2.2 (playR s first l).2.1) := by
  unfold M.i_PlayStream playR
  simp only [SStream.re_eq, stream_i s h, copyStream s (SStream.type_le h) (SStream.buf_le h), SStream.tup, Option.isSome_some, Option.getD_some, Bool.true_and, Bool.and_true, cond_true]
  cases hs : stB s
  · rfl
  · cases hk : (s.Type_.Kind != 9)
    · have hk9 : s.Type_.Kind = 9 := by simpa using hk
      cases hf : (decide ((-(1000000 : Int)) ≤ first) && decide (first ≤ (1000000 : Int)))
      · rfl
      · cases hl : decide ((60 : Int) < (l.length : Int))
        · have hl' : l.length ≤ 60 := by simp at hl; omega
          rw [bad_i l hl']
          cases ha : l.any actB
          · have hJ := start hs hk9 first
            have hA : ∀ a ∈ l, actB a = false := fun a ha' => by
              rw [List.any_eq_false] at ha; simpa using ha a ha'
            have hJ2 := fold_inv l 0 _ hJ
            have e := play_i l hl' hA (0 : Int) [] (0 : Int) false (0 : Int) (0 : Int) false false [] [] [] (s, first, []) hJ
            have e2 := copyStream _ (SStream.type_le hJ2.1.sz) (SStream.buf_le hJ2.1.sz)
            simp only [Option.isSome_some, Option.getD_some, e, SType.eta, SStream.eta, e2, SStream.tup, Bool.not_true, cond_false, Bool.true_and, Bool.and_true, cond_true]
            rfl
          · simp only [Option.isSome_some, Option.getD_some, Bool.not_true, cond_false, Bool.true_and, Bool.and_true, cond_true]
            rfl
        · rfl
    · rfl
theorem playR_sz (s : SStream) (first : Int) (l : List SStreamAct) (h : s.sz ≤ 1048576) : (playR s first l).1.sz ≤ 1048576 ∧ szL SValue.sz (playR s first l).2.1 ≤ 1048576 := by
  unfold playR
  cases hs : stB s
  · exact ⟨by simp only [Bool.not_false, cond_true, errS_sz]; omega, by simp [szL]⟩
  · cases hk : (s.Type_.Kind != 9)
    · cases hf : (decide ((-(1000000 : Int)) ≤ first) && decide (first ≤ (1000000 : Int)))
      · exact ⟨by simp only [Bool.not_false, Bool.not_true, cond_true, cond_false, errS_sz]; omega, by simp [szL]⟩
      · cases hl : decide ((60 : Int) < (l.length : Int))
        · cases ha : l.any actB
          · have hJ := fold_inv l 0 _ (start hs (by simpa using hk) first)
            refine ⟨hJ.1.sz, ?_⟩
            simp only [Bool.not_true, cond_false]
            rw [szL_zero hJ.2.2]
            have := hJ.2.1
            simp at hl
            omega
          · exact ⟨by simp only [Bool.not_true, cond_true, cond_false, errS_sz]; omega, by simp [szL]⟩
        · exact ⟨by simp only [Bool.not_true, cond_true, cond_false, errS_sz]; omega, by simp [szL]⟩
    · exact ⟨by simp only [Bool.not_true, cond_true, cond_false, errS_sz]; omega, by simp [szL]⟩

/-! ### acts marked -/
noncomputable def mAct (k : Int) (_ : SStreamAct) : Int × SStreamAct := (k + 1 + 1 + 1, SStreamAct.mk (Int.tmod k 3 == 0) (Int.tmod (k + 1) 3 == 0) (k + 1 + 1))
theorem mAct_le (l : List SStreamAct) (k : Int) : k ≤ (markL mAct k l).1 ∧ (markL mAct k l).1 = k + 3 * (l.length : Int) := by
  induction l generalizing k with
  | nil => simp [markL]
  | cons x r ih => have := ih (k + 1 + 1 + 1); simp only [markL, mAct, List.length_cons] at *; omega
theorem markActs_ok (a : List SStreamAct) (ha : a.length ≤ 1048576) (k : Int) (h0 : 0 ≤ k) (h1 : k ≤ 100000000000) : M.l_markStreamActS k a = some (markL mAct k a) := by
  unfold M.l_markStreamActS
  rw [mark_loop (F := M.l_markStreamActS_l0) (mk := mAct) a ha (fun i q => q = k + 3 * (i : Int)) SStreamAct.zero (fun f q i l hi hl hg hI => by
    subst hI
    rw [M.l_markStreamActS_l0]
    have hlt : decide ((i : Int) < ((l.length : Nat) : Int)) = true := by rw [decide_eq_true_eq]; omega
    have hin : inB (i : Int) l.length = true := by rw [inB_nat]; simpa using hl
    have w1 : Go.IntKind.wrap .i64 (k + 3 * (i : Int) + 1) = k + 3 * (i : Int) + 1 := wrap_i64 (by omega) (by omega)
    have w2 : Go.IntKind.wrap .i64 (k + 3 * (i : Int) + 1 + 1) = k + 3 * (i : Int) + 1 + 1 := wrap_i64 (by omega) (by omega)
    have w3 : Go.IntKind.wrap .i64 (k + 3 * (i : Int) + 1 + 1 + 1) = k + 3 * (i : Int) + 1 + 1 + 1 := wrap_i64 (by omega) (by omega)
    have h3 : ((3 : Int) != 0) = true := rfl
    refine ⟨?_, by simp only [mAct]; omega⟩
    simp only [hlt, hin, h3, Int.toNat_natCast, cond_true, Bool.true_and, Bool.and_true, getD_set, hl, List.length_set, hg, w1, w2, w3, wrapk hi (big_of ha), List.set_set, mAct]) (fun f q l hl => by rw [M.l_markStreamActS_l0]; simp [hl]) k (by simp)]

theorem law_PlayStream (x : SStream) (first : Int) (l : List SStreamAct) (hx : x.Ok) (hl0 : LOk SStreamAct.Ok l) : M.l_FnExactPlayStream x first l = some true := by
  unfold M.l_FnExactPlayStream
  rw [SStream.re_eq, sz_Stream x 1048576 hx (by omega) (by omega)]
  by_cases h1 : (x.sz : Int) ≤ 1048576
  · have h : x.sz ≤ 1048576 := by omega
    have n1 : ¬ (1048576 - (x.sz : Int) < 0) := by omega
    rw [if_pos h1]
    have es := szS_StreamAct l (1048576 - (x.sz : Int)) hl0 (by omega) (by omega)
    by_cases h2 : (szL SStreamAct.sz l : Int) ≤ 1048576 - (x.sz : Int)
    · rw [if_pos h2] at es
      have n2 : ¬ (1048576 - (x.sz : Int) - (szL SStreamAct.sz l : Int) < 0) := by omega
      have hl : szL SStreamAct.sz l ≤ 1048576 := by omega
      have hlen := Nat.le_trans (szL_len SStreamAct.sz l) hl
      have hr := playR_sz x first l h
      have e1 := playR_i x first l h
      have e2 := playR_s x first l h
      generalize playR x first l = r at hr e1 e2
      obtain ⟨r, v, c⟩ := r
      have q0 := to_Stream x h
      have q0' := toS_StreamAct l hl
      have q1 := markS1 x h
      have q2 := markS1 r hr.1
      have q3 := heldS1 r hr.1
      have q4 := k3_pos x h
      have q5 := k3_pos r hr.1
      have q6 := eq_Stream x h
      have q7 := eq_Stream r hr.1
      have q8 := eqS_Value v hr.2
      have q8' := eqS_StreamAct l hl
      have hk := k3_le r hr.1
      have hkx := k3_le x h
      have q9 := markVas_ok v (k3 1 r) hr.2 (by omega) (by omega)
      have q10 := heldVas_ok v (k3 1 r) hr.2 (by omega) (by omega)
      have q11 := neg_false (n := (markL mVa (k3 1 r) v).1) (by have := markVas_le v (k3 1 r); omega)
      have q12 := markActs_ok l hlen (k3 1 x) (by omega) (by omega)
      have q13 := neg_false (n := (markL mAct (k3 1 x) l).1) (by have := mAct_le l (k3 1 x); omega)
      simp only [SStream.flat2] at e1
      simp only [SStream.re_eq, q0, q0', es, e1, e2, SType.eta, SStream.eta, q1, q2, q3, q4, q5, q6, q7, q8, q8', q9, q10, q11, q12, q13, Option.getD_some, Option.isSome_some, n1, n2, decide_false, cond_false, Bool.and_true, Bool.and_self, Bool.true_and, cond_true, beq_self_eq_true, bne_self_eq_false, Bool.not_true, Bool.or_false, Bool.not_false, Bool.or_true, Bool.true_or]
    · rw [if_neg h2] at es
      simp [es, n1]
  · rw [if_neg h1]; simp
end M
