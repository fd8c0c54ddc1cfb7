/-
  RUNNING NUMBERS in plain Lean: a list whose elements are marked one behind the other.
-/
import Derived.Test.YtjnemekhocfmlaaGreatXPplA
import Derived.Test.YtjnemekhocfmlaaGreatXPQH
set_option linter.unusedVariables false
namespace M
open Go.V (inB slB bigN bigN_le)

def markL {α : Type} (mk : Int → α → Int × α) : Int → List α → Int × List α
  | k, [] => (k, [])
  | k, x :: r => ((markL mk (mk k x).1 r).1, (mk k x).2 :: (markL mk (mk k x).1 r).2)
theorem markL_len {α : Type} (mk : Int → α → Int × α) : ∀ (k : Int) (l : List α), (markL mk k l).2.length = l.length
  | k, [] => rfl
  | k, x :: r => by simp [markL, markL_len mk _ r]
theorem getD_set {α : Type} {l : List α} {i : Nat} (h : i < l.length) (x d : α) : (l.set i x).getD i d = x := by
  rw [List.getD_eq_getElem?_getD, List.getElem?_set_self h]; rfl
theorem mark_loop {α : Type} {F : Nat → Int → Int → List α → Option (Int × List α)} {mk : Int → α → Int × α} (a : List α) (ha : a.length ≤ 1048576) (I : Nat → Int → Prop) (d : α)
    (step : ∀ f k i (l : List α), ∀ h : i < a.length, i < l.length → l.getD i d = a[i] → I i k → F (f + 1) k (i : Int) l = F f (mk k a[i]).1 ((i + 1 : Nat) : Int) (l.set i (mk k a[i]).2) ∧ I (i + 1) (mk k a[i]).1)
    (stop : ∀ f k (l : List α), l.length = a.length → F (f + 1) k (a.length : Int) l = some (k, l)) (k0 : Int) (h0 : I 0 k0) : F bigN k0 0 a = some (markL mk k0 a) := by
  have key : ∀ f i k (l : List α), i ≤ a.length → a.length - i < f → l.length = a.length → (∀ j, i ≤ j → l[j]? = a[j]?) → I i k → F f k (i : Int) l = some ((markL mk k (a.drop i)).1, l.take i ++ (markL mk k (a.drop i)).2) := by
    intro f
    induction f with
    | zero => intro i k l h1 h2; omega
    | succ f ih =>
      intro i k l h1 h2 hl hj hI
      rcases Nat.lt_or_ge i a.length with hi | hi
      · have hg : l.getD i d = a[i] := by rw [List.getD_eq_getElem?_getD, hj i (Nat.le_refl _), List.getElem?_eq_getElem hi]; rfl
        obtain ⟨e, hI'⟩ := step f k i l hi (by omega) hg hI
        rw [e, ih (i + 1) _ _ (by omega) (by omega) (by simpa using hl) (fun j hj' => by rw [List.getElem?_set, if_neg (by omega)]; exact hj j (by omega)) hI', drop_get hi]
        simp only [markL]
        congr 2
        rw [List.take_add_one, List.getElem?_set_self (by omega), List.take_set_of_le (Nat.le_refl _)]
        simp
      · have : i = a.length := by omega
        subst this
        rw [stop f k l hl, List.drop_length, ← hl, List.take_length]
        simp [markL]
  have := key bigN 0 k0 a (Nat.zero_le _) (by have := bigN_le; omega) rfl (fun _ _ => rfl) h0
  simpa using this
theorem held_loop {α E : Type} {F : Nat → Int → Int → Option (Int ⊕ E)} {mk : Int → α → Int × α} {fin : Int → E} (a : List α) (ha : a.length ≤ 1048576) (I : Nat → Int → Prop) (d : α) (k0 : Int) (h0 : I 0 k0)
    (step : ∀ f k i (y : α), ∀ h : i < a.length, ((markL mk k0 a).2).getD i d = y → y = (mk k a[i]).2 → I i k → F (f + 1) k (i : Int) = F f (mk k a[i]).1 ((i + 1 : Nat) : Int) ∧ I (i + 1) (mk k a[i]).1)
    (stop : ∀ f k, F (f + 1) k (a.length : Int) = some (.inr (fin k))) : F bigN k0 0 = some (.inr (fin (markL mk k0 a).1)) := by
  have key : ∀ f i k, i ≤ a.length → a.length - i < f → (markL mk k0 a).2.drop i = (markL mk k (a.drop i)).2 → (markL mk k0 a).1 = (markL mk k (a.drop i)).1 → I i k → F f k (i : Int) = some (.inr (fin (markL mk k (a.drop i)).1)) := by
    intro f
    induction f with
    | zero => intro i k h1 h2; omega
    | succ f ih =>
      intro i k h1 h2 hd hk hI
      rcases Nat.lt_or_ge i a.length with hi | hi
      · have hlen := markL_len mk k0 a
        have hi' : i < (markL mk k0 a).2.length := by omega
        have hd' := hd
        rw [drop_get hi, markL, drop_get hi'] at hd
        have hg : ((markL mk k0 a).2).getD i d = (mk k a[i]).2 := by
          rw [getD_lt hi']; exact (List.cons.inj hd).1
        obtain ⟨e, hI'⟩ := step f k i _ hi rfl hg hI
        rw [e, ih (i + 1) _ (by omega) (by omega) (List.cons.inj hd).2 (by rw [hk, drop_get hi, markL]) hI', drop_get hi, markL]
      · have : i = a.length := by omega
        subst this
        rw [stop, List.drop_length]; rfl
  have := key bigN 0 k0 (Nat.zero_le _) (by have := bigN_le; omega) rfl rfl h0
  simpa using this
end M
/-
  RUNNING NUMBERS: the mark of a text is some text.
-/
set_option linter.unusedVariables false
set_option linter.unusedSimpArgs false
namespace M
open Go.V (inB slB bigN bigN_le)

theorem mk_digit {n : Nat} (h : n < 10) : Go.IntKind.wrap .u8 (Go.IntKind.wrap .i64 ((48 : Int) + (n : Int))) = ((48 + n : Nat) : Int) := by
  rw [wrap_i64 (by omega) (by omega)]
  have : ∀ m : Fin 10, Go.IntKind.wrap .u8 ((48 : Int) + ((m.val : Nat) : Int)) = ((48 + m.val : Nat) : Int) := by decide
  exact this ⟨n, h⟩
theorem mk_digit_ok {n : Nat} (h : n < 10) : Go.V.u8ok ((48 + n : Nat) : Int) = true := by
  unfold Go.V.u8ok; simp only [Bool.and_eq_true, decide_eq_true_eq]; omega
theorem mk_cat {a b : List UInt8} (h : a.length + b.length ≤ 100000) : Go.V.catB a b = true := by
  unfold Go.V.catB; rw [decide_eq_true_eq]; omega

theorem markText_loop : ∀ (j f k : Nat) (out : List UInt8), k < 10 ^ j → j < f → k < 4611686018427387904 → out.length + j ≤ 1000 → ∃ s, M.l_markText_l0 f (k : Int) out = some s ∧ s.length ≤ out.length + j
  | j, 0, k, out, _, h, _, _ => by omega
  | 0, f + 1, k, out, h1, h2, h3, h4 => by
    have : k = 0 := by simpa using h1
    subst this
    exact ⟨out, by rw [M.l_markText_l0]; simp, Nat.le_refl _⟩
  | j + 1, f + 1, k, out, h1, h2, h3, h4 => by
    rw [M.l_markText_l0]
    rcases Nat.eq_zero_or_pos k with h0 | h0
    · subst h0
      exact ⟨out, by simp, by omega⟩
    · have hd : decide ((0 : Int) < (k : Int)) = true := by rw [decide_eq_true_eq]; omega
      have e3 : Int.tmod (k : Int) 10 = ((k % 10 : Nat) : Int) := (Int.ofNat_tmod k 10).symm
      have e4 : Go.IntKind.wrap .i64 (Int.tdiv (k : Int) 10) = ((k / 10 : Nat) : Int) := by
        rw [show Int.tdiv (k : Int) 10 = ((k / 10 : Nat) : Int) from (Int.ofNat_tdiv k 10).symm, wrap_i64 (by omega) (by omega)]
      have hm : k % 10 < 10 := Nat.mod_lt _ (by decide)
      obtain ⟨s, g1, g2⟩ := markText_loop j f (k / 10) ([Go.V.u8of ((48 + k % 10 : Nat) : Int)] ++ out) (by rw [Nat.pow_succ] at h1; omega) (by omega) (by omega) (by simp; omega)
      refine ⟨s, ?_, by simp at g2; omega⟩
      simp only [hd, e3, e4, mk_digit hm, mk_digit_ok hm, cond_true, List.map_cons, List.map_nil]
      rw [mk_cat (by simp; omega)]
      exact g1
theorem markText_ok (k : Int) (h0 : 0 ≤ k) (h1 : k ≤ 1000000000000) : ∃ s, M.l_markText k = some s := by
  obtain ⟨n, rfl⟩ := Int.eq_ofNat_of_zero_le h0
  unfold M.l_markText
  by_cases hz : (n : Int) ≤ 0
  · rw [decide_eq_true hz]; exact ⟨_, rfl⟩
  · rw [decide_eq_false hz]
    obtain ⟨s, e, hl⟩ := markText_loop 13 bigN n [] (by omega) (by have := bigN_le; omega) (by omega) (by simp)
    rw [e]
    simp only [cond_false]
    rw [mk_cat (by simp at hl ⊢; omega)]
    exact ⟨_, rfl⟩
noncomputable def mT (k : Int) : List UInt8 := (M.l_markText k).getD Inhabited.default
theorem mT_eq {k : Int} (h0 : 0 ≤ k) (h1 : k ≤ 1000000000000) : M.l_markText k = some (mT k) := by
  obtain ⟨s, e⟩ := markText_ok k h0 h1
  unfold mT; rw [e]; rfl

end M
/-
  RUNNING NUMBERS on modules (as arguments) .
-/
set_option linter.unusedVariables false
set_option linter.unusedSimpArgs false
namespace M
open Go.V (inB slB bigN bigN_le)
def r3 (k : Int) : Bool := Int.tmod k 3 == 0
/-! ### imports -/
noncomputable def mIm (k : Int) (_ : SImport) : Int × SImport := (k + 1 + 1 + 1, SImport.mk (mT k) (k + 1) (r3 (k + 1 + 1)))
theorem mIm_le (l : List SImport) (k : Int) : k ≤ (markL mIm k l).1 ∧ (markL mIm k l).1 = k + 3 * (l.length : Int) := by
  induction l generalizing k with
  | nil => simp [markL]
  | cons x r ih => have := ih (k + 1 + 1 + 1); simp only [markL, mIm, List.length_cons] at *; omega
theorem markIm_ok (a : List SImport) (ha : a.length ≤ 1048576) (k : Int) (h0 : 0 ≤ k) (h1 : k ≤ 100000000000) : M.l_markImportS k a = some (markL mIm k a) := by
  unfold M.l_markImportS
  rw [mark_loop (F := M.l_markImportS_l0) (mk := mIm) a ha (fun i q => q = k + 3 * (i : Int)) SImport.zero (fun f q i l hi hl hg hI => by
    rw [M.l_markImportS_l0]
    have hmt := mT_eq (k := q) (by omega) (by omega)
    have hlt : decide ((i : Int) < ((l.length : Nat) : Int)) = true := by rw [decide_eq_true_eq]; omega
    have hin : inB (i : Int) l.length = true := by rw [inB_nat]; simpa using hl
    have w1 : Go.IntKind.wrap .i64 (q + 1) = q + 1 := wrap_i64 (by omega) (by omega)
    have w2 : Go.IntKind.wrap .i64 (q + 1 + 1) = q + 1 + 1 := wrap_i64 (by omega) (by omega)
    have w3 : Go.IntKind.wrap .i64 (q + 1 + 1 + 1) = q + 1 + 1 + 1 := wrap_i64 (by omega) (by omega)
    have h3 : ((3 : Int) != 0) = true := rfl
    refine ⟨?_, by simp only [mIm]; omega⟩
    simp only [hlt, hin, hmt, h3, Int.toNat_natCast, cond_true, Bool.true_and, Bool.and_true, getD_set, hl, List.length_set, hg, w1, w2, w3, Option.isSome_some, Option.getD_some, wrapk hi (big_of ha), List.set_set, mIm, r3]) (fun f q l hl => by rw [M.l_markImportS_l0]; simp [hl]) k (by simp)]
/-! ### instructions -/
def mIn (k : Int) (_ : SIns) : Int × SIns := (k + 1 + 1, SIns.mk k (k + 1))
theorem mIn_le (l : List SIns) (k : Int) : k ≤ (markL mIn k l).1 ∧ (markL mIn k l).1 = k + 2 * (l.length : Int) := by
  induction l generalizing k with
  | nil => simp [markL]
  | cons x r ih => have := ih (k + 1 + 1); simp only [markL, mIn, List.length_cons] at *; omega
theorem markIn_ok (a : List SIns) (ha : a.length ≤ 1048576) (k : Int) (h0 : 0 ≤ k) (h1 : k ≤ 100000000000) : M.l_markInsS k a = some (markL mIn k a) := by
  unfold M.l_markInsS
  rw [mark_loop (F := M.l_markInsS_l0) (mk := mIn) a ha (fun i q => q = k + 2 * (i : Int)) SIns.zero (fun f q i l hi hl hg hI => by
    rw [M.l_markInsS_l0]
    have hlt : decide ((i : Int) < ((l.length : Nat) : Int)) = true := by rw [decide_eq_true_eq]; omega
    have hin : inB (i : Int) l.length = true := by rw [inB_nat]; simpa using hl
    have w1 : Go.IntKind.wrap .i64 (q + 1) = q + 1 := wrap_i64 (by omega) (by omega)
    have w2 : Go.IntKind.wrap .i64 (q + 1 + 1) = q + 1 + 1 := wrap_i64 (by omega) (by omega)
    refine ⟨?_, by simp only [mIn]; omega⟩
    simp only [hlt, hin, Int.toNat_natCast, cond_true, Bool.true_and, Bool.and_true, getD_set, hl, List.length_set, hg, w1, w2, wrapk hi (big_of ha), List.set_set, mIn]) (fun f q l hl => by rw [M.l_markInsS_l0]; simp [hl]) k (by simp)]
/-! ### cores -/
noncomputable def mCo (k : Int) (c : SCore) : Int × SCore := ((markL mIn (k + 1 + 1 + 1 + 1) c.Code).1, SCore.mk (mT k) (k + 1) (k + 1 + 1) (r3 (k + 1 + 1 + 1)) (markL mIn (k + 1 + 1 + 1 + 1) c.Code).2)
theorem mCo_le (l : List SCore) (k : Int) : k ≤ (markL mCo k l).1 ∧ (markL mCo k l).1 ≤ k + 4 * (szL SCore.sz l : Int) := by
  induction l generalizing k with
  | nil => simp [markL, szL]
  | cons x r ih =>
    have := ih (mCo k x).1
    have h1 := mIn_le x.Code (k + 1 + 1 + 1 + 1)
    have h2 := SCore.sz_eq x
    have h3 := szL_len SIns.sz x.Code
    simp only [markL, szL]
    have h4 : (mCo k x).1 = (markL mIn (k + 1 + 1 + 1 + 1) x.Code).1 := rfl
    omega
theorem markCo_ok (a : List SCore) (ha : szL SCore.sz a ≤ 1048576) (k : Int) (h0 : 0 ≤ k) (h1 : k ≤ 10000000000) : M.l_markCoreS k a = some (markL mCo k a) := by
  have hlen := szL_len SCore.sz a
  unfold M.l_markCoreS
  rw [mark_loop (F := M.l_markCoreS_l0) (mk := mCo) a (by omega) (fun i q => 0 ≤ q ∧ q + 4 * (szL SCore.sz (a.drop i) : Int) ≤ 20000000000) SCore.zero (fun f q i l hi hl hg hI => by
    rw [drop_get hi, szL] at hI
    have hmem := szL_mem SCore.sz a a[i] (List.getElem_mem hi)
    have hs := SCore.sz_eq a[i]
    have hcc := szL_len SIns.sz a[i].Code
    have hms := mIn_le a[i].Code (q + 1 + 1 + 1 + 1)
    rw [M.l_markCoreS_l0]
    have hmt := mT_eq (k := q) (by omega) (by omega)
    have hlt : decide ((i : Int) < ((l.length : Nat) : Int)) = true := by rw [decide_eq_true_eq]; omega
    have hin : inB (i : Int) l.length = true := by rw [inB_nat]; simpa using hl
    have w1 : Go.IntKind.wrap .i64 (q + 1) = q + 1 := wrap_i64 (by omega) (by omega)
    have w2 : Go.IntKind.wrap .i64 (q + 1 + 1) = q + 1 + 1 := wrap_i64 (by omega) (by omega)
    have w3 : Go.IntKind.wrap .i64 (q + 1 + 1 + 1) = q + 1 + 1 + 1 := wrap_i64 (by omega) (by omega)
    have w4 : Go.IntKind.wrap .i64 (q + 1 + 1 + 1 + 1) = q + 1 + 1 + 1 + 1 := wrap_i64 (by omega) (by omega)
    have h3 : ((3 : Int) != 0) = true := rfl
    have e1 := markIn_ok a[i].Code (by omega) (q + 1 + 1 + 1 + 1) (by omega) (by omega)
    have h4 : (mCo q a[i]).1 = (markL mIn (q + 1 + 1 + 1 + 1) a[i].Code).1 := rfl
    refine ⟨?_, by omega, by omega⟩
    simp only [hlt, hin, hmt, h3, Int.toNat_natCast, cond_true, Bool.true_and, Bool.and_true, getD_set, hl, List.length_set, hg, w1, w2, w3, w4, e1, Option.isSome_some, Option.getD_some, wrapk hi (big_of (show a.length ≤ 1048576 by omega)), List.set_set, mCo, r3]) (fun f q l hl => by rw [M.l_markCoreS_l0]; simp [hl]) k ⟨h0, by simp only [List.drop_zero]; omega⟩]
theorem markMo_ok (p : Int) (m : SModule) (h : m.sz ≤ 1048576) : ∃ k i c, M.l_markModule p 1 m.Imports m.Cores = some (k, i, c) ∧ 0 ≤ k ∧ k ≤ 100000000000 := by
  have hs := SModule.sz_eq m
  have hl := szL_len SImport.sz m.Imports
  have h1 := mIm_le m.Imports 1
  have h2 := mCo_le m.Cores (markL mIm 1 m.Imports).1
  unfold M.l_markModule
  simp only [markIm_ok m.Imports (by omega) 1 (by omega) (by omega), Option.getD_some, markCo_ok m.Cores (by omega) (markL mIm 1 m.Imports).1 (by omega) (by omega), Option.isSome_some, Bool.true_and, Bool.and_true, cond_true]
  exact ⟨_, _, _, rfl, by omega, by omega⟩
/-! ### numbers -/
def mNu (k : Int) (_ : Int) : Int × Int := (k + 1, k)
theorem mNu_le (l : List Int) (k : Int) : k ≤ (markL mNu k l).1 ∧ (markL mNu k l).1 = k + (l.length : Int) := by
  induction l generalizing k with
  | nil => simp [markL]
  | cons x r ih => have := ih (k + 1); simp only [markL, mNu, List.length_cons] at *; omega
theorem markNu_ok (a : List Int) (ha : a.length ≤ 1048576) (k : Int) (h0 : 0 ≤ k) (h1 : k ≤ 100000000000) : M.l_markInt64S k a = some (markL mNu k a) := by
  unfold M.l_markInt64S
  rw [mark_loop (F := M.l_markInt64S_l0) (mk := mNu) a ha (fun i q => q = k + (i : Int)) 0 (fun f q i l hi hl hg hI => by
    rw [M.l_markInt64S_l0]
    have hlt : decide ((i : Int) < ((l.length : Nat) : Int)) = true := by rw [decide_eq_true_eq]; omega
    have hin : inB (i : Int) l.length = true := by rw [inB_nat]; simpa using hl
    have w1 : Go.IntKind.wrap .i64 (q + 1) = q + 1 := wrap_i64 (by omega) (by omega)
    refine ⟨?_, by simp only [mNu]; omega⟩
    simp only [hlt, hin, Int.toNat_natCast, cond_true, Bool.true_and, Bool.and_true, w1, wrapk hi (big_of ha), mNu]) (fun f q l hl => by rw [M.l_markInt64S_l0]; simp [hl]) k (by simp)]
theorem heldNu_ok (a : List Int) (ha : a.length ≤ 1048576) (k : Int) (h0 : 0 ≤ k) (h1 : k ≤ 100000000000) : M.l_heldInt64S (markL mNu k a).2 k = some (markL mNu k a).1 := by
  unfold M.l_heldInt64S
  rw [held_loop (F := M.l_heldInt64S_l0 (markL mNu k a).2) (mk := mNu) (fin := id) a ha (fun i q => q = k + (i : Int)) 0 k (by simp) (fun f q i y hi e1 e2 hI => by
    have e3 : y = q := e2
    rw [e3] at e1
    clear e2 e3
    rw [M.l_heldInt64S_l0]
    have hlt : decide ((i : Int) < (((markL mNu k a).2.length : Nat) : Int)) = true := by rw [decide_eq_true_eq, markL_len]; omega
    have hin : inB (i : Int) (markL mNu k a).2.length = true := by rw [inB_nat, markL_len]; simpa using hi
    have w1 : Go.IntKind.wrap .i64 (q + 1) = q + 1 := wrap_i64 (by omega) (by omega)
    refine ⟨?_, by simp only [mNu]; omega⟩
    simp only [hlt, hin, e1, mNu, Int.toNat_natCast, cond_true, cond_false, Bool.true_and, Bool.and_true, wrapk hi (big_of ha), bne_self_eq_false, w1]) (fun f q => by rw [M.l_heldInt64S_l0]; simp [markL_len])]
  rfl
end M
