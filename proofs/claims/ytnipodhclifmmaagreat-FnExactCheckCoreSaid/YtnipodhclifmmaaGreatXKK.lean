/-
  RUNNING NUMBERS in plain Lean: a list whose elements are marked one behind the other.
-/
import Derived.Test.YtnipodhclifmmaaGreatXKpl4
import Derived.Test.YtnipodhclifmmaaGreatXCDH
import Derived.Test.YtnipodhclifmmaaGreatXKT
set_option linter.unusedVariables false
namespace M
open Go.V (inB slB bigN bigN_le)

def markL {α : Type} (mk : Int → α → Int × α) : Int → List α → Int × List α
  | k, [] => (k, [])
  | k, x :: r => ((markL mk (mk k x).1 r).1, (mk k x).2 :: (markL mk (mk k x).1 r).2)
theorem markL_len {α : Type} (mk : Int → α → Int × α) : ∀ (k : Int) (l : List α), (markL mk k l).2.length = l.length
  | k, [] => rfl
  | k, x :: r => by simp [markL, markL_len mk _ r]
theorem getD_set {α : Type} {l : List α} {i : Nat} (h : i < l.length) (x d : α) : (l.set i x).getD i d = x := by
  rw [List.getD_eq_getElem?_getD, List.getElem?_set_self h]; rfl
theorem mark_loop {α : Type} {F : Nat → Int → Int → List α → Option (Int × List α)} {mk : Int → α → Int × α} (a : List α) (ha : a.length ≤ 1048576) (I : Nat → Int → Prop) (d : α)
    (step : ∀ f k i (l : List α), ∀ h : i < a.length, i < l.length → l.getD i d = a[i] → I i k → F (f + 1) k (i : Int) l = F f (mk k a[i]).1 ((i + 1 : Nat) : Int) (l.set i (mk k a[i]).2) ∧ I (i + 1) (mk k a[i]).1)
    (stop : ∀ f k (l : List α), l.length = a.length → F (f + 1) k (a.length : Int) l = some (k, l)) (k0 : Int) (h0 : I 0 k0) : F bigN k0 0 a = some (markL mk k0 a) := by
  have key : ∀ f i k (l : List α), i ≤ a.length → a.length - i < f → l.length = a.length → (∀ j, i ≤ j → l[j]? = a[j]?) → I i k → F f k (i : Int) l = some ((markL mk k (a.drop i)).1, l.take i ++ (markL mk k (a.drop i)).2) := by
    intro f
    induction f with
    | zero => intro i k l h1 h2; omega
    | succ f ih =>
      intro i k l h1 h2 hl hj hI
      rcases Nat.lt_or_ge i a.length with hi | hi
      · have hg : l.getD i d = a[i] := by rw [List.getD_eq_getElem?_getD, hj i (Nat.le_refl _), List.getElem?_eq_getElem hi]; rfl
        obtain ⟨e, hI'⟩ := step f k i l hi (by omega) hg hI
        rw [e, ih (i + 1) _ _ (by omega) (by omega) (by simpa using hl) (fun j hj' => by rw [List.getElem?_set, if_neg (by omega)]; exact hj j (by omega)) hI', drop_get hi]
        simp only [markL]
        congr 2
        rw [List.take_add_one, List.getElem?_set_self (by omega), List.take_set_of_le (Nat.le_refl _)]
        simp
      · have : i = a.length := by omega
        subst this
        rw [stop f k l hl, List.drop_length, ← hl, List.take_length]
        simp [markL]
  have := key bigN 0 k0 a (Nat.zero_le _) (by have := bigN_le; omega) rfl (fun _ _ => rfl) h0
  simpa using this
/-- how far the numbers go -/
theorem markL_le {α : Type} {mk : Int → α → Int × α} {c : α → Nat} : ∀ (l : List α) (k : Int), (∀ x ∈ l, ∀ k, k ≤ (mk k x).1 ∧ (mk k x).1 ≤ k + (c x : Int)) → k ≤ (markL mk k l).1 ∧ (markL mk k l).1 ≤ k + ((suL c l : Nat) : Int)
  | [], k, _ => by simp [markL, suL]
  | x :: r, k, h => by
    have h1 := h x (by simp) k
    have h2 := markL_le r (mk k x).1 fun y hy => h y (by simp [hy])
    simp only [markL, suL]
    omega

/-- a list that is held against the numbers -/
theorem held_loop {α E : Type} {F : Nat → Int → Int → Option (Int ⊕ E)} {mk : Int → α → Int × α} {fin : Int → E} (a : List α) (ha : a.length ≤ 1048576) (I : Nat → Int → Prop) (d : α) (k0 : Int) (h0 : I 0 k0)
    (step : ∀ f k i (y : α), ∀ h : i < a.length, ((markL mk k0 a).2).getD i d = y → y = (mk k a[i]).2 → I i k → F (f + 1) k (i : Int) = F f (mk k a[i]).1 ((i + 1 : Nat) : Int) ∧ I (i + 1) (mk k a[i]).1)
    (stop : ∀ f k, F (f + 1) k (a.length : Int) = some (.inr (fin k))) : F bigN k0 0 = some (.inr (fin (markL mk k0 a).1)) := by
  have key : ∀ f i k, i ≤ a.length → a.length - i < f → (markL mk k0 a).2.drop i = (markL mk k (a.drop i)).2 → (markL mk k0 a).1 = (markL mk k (a.drop i)).1 → I i k → F f k (i : Int) = some (.inr (fin (markL mk k (a.drop i)).1)) := by
    intro f
    induction f with
    | zero => intro i k h1 h2; omega
    | succ f ih =>
      intro i k h1 h2 hd hk hI
      rcases Nat.lt_or_ge i a.length with hi | hi
      · have hlen := markL_len mk k0 a
        have hi' : i < (markL mk k0 a).2.length := by omega
        have hd' := hd
        rw [drop_get hi, markL, drop_get hi'] at hd
        have hg : ((markL mk k0 a).2).getD i d = (mk k a[i]).2 := by
          rw [getD_lt hi']; exact (List.cons.inj hd).1
        obtain ⟨e, hI'⟩ := step f k i _ hi rfl hg hI
        rw [e, ih (i + 1) _ (by omega) (by omega) (List.cons.inj hd).2 (by rw [hk, drop_get hi, markL]) hI', drop_get hi, markL]
      · have : i = a.length := by omega
        subst this
        rw [stop, List.drop_length]; rfl
  have := key bigN 0 k0 (Nat.zero_le _) (by have := bigN_le; omega) rfl rfl h0
  simpa using this
end M
/-
  RUNNING NUMBERS: the mark of a text is some text.
-/
set_option linter.unusedVariables false
set_option linter.unusedSimpArgs false
namespace M
open Go.V (inB slB bigN bigN_le)

theorem mk_digit {n : Nat} (h : n < 10) : Go.IntKind.wrap .u8 (Go.IntKind.wrap .i64 ((48 : Int) + (n : Int))) = ((48 + n : Nat) : Int) := by
  rw [wrap_i64 (by omega) (by omega)]
  have : ∀ m : Fin 10, Go.IntKind.wrap .u8 ((48 : Int) + ((m.val : Nat) : Int)) = ((48 + m.val : Nat) : Int) := by decide
  exact this ⟨n, h⟩
theorem mk_digit_ok {n : Nat} (h : n < 10) : Go.V.u8ok ((48 + n : Nat) : Int) = true := by
  unfold Go.V.u8ok; simp only [Bool.and_eq_true, decide_eq_true_eq]; omega
theorem mk_cat {a b : List UInt8} (h : a.length + b.length ≤ 100000) : Go.V.catB a b = true := by
  unfold Go.V.catB; rw [decide_eq_true_eq]; omega

theorem markText_loop : ∀ (j f k : Nat) (out : List UInt8), k < 10 ^ j → j < f → k < 4611686018427387904 → out.length + j ≤ 1000 → ∃ s, M.l_markText_l0 f (k : Int) out = some s ∧ s.length ≤ out.length + j
  | j, 0, k, out, _, h, _, _ => by omega
  | 0, f + 1, k, out, h1, h2, h3, h4 => by
    have : k = 0 := by simpa using h1
    subst this
    exact ⟨out, by rw [M.l_markText_l0]; simp, Nat.le_refl _⟩
  | j + 1, f + 1, k, out, h1, h2, h3, h4 => by
    rw [M.l_markText_l0]
    rcases Nat.eq_zero_or_pos k with h0 | h0
    · subst h0
      exact ⟨out, by simp, by omega⟩
    · have hd : decide ((0 : Int) < (k : Int)) = true := by rw [decide_eq_true_eq]; omega
      have e3 : Int.tmod (k : Int) 10 = ((k % 10 : Nat) : Int) := (Int.ofNat_tmod k 10).symm
      have e4 : Go.IntKind.wrap .i64 (Int.tdiv (k : Int) 10) = ((k / 10 : Nat) : Int) := by
        rw [show Int.tdiv (k : Int) 10 = ((k / 10 : Nat) : Int) from (Int.ofNat_tdiv k 10).symm, wrap_i64 (by omega) (by omega)]
      have hm : k % 10 < 10 := Nat.mod_lt _ (by decide)
      obtain ⟨s, g1, g2⟩ := markText_loop j f (k / 10) ([Go.V.u8of ((48 + k % 10 : Nat) : Int)] ++ out) (by rw [Nat.pow_succ] at h1; omega) (by omega) (by omega) (by simp; omega)
      refine ⟨s, ?_, by simp at g2; omega⟩
      simp only [hd, e3, e4, mk_digit hm, mk_digit_ok hm, cond_true, List.map_cons, List.map_nil]
      rw [mk_cat (by simp; omega)]
      exact g1
theorem markText_ok (k : Int) (h0 : 0 ≤ k) (h1 : k ≤ 1000000000000) : ∃ s, M.l_markText k = some s := by
  obtain ⟨n, rfl⟩ := Int.eq_ofNat_of_zero_le h0
  unfold M.l_markText
  by_cases hz : (n : Int) ≤ 0
  · rw [decide_eq_true hz]; exact ⟨_, rfl⟩
  · rw [decide_eq_false hz]
    obtain ⟨s, e, hl⟩ := markText_loop 13 bigN n [] (by omega) (by have := bigN_le; omega) (by omega) (by simp)
    rw [e]
    simp only [cond_false]
    rw [mk_cat (by simp at hl ⊢; omega)]
    exact ⟨_, rfl⟩
/-- the text that bears number k -/
noncomputable def mT (k : Int) : List UInt8 := (M.l_markText k).getD Inhabited.default
theorem mT_eq {k : Int} (h0 : 0 ≤ k) (h1 : k ≤ 1000000000000) : M.l_markText k = some (mT k) := by
  obtain ⟨s, e⟩ := markText_ok k h0 h1
  unfold mT; rw [e]; rfl

end M
/-
  RUNNING NUMBERS on modules (as arguments) and places (as results).
-/
set_option linter.unusedVariables false
set_option linter.unusedSimpArgs false
namespace M
open Go.V (inB slB bigN bigN_le)
def r3 (k : Int) : Bool := Int.tmod k 3 == 0
/-! ### imports -/
noncomputable def mIm (k : Int) (_ : SImport) : Int × SImport := (k + 1 + 1 + 1, SImport.mk (mT k) (k + 1) (r3 (k + 1 + 1)))
theorem mIm_le (l : List SImport) (k : Int) : k ≤ (markL mIm k l).1 ∧ (markL mIm k l).1 = k + 3 * (l.length : Int) := by
  induction l generalizing k with
  | nil => simp [markL]
  | cons x r ih => have := ih (k + 1 + 1 + 1); simp only [markL, mIm, List.length_cons] at *; omega
theorem markIm_ok (a : List SImport) (ha : a.length ≤ 1048576) (k : Int) (h0 : 0 ≤ k) (h1 : k ≤ 100000000000) : M.l_markImportS k a = some (markL mIm k a) := by
  unfold M.l_markImportS
  rw [mark_loop (F := M.l_markImportS_l0) (mk := mIm) a ha (fun i q => q = k + 3 * (i : Int)) SImport.zero (fun f q i l hi hl hg hI => by
    rw [M.l_markImportS_l0]
    have hmt := mT_eq (k := q) (by omega) (by omega)
    have hlt : decide ((i : Int) < ((l.length : Nat) : Int)) = true := by rw [decide_eq_true_eq]; omega
    have hin : inB (i : Int) l.length = true := by rw [inB_nat]; simpa using hl
    have w1 : Go.IntKind.wrap .i64 (q + 1) = q + 1 := wrap_i64 (by omega) (by omega)
    have w2 : Go.IntKind.wrap .i64 (q + 1 + 1) = q + 1 + 1 := wrap_i64 (by omega) (by omega)
    have w3 : Go.IntKind.wrap .i64 (q + 1 + 1 + 1) = q + 1 + 1 + 1 := wrap_i64 (by omega) (by omega)
    have h3 : ((3 : Int) != 0) = true := rfl
    refine ⟨?_, by simp only [mIm]; omega⟩
    simp only [hlt, hin, hmt, h3, Int.toNat_natCast, cond_true, Bool.true_and, Bool.and_true, getD_set, hl, List.length_set, hg, w1, w2, w3, Option.isSome_some, Option.getD_some, wrapk hi (big_of ha), List.set_set, mIm, r3]) (fun f q l hl => by rw [M.l_markImportS_l0]; simp [hl]) k (by simp)]
/-! ### instructions -/
def mIn (k : Int) (_ : SIns) : Int × SIns := (k + 1 + 1, SIns.mk k (k + 1))
theorem mIn_le (l : List SIns) (k : Int) : k ≤ (markL mIn k l).1 ∧ (markL mIn k l).1 = k + 2 * (l.length : Int) := by
  induction l generalizing k with
  | nil => simp [markL]
  | cons x r ih => have := ih (k + 1 + 1); simp only [markL, mIn, List.length_cons] at *; omega
theorem markIn_ok (a : List SIns) (ha : a.length ≤ 1048576) (k : Int) (h0 : 0 ≤ k) (h1 : k ≤ 100000000000) : M.l_markInsS k a = some (markL mIn k a) := by
  unfold M.l_markInsS
  rw [mark_loop (F := M.l_markInsS_l0) (mk := mIn) a ha (fun i q => q = k + 2 * (i : Int)) SIns.zero (fun f q i l hi hl hg hI => by
    rw [M.l_markInsS_l0]
    have hlt : decide ((i : Int) < ((l.length : Nat) : Int)) = true := by rw [decide_eq_true_eq]; omega
    have hin : inB (i : Int) l.length = true := by rw [inB_nat]; simpa using hl
    have w1 : Go.IntKind.wrap .i64 (q + 1) = q + 1 := wrap_i64 (by omega) (by omega)
    have w2 : Go.IntKind.wrap .i64 (q + 1 + 1) = q + 1 + 1 := wrap_i64 (by omega) (by omega)
    refine ⟨?_, by simp only [mIn]; omega⟩
    simp only [hlt, hin, Int.toNat_natCast, cond_true, Bool.true_and, Bool.and_true, getD_set, hl, List.length_set, hg, w1, w2, wrapk hi (big_of ha), List.set_set, mIn]) (fun f q l hl => by rw [M.l_markInsS_l0]; simp [hl]) k (by simp)]
/-! ### cores -/
noncomputable def mCo (k : Int) (c : SCore) : Int × SCore := ((markL mIn (k + 1 + 1 + 1 + 1) c.Code).1, SCore.mk (mT k) (k + 1) (k + 1 + 1) (r3 (k + 1 + 1 + 1)) (markL mIn (k + 1 + 1 + 1 + 1) c.Code).2)
theorem mCo_le (l : List SCore) (k : Int) : k ≤ (markL mCo k l).1 ∧ (markL mCo k l).1 ≤ k + 4 * (szL SCore.sz l : Int) := by
  induction l generalizing k with
  | nil => simp [markL, szL]
  | cons x r ih =>
    have := ih (mCo k x).1
    have h1 := mIn_le x.Code (k + 1 + 1 + 1 + 1)
    have h2 := SCore.sz_eq x
    have h3 := szL_len SIns.sz x.Code
    simp only [markL, szL]
    have h4 : (mCo k x).1 = (markL mIn (k + 1 + 1 + 1 + 1) x.Code).1 := rfl
    omega
theorem markCo_ok (a : List SCore) (ha : szL SCore.sz a ≤ 1048576) (k : Int) (h0 : 0 ≤ k) (h1 : k ≤ 10000000000) : M.l_markCoreS k a = some (markL mCo k a) := by
  have hlen := szL_len SCore.sz a
  unfold M.l_markCoreS
  rw [mark_loop (F := M.l_markCoreS_l0) (mk := mCo) a (by omega) (fun i q => 0 ≤ q ∧ q + 4 * (szL SCore.sz (a.drop i) : Int) ≤ 20000000000) SCore.zero (fun f q i l hi hl hg hI => by
    rw [drop_get hi, szL] at hI
    have hmem := szL_mem SCore.sz a a[i] (List.getElem_mem hi)
    have hs := SCore.sz_eq a[i]
    have hcc := szL_len SIns.sz a[i].Code
    have hms := mIn_le a[i].Code (q + 1 + 1 + 1 + 1)
    rw [M.l_markCoreS_l0]
    have hmt := mT_eq (k := q) (by omega) (by omega)
    have hlt : decide ((i : Int) < ((l.length : Nat) : Int)) = true := by rw [decide_eq_true_eq]; omega
    have hin : inB (i : Int) l.length = true := by rw [inB_nat]; simpa using hl
    have w1 : Go.IntKind.wrap .i64 (q + 1) = q + 1 := wrap_i64 (by omega) (by omega)
    have w2 : Go.IntKind.wrap .i64 (q + 1 + 1) = q + 1 + 1 := wrap_i64 (by omega) (by omega)
    have w3 : Go.IntKind.wrap .i64 (q + 1 + 1 + 1) = q + 1 + 1 + 1 := wrap_i64 (by omega) (by omega)
    have w4 : Go.IntKind.wrap .i64 (q + 1 + 1 + 1 + 1) = q + 1 + 1 + 1 + 1 := wrap_i64 (by omega) (by omega)
    have h3 : ((3 : Int) != 0) = true := rfl
    have e1 := markIn_ok a[i].Code (by omega) (q + 1 + 1 + 1 + 1) (by omega) (by omega)
    have h4 : (mCo q a[i]).1 = (markL mIn (q + 1 + 1 + 1 + 1) a[i].Code).1 := rfl
    refine ⟨?_, by omega, by omega⟩
    simp only [hlt, hin, hmt, h3, Int.toNat_natCast, cond_true, Bool.true_and, Bool.and_true, getD_set, hl, List.length_set, hg, w1, w2, w3, w4, e1, Option.isSome_some, Option.getD_some, wrapk hi (big_of (show a.length ≤ 1048576 by omega)), List.set_set, mCo, r3]) (fun f q l hl => by rw [M.l_markCoreS_l0]; simp [hl]) k ⟨h0, by simp only [List.drop_zero]; omega⟩]
theorem markMo_ok (p : Int) (m : SModule) (h : m.sz ≤ 1048576) : ∃ k i c, M.l_markModule p 1 m.Imports m.Cores = some (k, i, c) ∧ 0 ≤ k := by
  have hs := SModule.sz_eq m
  have hl := szL_len SImport.sz m.Imports
  have h1 := mIm_le m.Imports 1
  have h2 := mCo_le m.Cores (markL mIm 1 m.Imports).1
  unfold M.l_markModule
  simp only [markIm_ok m.Imports (by omega) 1 (by omega) (by omega), Option.getD_some, markCo_ok m.Cores (by omega) (markL mIm 1 m.Imports).1 (by omega) (by omega), Option.isSome_some, Bool.true_and, Bool.and_true, cond_true]
  exact ⟨_, _, _, rfl, by omega⟩
/-! ### numbers -/
def mNu (k : Int) (_ : Int) : Int × Int := (k + 1, k)
theorem mNu_le (l : List Int) (k : Int) : k ≤ (markL mNu k l).1 ∧ (markL mNu k l).1 = k + (l.length : Int) := by
  induction l generalizing k with
  | nil => simp [markL]
  | cons x r ih => have := ih (k + 1); simp only [markL, mNu, List.length_cons] at *; omega
theorem markNu_ok (a : List Int) (ha : a.length ≤ 1048576) (k : Int) (h0 : 0 ≤ k) (h1 : k ≤ 100000000000) : M.l_markInt64S k a = some (markL mNu k a) := by
  unfold M.l_markInt64S
  rw [mark_loop (F := M.l_markInt64S_l0) (mk := mNu) a ha (fun i q => q = k + (i : Int)) 0 (fun f q i l hi hl hg hI => by
    rw [M.l_markInt64S_l0]
    have hlt : decide ((i : Int) < ((l.length : Nat) : Int)) = true := by rw [decide_eq_true_eq]; omega
    have hin : inB (i : Int) l.length = true := by rw [inB_nat]; simpa using hl
    have w1 : Go.IntKind.wrap .i64 (q + 1) = q + 1 := wrap_i64 (by omega) (by omega)
    refine ⟨?_, by simp only [mNu]; omega⟩
    simp only [hlt, hin, Int.toNat_natCast, cond_true, Bool.true_and, Bool.and_true, w1, wrapk hi (big_of ha), mNu]) (fun f q l hl => by rw [M.l_markInt64S_l0]; simp [hl]) k (by simp)]
theorem heldNu_ok (a : List Int) (ha : a.length ≤ 1048576) (k : Int) (h0 : 0 ≤ k) (h1 : k ≤ 100000000000) : M.l_heldInt64S (markL mNu k a).2 k = some (markL mNu k a).1 := by
  unfold M.l_heldInt64S
  rw [held_loop (F := M.l_heldInt64S_l0 (markL mNu k a).2) (mk := mNu) (fin := id) a ha (fun i q => q = k + (i : Int)) 0 k (by simp) (fun f q i y hi e1 e2 hI => by
    have e3 : y = q := e2
    rw [e3] at e1
    clear e2 e3
    rw [M.l_heldInt64S_l0]
    have hlt : decide ((i : Int) < (((markL mNu k a).2.length : Nat) : Int)) = true := by rw [decide_eq_true_eq, markL_len]; omega
    have hin : inB (i : Int) (markL mNu k a).2.length = true := by rw [inB_nat, markL_len]; simpa using hi
    have w1 : Go.IntKind.wrap .i64 (q + 1) = q + 1 := wrap_i64 (by omega) (by omega)
    refine ⟨?_, by simp only [mNu]; omega⟩
    simp only [hlt, hin, e1, mNu, Int.toNat_natCast, cond_true, cond_false, Bool.true_and, Bool.and_true, wrapk hi (big_of ha), bne_self_eq_false, w1]) (fun f q => by rw [M.l_heldInt64S_l0]; simp [markL_len])]
  rfl
/-! ### places -/
def mPl (k : Int) (c : SCodePlace) : Int × SCodePlace := ((markL mNu (k + 1 + 1) c.Blocks).1, SCodePlace.mk (r3 k) (k + 1) (markL mNu (k + 1 + 1) c.Blocks).2)
/-- places whose lists of blocks are short -/
def PlOk (l : List SCodePlace) : Prop := l.length ≤ 1048576 ∧ ∀ p ∈ l, p.Blocks.length ≤ 100
theorem mPl_le (l : List SCodePlace) (k : Int) (h : ∀ p ∈ l, p.Blocks.length ≤ 100) : k ≤ (markL mPl k l).1 ∧ (markL mPl k l).1 ≤ k + 102 * (l.length : Int) := by
  induction l generalizing k with
  | nil => simp [markL]
  | cons x r ih =>
    have := ih (mPl k x).1 fun p hp => h p (by simp [hp])
    have h1 := mNu_le x.Blocks (k + 1 + 1)
    have h2 := h x (by simp)
    have h4 : (mPl k x).1 = (markL mNu (k + 1 + 1) x.Blocks).1 := rfl
    simp only [markL, List.length_cons]
    omega
theorem markPl_ok (a : List SCodePlace) (ha : PlOk a) : M.l_markCodePlaceS 1 a = some (markL mPl 1 a) := by
  unfold M.l_markCodePlaceS
  have hal := ha.1
  rw [mark_loop (F := M.l_markCodePlaceS_l0) (mk := mPl) a ha.1 (fun i q => 0 ≤ q ∧ q ≤ 1 + 102 * (i : Int)) SCodePlace.zero (fun f q i l hi hl hg hI => by
    have hb := ha.2 a[i] (List.getElem_mem hi)
    have hms := mNu_le a[i].Blocks (q + 1 + 1)
    rw [M.l_markCodePlaceS_l0]
    have hlt : decide ((i : Int) < ((l.length : Nat) : Int)) = true := by rw [decide_eq_true_eq]; omega
    have hin : inB (i : Int) l.length = true := by rw [inB_nat]; simpa using hl
    have w1 : Go.IntKind.wrap .i64 (q + 1) = q + 1 := wrap_i64 (by omega) (by omega)
    have w2 : Go.IntKind.wrap .i64 (q + 1 + 1) = q + 1 + 1 := wrap_i64 (by omega) (by omega)
    have h3 : ((3 : Int) != 0) = true := rfl
    have e1 := markNu_ok a[i].Blocks (by omega) (q + 1 + 1) (by omega) (by omega)
    have h4 : (mPl q a[i]).1 = (markL mNu (q + 1 + 1) a[i].Blocks).1 := rfl
    refine ⟨?_, by omega, by omega⟩
    simp only [hlt, hin, h3, Int.toNat_natCast, cond_true, Bool.true_and, Bool.and_true, getD_set, hl, List.length_set, hg, w1, w2, e1, Option.isSome_some, Option.getD_some, wrapk hi (big_of hal), List.set_set, mPl, r3]) (fun f q l hl => by rw [M.l_markCodePlaceS_l0]; simp [hl]) 1 (by omega)]
theorem heldPl_ok (a : List SCodePlace) (ha : PlOk a) : M.l_heldCodePlaceS (markL mPl 1 a).2 1 = some (markL mPl 1 a).1 := by
  unfold M.l_heldCodePlaceS
  have hal := ha.1
  rw [held_loop (F := M.l_heldCodePlaceS_l0 (markL mPl 1 a).2) (mk := mPl) (fin := id) a ha.1 (fun i q => 0 ≤ q ∧ q ≤ 1 + 102 * (i : Int)) SCodePlace.zero 1 (by omega) (fun f q i y hi e1 e2 hI => by
    subst e2
    have hb := ha.2 a[i] (List.getElem_mem hi)
    have hms := mNu_le a[i].Blocks (q + 1 + 1)
    rw [M.l_heldCodePlaceS_l0]
    have hlt : decide ((i : Int) < (((markL mPl 1 a).2.length : Nat) : Int)) = true := by rw [decide_eq_true_eq, markL_len]; omega
    have hin : inB (i : Int) (markL mPl 1 a).2.length = true := by rw [inB_nat, markL_len]; simpa using hi
    have w1 : Go.IntKind.wrap .i64 (q + 1) = q + 1 := wrap_i64 (by omega) (by omega)
    have w2 : Go.IntKind.wrap .i64 (q + 1 + 1) = q + 1 + 1 := wrap_i64 (by omega) (by omega)
    have h3 : ((3 : Int) != 0) = true := rfl
    have m1 := heldNu_ok a[i].Blocks (by omega) (q + 1 + 1) (by omega) (by omega)
    have n1 : decide ((markL mNu (q + 1 + 1) a[i].Blocks).1 < 0) = false := by rw [decide_eq_false_iff_not]; omega
    have h4 : (mPl q a[i]).1 = (markL mNu (q + 1 + 1) a[i].Blocks).1 := rfl
    refine ⟨?_, by omega, by omega⟩
    simp only [hlt, hin, e1, mPl, r3, h3, Int.toNat_natCast, cond_true, cond_false, Bool.true_and, Bool.and_true, w1, w2, m1, n1, Option.isSome_some, Option.getD_some, wrapk hi (big_of hal), beq_self_eq_true, bne_self_eq_false, Bool.not_true, Bool.and_self]) (fun f q => by rw [M.l_heldCodePlaceS_l0]; simp [markL_len])]
  rfl
end M
/-
  THE CHECK of one core: what both sides hand back, and the law's own walk.
-/
set_option linter.unusedVariables false
set_option linter.unusedSimpArgs false
namespace M
open Go.V (inB slB bigN bigN_le)

theorem szL_nil (l : List Int) : szL (fun _ => 0) l = l.length := by
  induction l with
  | nil => rfl
  | cons x r ih => simp only [szL, ih, List.length_cons]; omega
theorem eqPl (a : List SCodePlace) (hp : PlOk a) : M.l_eqCodePlaceS a a = some true := by
  have hn : a.length ≤ 1048576 := hp.1
  unfold M.l_eqCodePlaceS
  refine eq_all (F := M.l_eqCodePlaceS_l0  a a) a hn (fun f k hk => ?_) (fun f => ?_)
  · rw [M.l_eqCodePlaceS_l0]
    have e := eq_CodePlace a[k] (by have h1 := hp.2 a[k] (List.getElem_mem hk); have h2 := SCodePlace.sz_eq a[k]; have h3 := szL_nil a[k].Blocks; omega)
    simp [hk, getD_lt hk, e, wrapk hk (big_of hn)]
  · rw [M.l_eqCodePlaceS_l0]; simp
theorem coreR_len {m : SModule} (hm : MOk m) {c : SCore} (hc : c ∈ m.Cores) : (coreR m c).1.length ≤ 1048576 ∧ ((coreR m c).2.2 ≠ 0 → (coreR m c).1 = []) := by
  have hn := (hm.core _ hc).2.2
  unfold coreR
  cases pbl 0 c with
  | inl p => exact ⟨by simp, fun _ => rfl⟩
  | inr P =>
    simp only
    cases hcr : cRun m c P c.Code.length 0 s0 [] with
    | inl p => exact ⟨by simp, fun _ => rfl⟩
    | inr p =>
      have hlen := cRun_len _ _ _ _ _ hcr
      simp only
      by_cases hq : p.1.kn = true ∧ p.1.h ≠ bitI c.Result
      · rw [if_pos hq]; exact ⟨by simp, fun _ => rfl⟩
      · rw [if_neg hq]
        refine ⟨?_, fun h => absurd rfl h⟩
        rw [List.length_append, hlen]; simp only [List.length_cons, List.length_nil]; omega
theorem wrapc {m : SModule} (h : m.Cores.length ≤ 1048576) : Go.IntKind.wrap .i64 ((m.Cores.length : Int) - 1) = (m.Cores.length : Int) - 1 := wrap_i64 (by omega) (by omega)
theorem small_run {m : SModule} {c : SCore} {P : List (Int × Bool)} {Bf : BS} {e : Int} (hm : MOk m) : ∀ (n k : Nat) (B : BS) (s : CSt) (a : List SCodePlace) (q : CSt × List SCodePlace), BInv k B → CInv B s → bRun e c.Code n k B = .inr Bf → (∀ p ∈ a, p.Blocks.length ≤ 100) → cRun m c P n k s a = .inr q → ∀ p ∈ q.2, p.Blocks.length ≤ 100
  | 0, k, B, s, a, q, hB, hs, hb, ha, h => by simp only [cRun] at h; injection h with h; subst h; exact ha
  | n + 1, k, B, s, a, q, hB, hs, hb, ha, h => by
    simp only [cRun] at h
    simp only [bRun] at hb
    cases hx : bStep e c.Code k (c.Code.getD k SIns.zero) B with
    | inl x => rw [hx] at hb; cases hb
    | inr B' =>
      rw [hx] at hb
      cases hcs : cStep m c P (c.Code.getD k SIns.zero) s with
      | inl x => rw [hcs] at h; cases h
      | inr s' =>
        rw [hcs] at h
        refine small_run hm n (k + 1) B' s' _ q (bStep_inv hB hx) (cStep_inv hm hs hx hcs) hb (fun p hp => ?_) h
        rcases List.mem_append.1 hp with hp | hp
        · exact ha p hp
        · have : p = placeP s := by simpa using hp
          subst this
          have h6 : s.op.length ≤ 6 := by rw [hs.op]; exact hB.six
          unfold placeP
          split
          · show s.op.length ≤ 100; omega
          · simp
theorem coreR_pl {m : SModule} (hm : MOk m) {c : SCore} (hc : c ∈ m.Cores) : PlOk (coreR m c).1 ∧ ((coreR m c).2.2 = 0 → (coreR m c).2.1 = 0) := by
  refine ⟨⟨(coreR_len hm hc).1, ?_⟩, ?_⟩
  · unfold coreR pbl
    cases hbl : blocksP 0 c with
    | inl p => simp [mapR]
    | inr b =>
      obtain ⟨Bf, hrun⟩ : ∃ Bf : BS, bRun 0 c.Code c.Code.length 0 ([], []) = .inr Bf := by
        unfold blocksP at hbl
        cases hx : bRun 0 c.Code c.Code.length 0 ([], []) with
        | inl q => rw [hx] at hbl; cases hbl
        | inr q => exact ⟨q, rfl⟩
      simp only [mapR]
      cases hcr : cRun m c (b.map pr) c.Code.length 0 s0 [] with
      | inl p => simp
      | inr p =>
        have hsm := small_run hm c.Code.length 0 ([], []) s0 [] p bInv0 cinv0 hrun (by simp) hcr
        simp only
        by_cases hq : p.1.kn = true ∧ p.1.h ≠ bitI c.Result
        · rw [if_pos hq]; simp
        · rw [if_neg hq]
          intro y hy
          rcases List.mem_append.1 hy with hy | hy
          · exact hsm y hy
          · have : y = SCodePlace.mk true (bitI c.Result) [] := by simpa using hy
            subst this; simp
  · unfold coreR pbl
    cases hbl : blocksP 0 c with
    | inl p =>
      intro h
      exfalso
      have hb : p.2 ≠ 0 := by
        unfold blocksP at hbl
        cases hx : bRun 0 c.Code c.Code.length 0 ([], []) with
        | inl q => rw [hx] at hbl; injection hbl with hbl; subst hbl; exact bRun_err _ _ _ _ hx
        | inr q =>
          rw [hx] at hbl
          simp only at hbl
          split at hbl
          · cases hbl
          · injection hbl with hbl; subst hbl
            show (5 : Int) ≠ 0
            decide
      exact hb h
    | inr b =>
      simp only [mapR]
      cases hcr : cRun m c (b.map pr) c.Code.length 0 s0 [] with
      | inl p => intro h; exact absurd h (cRun_err _ _ _ _ _ hcr)
      | inr p =>
        simp only
        by_cases hq : p.1.kn = true ∧ p.1.h ≠ bitI c.Result
        · rw [if_pos hq]; intro h; cases h
        · rw [if_neg hq]; intro _; rfl
/-- what a check of core k hands back -/
noncomputable def ccR (m : SModule) (k : Int) : List SCodePlace × Int × Int :=
  if mOkB m = true ∧ (0 ≤ k ∧ k ≤ (m.Cores.length : Int) - 1) then coreR m (m.Cores.getD k.toNat SCore.zero) else ([], 0, 1)
theorem cc_s (m : SModule) (k : Int) (h : m.sz ≤ 1048576) : M.s_CheckCore m k = some (ccR m k) ∧ M.i_CheckCore m k = some ((ccR m k).2.1, (ccR m k).2.2, (ccR m k).1) ∧ PlOk (ccR m k).1 := by
  have hcl : m.Cores.length ≤ 1048576 := by
    rw [SModule.sz_eq] at h
    exact Nat.le_trans (szL_len SCore.sz _) (by omega)
  unfold M.s_CheckCore M.i_CheckCore M.i_shapedCore ccR
  rw [shape_m_s m h, shape_m_i m h, wrapc hcl]
  simp only [Option.getD_some, Option.isSome_some, Bool.and_self, cond_true, Bool.and_true]
  have p0 : PlOk [] := ⟨by simp, by simp⟩
  cases hb : mOkB m
  · rw [if_neg (by simp)]; exact ⟨by first | rfl | trivial, by first | rfl | trivial, p0⟩
  · have hm := mOk_of hb
    cases hw : (decide (0 ≤ k) && decide (k ≤ (m.Cores.length : Int) - 1))
    · have hn : ¬ (true = true ∧ (0 ≤ k ∧ k ≤ (m.Cores.length : Int) - 1)) := fun q => by
        rw [Bool.and_eq_false_iff, decide_eq_false_iff_not, decide_eq_false_iff_not] at hw
        omega
      rw [if_neg hn]; exact ⟨by first | rfl | trivial, by first | rfl | trivial, p0⟩
    · rw [Bool.and_eq_true, decide_eq_true_eq, decide_eq_true_eq] at hw
      rw [if_pos ⟨rfl, hw⟩]
      obtain ⟨j, rfl⟩ := Int.eq_ofNat_of_zero_le hw.1
      have hj : j < m.Cores.length := by omega
      have e1 := core_s_eq hm hj
      have e2 := core_i_eq hm hj
      have hl := coreR_len hm (List.getElem_mem hj)
      have hp := coreR_pl hm (List.getElem_mem hj)
      simp only [e1, e2, Int.toNat_natCast, getD_lt hj, Option.getD_some, Option.isSome_some, Bool.not_true, cond_false, Bool.and_self, cond_true, Bool.or_self]
      generalize coreR m m.Cores[j] = r at hl hp
      obtain ⟨pl, at_, cd⟩ := r
      refine ⟨?_, by first | rfl | trivial, hp.1⟩
      by_cases h0 : cd = 0
      · have ha : at_ = 0 := hp.2 h0
        subst h0; subst ha
        rfl
      · have q : (cd != 0) = true := by rw [bne_iff_ne]; exact h0
        have e : pl = [] := hl.2 h0
        subst e
        simp only [q, cond_true]
theorem law_CheckCore (x : SModule) (k : Int) (hx : x.Ok) : M.l_FnExactCheckCore x k = some true := by
  unfold M.l_FnExactCheckCore
  rw [sz_Module x 1048576 hx (by omega) (by omega)]
  by_cases h1 : (x.sz : Int) ≤ 1048576
  · have h : x.sz ≤ 1048576 := by omega
    have n1 : ¬ (1048576 - (x.sz : Int) < 0) := by omega
    rw [if_pos h1]
    obtain ⟨e2, e1, hp⟩ := cc_s x k h
    generalize ccR x k = r at e1 e2 hp
    obtain ⟨pl, at_, cd⟩ := r
    have q0 := to_Module x h
    obtain ⟨a, b, c, q1, ha⟩ := markMo_ok x.Pages x h
    have q2 := markPl_ok pl hp
    have q3 := heldPl_ok pl hp
    have q4 : decide (a < 0) = false := by rw [decide_eq_false_iff_not]; omega
    have q5 : decide ((markL mPl 1 pl).1 < 0) = false := by rw [decide_eq_false_iff_not]; have := mPl_le pl 1 hp.2; omega
    have q6 := eq_Module x h
    have q7 : M.l_eqCodePlaceS pl pl = some true := eqPl pl hp
    have q8 : SModule.mk x.Pages x.Imports x.Cores = x := rfl
    simp only [q0, e1, e2, q8, q1, q2, q3, q4, q5, q6, q7, Option.getD_some, Option.isSome_some, n1, decide_false, cond_false, Bool.and_true, Bool.and_self, Bool.true_and, cond_true, beq_self_eq_true, bne_self_eq_false, Bool.not_true, Bool.or_false, Bool.not_false, Bool.or_true, Bool.true_or]
  · rw [if_neg h1]; simp
end M
