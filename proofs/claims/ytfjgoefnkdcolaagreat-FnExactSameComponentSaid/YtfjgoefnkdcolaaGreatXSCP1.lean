import Derived.Test.YtfjgoefnkdcolaaGreatXSCH
import Derived.Test.YtfjgoefnkdcolaaGreatXVpl2
set_option linter.unusedVariables false
set_option linter.unusedSimpArgs false
namespace M
open Go.V (bigN bigN_le)

theorem bne_not {α : Type} [BEq α] (a b : α) : (a != b) = !(a == b) := rfl
theorem wr1 {n : Int} (h1 : 0 ≤ n) (h2 : n ≤ 200) : Go.IntKind.wrap .i64 (n + 1) = n + 1 := wrap_i64 (by omega) (by omega)
theorem wr2 {n : Int} (h1 : 0 ≤ n) (h2 : n ≤ 200) : Go.IntKind.wrap .i64 (n - 1) = n - 1 := wrap_i64 (by omega) (by omega)

theorem len_sz {α : Type} {f : α → Nat} {l : List α} {n : Nat} (h : szL f l ≤ n) : l.length ≤ n := Nat.le_trans (szL_len f l) h

theorem texts_s (a b : List (List UInt8)) (ha : a.length ≤ 1048576) : M.s_l03Texts a b = some (eqL (· == ·) a b) := by
  unfold M.s_l03Texts
  exact cmp_all a b ha (fun f k hl h h' => by
    rw [M.s_l03Texts_l0]
    simp only [getD_lt h, getD_lt h', Int.toNat_natCast, inB_nat, Int.ofNat_lt, h, h', wrapk h (big_of ha), decide_true, Bool.and_true, cond_true]
    cases a[k] == b[k] <;> rfl) (fun f => by rw [M.s_l03Texts_l0]; simp)
theorem texts_i (a b : List (List UInt8)) (ha : a.length ≤ 1048576) : M.slices_Equal_string_string a b = some (eqL (· == ·) a b) := by
  unfold M.slices_Equal_string_string
  exact cmp_all a b ha (fun f k hl h h' => by
    rw [M.slices_Equal_string_string_l0]
    simp only [getD_lt h, getD_lt h', Int.toNat_natCast, inB_nat, Int.ofNat_lt, h, h', wrapk h (big_of ha), decide_true, Bool.and_true, cond_true]
    cases a[k] == b[k] <;> rfl) (fun f => by rw [M.slices_Equal_string_string_l0]; simp)

/-- equality of types, no deeper than n -/
def tEq : Nat → SType → SType → Bool
  | 0, _, _ => false
  | n + 1, a, b => ((a.Kind == b.Kind) && (a.Name == b.Name)) && (eqL (· == ·) a.Labels b.Labels && eqL (tEq n) a.Kids b.Kids)

theorem SType.labels_len {a : SType} {N : Nat} (h : a.sz ≤ N) : a.Labels.length ≤ N := by
  rw [SType.sz_eq] at h; exact len_sz (f := List.length) (by omega)
theorem SType.kids_len {a : SType} {N : Nat} (h : a.sz ≤ N) : a.Kids.length ≤ N := by
  rw [SType.sz_eq] at h; exact len_sz (f := SType.sz) (by omega)
theorem SType.kid_lt {a x : SType} (h : x ∈ a.Kids) : x.sz < a.sz := by
  rw [SType.sz_eq a]; have := szL_pos SType.sz _ _ h; omega
theorem s_type : ∀ (m : Nat) (a b : SType) (n : Nat), n ≤ 100 → n < m → a.sz ≤ 1048576 → M.s_l03Same_n m a b (101 - (n : Int)) = some (tEq n a b)
  | 0, a, b, n, h1, h2, h3 => absurd h2 (Nat.not_lt_zero _)
  | m + 1, a, b, n, h1, h2, h3 => by
    show M.s_l03Same_b (M.s_l03Same_n m) a b _ = _
    unfold M.s_l03Same_b
    rw [texts_s _ _ (SType.labels_len h3)]
    cases n with
    | zero => rfl
    | succ n =>
      have hk : a.Kids.length ≤ 1048576 := SType.kids_len h3
      have d : decide ((100 : Int) < 101 - ((n + 1 : Nat) : Int)) = false := by rw [decide_eq_false_iff_not]; omega
      have hw : Go.IntKind.wrap .i64 (101 - ((n + 1 : Nat) : Int) + 1) = 101 - (n : Int) := by rw [wrap_i64 (by omega) (by omega)]; omega
      have loop : a.Kids.length = b.Kids.length → M.s_l03Same_l0 (M.s_l03Same_n m) (101 - ((n + 1 : Nat) : Int)) bigN 0 a b = some (if eqL (tEq n) a.Kids b.Kids then .inr () else .inl false) := fun hl => by
        refine cmp_loop (p := tEq n) (F := fun f i => M.s_l03Same_l0 (M.s_l03Same_n m) (101 - ((n + 1 : Nat) : Int)) f i a b) (e := ()) a.Kids b.Kids hk hl (fun f k h h' => ?_) (fun f => by simp [M.s_l03Same_l0])
        have hx := SType.kid_lt (List.getElem_mem h)
        have := s_type m a.Kids[k] b.Kids[k] n (by omega) (by omega) (by omega)
        simp only [M.s_l03Same_l0, SType.re_eq, getD_lt h, getD_lt h', Int.toNat_natCast, inB_nat, Int.ofNat_lt, h, h', wrapk h (big_of hk), hw, this, decide_true, Bool.and_true, cond_true, Option.isSome_some, Option.getD_some]
        cases tEq n a.Kids[k] b.Kids[k] <;> rfl
      simp only [d, Bool.false_or, SType.re_eq, Option.isSome_some, Bool.true_or, Bool.and_true, Option.getD_some, tEq, bne_not]
      by_cases hl : a.Kids.length = b.Kids.length
      · rw [loop hl, hl]
        cases a.Kind == b.Kind <;> cases a.Name == b.Name <;> cases eqL (· == ·) a.Labels b.Labels <;> cases eqL (tEq n) a.Kids b.Kids <;> simp
      · rw [eqL_len _ _ _ hl]
        have : ((a.Kids.length : Int) == (b.Kids.length : Int)) = false := by rw [beq_eq_false_iff_ne]; omega
        rw [this]; simp

theorem i_type : ∀ (m : Nat) (a b : SType) (n : Nat), n ≤ 100 → n < m → a.sz ≤ 1048576 → M.i_sameType_n m a b (n : Int) = some (tEq n a b)
  | 0, a, b, n, h1, h2, h3 => absurd h2 (Nat.not_lt_zero _)
  | m + 1, a, b, n, h1, h2, h3 => by
    show M.i_sameType_b (M.i_sameType_n m) a b _ = _
    unfold M.i_sameType_b
    rw [texts_i _ _ (SType.labels_len h3)]
    cases n with
    | zero => rfl
    | succ n =>
      have hk : a.Kids.length ≤ 1048576 := SType.kids_len h3
      have d : (((n + 1 : Nat) : Int) == 0) = false := by rw [beq_eq_false_iff_ne]; omega
      have hw : Go.IntKind.wrap .i64 (((n + 1 : Nat) : Int) - 1) = (n : Int) := by rw [wrap_i64 (by omega) (by omega)]; omega
      have cl : ∀ x y : SType, x.sz ≤ 1048576 → M.i_sameType_c1 (M.i_sameType_n m) x y ((n + 1 : Nat) : Int) = some (tEq n x y) := fun x y hx => by
        unfold M.i_sameType_c1
        simp only [SType.re_eq, hw, i_type m x y n (by omega) (by omega) hx]; rfl
      have fn : M.slices_EqualFunc_Type_Type_Type_Type (M.i_sameType_n m) a.Kids b.Kids ((n + 1 : Nat) : Int) = some (eqL (tEq n) a.Kids b.Kids) := by
        unfold M.slices_EqualFunc_Type_Type_Type_Type
        exact cmp_all (p := tEq n) a.Kids b.Kids hk (fun f k hl h h' => by
          have hx := SType.kid_lt (List.getElem_mem h)
          rw [M.slices_EqualFunc_Type_Type_Type_Type_l0]
          simp only [SType.re_eq, getD_lt h, getD_lt h', Int.toNat_natCast, inB_nat, Int.ofNat_lt, h, h', wrapk h (big_of hk), cl _ b.Kids[k] (show a.Kids[k].sz ≤ 1048576 by omega), decide_true, Bool.and_true, cond_true, Option.isSome_some, Option.getD_some]
          cases tEq n a.Kids[k] b.Kids[k] <;> rfl) (fun f => by rw [M.slices_EqualFunc_Type_Type_Type_Type_l0]; simp)
      rw [fn]
      simp only [d, Bool.false_or, SType.re_eq, Option.isSome_some, Bool.true_or, Bool.and_true, Option.getD_some, tEq, bne_not]
      cases a.Kind == b.Kind <;> cases a.Name == b.Name <;> cases eqL (· == ·) a.Labels b.Labels <;> cases eqL (tEq n) a.Kids b.Kids <;> simp

theorem bigN_gt {n : Nat} (h : n ≤ 1048576) : n < bigN := by have := bigN_le; omega

theorem type_s (a b : SType) (h : a.sz ≤ 1048576) : M.s_SameType a b = some (tEq 100 a b) := by
  unfold M.s_SameType M.s_l03Same
  have := s_type bigN a b 100 (by omega) (bigN_gt (by omega)) h
  simp only [SType.re_eq]
  rw [show (1 : Int) = 101 - ((100 : Nat) : Int) by omega, this]; rfl
theorem type_i (a b : SType) (h : a.sz ≤ 1048576) : M.i_SameType a b = some (tEq 100 a b) := by
  unfold M.i_SameType M.i_sameType
  have := i_type bigN a b 100 (by omega) (bigN_gt (by omega)) h
  simp only [SType.re_eq]
  rw [show (100 : Int) = ((100 : Nat) : Int) by omega, this]; rfl

theorem len_eq {α β : Type} {a : List α} {b : List β} (h : a.length = b.length) : ((a.length : Int) != (b.length : Int)) = false := by rw [h]; simp
theorem len_ne {α β : Type} {a : List α} {b : List β} (h : a.length ≠ b.length) : ((a.length : Int) != (b.length : Int)) = true := by rw [bne_iff_ne]; omega

end M
