/-
  A TEXT'S FIRST CODE POINT, as the reference reckons it, beside the decoder of the language: in plain words.
-/
import Derived.Test.YtjlkjnhhpmoenaaGreatDoorXQTP
import Derived.Lib.MapLaws
set_option linter.unusedVariables false
set_option linter.unusedSimpArgs false
namespace M
open Go Go.V Go.Lib

theorem u8w (n : Nat) (h : n < 256) : IntKind.wrap .u8 (n : Int) = (n : Int) := by
  have : ∀ m : Fin 256, IntKind.wrap .u8 ((m.val : Nat) : Int) = ((m.val : Nat) : Int) := by decide +kernel
  exact this ⟨n, h⟩
theorem i64w (n : Nat) (h : n < 2 ^ 62) : IntKind.wrap .i64 (n : Int) = (n : Int) := wrap_i64 (by omega) (by omega)
theorem and63 (n : Nat) (h : n < 2 ^ 62) : bitsV .and .i64 (n : Int) 63 = ((n % 64 : Nat) : Int) := by
  have e : (BitVec.ofInt 64 (n : Int) &&& BitVec.ofInt 64 (63 : Int)).toNat = n % 64 := by
    rw [BitVec.toNat_and]
    have h1 : (BitVec.ofInt 64 (n : Int)).toNat = n := by rw [BitVec.toNat_ofInt]; omega
    have h2 : (BitVec.ofInt 64 (63 : Int)).toNat = 63 := by decide
    rw [h1, h2]
    exact Nat.and_two_pow_sub_one_eq_mod n 6
  show IntKind.wrap .i64 (((BitVec.ofInt 64 (n : Int) &&& BitVec.ofInt 64 (63 : Int)).toNat : Nat) : Int) = _
  rw [e, i64w _ (by omega)]
theorem and63b (x : UInt8) : bitsV .and .u8 ((x.toNat : Nat) : Int) 63 = ((x.toNat % 64 : Nat) : Int) := by
  have : ∀ m : Fin 256, bitsV .and .u8 ((m.val : Nat) : Int) 63 = ((m.val % 64 : Nat) : Int) := by decide +kernel
  exact this ⟨x.toNat, x.toNat_lt⟩
theorem orAdd (n r : Nat) (hr : r < 64) (h : n < 2 ^ 40) : bitsV .or .i64 ((n * 64 : Nat) : Int) (r : Int) = ((n * 64 + r : Nat) : Int) := by
  have e : (BitVec.ofInt 64 ((n * 64 : Nat) : Int) ||| BitVec.ofInt 64 (r : Int)).toNat = n * 64 + r := by
    rw [BitVec.toNat_or]
    have h1 : (BitVec.ofInt 64 ((n * 64 : Nat) : Int)).toNat = n * 64 := by rw [BitVec.toNat_ofInt]; omega
    have h2 : (BitVec.ofInt 64 (r : Int)).toNat = r := by rw [BitVec.toNat_ofInt]; omega
    rw [h1, h2]
    have := Nat.two_pow_add_eq_or_of_lt (b := r) (i := 6) (by simpa using hr) n
    rw [show (2 : Nat) ^ 6 = 64 by rfl] at this
    rw [Nat.mul_comm n 64, ← this]
  show IntKind.wrap .i64 (((BitVec.ofInt 64 ((n * 64 : Nat) : Int) ||| BitVec.ofInt 64 (r : Int)).toNat : Nat) : Int) = _
  rw [e, i64w _ (by omega)]
theorem shl6 (n : Nat) (h : n < 2 ^ 40) : shlV .i64 (n : Int) 6 = ((n * 64 : Nat) : Int) := by
  have : shlV .i64 (n : Int) 6 = IntKind.wrap .i64 ((n : Int) * 64) := rfl
  rw [this, show (n : Int) * 64 = ((n * 64 : Nat) : Int) by omega, i64w _ (by omega)]
theorem shr6 (n : Nat) : shrV .i64 (n : Int) 6 = ((n / 64 : Nat) : Int) := by
  have : shrV .i64 (n : Int) 6 = (n : Int).fdiv 64 := rfl
  rw [this, Int.fdiv_eq_ediv_of_nonneg _ (by omega)]; omega
theorem shr12 (n : Nat) : shrV .i64 (n : Int) 12 = ((n / 4096 : Nat) : Int) := by
  have : shrV .i64 (n : Int) 12 = (n : Int).fdiv 4096 := rfl
  rw [this, Int.fdiv_eq_ediv_of_nonneg _ (by omega)]; omega
theorem shr18 (n : Nat) : shrV .i64 (n : Int) 18 = ((n / 262144 : Nat) : Int) := by
  have : shrV .i64 (n : Int) 18 = (n : Int).fdiv 262144 := rfl
  rw [this, Int.fdiv_eq_ediv_of_nonneg _ (by omega)]; omega
theorem byt (k : Int) (m : Nat) (h : k = (m : Int)) (hm : m < 256) : IntKind.wrap .u8 (IntKind.wrap .i64 k) = (m : Int) := by
  subst h; rw [i64w m (by omega), u8w m hm]
theorem u8okn (m : Nat) (h : m < 256) : u8ok (m : Int) = true := by unfold u8ok; simp; omega
theorem u8ofn (m : Nat) : u8of (m : Int) = UInt8.ofNat m := rfl

def chB (n : Nat) : List UInt8 :=
  if n < 128 then [UInt8.ofNat n]
  else if n < 2048 then [UInt8.ofNat (192 + n / 64), UInt8.ofNat (128 + n % 64)]
  else if n < 65536 then [UInt8.ofNat (224 + n / 4096), UInt8.ofNat (128 + n / 64 % 64), UInt8.ofNat (128 + n % 64)]
  else [UInt8.ofNat (240 + n / 262144), UInt8.ofNat (128 + n / 4096 % 64), UInt8.ofNat (128 + n / 64 % 64), UInt8.ofNat (128 + n % 64)]

theorem char_s (n : Nat) (h : n ≤ 1114111) : M.s_l04Char (n : Int) = some (chB n) := by
  have ha := and63 n (by omega)
  have hb := and63 (n / 64) (by omega)
  have hc := and63 (n / 4096) (by omega)
  unfold M.s_l04Char chB
  rw [shr6, shr12, shr18, hb, hc, ha]
  by_cases h1 : n < 128
  · rw [if_pos h1, u8w n (by omega), u8okn n (by omega), u8ofn]
    have : decide ((n : Int) < 128) = true := by simp; omega
    rw [this]; rfl
  · rw [if_neg h1]
    have d1 : decide ((n : Int) < 128) = false := by simp; omega
    rw [d1]
    have b0 := byt (128 + ((n % 64 : Nat) : Int)) (128 + n % 64) (by omega) (by omega)
    rw [b0]
    by_cases h2 : n < 2048
    · have d2 : decide ((n : Int) < 2048) = true := by simp; omega
      have b1 := byt (192 + ((n / 64 : Nat) : Int)) (192 + n / 64) (by omega) (by omega)
      rw [if_pos h2, d2, b1]
      simp only [cond_false, cond_true, u8okn _ (show 192 + n / 64 < 256 by omega), u8okn _ (show 128 + n % 64 < 256 by omega), u8ofn, Bool.and_self, List.map_id']
    · rw [if_neg h2]
      have d2 : decide ((n : Int) < 2048) = false := by simp; omega
      have b2 := byt (128 + ((n / 64 % 64 : Nat) : Int)) (128 + n / 64 % 64) (by omega) (by omega)
      rw [d2, b2]
      by_cases h3 : n < 65536
      · have d3 : decide ((n : Int) < 65536) = true := by simp; omega
        have b1 := byt (224 + ((n / 4096 : Nat) : Int)) (224 + n / 4096) (by omega) (by omega)
        rw [if_pos h3, d3, b1]
        simp only [cond_false, cond_true, u8okn _ (show 224 + n / 4096 < 256 by omega), u8okn _ (show 128 + n / 64 % 64 < 256 by omega), u8okn _ (show 128 + n % 64 < 256 by omega), u8ofn, Bool.and_self, List.map_id']
      · have d3 : decide ((n : Int) < 65536) = false := by simp; omega
        have b1 := byt (240 + ((n / 262144 : Nat) : Int)) (240 + n / 262144) (by omega) (by omega)
        have b3 := byt (128 + ((n / 4096 % 64 : Nat) : Int)) (128 + n / 4096 % 64) (by omega) (by omega)
        rw [if_neg h3, d3, b1, b3]
        simp only [cond_false, cond_true, u8okn _ (show 240 + n / 262144 < 256 by omega), u8okn _ (show 128 + n / 4096 % 64 < 256 by omega), u8okn _ (show 128 + n / 64 % 64 < 256 by omega), u8okn _ (show 128 + n % 64 < 256 by omega), u8ofn, Bool.and_self, List.map_id']
def accN (n : Nat) : List UInt8 → Nat
  | [] => n
  | x :: r => accN (n * 64 + x.toNat % 64) r

theorem point_loop (s : List UInt8) (many : Nat) (hm : many ≤ s.length) (hs : s.length ≤ 1048576) : ∀ (d f n i : Nat), i + d = many → d ≤ 3 → (n + 1) * 64 ^ d ≤ 2 ^ 24 →
    M.s_l04Point_l0 s (many : Int) (f + d + 1) (n : Int) (i : Int) = some (s, (many : Int), ((accN n ((s.take many).drop i) : Nat) : Int))
  | 0, f, n, i, hi, _, hn => by
    have d : decide ((i : Int) < (many : Int)) = false := by simp; omega
    have e : (s.take many).drop i = [] := List.drop_eq_nil_of_le (by rw [List.length_take]; omega)
    rw [e]
    simp only [M.s_l04Point_l0, d, cond_false, accN]
  | d + 1, f, n, i, hi, hd, hn => by
    have d1 : decide ((i : Int) < (many : Int)) = true := by simp; omega
    have hin : inB (i : Int) s.length = true := by rw [inB_nat]; simp; omega
    have hil : i < (s.take many).length := by rw [List.length_take]; omega
    have hg : s.getD i 0 = (s.take many)[i] := by rw [getD_lt (by omega), List.getElem_take]
    have hp : 64 ^ (d + 1) = 64 * 64 ^ d := by rw [Nat.pow_succ, Nat.mul_comm]
    have hn2 : n < 2 ^ 24 := by
      have : (n + 1) * 1 ≤ (n + 1) * 64 ^ (d + 1) := Nat.mul_le_mul_left _ (Nat.pos_of_ne_zero (by simp))
      omega
    have hb : ((s.getD i 0).toNat % 64) < 64 := Nat.mod_lt _ (by omega)
    have hstep : (n * 64 + (s.getD i 0).toNat % 64 + 1) * 64 ^ d ≤ 2 ^ 24 := by
      have : (n * 64 + (s.getD i 0).toNat % 64 + 1) * 64 ^ d ≤ ((n + 1) * 64) * 64 ^ d := Nat.mul_le_mul_right _ (by omega)
      rw [hp, ← Nat.mul_assoc] at hn
      omega
    have ih := point_loop s many hm hs d f (n * 64 + (s.getD i 0).toNat % 64) (i + 1) (by omega) (by omega) hstep
    rw [drop_get hil, accN]
    rw [show f + (d + 1) + 1 = (f + d + 1) + 1 by omega, M.s_l04Point_l0]
    rw [d1, Int.toNat_natCast, hin]
    simp only [cond_true, Bool.and_true]
    rw [shl6 n (by omega), and63b, i64w ((s.getD i 0).toNat % 64) (by omega), orAdd n _ hb (by omega), wrapk (show i < many by omega) (by omega)]
    rw [ih, hg]
end M
/-
  A TEXT'S FIRST CODE POINT by the reference is the decoder's; a text is a text by both.
-/
set_option linter.unusedVariables false
set_option linter.unusedSimpArgs false
namespace M
open Go Go.V Go.Lib

def manyB (b : Nat) : Nat := if 240 ≤ b then 4 else if 224 ≤ b then 3 else if 192 ≤ b then 2 else 1
def n0B (b : Nat) : Nat := if 240 ≤ b then b - 240 else if 224 ≤ b then b - 224 else if 192 ≤ b then b - 192 else b
def chOk (n : Nat) : Bool := decide (n ≤ 55295) || (decide (57344 ≤ n) && decide (n ≤ 1114111))
def ptB (s : List UInt8) : Nat × Nat :=
  if s.length < manyB (s.getD 0 0).toNat then (0, 0)
  else if chOk (accN (n0B (s.getD 0 0).toNat) ((s.take (manyB (s.getD 0 0).toNat)).drop 1)) && (chB (accN (n0B (s.getD 0 0).toNat) ((s.take (manyB (s.getD 0 0).toNat)).drop 1)) == s.take (manyB (s.getD 0 0).toNat)) then
    (accN (n0B (s.getD 0 0).toNat) ((s.take (manyB (s.getD 0 0).toNat)).drop 1), manyB (s.getD 0 0).toNat)
  else (0, 0)

theorem chOk_s (n : Nat) : M.s_CharOk (n : Int) = some (chOk n) := by
  unfold M.s_CharOk chOk
  have h1 : decide ((0 : Int) ≤ (n : Int)) = true := by simp
  have h2 : decide ((n : Int) ≤ 55295) = decide (n ≤ 55295) := by congr 1; exact propext ⟨fun h => by omega, fun h => by omega⟩
  have h3 : decide ((57344 : Int) ≤ (n : Int)) = decide (57344 ≤ n) := by congr 1; exact propext ⟨fun h => by omega, fun h => by omega⟩
  have h4 : decide ((n : Int) ≤ 1114111) = decide (n ≤ 1114111) := by congr 1; exact propext ⟨fun h => by omega, fun h => by omega⟩
  rw [h1, h2, h3, h4, Bool.true_and]

theorem chOk_le {n : Nat} (h : chOk n = true) : n ≤ 1114111 := by
  unfold chOk at h
  simp only [Bool.or_eq_true, Bool.and_eq_true, decide_eq_true_eq] at h
  omega
theorem point_tail (s : List UInt8) (m n : Nat) (hm : m ≤ s.length) (q9 : Bool) (h9 : q9 = true) :
    (bif ((!(Option.getD (M.s_CharOk (n : Int)) Inhabited.default)) || (!((Option.getD (M.s_l04Char (n : Int)) Inhabited.default) == (List.drop (Int.toNat (0 : Int)) (List.take (Int.toNat (m : Int)) s))))) then
      (bif (((Go.V.slB (0 : Int) (m : Int) (List.length s)) || (!((!(Option.getD (M.s_CharOk (n : Int)) Inhabited.default)) == false))) && (((Option.isSome (M.s_l04Char (n : Int))) || (!((!(Option.getD (M.s_CharOk (n : Int)) Inhabited.default)) == false))) && ((Option.isSome (M.s_CharOk (n : Int))) && q9))) then some ((0 : Int), (0 : Int)) else none)
    else
      (bif (((Go.V.slB (0 : Int) (m : Int) (List.length s)) || (!((!(Option.getD (M.s_CharOk (n : Int)) Inhabited.default)) == false))) && (((Option.isSome (M.s_l04Char (n : Int))) || (!((!(Option.getD (M.s_CharOk (n : Int)) Inhabited.default)) == false))) && ((Option.isSome (M.s_CharOk (n : Int))) && q9))) then some ((n : Int), (m : Int)) else none)) =
    some (if chOk n && (chB n == s.take m) then (((n : Nat) : Int), ((m : Nat) : Int)) else (0, 0)) := by
  subst h9
  have hsl : slB (0 : Int) (m : Int) s.length = true := by unfold slB; simp; omega
  rw [chOk_s, hsl, Int.toNat_natCast]
  simp only [Option.getD_some, Option.isSome_some, Bool.true_or, Bool.and_true, Bool.true_and]
  cases hc : chOk n
  · simp
  · rw [char_s n (chOk_le hc)]
    simp only [Option.getD_some, Option.isSome_some, Bool.not_true, Bool.false_or, Int.toNat_zero, List.drop_zero, Bool.true_or, Bool.and_self, cond_true, Bool.true_and]
    cases hb : (chB n == s.take m) <;> simp

theorem point_s (s : List UInt8) (hne : s ≠ []) (hs : s.length ≤ 1048576) : M.s_l04Point s = some (((ptB s).1 : Int), ((ptB s).2 : Int)) := by
  have hl : 0 < s.length := List.length_pos_iff.2 hne
  have e0 : (s == []) = false := by cases s with
    | nil => exact absurd rfl hne
    | cons a r => rfl
  have hin : inB (0 : Int) s.length = true := by have := inB_nat 0 s.length; simpa [hl] using this
  have hb : (s.getD 0 0).toNat < 256 := UInt8.toNat_lt _
  obtain ⟨f, hf⟩ : ∃ f, bigN = f + 3 + 1 := ⟨bigN - 4, by have := bigN_gt (n := 100) (by omega); omega⟩
  have key : ∀ (m n0 : Nat), manyB (s.getD 0 0).toNat = m → n0B (s.getD 0 0).toNat = n0 → 1 ≤ m → m ≤ 4 → (n0 + 1) * 64 ^ (m - 1) ≤ 2 ^ 24 → ¬ s.length < m → M.s_l04Point_l0 s (m : Int) bigN (n0 : Int) 1 = some (s, (m : Int), ((accN n0 ((s.take m).drop 1) : Nat) : Int)) := fun m n0 h1 h2 h3 h4 h5 h6 => by
    have := point_loop s m (by omega) hs (m - 1) (f + 4 - m) n0 1 (by omega) (by omega) h5
    rw [hf, show f + 3 + 1 = (f + 4 - m) + (m - 1) + 1 by omega]
    exact this
  unfold M.s_l04Point
  rw [e0, Int.toNat_zero]
  have hw : IntKind.wrap .i64 ((s.getD 0 0).toNat : Int) = ((s.getD 0 0).toNat : Int) := i64w _ (by omega)
  unfold ptB
  by_cases h240 : 240 ≤ (s.getD 0 0).toNat
  · have d240 : decide ((240 : Int) ≤ ((s.getD 0 0).toNat : Int)) = true := decide_eq_true (by omega)
    have hm : manyB (s.getD 0 0).toNat = 4 := by unfold manyB; rw [if_pos h240]
    have hn : n0B (s.getD 0 0).toNat = (s.getD 0 0).toNat - 240 := by unfold n0B; rw [if_pos h240]
    have hw2 : IntKind.wrap .i64 (((s.getD 0 0).toNat : Int) - 240) = (((s.getD 0 0).toNat - 240 : Nat) : Int) := by rw [show ((s.getD 0 0).toNat : Int) - 240 = (((s.getD 0 0).toNat - 240 : Nat) : Int) by omega]; exact i64w _ (by omega)
    rw [hm, hn]
    simp only [d240, cond_false, cond_true, hw, hw2, hin, Bool.true_or, Bool.and_true, Bool.or_true, Bool.true_and, Bool.not_true, Bool.or_false]
    by_cases hsl : s.length < 4
    · have d : decide ((s.length : Int) < 4) = true := by simp; omega
      rw [if_pos hsl, d]; rfl
    · have d : decide ((s.length : Int) < 4) = false := by simp; omega
      have := key 4 _ hm hn (by omega) (by omega) (by omega) hsl
      rw [if_neg hsl, d]
      simp only [cond_false]
      rw [show (4 : Int) = ((4 : Nat) : Int) from rfl, this]
      refine (point_tail s 4 _ (by omega) _ (by rfl)).trans ?_
      split <;> rfl
  · have d240 : decide ((240 : Int) ≤ ((s.getD 0 0).toNat : Int)) = false := decide_eq_false (by omega)
    by_cases h224 : 224 ≤ (s.getD 0 0).toNat
    · have d224 : decide ((224 : Int) ≤ ((s.getD 0 0).toNat : Int)) = true := decide_eq_true (by omega)
      have hm : manyB (s.getD 0 0).toNat = 3 := by unfold manyB; rw [if_neg h240, if_pos h224]
      have hn : n0B (s.getD 0 0).toNat = (s.getD 0 0).toNat - 224 := by unfold n0B; rw [if_neg h240, if_pos h224]
      have hw2 : IntKind.wrap .i64 (((s.getD 0 0).toNat : Int) - 224) = (((s.getD 0 0).toNat - 224 : Nat) : Int) := by rw [show ((s.getD 0 0).toNat : Int) - 224 = (((s.getD 0 0).toNat - 224 : Nat) : Int) by omega]; exact i64w _ (by omega)
      rw [hm, hn]
      simp only [d240, d224, cond_false, cond_true, hw, hw2, hin, Bool.true_or, Bool.and_true, Bool.or_true, Bool.true_and, Bool.not_true, Bool.not_false, Bool.or_false]
      by_cases hsl : s.length < 3
      · have d : decide ((s.length : Int) < 3) = true := by simp; omega
        rw [if_pos hsl, d]; rfl
      · have d : decide ((s.length : Int) < 3) = false := by simp; omega
        have := key 3 _ hm hn (by omega) (by omega) (by omega) hsl
        rw [if_neg hsl, d]
        simp only [cond_false]
        rw [show (3 : Int) = ((3 : Nat) : Int) from rfl, this]
        refine (point_tail s 3 _ (by omega) _ (by rfl)).trans ?_
        split <;> rfl
    · have d224 : decide ((224 : Int) ≤ ((s.getD 0 0).toNat : Int)) = false := decide_eq_false (by omega)
      by_cases h192 : 192 ≤ (s.getD 0 0).toNat
      · have d192 : decide ((192 : Int) ≤ ((s.getD 0 0).toNat : Int)) = true := decide_eq_true (by omega)
        have hm : manyB (s.getD 0 0).toNat = 2 := by unfold manyB; rw [if_neg h240, if_neg h224, if_pos h192]
        have hn : n0B (s.getD 0 0).toNat = (s.getD 0 0).toNat - 192 := by unfold n0B; rw [if_neg h240, if_neg h224, if_pos h192]
        have hw2 : IntKind.wrap .i64 (((s.getD 0 0).toNat : Int) - 192) = (((s.getD 0 0).toNat - 192 : Nat) : Int) := by rw [show ((s.getD 0 0).toNat : Int) - 192 = (((s.getD 0 0).toNat - 192 : Nat) : Int) by omega]; exact i64w _ (by omega)
        rw [hm, hn]
        simp only [d240, d224, d192, cond_false, cond_true, hw, hw2, hin, Bool.true_or, Bool.and_true, Bool.or_true, Bool.true_and, Bool.not_true, Bool.not_false, Bool.or_false]
        by_cases hsl : s.length < 2
        · have d : decide ((s.length : Int) < 2) = true := by simp; omega
          rw [if_pos hsl, d]; rfl
        · have d : decide ((s.length : Int) < 2) = false := by simp; omega
          have := key 2 _ hm hn (by omega) (by omega) (by omega) hsl
          rw [if_neg hsl, d]
          simp only [cond_false]
          rw [show (2 : Int) = ((2 : Nat) : Int) from rfl, this]
          refine (point_tail s 2 _ (by omega) _ (by rfl)).trans ?_
          split <;> rfl
      · have d192 : decide ((192 : Int) ≤ ((s.getD 0 0).toNat : Int)) = false := decide_eq_false (by omega)
        have hm : manyB (s.getD 0 0).toNat = 1 := by unfold manyB; rw [if_neg h240, if_neg h224, if_neg h192]
        have hn : n0B (s.getD 0 0).toNat = (s.getD 0 0).toNat := by unfold n0B; rw [if_neg h240, if_neg h224, if_neg h192]
        rw [hm, hn]
        simp only [d240, d224, d192, cond_false, cond_true, hw, hin, Bool.true_or, Bool.and_true, Bool.or_true, Bool.true_and, Bool.not_true, Bool.not_false, Bool.or_false]
        have hsl : ¬ s.length < 1 := by omega
        have d : decide ((s.length : Int) < 1) = false := by simp; omega
        have := key 1 _ hm hn (by omega) (by omega) (by omega) hsl
        rw [if_neg hsl, d]
        simp only [cond_false]
        rw [show (1 : Int) = ((1 : Nat) : Int) from rfl] at this ⊢
        rw [this]
        refine (point_tail s 1 _ (by omega) _ (by rfl)).trans ?_
        split <;> rfl
end M
/-
  A text is a text by the reference and by the program: at most 24 bytes, and no step of the decoder fails.
-/
set_option linter.unusedVariables false
set_option linter.unusedSimpArgs false
namespace M
open Go Go.V Go.Lib

def chN (n : Nat) : List Nat :=
  if n < 128 then [n]
  else if n < 2048 then [192 + n / 64, 128 + n % 64]
  else if n < 65536 then [224 + n / 4096, 128 + n / 64 % 64, 128 + n % 64]
  else [240 + n / 262144, 128 + n / 4096 % 64, 128 + n / 64 % 64, 128 + n % 64]
theorem chB_map (n : Nat) : chB n = (chN n).map UInt8.ofNat := by
  unfold chB chN
  repeat' split
  all_goals rfl
theorem chN_lt (n : Nat) (h : n ≤ 1114111) : ∀ x ∈ chN n, x < 256 := by
  unfold chN
  repeat' split
  all_goals (intro x hx; simp only [List.mem_cons, List.not_mem_nil, or_false] at hx; omega)
theorem map_byte : ∀ (l : List Nat) (s : List UInt8), (∀ x ∈ l, x < 256) → (l.map UInt8.ofNat = s ↔ l = s.map UInt8.toNat)
  | [], [], _ => by simp
  | [], y :: s, _ => by simp
  | x :: l, [], _ => by simp
  | x :: l, y :: s, h => by
    have ih := map_byte l s fun z hz => h z (List.mem_cons_of_mem _ hz)
    have hx := h x (List.mem_cons_self ..)
    simp only [List.map_cons, List.cons.injEq, ih]
    refine and_congr_left fun _ => ⟨fun e => ?_, fun e => ?_⟩
    · rw [← e]; simp; omega
    · rw [e]; simp
theorem chB_iff (n : Nat) (h : n ≤ 1114111) (s : List UInt8) : (chB n == s) = true ↔ chN n = s.map UInt8.toNat := by
  rw [beq_iff_eq, chB_map]; exact map_byte _ _ (chN_lt n h)
theorem chN1 (n a : Nat) : chN n = [a] ↔ n < 128 ∧ n = a := by
  unfold chN
  repeat' split
  all_goals (simp only [List.cons.injEq, and_true, reduceCtorEq, and_false, false_iff, not_and]; omega)
theorem chN2 (n a b : Nat) : chN n = [a, b] ↔ 128 ≤ n ∧ n < 2048 ∧ 192 + n / 64 = a ∧ 128 + n % 64 = b := by
  unfold chN
  repeat' split
  all_goals (simp only [List.cons.injEq, and_true, reduceCtorEq, and_false, false_iff, not_and]; omega)
theorem chN3 (n a b c : Nat) : chN n = [a, b, c] ↔ 2048 ≤ n ∧ n < 65536 ∧ 224 + n / 4096 = a ∧ 128 + n / 64 % 64 = b ∧ 128 + n % 64 = c := by
  unfold chN
  repeat' split
  all_goals (simp only [List.cons.injEq, and_true, reduceCtorEq, and_false, false_iff, not_and]; omega)
theorem chN4 (n a b c d : Nat) : chN n = [a, b, c, d] ↔ 65536 ≤ n ∧ 240 + n / 262144 = a ∧ 128 + n / 4096 % 64 = b ∧ 128 + n / 64 % 64 = c ∧ 128 + n % 64 = d := by
  unfold chN
  repeat' split
  all_goals (simp only [List.cons.injEq, and_true, reduceCtorEq, and_false, false_iff, not_and]; omega)

theorem chOk_iff (n : Nat) : chOk n = true ↔ n ≤ 55295 ∨ (57344 ≤ n ∧ n ≤ 1114111) := by unfold chOk; simp
theorem chk_iff (n : Nat) (s : List UInt8) : (chOk n && (chB n == s)) = true ↔ (n ≤ 55295 ∨ (57344 ≤ n ∧ n ≤ 1114111)) ∧ chN n = s.map UInt8.toNat := by
  rw [Bool.and_eq_true, chOk_iff]
  constructor
  · rintro ⟨h1, h2⟩; exact ⟨h1, (chB_iff n (by omega) s).1 h2⟩
  · rintro ⟨h1, h2⟩; exact ⟨h1, (chB_iff n (by omega) s).2 h2⟩

theorem pt_dec (s : List UInt8) (hne : s ≠ []) : (ptB s).2 = if (decodeL s).1 = 65533 ∧ (decodeL s).2 = 1 then 0 else (decodeL s).2 := by
  have hl : 0 < s.length := List.length_pos_iff.2 hne
  have k0 := (s.getD 0 0).toNat_lt
  have k1 := (s.getD 1 0).toNat_lt
  have k2 := (s.getD 2 0).toNat_lt
  have k3 := (s.getD 3 0).toNat_lt
  have shp := decodeN_shape s.length (s.getD 0 0).toNat (s.getD 1 0).toNat (s.getD 2 0).toNat (s.getD 3 0).toNat
  rw [decodeL_N]
  generalize hD : decodeN s.length (s.getD 0 0).toNat (s.getD 1 0).toNat (s.getD 2 0).toNat (s.getD 3 0).toNat = D at shp ⊢
  have hD' := hD
  unfold decodeN at hD
  unfold ptB
  by_cases h240 : 240 ≤ (s.getD 0 0).toNat
  · have hm : manyB (s.getD 0 0).toNat = 4 := by unfold manyB; rw [if_pos h240]
    have hn : n0B (s.getD 0 0).toNat = (s.getD 0 0).toNat - 240 := by unfold n0B; rw [if_pos h240]
    rw [hm, hn]
    by_cases hsl : s.length < 4
    · rw [if_pos hsl]
      rcases shp with ⟨c, e⟩ | ⟨c1, c2, c3, cv, e⟩ | ⟨c1, c2, c3, c4, cv, cs, e⟩ | ⟨c1, c2, c3, c4, c5, cv, cw, e⟩ | e
      all_goals first | (exfalso; omega) | (rw [e]; rfl)
    · rw [if_neg hsl, takeD s (by omega)]
      simp only [List.drop_succ_cons, List.drop_zero, accN]
      generalize hN : (((s.getD 0 0).toNat - 240) * 64 + (s.getD 1 0).toNat % 64) * 64 + (s.getD 2 0).toNat % 64 = N1
      by_cases hchk : (chOk (N1 * 64 + (s.getD 3 0).toNat % 64) && (chB (N1 * 64 + (s.getD 3 0).toNat % 64) == [s.getD 0 0, s.getD 1 0, s.getD 2 0, s.getD 3 0])) = true
      · rw [if_pos hchk]
        rw [chk_iff] at hchk
        simp only [List.map_cons, List.map_nil, chN4] at hchk
        obtain ⟨q1, q2, q3, q4, q5, q6⟩ := hchk
        rw [if_neg (by omega), if_neg (by omega), if_neg (by omega), if_pos ⟨by omega, ⟨by omega, by omega⟩, ⟨by omega, by omega⟩, by omega, by omega⟩, if_pos ⟨by omega, by omega⟩] at hD
        rw [← hD, if_neg (by simp)]
      · rw [if_neg hchk]
        rw [chk_iff] at hchk
        simp only [List.map_cons, List.map_nil, chN4] at hchk
        rcases shp with ⟨c, e⟩ | ⟨c1, c2, c3, cv, e⟩ | ⟨c1, c2, c3, c4, cv, cs, e⟩ | ⟨c1, c2, c3, c4, c5, cv, cw, e⟩ | e
        · exfalso; omega
        · exfalso; omega
        · exfalso; omega
        · exfalso; apply hchk
          have : (262144 : Nat) ≤ 262144 := Nat.le_refl _
          rw [if_neg (by omega), if_neg (by omega), if_neg (by omega), if_pos ⟨by omega, ⟨by omega, by omega⟩, ⟨by omega, by omega⟩, by omega, by omega⟩] at hD
          split at hD
          · rename_i hv
            exact ⟨by omega, by omega, by omega, by omega, by omega, by omega⟩
          · rw [← hD] at e; simp at e
        · rw [e]; rfl
  · by_cases h224 : 224 ≤ (s.getD 0 0).toNat
    · have hm : manyB (s.getD 0 0).toNat = 3 := by unfold manyB; rw [if_neg h240, if_pos h224]
      have hn : n0B (s.getD 0 0).toNat = (s.getD 0 0).toNat - 224 := by unfold n0B; rw [if_neg h240, if_pos h224]
      rw [hm, hn]
      by_cases hsl : s.length < 3
      · rw [if_pos hsl]
        rcases shp with ⟨c, e⟩ | ⟨c1, c2, c3, cv, e⟩ | ⟨c1, c2, c3, c4, cv, cs, e⟩ | ⟨c1, c2, c3, c4, c5, cv, cw, e⟩ | e
        all_goals first | (exfalso; omega) | (rw [e]; rfl)
      · rw [if_neg hsl, takeC s (by omega)]
        simp only [List.drop_succ_cons, List.drop_zero, accN]
        generalize hN : (((s.getD 0 0).toNat - 224) * 64 + (s.getD 1 0).toNat % 64) * 64 + (s.getD 2 0).toNat % 64 = N
        by_cases hchk : (chOk N && (chB N == [s.getD 0 0, s.getD 1 0, s.getD 2 0])) = true
        · rw [if_pos hchk]
          rw [chk_iff] at hchk
          simp only [List.map_cons, List.map_nil, chN3] at hchk
          obtain ⟨q1, q2, q3, q4, q5, q6⟩ := hchk
          rw [if_neg (by omega), if_neg (by omega), if_pos ⟨by omega, ⟨by omega, by omega⟩, by omega, by omega⟩, if_pos ⟨by omega, by omega⟩] at hD
          rw [← hD, if_neg (by simp)]
        · rw [if_neg hchk]
          rw [chk_iff] at hchk
          simp only [List.map_cons, List.map_nil, chN3] at hchk
          rcases shp with ⟨c, e⟩ | ⟨c1, c2, c3, cv, e⟩ | ⟨c1, c2, c3, c4, cv, cs, e⟩ | ⟨c1, c2, c3, c4, c5, cv, cw, e⟩ | e
          · exfalso; omega
          · exfalso; omega
          · exfalso; apply hchk
            exact ⟨by omega, by omega, by omega, by omega, by omega, by omega⟩
          · exfalso; omega
          · rw [e]; rfl
    · by_cases h192 : 192 ≤ (s.getD 0 0).toNat
      · have hm : manyB (s.getD 0 0).toNat = 2 := by unfold manyB; rw [if_neg h240, if_neg h224, if_pos h192]
        have hn : n0B (s.getD 0 0).toNat = (s.getD 0 0).toNat - 192 := by unfold n0B; rw [if_neg h240, if_neg h224, if_pos h192]
        rw [hm, hn]
        by_cases hsl : s.length < 2
        · rw [if_pos hsl]
          rcases shp with ⟨c, e⟩ | ⟨c1, c2, c3, cv, e⟩ | ⟨c1, c2, c3, c4, cv, cs, e⟩ | ⟨c1, c2, c3, c4, c5, cv, cw, e⟩ | e
          all_goals first | (exfalso; omega) | (rw [e]; rfl)
        · rw [if_neg hsl, takeB s (by omega)]
          simp only [List.drop_succ_cons, List.drop_zero, accN]
          generalize hN : ((s.getD 0 0).toNat - 192) * 64 + (s.getD 1 0).toNat % 64 = N
          by_cases hchk : (chOk N && (chB N == [s.getD 0 0, s.getD 1 0])) = true
          · rw [if_pos hchk]
            rw [chk_iff] at hchk
            simp only [List.map_cons, List.map_nil, chN2] at hchk
            obtain ⟨q1, q2, q3, q4, q5⟩ := hchk
            rw [if_neg (by omega), if_pos ⟨by omega, by omega, by omega⟩, if_pos (by omega)] at hD
            rw [← hD, if_neg (by simp)]
          · rw [if_neg hchk]
            rw [chk_iff] at hchk
            simp only [List.map_cons, List.map_nil, chN2] at hchk
            rcases shp with ⟨c, e⟩ | ⟨c1, c2, c3, cv, e⟩ | ⟨c1, c2, c3, c4, cv, cs, e⟩ | ⟨c1, c2, c3, c4, c5, cv, cw, e⟩ | e
            · exfalso; omega
            · exfalso; apply hchk
              exact ⟨by omega, by omega, by omega, by omega, by omega⟩
            · exfalso; omega
            · exfalso; omega
            · rw [e]; rfl
      · have hm : manyB (s.getD 0 0).toNat = 1 := by unfold manyB; rw [if_neg h240, if_neg h224, if_neg h192]
        have hn : n0B (s.getD 0 0).toNat = (s.getD 0 0).toNat := by unfold n0B; rw [if_neg h240, if_neg h224, if_neg h192]
        rw [hm, hn]
        rw [if_neg (show ¬ s.length < 1 by omega), takeA s hl]
        simp only [List.drop_succ_cons, List.drop_zero, accN]
        by_cases hchk : (chOk (s.getD 0 0).toNat && (chB (s.getD 0 0).toNat == [s.getD 0 0])) = true
        · rw [if_pos hchk]
          rw [chk_iff] at hchk
          simp only [List.map_cons, List.map_nil, chN1] at hchk
          rw [if_pos (by omega)] at hD
          rw [← hD, if_neg (by simp only; omega)]
        · rw [if_neg hchk]
          rw [chk_iff] at hchk
          simp only [List.map_cons, List.map_nil, chN1] at hchk
          rcases shp with ⟨c, e⟩ | ⟨c1, c2, c3, cv, e⟩ | ⟨c1, c2, c3, c4, cv, cs, e⟩ | ⟨c1, c2, c3, c4, c5, cv, cw, e⟩ | e
          · exfalso; simp only [and_true] at hchk; omega
          · exfalso; omega
          · exfalso; omega
          · exfalso; omega
          · rw [e]; rfl

theorem pt_le (s : List UInt8) (hne : s ≠ []) : (ptB s).2 ≤ s.length := by
  unfold ptB
  split
  · exact Nat.zero_le _
  · split
    · rename_i h1 h2; exact Nat.le_of_not_lt h1
    · exact Nat.zero_le _

theorem points_loop : ∀ (m f : Nat) (s : List UInt8) (out : List Int), s.length ≤ m → s.length ≤ 1048576 → out.length + s.length ≤ 1048576 →
    ∃ r, M.s_l04Points_l0 (f + m + 1) s out = some r ∧ (match r with | .inl a => a.1 = false ∧ validGoD m s = false | .inr _ => validGoD m s = true)
  | 0, f, s, out, hm, hs, ho => by
    have e : s = [] := List.eq_nil_of_length_eq_zero (by omega)
    subst e
    exact ⟨.inr out, rfl, rfl⟩
  | m + 1, f, s, out, hm, hs, ho => by
    rw [show f + (m + 1) + 1 = (f + m + 1) + 1 by omega, M.s_l04Points_l0]
    by_cases hne : s = []
    · subst hne
      exact ⟨.inr out, rfl, rfl⟩
    · have hl : 0 < s.length := List.length_pos_iff.2 hne
      have d : decide ((0 : Int) < (s.length : Int)) = true := decide_eq_true (by omega)
      rw [d, point_s s hne hs]
      simp only [cond_true, Option.getD_some, Option.isSome_some, Bool.and_true, List.length_cons, List.length_nil, Nat.zero_add]
      have hp := pt_dec s hne
      have hle := pt_le s hne
      have hv : validGoD (m + 1) s = if (decodeL s).1 = 65533 ∧ (decodeL s).2 = 1 then false else validGoD m (s.drop (decodeL s).2) := by
        rw [validGoD, if_neg hne]
      by_cases hb : (decodeL s).1 = 65533 ∧ (decodeL s).2 = 1
      · rw [if_pos hb] at hp hv
        rw [hp]
        exact ⟨.inl (false, []), rfl, rfl, hv⟩
      · rw [if_neg hb] at hp hv
        have hw := decodeL_width s
        rw [← hp] at hv hw
        have d0 : (((ptB s).2 : Int) == 0) = false := by rw [beq_eq_false_iff_ne]; omega
        have hsl : slB ((ptB s).2 : Int) (s.length : Int) s.length = true := by unfold slB; simp; omega
        have hlen : decide (out.length + 1 ≤ 1073741824) = true := decide_eq_true (by omega)
        rw [d0, hsl, hlen]
        simp only [cond_false, cond_true, Bool.and_self, Int.toNat_natCast, List.take_length]
        have hdl : (s.drop (ptB s).2).length = s.length - (ptB s).2 := List.length_drop
        obtain ⟨r, h1, h2⟩ := points_loop m f (s.drop (ptB s).2) (out ++ [((ptB s).1 : Int)]) (by omega) (by omega) (by rw [List.length_append]; simp; omega)
        refine ⟨r, h1, ?_⟩
        rw [hv]; exact h2
def textB (s : List UInt8) : Bool := decide (s.length ≤ 24) && validD s

theorem text_s (s : List UInt8) (hs : s.length ≤ 1048576) : M.s_TextOk s = some (textB s) := by
  unfold M.s_TextOk textB
  by_cases h : s.length ≤ 24
  · have d : decide ((24 : Int) < (s.length : Int)) = false := decide_eq_false (by omega)
    rw [d, decide_eq_true h]
    obtain ⟨f, hf⟩ : ∃ f, bigN = f + s.length + 1 := ⟨bigN - (s.length + 1), by have := bigN_gt hs; omega⟩
    obtain ⟨r, h1, h2⟩ := points_loop s.length f s [] (Nat.le_refl _) hs (by simp; omega)
    have e : ∀ r, M.s_l04Points_l0 (f + s.length + 1) s [] = some r → M.s_l04Points s = (match r with | .inl a => some (a.2, a.1) | .inr b => some (b, true)) := fun r h => by
      unfold M.s_l04Points
      rw [hf, h]; cases r <;> rfl
    have e := e r h1
    cases r with
    | inl a =>
      simp only at h2 e
      rw [e]
      simp only [cond_false, Option.isSome_some, Bool.and_true, cond_true, Option.getD_some, Bool.true_and, h2.1]
      exact congrArg some h2.2.symm
    | inr b =>
      simp only at h2 e
      rw [e]
      simp only [cond_false, Option.isSome_some, Bool.and_true, cond_true, Option.getD_some, Bool.true_and]
      exact congrArg some h2.symm
  · have d : decide ((24 : Int) < (s.length : Int)) = true := decide_eq_true (by omega)
    rw [d, decide_eq_false h]; rfl
theorem text_i (s : List UInt8) (hs : s.length ≤ 1048576) : M.i_TextOk s = some (textB s) := by
  have e : M.unicode_utf8_ValidString s = some (validD s) := by
    unfold M.unicode_utf8_ValidString
    rw [decide_eq_true (show s.length ≤ 9223372036854775807 by omega)]; rfl
  have d : decide ((s.length : Int) ≤ 24) = decide (s.length ≤ 24) := by congr 1; exact propext ⟨fun h => by omega, fun h => by omega⟩
  unfold M.i_TextOk textB
  rw [e, d]; rfl
end M
/-
  A VALUE FITS A TYPE: in plain words; the program's side.
-/
set_option linter.unusedVariables false
set_option linter.unusedSimpArgs false
namespace M
open Go.V (inB slB bigN bigN_le)

theorem SValue.text_le {a : SValue} {N : Nat} (h : a.sz ≤ N) : a.Text.length ≤ N := by rw [SValue.sz_eq] at h; omega
theorem SValue.kids_le {a : SValue} {N : Nat} (h : a.sz ≤ N) : szL SValue.sz a.Kids ≤ N := by rw [SValue.sz_eq] at h; omega
theorem SValue.kids_len {a : SValue} {N : Nat} (h : a.sz ≤ N) : a.Kids.length ≤ N := Nat.le_trans (szL_len _ _) (SValue.kids_le h)
theorem SValue.kid_lt {a x : SValue} (h : x ∈ a.Kids) : x.sz < a.sz := by
  rw [SValue.sz_eq a]; have := szL_pos SValue.sz _ _ h; omega
def rngB (k : Int) : Int × Int :=
  if k = 3 then (0, 255) else if k = 4 then (-128, 127) else if k = 5 then (0, 65535) else if k = 6 then (-32768, 32767) else if k = 7 then (0, 4294967295) else if k = 8 then (-2147483648, 2147483647)
  else if k = 9 then (-9223372036854775808, 9223372036854775807) else (0, 0)
def charI (n : Int) : Bool := (decide ((0 : Int) ≤ n) && decide (n ≤ (55295 : Int))) || (decide ((57344 : Int) ≤ n) && decide (n ≤ (1114111 : Int)))
def flagsHi (t : SType) : Int := Go.IntKind.wrap .i64 (Go.V.shlV .i64 (1 : Int) (t.Labels.length : Int) - 1)
def highB (t : SType) : Int :=
  if t.Kind = 17 ∨ t.Kind = 18 then Go.IntKind.wrap .i64 ((t.Labels.length : Int) - 1) else if t.Kind = 19 then flagsHi t
  else if t.Kind = 20 ∨ t.Kind = 21 ∨ t.Kind = 22 ∨ t.Kind = 23 then 2147483647 else 0
def numB (n : Int) (t : SType) : Bool :=
  if t.Kind = 2 ∨ t.Kind = 13 ∨ t.Kind = 14 then decide ((0 : Int) ≤ n) && decide (n ≤ (1 : Int))
  else if 3 ≤ t.Kind ∧ t.Kind ≤ 9 then decide ((rngB t.Kind).1 ≤ n) && decide (n ≤ (rngB t.Kind).2)
  else if t.Kind = 10 then charI n
  else decide ((0 : Int) ≤ n) && decide (n ≤ highB t)
def oneK (t : SType) : List SType := if unitB t then [] else [t]
def kT (n : Int) (len : Nat) (t : SType) : Option (List SType) :=
  if t.Kind = 12 then some (List.replicate (min len 8) (t.Kids.getD 0 SType.zero))
  else if t.Kind = 15 ∨ t.Kind = 16 then some t.Kids
  else if t.Kind = 13 then (if n = 0 then some [] else if n = 1 then some (oneK (t.Kids.getD 0 SType.zero)) else none)
  else if t.Kind = 14 ∨ t.Kind = 17 then (if 0 ≤ n ∧ n < (t.Kids.length : Int) then some (oneK (t.Kids.getD n.toNat SType.zero)) else none)
  else some []
def headB (k n : Int) (x : List UInt8) (t : SType) : Bool := (((k == t.Kind) && numB n t) && (x == [] || t.Kind == 11)) && textB x
mutual
def vFits : SValue → SType → Bool
  | .mk k n x kids, t => headB k n x t && (match kT n kids.length t with
    | some ts => decide (ts.length = kids.length) && vsFits kids ts
    | none => false)
def vsFits : List SValue → List SType → Bool
  | [], _ => true
  | v :: r, ts => vFits v (ts.headD SType.zero) && vsFits r ts.tail
end
theorem vFits_eq (v : SValue) (t : SType) : vFits v t = (headB v.Kind v.Num v.Text t && (match kT v.Num v.Kids.length t with
    | some ts => decide (ts.length = v.Kids.length) && vsFits v.Kids ts
    | none => false)) := by cases v; rfl
theorem vsFits_range : ∀ (a : List SValue) (b : List SType), b.length = a.length → vsFits a b = (List.range a.length).all fun k => vFits (a.getD k SValue.zero) (b.getD k SType.zero)
  | [], _, _ => rfl
  | v :: r, [], h => by simp at h
  | v :: r, t :: ts, h => by
    rw [vsFits, List.headD_cons, List.tail_cons, vsFits_range r ts (by simpa using h), List.length_cons, List.range_succ_eq_map, List.all_cons, List.all_map]
    rfl
theorem vsFits_same (t : SType) : ∀ (a : List SValue) (n : Nat), n = a.length → vsFits a (List.replicate n t) = a.all fun v => vFits v t
  | [], _, _ => rfl
  | v :: r, n, h => by
    subst h
    rw [List.length_cons, List.replicate_succ, vsFits, List.headD_cons, List.tail_cons, vsFits_same t r r.length rfl, List.all_cons]

theorem kb {a b : Int} (h : a ≠ b) : (a == b) = false := by rw [beq_eq_false_iff_ne]; exact h
theorem kt {a b : Int} (h : a = b) : (a == b) = true := by rw [h]; exact beq_self_eq_true b
theorem numRange_i (k : Int) : ∃ b, M.i_numRange k = some ((rngB k).1, (rngB k).2, b) := by
  unfold M.i_numRange rngB
  by_cases h3 : k = 3
  · subst h3; exact ⟨true, rfl⟩
  by_cases h4 : k = 4
  · subst h4; exact ⟨true, rfl⟩
  by_cases h5 : k = 5
  · subst h5; exact ⟨true, rfl⟩
  by_cases h6 : k = 6
  · subst h6; exact ⟨true, rfl⟩
  by_cases h7 : k = 7
  · subst h7; exact ⟨true, rfl⟩
  by_cases h8 : k = 8
  · subst h8; exact ⟨true, rfl⟩
  by_cases h9 : k = 9
  · subst h9; exact ⟨true, rfl⟩
  exact ⟨false, by simp [h3, h4, h5, h6, h7, h8, h9, kb h3, kb h4, kb h5, kb h6, kb h7, kb h8, kb h9]⟩
theorem numRange_s (k : Int) : ∃ b, M.s_NumRange k = some ((rngB k).1, (rngB k).2, b) := numRange_i k
theorem rngB_out {k : Int} (h : ¬ (3 ≤ k ∧ k ≤ 9)) : rngB k = (0, 0) := by
  unfold rngB
  rw [if_neg (by omega), if_neg (by omega), if_neg (by omega), if_neg (by omega), if_neg (by omega), if_neg (by omega), if_neg (by omega)]


theorem numOk_i (v : SValue) (t : SType) : M.i_numOk v t = some (numB v.Num t) := by
  unfold M.i_numOk numB
  by_cases h1 : t.Kind = 2 ∨ t.Kind = 13 ∨ t.Kind = 14
  · rw [if_pos h1]
    rcases h1 with h | h | h <;> simp [h]
  · rw [if_neg h1]
    simp only [not_or] at h1
    obtain ⟨a2, a13, a14⟩ := h1
    simp only [kb a2, kb a13, kb a14, cond_false]
    by_cases h2 : 3 ≤ t.Kind ∧ t.Kind ≤ 9
    · rw [if_pos h2]
      obtain ⟨b, e⟩ := numRange_i t.Kind
      have : (bif t.Kind == 3 then t.Kind == 3 else bif t.Kind == 4 then t.Kind == 4 else bif t.Kind == 5 then t.Kind == 5 else bif t.Kind == 6 then t.Kind == 6 else bif t.Kind == 7 then t.Kind == 7 else bif t.Kind == 8 then t.Kind == 8 else t.Kind == 9) = true := by
        have : t.Kind = 3 ∨ t.Kind = 4 ∨ t.Kind = 5 ∨ t.Kind = 6 ∨ t.Kind = 7 ∨ t.Kind = 8 ∨ t.Kind = 9 := by omega
        rcases this with h | h | h | h | h | h | h <;> simp [h]
      rw [this, e]; rfl
    · rw [if_neg h2]
      have : (bif t.Kind == 3 then t.Kind == 3 else bif t.Kind == 4 then t.Kind == 4 else bif t.Kind == 5 then t.Kind == 5 else bif t.Kind == 6 then t.Kind == 6 else bif t.Kind == 7 then t.Kind == 7 else bif t.Kind == 8 then t.Kind == 8 else t.Kind == 9) = false := by
        simp only [kb (show t.Kind ≠ 3 by omega), kb (show t.Kind ≠ 4 by omega), kb (show t.Kind ≠ 5 by omega), kb (show t.Kind ≠ 6 by omega), kb (show t.Kind ≠ 7 by omega), kb (show t.Kind ≠ 8 by omega), kb (show t.Kind ≠ 9 by omega), cond_false]
      rw [this]
      simp only [cond_false]
      by_cases h3 : t.Kind = 10
      · rw [if_pos h3, kt h3]; rfl
      · rw [if_neg h3, kb h3]
        simp only [cond_false]
        unfold highB flagsHi
        by_cases h4 : t.Kind = 17
        · simp [h4]
        by_cases h5 : t.Kind = 18
        · simp [h5]
        by_cases h6 : t.Kind = 19
        · simp [h6]
        by_cases h7 : t.Kind = 20
        · simp [h7]
        by_cases h8 : t.Kind = 21
        · simp [h8]
        by_cases h9 : t.Kind = 22
        · simp [h9]
        by_cases h10 : t.Kind = 23
        · simp [h10]
        simp [h4, h5, h6, h7, h8, h9, h10, kb h4, kb h5, kb h6, kb h7, kb h8, kb h9, kb h10]
theorem shape_kids {t : SType} (h : tShape t = true) : (t.Kind = 12 → t.Kids.length = 1) ∧ (t.Kind = 13 → t.Kids.length = 1 ∧ unitB (t.Kids.getD 0 SType.zero) = false) ∧ (t.Kind = 14 → t.Kids.length = 2) ∧ (t.Kind = 17 → t.Kids.length = t.Labels.length) := by
  rw [tShape_eq] at h
  simp only [Bool.and_eq_true] at h
  have hk := h.1
  unfold shape1 at hk
  simp only [Bool.and_eq_true] at hk
  have hk := hk.2
  unfold kidsB at hk
  refine ⟨fun e => ?_, fun e => ?_, fun e => ?_, fun e => ?_⟩
  · rw [if_pos (.inl e)] at hk; simp at hk; exact hk.1
  · rw [if_pos (.inr e)] at hk; simp only [Bool.and_eq_true, beq_iff_eq, Bool.not_eq_true'] at hk
    refine ⟨hk.1, ?_⟩
    have hl : 0 < t.Kids.length := by omega
    rw [getD_lt hl]
    have := List.any_eq_false.1 hk.2 _ (List.getElem_mem hl)
    simpa using this
  · rw [if_neg (by omega), if_pos e] at hk; simp at hk; exact hk
  · rw [if_neg (by omega), if_neg (by omega), if_neg (by omega), if_neg (by omega), if_pos e] at hk; simp at hk; exact hk

theorem caseRest (t : SType) (n : Int) (hl : t.Kids.length ≤ 1048576) (h : t.Kind ≠ 13) : M.i_caseType t n = some (if 0 ≤ n ∧ n < (t.Kids.length : Int) then (t.Kids.getD n.toNat SType.zero, true) else (.mk 0 [] [] [], false)) := by
  unfold M.i_caseType
  rw [kb h, wrap_i64 (show (-9223372036854775808 : Int) ≤ (t.Kids.length : Int) - 1 by omega) (by omega)]
  simp only [cond_false]
  by_cases hn : 0 ≤ n ∧ n < (t.Kids.length : Int)
  · rw [if_pos hn, decide_eq_true hn.1, decide_eq_true (show n ≤ (t.Kids.length : Int) - 1 by omega)]
    have hin : inB n t.Kids.length = true := by unfold inB; rw [decide_eq_true hn.1, decide_eq_true hn.2]; rfl
    rw [hin, SType.re_eq]; rfl
  · rw [if_neg hn]
    have : (decide ((0 : Int) ≤ n) && decide (n ≤ (t.Kids.length : Int) - 1)) = false := by
      rw [Bool.and_eq_false_iff]
      by_cases h0 : 0 ≤ n
      · right; exact decide_eq_false (by omega)
      · left; exact decide_eq_false h0
    rw [this]; rfl
theorem caseOpt (t : SType) (n : Int) (h : t.Kind = 13) (hk : t.Kids.length = 1) (hn : n = 0 ∨ n = 1) : M.i_caseType t n = some (if n = 0 then (.mk 1 [] [] [], true) else (t.Kids.getD 0 SType.zero, true)) := by
  unfold M.i_caseType
  rw [kt h, hk]
  rcases hn with rfl | rfl
  · rfl
  · have : Go.IntKind.wrap .i64 ((1 : Int) - 1) = 0 := by decide
    have h2 : Go.IntKind.wrap .i64 (((1 : Nat) : Int) - 1) = 0 := by decide
    rw [this, h2, SType.re_eq]; rfl

theorem kidTypes_i (v : SValue) (t : SType) (hv : v.sz ≤ 1048576) (ht : t.sz ≤ 1048576) (hs : tShape t = true) (hn : numB v.Num t = true) :
    ∃ l, M.i_kidTypes v t = some (l, (kT v.Num v.Kids.length t).isSome) ∧ ∀ ts, kT v.Num v.Kids.length t = some ts → l = ts := by
  obtain ⟨s12, s13, s14, s17⟩ := shape_kids hs
  have hl := SValue.kids_len hv
  have hl2 := SType.kids_len ht
  unfold M.i_kidTypes kT
  by_cases h12 : t.Kind = 12
  · rw [if_pos h12, kt h12]
    have hk := s12 h12
    have e : M.slices_Repeat_Type_Type t.Kids (bif decide ((8 : Int) < (v.Kids.length : Int)) then 8 else (v.Kids.length : Int)) = some (List.replicate (min v.Kids.length 8) (t.Kids.getD 0 SType.zero)) := by
      have e1 : (bif decide ((8 : Int) < (v.Kids.length : Int)) then (8 : Int) else (v.Kids.length : Int)) = ((min v.Kids.length 8 : Nat) : Int) := by
        by_cases h : (8 : Int) < (v.Kids.length : Int)
        · rw [decide_eq_true h, cond_true]; omega
        · rw [decide_eq_false h, cond_false]; omega
      rw [e1]
      unfold M.slices_Repeat_Type_Type
      rw [decide_eq_true hk, decide_eq_true (show (0 : Int) ≤ ((min v.Kids.length 8 : Nat) : Int) by omega), decide_eq_true (show ((min v.Kids.length 8 : Nat) : Int) ≤ 8 by omega), Int.toNat_natCast]
      rfl
    rw [e]
    exact ⟨_, rfl, fun ts h => Option.some.inj h⟩
  · rw [if_neg h12, kb h12]
    simp only [cond_false]
    by_cases h15 : t.Kind = 15 ∨ t.Kind = 16
    · rw [if_pos h15]
      have : (bif t.Kind == 15 then t.Kind == 15 else t.Kind == 16) = true := by rcases h15 with h | h <;> simp [h]
      rw [this]
      exact ⟨_, rfl, fun ts h => Option.some.inj h⟩
    · rw [if_neg h15]
      simp only [not_or] at h15
      simp only [kb h15.1, kb h15.2, cond_false]
      by_cases h13 : t.Kind = 13
      · rw [if_pos h13]
        simp only [kt h13, cond_true]
        obtain ⟨k1, k2⟩ := s13 h13
        have hn01 : v.Num = 0 ∨ v.Num = 1 := by
          unfold numB at hn
          rw [if_pos (.inr (.inl h13))] at hn
          simp only [Bool.and_eq_true, decide_eq_true_eq] at hn
          omega
        rw [SType.re_eq, caseOpt t v.Num h13 k1 hn01]
        rcases hn01 with e | e
        · rw [e]; exact ⟨[], rfl, fun ts h => Option.some.inj h⟩
        · rw [e]
          have hku : ((t.Kids.getD 0 SType.zero).Kind == 1) = false := k2
          have ho : oneK (t.Kids.getD 0 SType.zero) = [t.Kids.getD 0 SType.zero] := by unfold oneK; rw [k2]; rfl
          rw [if_neg (by decide), if_neg (by decide), if_pos rfl, ho]
          simp only [Option.getD_some, hku, cond_false, Option.isSome_some, Bool.and_self, cond_true, SType.re_eq]
          exact ⟨_, rfl, fun ts h => Option.some.inj h⟩
      · rw [if_neg h13]
        by_cases h14 : t.Kind = 14 ∨ t.Kind = 17
        · rw [if_pos h14]
          have : (bif t.Kind == 13 then t.Kind == 13 else bif t.Kind == 14 then t.Kind == 14 else t.Kind == 17) = true := by rcases h14 with h | h <;> simp [h]
          rw [this, SType.re_eq, caseRest t v.Num hl2 h13]
          by_cases hb : 0 ≤ v.Num ∧ v.Num < (t.Kids.length : Int)
          · rw [if_pos hb, if_pos hb]
            unfold oneK unitB
            cases hu : ((t.Kids.getD v.Num.toNat SType.zero).Kind == 1)
            · simp only [Option.getD_some, hu, cond_false, cond_true, Option.isSome_some, Bool.and_self, SType.re_eq]
              exact ⟨_, rfl, fun ts h => Option.some.inj h⟩
            · simp only [Option.getD_some, hu, cond_false, cond_true, Option.isSome_some, Bool.and_self, SType.re_eq]
              exact ⟨_, rfl, fun ts h => Option.some.inj h⟩
          · rw [if_neg hb, if_neg hb]
            exact ⟨_, rfl, fun ts h => by cases h⟩
        · rw [if_neg h14]
          simp only [not_or] at h14
          simp only [kb h13, kb h14.1, kb h14.2, cond_false]
          exact ⟨_, rfl, fun ts h => Option.some.inj h⟩

theorem kT_shape {n : Int} {len : Nat} {t : SType} (hs : tShape t = true) {ts : List SType} (h : kT n len t = some ts) : ∀ x ∈ ts, tShape x = true := by
  have hkids : ∀ x ∈ t.Kids, tShape x = true := by
    rw [tShape_eq, Bool.and_eq_true, kShape_all, List.all_eq_true] at hs; exact hs.2
  obtain ⟨s12, s13, s14, s17⟩ := shape_kids hs
  have hone : ∀ k, k < t.Kids.length → ∀ x ∈ oneK (t.Kids.getD k SType.zero), tShape x = true := fun k hk x hx => by
    unfold oneK at hx
    split at hx
    · cases hx
    · rw [List.mem_singleton] at hx; subst hx; rw [getD_lt hk]; exact hkids _ (List.getElem_mem hk)
  unfold kT at h
  split at h
  · rename_i h12
    simp only [Option.some.injEq] at h; subst h
    intro x hx
    rw [(List.mem_replicate.1 hx).2, getD_lt (by rw [s12 h12]; omega)]
    exact hkids _ (List.getElem_mem _)
  · split at h
    · simp only [Option.some.injEq] at h; subst h; exact hkids
    · split at h
      · rename_i h13
        split at h
        · simp only [Option.some.injEq] at h; subst h; intro x hx; cases hx
        · split at h
          · simp only [Option.some.injEq] at h; subst h; exact hone 0 (by rw [(s13 h13).1]; omega)
          · cases h
      · split at h
        · split at h
          · rename_i hb
            simp only [Option.some.injEq] at h; subst h; exact hone _ (by omega)
          · cases h
        · simp only [Option.some.injEq] at h; subst h; intro x hx; cases hx
theorem kT_sz {n : Int} {len : Nat} {t : SType} (hs : tShape t = true) (ht : t.sz ≤ 1048576) {ts : List SType} (h : kT n len t = some ts) : ∀ x ∈ ts, x.sz ≤ 1048576 := by
  obtain ⟨s12, s13, s14, s17⟩ := shape_kids hs
  have hkids : ∀ x ∈ t.Kids, x.sz ≤ 1048576 := fun x hx => by have := SType.kid_lt hx; omega
  have hone : ∀ k, k < t.Kids.length → ∀ x ∈ oneK (t.Kids.getD k SType.zero), x.sz ≤ 1048576 := fun k hk x hx => by
    unfold oneK at hx
    split at hx
    · cases hx
    · rw [List.mem_singleton] at hx; subst hx; rw [getD_lt hk]; exact hkids _ (List.getElem_mem hk)
  unfold kT at h
  split at h
  · rename_i h12
    simp only [Option.some.injEq] at h; subst h
    intro x hx
    rw [(List.mem_replicate.1 hx).2, getD_lt (by rw [s12 h12]; omega)]
    exact hkids _ (List.getElem_mem _)
  · split at h
    · simp only [Option.some.injEq] at h; subst h; exact hkids
    · split at h
      · rename_i h13
        split at h
        · simp only [Option.some.injEq] at h; subst h; intro x hx; cases hx
        · split at h
          · simp only [Option.some.injEq] at h; subst h; exact hone 0 (by rw [(s13 h13).1]; omega)
          · cases h
      · split at h
        · split at h
          · rename_i hb
            simp only [Option.some.injEq] at h; subst h; exact hone _ (by omega)
          · cases h
        · simp only [Option.some.injEq] at h; subst h; intro x hx; cases hx

theorem fits_i : ∀ (m : Nat) (v : SValue) (t : SType), v.sz < m → v.sz ≤ 1048576 → t.sz ≤ 1048576 → tShape t = true → M.i_fits_n m v t = some (vFits v t)
  | 0, v, t, h, _, _, _ => absurd h (Nat.not_lt_zero _)
  | m + 1, v, t, h, hv, ht, hs => by
    have hl := SValue.kids_len hv
    show M.i_fits_b (M.i_fits_n m) v t = _
    unfold M.i_fits_b
    rw [SValue.re_eq, SType.re_eq, numOk_i, text_i _ (SValue.text_le hv), vFits_eq]
    simp only [Option.getD_some, Option.isSome_some, Bool.true_or, Bool.and_true, cond_true, bne_not']
    have hhead : headB v.Kind v.Num v.Text t = !(((!(v.Kind == t.Kind)) || (!numB v.Num t) || ((!(v.Text == [])) && (!(t.Kind == 11)))) || (!textB v.Text)) := by
      unfold headB
      cases (v.Kind == t.Kind) <;> cases numB v.Num t <;> cases (v.Text == []) <;> cases (t.Kind == 11) <;> cases textB v.Text <;> rfl
    cases hb : (((!(v.Kind == t.Kind)) || (!numB v.Num t) || ((!(v.Text == [])) && (!(t.Kind == 11)))) || (!textB v.Text))
    · rw [hhead, hb]
      have hn : numB v.Num t = true := by
        simp only [Bool.or_eq_false_iff, Bool.not_eq_false'] at hb
        exact hb.1.1.2
      obtain ⟨l, e1, e2⟩ := kidTypes_i v t hv ht hs hn
      rw [e1]
      simp only [cond_false, Option.getD_some, Option.isSome_some, Bool.not_false, Bool.true_and]
      cases hk : kT v.Num v.Kids.length t with
      | none => rfl
      | some ts =>
        have := e2 ts hk
        subst this
        simp only [Option.isSome_some, Bool.not_true, Bool.false_or]
        by_cases hlen : l.length = v.Kids.length
        · have : ((l.length : Int) == (v.Kids.length : Int)) = true := by rw [beq_iff_eq]; omega
          rw [this, decide_eq_true hlen]
          have hloop := all_loop (p := fun k => vFits (v.Kids.getD k SValue.zero) (l.getD k SType.zero)) (F := fun f i => M.i_fits_l0 (M.i_fits_n m) l v.Kids (v.Kids.length : Int) f i) (e := ()) (b := false) v.Kids.length (by omega) (fun f k hk2 => by
            show M.i_fits_l0 (M.i_fits_n m) l v.Kids (v.Kids.length : Int) (f + 1) (k : Int) = _
            rw [M.i_fits_l0]
            have hx := SValue.kid_lt (List.getElem_mem hk2)
            have hkl : k < l.length := by omega
            have hx2 := kT_sz hs ht hk l[k] (List.getElem_mem hkl)
            have hx3 := kT_shape hs hk l[k] (List.getElem_mem hkl)
            simp only [SType.re_eq, SValue.re_eq, getD_lt hk2, getD_lt hkl, fits_i m v.Kids[k] l[k] (by omega) (by omega) hx2 hx3, Int.toNat_natCast, inB_nat, Int.ofNat_lt, hk2, hkl, decide_true, cond_true, Bool.true_or, Bool.true_and, Bool.and_true, wrapk hk2 (by omega : v.Kids.length < 2 ^ 62), Option.getD_some, Option.isSome_some]
            cases vFits v.Kids[k] l[k] <;> rfl) (fun f => by
            show M.i_fits_l0 (M.i_fits_n m) l v.Kids (v.Kids.length : Int) (f + 1) _ = _
            rw [M.i_fits_l0]; simp)
          have hloop' : M.i_fits_l0 (M.i_fits_n m) l v.Kids (v.Kids.length : Int) bigN 0 = _ := hloop
          rw [hloop', vsFits_range _ _ hlen]
          cases (List.range v.Kids.length).all fun k => vFits (v.Kids.getD k SValue.zero) (l.getD k SType.zero) <;> rfl
        · have : ((l.length : Int) == (v.Kids.length : Int)) = false := by rw [beq_eq_false_iff_ne]; omega
          rw [this, decide_eq_false hlen]; rfl
    · rw [hhead, hb]; rfl
end M
/-
  A VALUE FITS A TYPE: the reference's side.
-/
set_option linter.unusedVariables false
set_option linter.unusedSimpArgs false
namespace M
open Go.V (inB slB bigN bigN_le)

theorem text_empty : textB [] = true := rfl

section
variable {rec : SValue → SType → Option Bool} {kids : List SValue}

theorem items_s (most : Int) (t : SType) (hl : kids.length ≤ 1048576) (hr : ∀ x ∈ kids, rec x t = some (vFits x t)) :
    M.s_l04Items rec kids most t = some (decide ((kids.length : Int) ≤ most) && kids.all fun v => vFits v t) := by
  have e := all_list (p := fun v => vFits v t) (F := fun f i => M.s_l04Items_l0 rec kids f i t) (e := ()) (b := false) kids (by omega) (fun f k hk => by
    show M.s_l04Items_l0 rec kids (f + 1) (k : Int) t = _
    rw [M.s_l04Items_l0]
    simp only [SType.re_eq, SValue.re_eq, getD_lt hk, hr _ (List.getElem_mem hk), Int.toNat_natCast, inB_nat, Int.ofNat_lt, hk, decide_true, cond_true, Bool.true_or, Bool.true_and, Bool.and_true, wrapk hk (by omega : kids.length < 2 ^ 62), Option.getD_some, Option.isSome_some]
    cases vFits kids[k] t <;> rfl) (fun f => by
    show M.s_l04Items_l0 rec kids (f + 1) _ t = _
    rw [M.s_l04Items_l0]; simp)
  have e' : M.s_l04Items_l0 rec kids bigN 0 t = _ := e
  unfold M.s_l04Items
  rw [SType.re_eq, e']
  by_cases h : (kids.length : Int) ≤ most
  · rw [decide_eq_true h, decide_eq_false (show ¬ most < (kids.length : Int) by omega)]
    cases kids.all fun v => vFits v t <;> rfl
  · rw [decide_eq_false h, decide_eq_true (show most < (kids.length : Int) by omega)]; rfl

theorem all_s' (ts : List SType) (hl : kids.length ≤ 1048576) (hr : ∀ k, k < kids.length → k < ts.length → rec (kids.getD k SValue.zero) (ts.getD k SType.zero) = some (vFits (kids.getD k SValue.zero) (ts.getD k SType.zero))) :
    M.s_l04All rec kids ts = some (decide (ts.length = kids.length) && vsFits kids ts) := by
  unfold M.s_l04All
  by_cases hlen : ts.length = kids.length
  · have e := all_loop (p := fun k => vFits (kids.getD k SValue.zero) (ts.getD k SType.zero)) (F := fun f i => M.s_l04All_l0 rec kids ts f i) (e := ()) (b := false) kids.length (by omega) (fun f k hk => by
      show M.s_l04All_l0 rec kids ts (f + 1) (k : Int) = _
      rw [M.s_l04All_l0]
      have hk2 : k < ts.length := by omega
      simp only [SType.re_eq, SValue.re_eq, Int.toNat_natCast, hr k hk hk2, inB_nat, Int.ofNat_lt, hk, hk2, decide_true, cond_true, Bool.true_or, Bool.true_and, Bool.and_true, wrapk hk (by omega : kids.length < 2 ^ 62), Option.getD_some, Option.isSome_some]
      cases vFits (kids.getD k SValue.zero) (ts.getD k SType.zero) <;> rfl) (fun f => by
      show M.s_l04All_l0 rec kids ts (f + 1) _ = _
      rw [M.s_l04All_l0]; simp)
    have e' : M.s_l04All_l0 rec kids ts bigN 0 = _ := e
    have hne : ((kids.length : Int) != (ts.length : Int)) = false := by rw [bne_not', hlen]; simp
    rw [hne, e', decide_eq_true hlen, vsFits_range _ _ hlen]
    cases (List.range kids.length).all fun k => vFits (kids.getD k SValue.zero) (ts.getD k SType.zero) <;> rfl
  · have hne : ((kids.length : Int) != (ts.length : Int)) = true := by rw [bne_not', kb (show (kids.length : Int) ≠ (ts.length : Int) by omega)]; rfl
    rw [hne, decide_eq_false hlen]; rfl

theorem case_s (t : SType) (hl : kids.length ≤ 1048576) (hr : ∀ x ∈ kids, rec x t = some (vFits x t)) :
    M.s_l04Case rec kids t = some (decide ((oneK t).length = kids.length) && vsFits kids (oneK t)) := by
  unfold M.s_l04Case oneK unitB
  cases hu : (t.Kind == 1)
  · simp only [cond_false, Bool.false_eq_true, if_false, SType.re_eq, SValue.re_eq, Int.toNat_zero]
    match kids, hr with
    | [], _ =>
      have h1 : ((([] : List SValue).length : Int) == 1) = false := rfl
      rw [h1]; simp [vsFits]
    | [x], hr =>
      have := hr x (List.mem_singleton.2 rfl)
      simp only [List.getD_cons_zero, this]
      simp [inB, vsFits]
    | x :: y :: r, _ =>
      have h1 : (((x :: y :: r).length : Int) == 1) = false := kb (by simp only [List.length_cons]; omega)
      have h2 : decide ([t].length = (x :: y :: r).length) = false := decide_eq_false (by simp)
      rw [h1, h2]
      simp
  · simp only [cond_true, if_true]
    match kids with
    | [] => rfl
    | x :: r =>
      have h1 : (((x :: r).length : Int) == 0) = false := kb (by simp only [List.length_cons]; omega)
      have h2 : decide (([] : List SType).length = (x :: r).length) = false := decide_eq_false (by simp)
      rw [h1, h2]; rfl
end

theorem len0 (l : List SValue) : ((l.length : Int) == 0) = decide (([] : List SType).length = l.length) := by
  cases l with
  | nil => rfl
  | cons a r => rw [kb (by simp only [List.length_cons]; omega), decide_eq_false (by simp)]
theorem vs_nil (l : List SValue) : (decide (([] : List SType).length = l.length) && vsFits l []) = decide (([] : List SType).length = l.length) := by
  cases l with
  | nil => rfl
  | cons a r => rw [decide_eq_false (by simp)]; rfl
theorem wrapU (n : Nat) (h : n ≤ 1048576) : Go.IntKind.wrap .u64 (n : Int) = (n : Int) := Go.IntWalk.u64_in _ (by omega)

theorem vs_nil' (l : List SValue) : (decide (([] : List SType).length = l.length) && vsFits l []) = ((l.length : Int) == 0) := by rw [vs_nil, len0]
theorem num0 (n : Int) : (decide ((0 : Int) ≤ n) && decide (n ≤ (0 : Int))) = (n == 0) := by
  by_cases h : n = 0
  · rw [h]; rfl
  · rw [kb h, Bool.and_eq_false_iff]
    by_cases h0 : (0 : Int) ≤ n
    · right; exact decide_eq_false (by omega)
    · left; exact decide_eq_false h0

section
variable {rec : SValue → SType → Option Bool}
theorem tail_s (v : SValue) (t : SType) (hv : v.sz ≤ 1048576) (ht : t.sz ≤ 1048576) (hs : tShape t = true)
    (hrec : ∀ x ∈ v.Kids, ∀ y ∈ t.Kids, rec x y = some (vFits x y)) (hk : v.Kind = t.Kind) (htx : t.Kind ≠ 11) (hte : v.Text = []) :
    M.s_l04Fits_b rec v t = some (numB v.Num t && (match kT v.Num v.Kids.length t with
    | some ts => decide (ts.length = v.Kids.length) && vsFits v.Kids ts
    | none => false)) := by
  have hl := SValue.kids_len hv
  have hl2 := SType.kids_len ht
  have hlab := SType.labels_len ht
  obtain ⟨s12, s13, s14, s17⟩ := shape_kids hs
  have hrec1 : ∀ k, k < t.Kids.length → ∀ x ∈ v.Kids, rec x (t.Kids.getD k SType.zero) = some (vFits x (t.Kids.getD k SType.zero)) := fun k hk x hx => by
    rw [getD_lt hk]; exact hrec x hx _ (List.getElem_mem hk)
  unfold M.s_l04Fits_b
  simp only [SType.re_eq, SValue.re_eq, bne_not', kt hk, hte, beq_self_eq_true, Bool.not_true, Bool.and_false, Bool.or_self, cond_false]
  by_cases h2 : t.Kind = 2
  · unfold numB kT
    simp only [h2, Int.reduceBEq, Int.reduceEq, cond_true, cond_false, Bool.or_self, or_self, true_or, or_true, or_false, false_or, if_true, if_false, vs_nil']
    cases (decide ((0 : Int) ≤ v.Num) && decide (v.Num ≤ (1 : Int))) <;> rfl
  by_cases h14 : t.Kind = 14
  · unfold numB kT
    simp only [h14, Int.reduceBEq, Int.reduceEq, cond_true, cond_false, Bool.or_self, Bool.or_false, Bool.or_true, Bool.true_or, or_self, true_or, or_true, or_false, false_or, if_true, if_false]
    by_cases hn : (decide ((0 : Int) ≤ v.Num) && decide (v.Num ≤ (1 : Int))) = true
    · rw [hn]
      simp only [Bool.and_eq_true, decide_eq_true_eq] at hn
      have hk2 := s14 h14
      have hin : inB v.Num t.Kids.length = true := by unfold inB; rw [decide_eq_true hn.1, decide_eq_true (by omega)]; rfl
      rw [case_s (t.Kids.getD v.Num.toNat SType.zero) hl (hrec1 _ (by omega)), hin, if_pos (show 0 ≤ v.Num ∧ v.Num < (t.Kids.length : Int) by omega)]
      simp
    · simp only [Bool.not_eq_true] at hn
      rw [hn]; rfl
  by_cases h13 : t.Kind = 13
  · unfold numB kT
    simp only [h13, Int.reduceBEq, Int.reduceEq, cond_true, cond_false, Bool.or_self, Bool.or_false, Bool.or_true, Bool.true_or, or_self, true_or, or_true, or_false, false_or, if_true, if_false]
    obtain ⟨k1, k2⟩ := s13 h13
    have hin : inB (0 : Int) t.Kids.length = true := by rw [k1]; rfl
    have ho : oneK (t.Kids.getD 0 SType.zero) = [t.Kids.getD 0 SType.zero] := by unfold oneK; rw [k2]; rfl
    rw [Int.toNat_zero, items_s 1 (t.Kids.getD 0 SType.zero) hl (hrec1 0 (by omega)), hin, ho]
    simp only [Option.isSome_some, Bool.true_or, Bool.and_self, cond_true, Option.getD_some]
    congr 1
    match hkk : v.Kids with
    | [] =>
      by_cases hn : v.Num = 0
      · rw [hn]; rfl
      · rw [kb (show v.Num ≠ ((([] : List SValue).length : Nat) : Int) by simpa using hn)]
        rw [if_neg hn]
        by_cases h1 : v.Num = 1
        · rw [if_pos h1]; simp
        · rw [if_neg h1]; simp
    | [x] =>
      by_cases hn : v.Num = 1
      · rw [hn]; simp [vsFits]
      · rw [kb (show v.Num ≠ ((([x] : List SValue).length : Nat) : Int) by simpa using hn)]
        by_cases h1 : v.Num = 0
        · rw [if_pos h1]; simp
        · rw [if_neg h1, if_neg hn]; simp
    | x :: y :: r =>
      have e1 : decide ((((x :: y :: r).length : Nat) : Int) ≤ 1) = false := decide_eq_false (by simp only [List.length_cons]; omega)
      rw [e1]
      by_cases h0 : v.Num = 0
      · rw [if_pos h0]; simp
      · rw [if_neg h0]
        by_cases h1 : v.Num = 1
        · rw [if_pos h1]; simp
        · rw [if_neg h1]; simp
  by_cases h10 : t.Kind = 10
  · unfold numB kT
    have hc : M.s_CharOk v.Num = some (charI v.Num) := rfl
    simp only [h10, hc, Int.reduceBEq, Int.reduceEq, Int.reduceLE, cond_true, cond_false, Bool.or_self, or_self, true_or, or_true, or_false, false_or, and_false, and_true, if_true, if_false, vs_nil', Option.getD_some]
  by_cases h12 : t.Kind = 12
  · unfold numB kT highB
    simp only [h12, Int.reduceBEq, Int.reduceEq, Int.reduceLE, cond_true, cond_false, Bool.or_self, Bool.or_false, Bool.or_true, Bool.true_or, or_self, true_or, or_true, or_false, false_or, and_false, and_true, if_true, if_false, num0]
    have k1 := s12 h12
    have hin : inB (0 : Int) t.Kids.length = true := by rw [k1]; rfl
    rw [Int.toNat_zero, items_s 8 (t.Kids.getD 0 SType.zero) hl (hrec1 0 (by omega)), hin]
    simp only [Option.isSome_some, Bool.true_or, Bool.and_self, cond_true, Option.getD_some, List.length_replicate]
    by_cases h8 : v.Kids.length ≤ 8
    · rw [decide_eq_true (show (v.Kids.length : Int) ≤ 8 by omega), decide_eq_true (show min v.Kids.length 8 = v.Kids.length by omega), vsFits_same _ _ _ (show min v.Kids.length 8 = v.Kids.length by omega)]
    · rw [decide_eq_false (show ¬ (v.Kids.length : Int) ≤ 8 by omega), decide_eq_false (show ¬ min v.Kids.length 8 = v.Kids.length by omega)]; rfl
  by_cases h15 : t.Kind = 15 ∨ t.Kind = 16
  · have e := all_s' (rec := rec) (kids := v.Kids) t.Kids hl (fun k h1 h2 => by rw [getD_lt h1, getD_lt h2]; exact hrec _ (List.getElem_mem h1) _ (List.getElem_mem h2))
    unfold numB kT highB
    rcases h15 with h | h
    all_goals
      simp only [h, e, Int.reduceBEq, Int.reduceEq, Int.reduceLE, cond_true, cond_false, Bool.or_self, Bool.or_false, Bool.or_true, Bool.true_or, or_self, true_or, or_true, or_false, false_or, and_false, and_true, if_true, if_false, num0, Option.isSome_some, Bool.and_self, Option.getD_some]
  by_cases h17 : t.Kind = 17
  · unfold numB kT highB
    obtain ⟨b, er⟩ := numRange_s t.Kind
    simp only [h17] at er
    simp only [h17, er, Int.reduceBEq, Int.reduceEq, Int.reduceLE, cond_true, cond_false, Bool.or_self, Bool.or_false, Bool.or_true, Bool.true_or, or_self, true_or, or_true, or_false, false_or, and_false, and_true, if_true, if_false, Option.isSome_some]
    have k1 := s17 h17
    have hw : Go.IntKind.wrap .i64 ((t.Labels.length : Int) - 1) = (t.Labels.length : Int) - 1 := wrap_i64 (by omega) (by omega)
    rw [hw]
    by_cases hn : 0 ≤ v.Num ∧ v.Num < (t.Kids.length : Int)
    · have hin : inB v.Num t.Kids.length = true := by unfold inB; rw [decide_eq_true hn.1, decide_eq_true hn.2]; rfl
      rw [if_pos hn, decide_eq_true hn.1, decide_eq_true (show v.Num ≤ (t.Labels.length : Int) - 1 by omega), case_s (t.Kids.getD v.Num.toNat SType.zero) hl (hrec1 _ (by omega)), hin]
      simp
    · have : (decide ((0 : Int) ≤ v.Num) && decide (v.Num ≤ (t.Labels.length : Int) - 1)) = false := by
        rw [Bool.and_eq_false_iff]
        by_cases h0 : 0 ≤ v.Num
        · right; exact decide_eq_false (by omega)
        · left; exact decide_eq_false h0
      rw [if_neg hn, this]; rfl
  -- the others have no kids
  simp only [not_or] at h15
  have hkT : kT v.Num v.Kids.length t = some [] := by
    unfold kT
    rw [if_neg h12, if_neg (by omega), if_neg h13, if_neg (by omega)]
  rw [hkT]
  simp only [vs_nil', kb h2, kb h14, kb h13, kb h10, kb htx, kb h12, kb h15.1, kb h15.2, kb h17, cond_false, Bool.or_self]
  obtain ⟨b, er⟩ := numRange_s t.Kind
  rw [er]
  simp only [Option.getD_some, Option.isSome_some, Bool.true_and, Bool.true_or, Bool.and_true, cond_true]
  rw [wrapU _ hlab]
  unfold numB
  rw [if_neg (by omega), if_neg h10]
  unfold highB flagsHi
  by_cases h18 : t.Kind = 18
  · simp only [h18, Int.reduceBEq, Int.reduceEq, Int.reduceLE, cond_true, cond_false, or_self, true_or, or_true, or_false, false_or, and_false, and_true, if_true, if_false]
    cases (decide ((0 : Int) ≤ v.Num) && decide (v.Num ≤ Go.IntKind.wrap .i64 ((t.Labels.length : Int) - 1))) <;> rfl
  by_cases h19 : t.Kind = 19
  · simp only [h19, Int.reduceBEq, Int.reduceEq, Int.reduceLE, cond_true, cond_false, or_self, true_or, or_true, or_false, false_or, and_false, and_true, if_true, if_false]
    cases (decide ((0 : Int) ≤ v.Num) && decide (v.Num ≤ Go.IntKind.wrap .i64 (Go.V.shlV .i64 (1 : Int) (t.Labels.length : Int) - 1))) <;> rfl
  by_cases h20 : t.Kind = 20 ∨ t.Kind = 21 ∨ t.Kind = 22 ∨ t.Kind = 23
  · rcases h20 with h | h | h | h
    all_goals
      simp only [h, Int.reduceBEq, Int.reduceEq, Int.reduceLE, cond_true, cond_false, or_self, true_or, or_true, or_false, false_or, and_false, and_true, if_true, if_false]
      cases (decide ((0 : Int) ≤ v.Num) && decide (v.Num ≤ (2147483647 : Int))) <;> rfl
  simp only [not_or] at h20
  simp only [kb h18, kb h19, kb h20.1, kb h20.2.1, kb h20.2.2.1, kb h20.2.2.2, cond_false]
  by_cases h39 : 3 ≤ t.Kind ∧ t.Kind ≤ 9
  · rw [if_pos h39]
    cases (decide ((rngB t.Kind).1 ≤ v.Num) && decide (v.Num ≤ (rngB t.Kind).2)) <;> rfl
  · rw [if_neg h39, rngB_out h39, if_neg (by omega), if_neg h19, if_neg (by omega)]
    cases (decide ((0 : Int) ≤ v.Num) && decide (v.Num ≤ (0 : Int))) <;> rfl
end

theorem fits_s : ∀ (m : Nat) (v : SValue) (t : SType), v.sz < m → v.sz ≤ 1048576 → t.sz ≤ 1048576 → tShape t = true → M.s_l04Fits_n m v t = some (vFits v t)
  | 0, v, t, h, _, _, _ => absurd h (Nat.not_lt_zero _)
  | m + 1, v, t, h, hv, ht, hs => by
    have hkidsS : ∀ x ∈ t.Kids, tShape x = true := by
      rw [tShape_eq, Bool.and_eq_true, kShape_all, List.all_eq_true] at hs; exact hs.2
    have hrec : ∀ x ∈ v.Kids, ∀ y ∈ t.Kids, M.s_l04Fits_n m x y = some (vFits x y) := fun x hx y hy => by
      have h1 := SValue.kid_lt hx
      have h2 := SType.kid_lt hy
      exact fits_s m x y (by omega) (by omega) (by omega) (hkidsS y hy)
    show M.s_l04Fits_b (M.s_l04Fits_n m) v t = _
    rw [vFits_eq]
    by_cases hk : v.Kind = t.Kind
    · by_cases h11 : t.Kind = 11
      · have hh : headB v.Kind v.Num v.Text t = (textB v.Text && (v.Num == 0)) := by
          unfold headB numB highB
          simp only [kt hk, h11, kt (hk.trans h11), Int.reduceBEq, Int.reduceEq, Int.reduceLE, or_self, or_false, false_or, and_false, and_true, if_true, if_false, num0, Bool.or_true, Bool.and_true, Bool.true_and]
          rw [Bool.and_comm]
        have hkT : kT v.Num v.Kids.length t = some [] := by
          unfold kT
          rw [if_neg (by omega), if_neg (by omega), if_neg (by omega), if_neg (by omega)]
        rw [hh, hkT]
        unfold M.s_l04Fits_b
        simp only [SType.re_eq, SValue.re_eq, bne_not', kt hk, h11, kt (hk.trans h11), vs_nil', text_s _ (SValue.text_le hv), Int.reduceBEq, Bool.not_true, Bool.false_and, Bool.or_self, cond_true, cond_false, Option.isSome_some, Option.getD_some, Bool.and_self]
      · by_cases hte : v.Text = []
        · rw [tail_s v t hv ht hs hrec hk h11 hte]
          have : headB v.Kind v.Num v.Text t = numB v.Num t := by unfold headB; rw [kt hk, hte, text_empty]; simp
          rw [this]; try rfl
        · have e : (v.Text == []) = false := by
            cases h : v.Text with
            | nil => exact absurd h hte
            | cons a r => rfl
          have : headB v.Kind v.Num v.Text t = false := by unfold headB; rw [e, kb h11]; simp
          rw [this]
          unfold M.s_l04Fits_b
          rw [bne_not', bne_not', kt hk, kb h11, e]; rfl
    · have : headB v.Kind v.Num v.Text t = false := by unfold headB; rw [kb hk]; rfl
      rw [this]
      unfold M.s_l04Fits_b
      rw [bne_not', kb hk]; rfl
end M
/-
  STREAMS: valid; over; can be read; can be written: both sides agree.
-/
set_option linter.unusedVariables false
set_option linter.unusedSimpArgs false
namespace M
open Go.V (inB slB bigN bigN_le)

def strB (k : Int) : Bool := decide ((20 : Int) ≤ k) && decide (k ≤ 23)
def typB (t : SType) : Bool := (tOk t && !unitB t) && !tHas strB t
theorem strB_any (k : Int) : ([(20 : Int), 21, 22, 23].any fun x => k == x) = strB k := by
  unfold strB
  by_cases h : 20 ≤ k ∧ k ≤ 23
  · have : k = 20 ∨ k = 21 ∨ k = 22 ∨ k = 23 := by omega
    rcases this with rfl | rfl | rfl | rfl <;> rfl
  · simp only [List.any_cons, List.any_nil, kb (show k ≠ 20 by omega), kb (show k ≠ 21 by omega), kb (show k ≠ 22 by omega), kb (show k ≠ 23 by omega), Bool.or_self]
    symm; rw [Bool.and_eq_false_iff]
    by_cases h0 : (20 : Int) ≤ k
    · right; exact decide_eq_false (by omega)
    · left; exact decide_eq_false h0
theorem type_s (t : SType) (h : t.sz ≤ 1048576) : M.s_l21Type t = some (typB t) := by
  unfold M.s_l21Type typB
  have e : M.s_l03Has t 20 23 = some (tHas strB t) := has_s 20 23 bigN t (bigN_gt h) h
  simp only [SType.re_eq, ok_s t h, e, Option.getD_some, Option.isSome_some, Bool.true_or, Bool.and_true, cond_true, bne_not', unitB]
theorem type_i (t : SType) (h : t.sz ≤ 1048576) : M.i_streamable t = some (typB t) := by
  unfold M.i_streamable typB
  have e : M.i_hasKind t [20, 21, 22, 23] = some (tHas strB t) := by
    have := has_i [20, 21, 22, 23] (by simp) bigN t (bigN_gt h) h
    rw [tHas_cong strB_any] at this; exact this
  simp only [SType.re_eq, typeOk_i t h, e, Option.getD_some, Option.isSome_some, Bool.true_or, Bool.and_true, cond_true, unitB]
def bufB (s : SStream) : Bool := s.Buffer.all fun v => vFits v s.Type_
def stB (s : SStream) : Bool :=
  (((typB s.Type_ && ((decide ((1 : Int) ≤ s.Room) && decide (s.Room ≤ (6 : Int))) && !(s.Future && !(s.Room == 1)))) && (decide ((s.Buffer.length : Int) ≤ s.Room) && bufB s)) &&
    ((!(decide (s.Got < (0 : Int))) && (decide (s.Got ≤ s.Put) && decide (s.Put ≤ (if s.Future then 1 else 1000000 : Int)))) &&
      !((s.Gone && decide ((0 : Int) < (s.Buffer.length : Int))) || (!s.Gone && !(Go.IntKind.wrap .i64 (s.Put - s.Got) == (s.Buffer.length : Int)))))) &&
  (((!s.Future || !s.Shut) || (s.Put == 1)) || s.Gone)

theorem SStream.type_le {s : SStream} {N : Nat} (h : s.sz ≤ N) : s.Type_.sz ≤ N := by rw [SStream.sz_eq] at h; omega
theorem SStream.buf_le {s : SStream} {N : Nat} (h : s.sz ≤ N) : szL SValue.sz s.Buffer ≤ N := by rw [SStream.sz_eq] at h; omega
theorem SStream.buf_len {s : SStream} {N : Nat} (h : s.sz ≤ N) : s.Buffer.length ≤ N := Nat.le_trans (szL_len _ _) (SStream.buf_le h)
theorem tOk_shape' {t : SType} (h : tOk t = true) : tShape t = true := by
  unfold tOk at h; rw [Bool.and_eq_true] at h; exact h.2
theorem typB_ok {t : SType} (h : typB t = true) : tOk t = true := by
  unfold typB at h; simp only [Bool.and_eq_true] at h; exact h.1.1

theorem Fits_s (v : SValue) (t : SType) (hv : v.sz ≤ 1048576) (ht : t.sz ≤ 1048576) (ho : tOk t = true) : M.s_Fits v t = some (vFits v t) := by
  unfold M.s_Fits
  have e : M.s_l04Fits v t = some (vFits v t) := fits_s bigN v t (bigN_gt hv) hv ht (tOk_shape' ho)
  simp only [SType.re_eq, SValue.re_eq, typeOk_s t ht, ho, e, Option.getD_some, Option.isSome_some, Bool.true_or, Bool.and_self, cond_true, Bool.true_and]
theorem Fits_i (v : SValue) (t : SType) (hv : v.sz ≤ 1048576) (ht : t.sz ≤ 1048576) (ho : tOk t = true) : M.i_fits v t = some (vFits v t) :=
  fits_i bigN v t (bigN_gt hv) hv ht (tOk_shape' ho)

theorem l21Fits_s (l : List SValue) (t : SType) (most : Int) (hl : szL SValue.sz l ≤ 1048576) (ht : t.sz ≤ 1048576) (ho : tOk t = true) :
    M.s_l21Fits l t most = some (decide ((l.length : Int) ≤ most) && l.all fun v => vFits v t) := by
  have hlen : l.length ≤ 1048576 := Nat.le_trans (szL_len _ _) hl
  have e := all_list (p := fun v => vFits v t) (F := fun f i => M.s_l21Fits_l0 l f i t) (e := ()) (b := false) l (by omega) (fun f k hk => by
    show M.s_l21Fits_l0 l (f + 1) (k : Int) t = _
    rw [M.s_l21Fits_l0]
    simp only [SType.re_eq, SValue.re_eq, getD_lt hk, Fits_s l[k] t (szL_mem' hl (List.getElem_mem hk)) ht ho, Int.toNat_natCast, inB_nat, Int.ofNat_lt, hk, decide_true, cond_true, Bool.true_or, Bool.true_and, Bool.and_true, wrapk hk (by omega : l.length < 2 ^ 62), Option.getD_some, Option.isSome_some]
    cases vFits l[k] t <;> rfl) (fun f => by
    show M.s_l21Fits_l0 l (f + 1) _ t = _
    rw [M.s_l21Fits_l0]; simp)
  have e' : M.s_l21Fits_l0 l bigN 0 t = _ := e
  unfold M.s_l21Fits
  rw [SType.re_eq, e']
  by_cases h : (l.length : Int) ≤ most
  · rw [decide_eq_true h, decide_eq_false (show ¬ most < (l.length : Int) by omega)]
    cases l.all fun v => vFits v t <;> rfl
  · rw [decide_eq_false h, decide_eq_true (show most < (l.length : Int) by omega)]; rfl

theorem contains_buf (s : SStream) (h : s.sz ≤ 1048576) (ho : tOk s.Type_ = true) : M.slices_ContainsFunc_Value_Value s.Buffer s = some (!bufB s) := by
  have hlen := SStream.buf_len h
  have c : ∀ v ∈ s.Buffer, M.i_StreamOk_c1 v s = some (!vFits v s.Type_) := fun v hv => by
    unfold M.i_StreamOk_c1
    rw [SValue.re_eq, SType.re_eq, Fits_i v s.Type_ (szL_mem' (SStream.buf_le h) hv) (SStream.type_le h) ho]; rfl
  have e := contains_of (p := fun v => !vFits v s.Type_) (F := M.slices_IndexFunc_Value_Value_l0 s.Buffer s (s.Buffer.length : Int)) s.Buffer (by omega) (fun f k hk => by
    rw [M.slices_IndexFunc_Value_Value_l0]
    simp only [SValue.re_eq, getD_lt hk, c _ (List.getElem_mem hk), Int.toNat_natCast, inB_nat, Int.ofNat_lt, hk, decide_true, cond_true, Bool.true_or, Bool.true_and, Bool.and_true, wrapk hk (by omega : s.Buffer.length < 2 ^ 62), Option.getD_some, Option.isSome_some]) (fun f => by
    rw [M.slices_IndexFunc_Value_Value_l0]; simp)
  have e2 : M.slices_IndexFunc_Value_Value s.Buffer s = _ := e
  unfold M.slices_ContainsFunc_Value_Value
  rw [e2]
  simp only [Option.getD_some, Option.isSome_some, Bool.and_true, cond_true]
  rw [index_ge, bufB, List.not_all_eq_any_not]

theorem stream_s (s : SStream) (h : s.sz ≤ 1048576) : M.s_StreamOk s = some (stB s) := by
  unfold M.s_StreamOk stB
  have ht := type_s s.Type_ (SStream.type_le h)
  simp only [SType.re_eq, ht, Option.getD_some, Option.isSome_some, Bool.and_true, bne_not']
  cases hT : typB s.Type_
  · simp
  · rw [l21Fits_s s.Buffer s.Type_ s.Room (SStream.buf_le h) (SStream.type_le h) (typB_ok hT)]
    simp only [Option.getD_some, Option.isSome_some, Bool.true_or, Bool.and_self, cond_true, Bool.not_true, Bool.false_or, Bool.true_and]
    have em : (decide (s.Put ≤ (if s.Future then 1 else 1000000 : Int))) = (decide (s.Put ≤ (1000000 : Int)) && !(s.Future && decide ((1 : Int) < s.Put))) := by
      cases s.Future
      · simp
      · simp only [if_true, Bool.true_and]
        by_cases h1 : s.Put ≤ 1
        · rw [decide_eq_true h1, decide_eq_true (show s.Put ≤ 1000000 by omega), decide_eq_false (show ¬ (1 : Int) < s.Put by omega)]; rfl
        · rw [decide_eq_false h1, decide_eq_true (show (1 : Int) < s.Put by omega)]; simp
    rw [em]
    generalize (decide ((1 : Int) ≤ s.Room) && decide (s.Room ≤ (6 : Int))) = b1
    generalize (s.Room == 1) = b2
    generalize decide ((s.Buffer.length : Int) ≤ s.Room) = b3
    have : (s.Buffer.all fun v => vFits v s.Type_) = bufB s := rfl
    rw [this]
    generalize bufB s = b4
    generalize decide (s.Got < (0 : Int)) = b5
    generalize decide (s.Got ≤ s.Put) = b6
    generalize decide (s.Put ≤ (1000000 : Int)) = b7
    generalize decide ((1 : Int) < s.Put) = b8
    generalize decide ((0 : Int) < (s.Buffer.length : Int)) = b9
    generalize (Go.IntKind.wrap .i64 (s.Put - s.Got) == (s.Buffer.length : Int)) = b10
    generalize (s.Put == 1) = b11
    cases s.Future <;> cases s.Gone <;> cases s.Shut <;> cases b1 <;> cases b2 <;> cases b3 <;> cases b4 <;> cases b5 <;> cases b6 <;> cases b7 <;> cases b8 <;> cases b9 <;> cases b10 <;> rfl
theorem stream_i (s : SStream) (h : s.sz ≤ 1048576) : M.i_StreamOk s = some (stB s) := by
  unfold M.i_StreamOk stB
  have ht := type_i s.Type_ (SStream.type_le h)
  simp only [SType.re_eq, SStream.re_eq, ht, Option.getD_some, Option.isSome_some, Bool.and_true, bne_not']
  cases hT : typB s.Type_
  · simp
  · have em : M.i_mostOf s = some (if s.Future then 1 else 1000000 : Int) := by unfold M.i_mostOf; cases s.Future <;> rfl
    have e3 : decide (s.Room < (s.Buffer.length : Int)) = !decide ((s.Buffer.length : Int) ≤ s.Room) := by
      by_cases h1 : (s.Buffer.length : Int) ≤ s.Room
      · rw [decide_eq_true h1, decide_eq_false (show ¬ s.Room < (s.Buffer.length : Int) by omega)]; rfl
      · rw [decide_eq_false h1, decide_eq_true (show s.Room < (s.Buffer.length : Int) by omega)]; rfl
    rw [contains_buf s h (typB_ok hT), em, e3]
    simp only [Option.getD_some, Option.isSome_some, Bool.true_or, Bool.and_self, cond_true, Bool.not_true, Bool.false_or, Bool.true_and]
    generalize (decide ((1 : Int) ≤ s.Room) && decide (s.Room ≤ (6 : Int))) = b1
    generalize (s.Room == 1) = b2
    generalize decide ((s.Buffer.length : Int) ≤ s.Room) = b3
    generalize bufB s = b4
    generalize decide (s.Got < (0 : Int)) = b5
    generalize (decide (s.Got ≤ s.Put) && decide (s.Put ≤ (if s.Future then 1 else 1000000 : Int))) = b6
    generalize decide ((0 : Int) < (s.Buffer.length : Int)) = b9
    generalize (Go.IntKind.wrap .i64 (s.Put - s.Got) == (s.Buffer.length : Int)) = b10
    generalize (s.Put == 1) = b11
    cases s.Future <;> cases s.Gone <;> cases s.Shut <;> cases b1 <;> cases b2 <;> cases b3 <;> cases b4 <;> cases b5 <;> cases b6 <;> cases b9 <;> cases b10 <;> rfl

end M
