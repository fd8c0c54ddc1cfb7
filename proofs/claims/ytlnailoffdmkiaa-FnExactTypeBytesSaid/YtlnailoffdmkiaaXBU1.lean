/-
  NUMBERS AND TEXTS AS BYTES: both sides write the same.
-/
import Derived.Test.YtlnailoffdmkiaaXBTP
set_option linter.unusedVariables false
set_option linter.unusedSimpArgs false
namespace M
open Go Go.V

theorem u8w (n : Nat) (h : n < 256) : IntKind.wrap .u8 (n : Int) = (n : Int) := by
  have : ∀ m : Fin 256, IntKind.wrap .u8 ((m.val : Nat) : Int) = ((m.val : Nat) : Int) := by decide +kernel
  exact this ⟨n, h⟩
theorem i64w (n : Nat) (h : n < 2 ^ 62) : IntKind.wrap .i64 (n : Int) = (n : Int) := wrap_i64 (by omega) (by omega)
theorem and2p (n k : Nat) (h : n < 2 ^ 62) (hk : k ≤ 16) : bitsV .and .i64 (n : Int) ((2 ^ k - 1 : Nat) : Int) = ((n % 2 ^ k : Nat) : Int) := by
  have hp : 2 ^ k ≤ 2 ^ 16 := Nat.pow_le_pow_right (by omega) hk
  have hp0 : 0 < 2 ^ k := Nat.pow_pos (by omega)
  have e : (BitVec.ofInt 64 (n : Int) &&& BitVec.ofInt 64 ((2 ^ k - 1 : Nat) : Int)).toNat = n % 2 ^ k := by
    rw [BitVec.toNat_and]
    have h1 : (BitVec.ofInt 64 (n : Int)).toNat = n := by rw [BitVec.toNat_ofInt]; omega
    have h2 : (BitVec.ofInt 64 ((2 ^ k - 1 : Nat) : Int)).toNat = 2 ^ k - 1 := by rw [BitVec.toNat_ofInt]; omega
    rw [h1, h2]
    exact Nat.and_two_pow_sub_one_eq_mod n k
  show IntKind.wrap .i64 (((BitVec.ofInt 64 (n : Int) &&& BitVec.ofInt 64 ((2 ^ k - 1 : Nat) : Int)).toNat : Nat) : Int) = _
  rw [e]
  have hlt : n % 2 ^ k < 2 ^ k := Nat.mod_lt _ hp0
  exact i64w _ (by omega)
theorem and127 (n : Nat) (h : n < 2 ^ 62) : bitsV .and .i64 (n : Int) 127 = ((n % 128 : Nat) : Int) := and2p n 7 h (by omega)
theorem and255 (n : Nat) (h : n < 2 ^ 62) : bitsV .and .i64 (n : Int) 255 = ((n % 256 : Nat) : Int) := and2p n 8 h (by omega)
theorem shr7 (n : Nat) : shrV .i64 (n : Int) 7 = ((n / 128 : Nat) : Int) := by
  have : shrV .i64 (n : Int) 7 = (n : Int).fdiv 128 := rfl
  rw [this, Int.fdiv_eq_ediv_of_nonneg _ (by omega)]; omega
theorem u8okn (m : Nat) (h : m < 256) : u8ok (m : Int) = true := by unfold u8ok; simp; omega
theorem u8ofn (m : Nat) : u8of (m : Int) = UInt8.ofNat m := rfl
theorem lenB {b n : Nat} (h : b ≤ n) : decide (b ≤ n) = true := decide_eq_true h

/-- a number, seven bits a byte -/
def lebG : Nat → Nat → List UInt8
  | 0, n => [UInt8.ofNat n]
  | f + 1, n => if n < 128 then [UInt8.ofNat n] else UInt8.ofNat (n % 128 + 128) :: lebG f (n / 128)
def lebB (n : Nat) : List UInt8 := lebG 8 n
theorem lebG_len : ∀ f n, (lebG f n).length ≤ f + 1 ∧ 1 ≤ (lebG f n).length
  | 0, n => by simp [lebG]
  | f + 1, n => by
    unfold lebG
    split
    · simp
    · have := lebG_len f (n / 128)
      simp only [List.length_cons]; omega
theorem lebB_len (n : Nat) : (lebB n).length ≤ 9 := (lebG_len 8 n).1

theorem leb_loop_i : ∀ (f n g : Nat) (b : List UInt8), n < 128 ^ (f + 1) → n < 2 ^ 62 → b.length + f ≤ 1000 →
    ∃ (m : Nat) (pre : List UInt8), M.i_PutLeb_l0 (g + f + 1) (n : Int) b = some ((m : Int), b ++ pre) ∧ m < 128 ∧ pre ++ [UInt8.ofNat m] = lebG f n ∧ pre.length ≤ f
  | f, n, g, b, h, h62, hb => by
    by_cases hn : n < 128
    · have d : decide ((127 : Int) < (n : Int)) = false := decide_eq_false (by omega)
      refine ⟨n, [], ?_, hn, ?_, Nat.zero_le _⟩
      · rw [M.i_PutLeb_l0, d]; simp
      · cases f with
        | zero => rfl
        | succ f => rw [lebG, if_pos hn]; rfl
    · match f, h with
      | 0, h => simp at h; omega
      | f + 1, h =>
        have d : decide ((127 : Int) < (n : Int)) = true := decide_eq_true (by omega)
        have e1 : IntKind.wrap .u8 (IntKind.wrap .i64 (Int.tmod (n : Int) 128 + 128)) = ((n % 128 + 128 : Nat) : Int) := by
          have : Int.tmod (n : Int) 128 + 128 = ((n % 128 + 128 : Nat) : Int) := by rw [Int.tmod_eq_emod_of_nonneg (by omega)]; omega
          rw [this, i64w _ (by omega), u8w _ (by omega)]
        have e2 : IntKind.wrap .i64 (Int.tdiv (n : Int) 128) = ((n / 128 : Nat) : Int) := by
          have : Int.tdiv (n : Int) 128 = ((n / 128 : Nat) : Int) := by rw [Int.tdiv_eq_ediv_of_nonneg (by omega)]; omega
          rw [this, i64w _ (by omega)]
        have hlt : n / 128 < 128 ^ (f + 1) := by
          rw [Nat.div_lt_iff_lt_mul (by omega)]; rw [Nat.pow_succ] at h; exact h
        obtain ⟨m, pre, i1, i2, i3, i4⟩ := leb_loop_i f (n / 128) g (b ++ [UInt8.ofNat (n % 128 + 128)]) hlt (by omega) (by simp; omega)
        refine ⟨m, UInt8.ofNat (n % 128 + 128) :: pre, ?_, i2, ?_, by simp; omega⟩
        · rw [show g + (f + 1) + 1 = (g + f + 1) + 1 by omega, M.i_PutLeb_l0, d]
          simp only [e1, e2, u8okn _ (show n % 128 + 128 < 256 by omega), u8ofn, List.length_cons, List.length_nil, lenB (show b.length + (0 + 1) ≤ 1073741824 by omega), Bool.and_true, Bool.true_and, cond_true, i1]
          simp
        · rw [lebG, if_neg hn, ← i3]; rfl
theorem leb_loop_s : ∀ (f n g : Nat) (b : List UInt8), n < 128 ^ (f + 1) → n < 2 ^ 62 → b.length + f ≤ 1000 →
    ∃ (m : Nat) (pre : List UInt8), M.s_PutLeb_l0 (g + f + 1) (n : Int) b = some ((m : Int), b ++ pre) ∧ m < 128 ∧ pre ++ [UInt8.ofNat m] = lebG f n ∧ pre.length ≤ f
  | f, n, g, b, h, h62, hb => by
    by_cases hn : n < 128
    · have d : decide ((127 : Int) < (n : Int)) = false := decide_eq_false (by omega)
      refine ⟨n, [], ?_, hn, ?_, Nat.zero_le _⟩
      · rw [M.s_PutLeb_l0, d]; simp
      · cases f with
        | zero => rfl
        | succ f => rw [lebG, if_pos hn]; rfl
    · match f, h with
      | 0, h => simp at h; omega
      | f + 1, h =>
        have d : decide ((127 : Int) < (n : Int)) = true := decide_eq_true (by omega)
        have e1 : IntKind.wrap .u8 (IntKind.wrap .i64 (bitsV .and .i64 (n : Int) 127 + 128)) = ((n % 128 + 128 : Nat) : Int) := by
          have : bitsV .and .i64 (n : Int) 127 + 128 = ((n % 128 + 128 : Nat) : Int) := by rw [and127 n h62]; omega
          rw [this, i64w _ (by omega), u8w _ (by omega)]
        have hlt : n / 128 < 128 ^ (f + 1) := by
          rw [Nat.div_lt_iff_lt_mul (by omega)]; rw [Nat.pow_succ] at h; exact h
        obtain ⟨m, pre, i1, i2, i3, i4⟩ := leb_loop_s f (n / 128) g (b ++ [UInt8.ofNat (n % 128 + 128)]) hlt (by omega) (by simp; omega)
        refine ⟨m, UInt8.ofNat (n % 128 + 128) :: pre, ?_, i2, ?_, by simp; omega⟩
        · rw [show g + (f + 1) + 1 = (g + f + 1) + 1 by omega, M.s_PutLeb_l0, d]
          simp only [e1, shr7, u8okn _ (show n % 128 + 128 < 256 by omega), u8ofn, List.length_cons, List.length_nil, lenB (show b.length + (0 + 1) ≤ 1073741824 by omega), Bool.and_true, Bool.true_and, cond_true, i1]
          simp
        · rw [lebG, if_neg hn, ← i3]; rfl
theorem leb_i (n : Nat) (h : n ≤ 1048576) : M.i_PutLeb (n : Int) = some (lebB n) := by
  obtain ⟨g, hg⟩ : ∃ g, bigN = g + 8 + 1 := ⟨bigN - 9, by have := bigN_le; omega⟩
  obtain ⟨m, pre, h1, h2, h3, h4⟩ := leb_loop_i 8 n g [] (by simp; omega) (by omega) (by simp)
  unfold M.i_PutLeb
  have d : decide ((n : Int) < 0) = false := decide_eq_false (by omega)
  rw [d, hg, h1]
  simp only [cond_false, List.nil_append, u8w m (by omega), u8okn m (by omega), u8ofn, List.length_cons, List.length_nil, lenB (show pre.length + (0 + 1) ≤ 1073741824 by omega), Bool.and_self, cond_true, List.map_id', h3]
  rfl
theorem leb_s (n : Nat) (h : n ≤ 1048576) : M.s_PutLeb (n : Int) = some (lebB n) := by
  obtain ⟨g, hg⟩ : ∃ g, bigN = g + 8 + 1 := ⟨bigN - 9, by have := bigN_le; omega⟩
  obtain ⟨m, pre, h1, h2, h3, h4⟩ := leb_loop_s 8 n g [] (by simp; omega) (by omega) (by simp)
  unfold M.s_PutLeb
  have d : decide ((n : Int) < 0) = false := decide_eq_false (by omega)
  rw [d, hg, h1]
  simp only [cond_false, List.nil_append, u8w m (by omega), u8okn m (by omega), u8ofn, List.length_cons, List.length_nil, lenB (show pre.length + (0 + 1) ≤ 1073741824 by omega), Bool.and_self, cond_true, List.map_id', h3]
  rfl

theorem fix_i (k : Nat) (h : k < 256) : M.i_putFix (k : Int) 1 = some [UInt8.ofNat k] := by
  obtain ⟨g, hg⟩ : ∃ g, bigN = (g + 1) + 1 := ⟨bigN - 2, by have := bigN_le; omega⟩
  have w : IntKind.wrap .i64 ((0 : Int) + 1) = 1 := by decide
  have e1 : ∀ (x : Int) (b : List UInt8), M.i_putFix_l0 1 (g + 1) x 1 b = some b := fun x b => by rw [M.i_putFix_l0]; simp
  have e2 : M.i_putFix_l0 1 (g + 1 + 1) (k : Int) 0 [] = some [UInt8.ofNat k] := by
    rw [M.i_putFix_l0]
    simp only [u8w k h, u8okn k h, u8ofn, w, e1]
    simp
  unfold M.i_putFix
  rw [hg, e2]; simp
theorem fix_s (k : Nat) (h : k < 256) : M.s_PutFix (k : Int) 1 = some [UInt8.ofNat k] := by
  obtain ⟨g, hg⟩ : ∃ g, bigN = (g + 1) + 1 := ⟨bigN - 2, by have := bigN_le; omega⟩
  have w : IntKind.wrap .i64 ((0 : Int) + 1) = 1 := by decide
  have e1 : ∀ (x : Int) (b : List UInt8), M.s_PutFix_l0 1 (g + 1) x 1 b = some b := fun x b => by rw [M.s_PutFix_l0]; simp
  have e2 : M.s_PutFix_l0 1 (g + 1 + 1) (k : Int) 0 [] = some [UInt8.ofNat k] := by
    rw [M.s_PutFix_l0]
    simp only [and255 k (by omega), Nat.mod_eq_of_lt h, u8w k h, u8okn k h, u8ofn, w, e1]
    simp
  unfold M.s_PutFix
  rw [hg, e2]; simp


theorem catOk {a b : List UInt8} (h : a.length + b.length ≤ 1073741824) : catB a b = true := by
  unfold catB; exact decide_eq_true (by omega)
/-- a text with its length ahead -/
def pb (s : List UInt8) : List UInt8 := lebB s.length ++ s
theorem pb_len (s : List UInt8) : (pb s).length ≤ 9 + s.length := by
  have := lebB_len s.length
  unfold pb; rw [List.length_append]; omega
theorem bytes_i (s : List UInt8) (h : s.length ≤ 1048576) : M.i_PutBytes s = some (pb s) := by
  unfold M.i_PutBytes
  have := lebB_len s.length
  rw [leb_i _ h]
  simp only [Option.getD_some, Option.isSome_some, Bool.and_true, catOk (show (lebB s.length).length + s.length ≤ 1073741824 by omega), cond_true]
  rfl
theorem bytes_s (s : List UInt8) (h : s.length ≤ 1048576) : M.s_PutBytes s = some (pb s) := by
  unfold M.s_PutBytes
  have := lebB_len s.length
  rw [leb_s _ h]
  simp only [Option.getD_some, Option.isSome_some, Bool.and_true, catOk (show (lebB s.length).length + s.length ≤ 1073741824 by omega), cond_true]
  rfl
end M
