/-
  NUMBERS AND TEXTS AS BYTES: both sides write the same.
-/
import Derived.Test.YtbkcpcfcccahnaaGreatDoorXFTP
import Derived.Test.YtbkcpcfcccahnaaGreatDoorXFF
set_option linter.unusedVariables false
set_option linter.unusedSimpArgs false
namespace M
open Go Go.V

theorem u8w (n : Nat) (h : n < 256) : IntKind.wrap .u8 (n : Int) = (n : Int) := by
  have : ∀ m : Fin 256, IntKind.wrap .u8 ((m.val : Nat) : Int) = ((m.val : Nat) : Int) := by decide +kernel
  exact this ⟨n, h⟩
theorem i64w (n : Nat) (h : n < 2 ^ 62) : IntKind.wrap .i64 (n : Int) = (n : Int) := wrap_i64 (by omega) (by omega)
theorem and2p (n k : Nat) (h : n < 2 ^ 62) (hk : k ≤ 16) : bitsV .and .i64 (n : Int) ((2 ^ k - 1 : Nat) : Int) = ((n % 2 ^ k : Nat) : Int) := by
  have hp : 2 ^ k ≤ 2 ^ 16 := Nat.pow_le_pow_right (by omega) hk
  have hp0 : 0 < 2 ^ k := Nat.pow_pos (by omega)
  have e : (BitVec.ofInt 64 (n : Int) &&& BitVec.ofInt 64 ((2 ^ k - 1 : Nat) : Int)).toNat = n % 2 ^ k := by
    rw [BitVec.toNat_and]
    have h1 : (BitVec.ofInt 64 (n : Int)).toNat = n := by rw [BitVec.toNat_ofInt]; omega
    have h2 : (BitVec.ofInt 64 ((2 ^ k - 1 : Nat) : Int)).toNat = 2 ^ k - 1 := by rw [BitVec.toNat_ofInt]; omega
    rw [h1, h2]
    exact Nat.and_two_pow_sub_one_eq_mod n k
  show IntKind.wrap .i64 (((BitVec.ofInt 64 (n : Int) &&& BitVec.ofInt 64 ((2 ^ k - 1 : Nat) : Int)).toNat : Nat) : Int) = _
  rw [e]
  have hlt : n % 2 ^ k < 2 ^ k := Nat.mod_lt _ hp0
  exact i64w _ (by omega)
theorem and127 (n : Nat) (h : n < 2 ^ 62) : bitsV .and .i64 (n : Int) 127 = ((n % 128 : Nat) : Int) := and2p n 7 h (by omega)
theorem and255 (n : Nat) (h : n < 2 ^ 62) : bitsV .and .i64 (n : Int) 255 = ((n % 256 : Nat) : Int) := and2p n 8 h (by omega)
theorem shr7 (n : Nat) : shrV .i64 (n : Int) 7 = ((n / 128 : Nat) : Int) := by
  have : shrV .i64 (n : Int) 7 = (n : Int).fdiv 128 := rfl
  rw [this, Int.fdiv_eq_ediv_of_nonneg _ (by omega)]; omega
theorem u8okn (m : Nat) (h : m < 256) : u8ok (m : Int) = true := by unfold u8ok; simp; omega
theorem u8ofn (m : Nat) : u8of (m : Int) = UInt8.ofNat m := rfl
theorem lenB {b n : Nat} (h : b ≤ n) : decide (b ≤ n) = true := decide_eq_true h

/-- a number, seven bits a byte -/
def lebG : Nat → Nat → List UInt8
  | 0, n => [UInt8.ofNat n]
  | f + 1, n => if n < 128 then [UInt8.ofNat n] else UInt8.ofNat (n % 128 + 128) :: lebG f (n / 128)
def lebB (n : Nat) : List UInt8 := lebG 8 n
theorem lebG_len : ∀ f n, (lebG f n).length ≤ f + 1 ∧ 1 ≤ (lebG f n).length
  | 0, n => by simp [lebG]
  | f + 1, n => by
    unfold lebG
    split
    · simp
    · have := lebG_len f (n / 128)
      simp only [List.length_cons]; omega
theorem lebB_len (n : Nat) : (lebB n).length ≤ 9 := (lebG_len 8 n).1

theorem leb_loop_i : ∀ (f n g : Nat) (b : List UInt8), n < 128 ^ (f + 1) → n < 2 ^ 62 → b.length + f ≤ 1000 →
    ∃ (m : Nat) (pre : List UInt8), M.i_PutLeb_l0 (g + f + 1) (n : Int) b = some ((m : Int), b ++ pre) ∧ m < 128 ∧ pre ++ [UInt8.ofNat m] = lebG f n ∧ pre.length ≤ f
  | f, n, g, b, h, h62, hb => by
    by_cases hn : n < 128
    · have d : decide ((127 : Int) < (n : Int)) = false := decide_eq_false (by omega)
      refine ⟨n, [], ?_, hn, ?_, Nat.zero_le _⟩
      · rw [M.i_PutLeb_l0, d]; simp
      · cases f with
        | zero => rfl
        | succ f => rw [lebG, if_pos hn]; rfl
    · match f, h with
      | 0, h => simp at h; omega
      | f + 1, h =>
        have d : decide ((127 : Int) < (n : Int)) = true := decide_eq_true (by omega)
        have e1 : IntKind.wrap .u8 (IntKind.wrap .i64 (Int.tmod (n : Int) 128 + 128)) = ((n % 128 + 128 : Nat) : Int) := by
          have : Int.tmod (n : Int) 128 + 128 = ((n % 128 + 128 : Nat) : Int) := by rw [Int.tmod_eq_emod_of_nonneg (by omega)]; omega
          rw [this, i64w _ (by omega), u8w _ (by omega)]
        have e2 : IntKind.wrap .i64 (Int.tdiv (n : Int) 128) = ((n / 128 : Nat) : Int) := by
          have : Int.tdiv (n : Int) 128 = ((n / 128 : Nat) : Int) := by rw [Int.tdiv_eq_ediv_of_nonneg (by omega)]; omega
          rw [this, i64w _ (by omega)]
        have hlt : n / 128 < 128 ^ (f + 1) := by
          rw [Nat.div_lt_iff_lt_mul (by omega)]; rw [Nat.pow_succ] at h; exact h
        obtain ⟨m, pre, i1, i2, i3, i4⟩ := leb_loop_i f (n / 128) g (b ++ [UInt8.ofNat (n % 128 + 128)]) hlt (by omega) (by simp; omega)
        refine ⟨m, UInt8.ofNat (n % 128 + 128) :: pre, ?_, i2, ?_, by simp; omega⟩
        · rw [show g + (f + 1) + 1 = (g + f + 1) + 1 by omega, M.i_PutLeb_l0, d]
          simp only [e1, e2, u8okn _ (show n % 128 + 128 < 256 by omega), u8ofn, List.length_cons, List.length_nil, lenB (show b.length + (0 + 1) ≤ 1073741824 by omega), Bool.and_true, Bool.true_and, cond_true, i1]
          simp
        · rw [lebG, if_neg hn, ← i3]; rfl
theorem leb_loop_s : ∀ (f n g : Nat) (b : List UInt8), n < 128 ^ (f + 1) → n < 2 ^ 62 → b.length + f ≤ 1000 →
    ∃ (m : Nat) (pre : List UInt8), M.s_PutLeb_l0 (g + f + 1) (n : Int) b = some ((m : Int), b ++ pre) ∧ m < 128 ∧ pre ++ [UInt8.ofNat m] = lebG f n ∧ pre.length ≤ f
  | f, n, g, b, h, h62, hb => by
    by_cases hn : n < 128
    · have d : decide ((127 : Int) < (n : Int)) = false := decide_eq_false (by omega)
      refine ⟨n, [], ?_, hn, ?_, Nat.zero_le _⟩
      · rw [M.s_PutLeb_l0, d]; simp
      · cases f with
        | zero => rfl
        | succ f => rw [lebG, if_pos hn]; rfl
    · match f, h with
      | 0, h => simp at h; omega
      | f + 1, h =>
        have d : decide ((127 : Int) < (n : Int)) = true := decide_eq_true (by omega)
        have e1 : IntKind.wrap .u8 (IntKind.wrap .i64 (bitsV .and .i64 (n : Int) 127 + 128)) = ((n % 128 + 128 : Nat) : Int) := by
          have : bitsV .and .i64 (n : Int) 127 + 128 = ((n % 128 + 128 : Nat) : Int) := by rw [and127 n h62]; omega
          rw [this, i64w _ (by omega), u8w _ (by omega)]
        have hlt : n / 128 < 128 ^ (f + 1) := by
          rw [Nat.div_lt_iff_lt_mul (by omega)]; rw [Nat.pow_succ] at h; exact h
        obtain ⟨m, pre, i1, i2, i3, i4⟩ := leb_loop_s f (n / 128) g (b ++ [UInt8.ofNat (n % 128 + 128)]) hlt (by omega) (by simp; omega)
        refine ⟨m, UInt8.ofNat (n % 128 + 128) :: pre, ?_, i2, ?_, by simp; omega⟩
        · rw [show g + (f + 1) + 1 = (g + f + 1) + 1 by omega, M.s_PutLeb_l0, d]
          simp only [e1, shr7, u8okn _ (show n % 128 + 128 < 256 by omega), u8ofn, List.length_cons, List.length_nil, lenB (show b.length + (0 + 1) ≤ 1073741824 by omega), Bool.and_true, Bool.true_and, cond_true, i1]
          simp
        · rw [lebG, if_neg hn, ← i3]; rfl
theorem leb_i (n : Nat) (h : n ≤ 1048576) : M.i_PutLeb (n : Int) = some (lebB n) := by
  obtain ⟨g, hg⟩ : ∃ g, bigN = g + 8 + 1 := ⟨bigN - 9, by have := bigN_le; omega⟩
  obtain ⟨m, pre, h1, h2, h3, h4⟩ := leb_loop_i 8 n g [] (by simp; omega) (by omega) (by simp)
  unfold M.i_PutLeb
  have d : decide ((n : Int) < 0) = false := decide_eq_false (by omega)
  rw [d, hg, h1]
  simp only [cond_false, List.nil_append, u8w m (by omega), u8okn m (by omega), u8ofn, List.length_cons, List.length_nil, lenB (show pre.length + (0 + 1) ≤ 1073741824 by omega), Bool.and_self, cond_true, List.map_id', h3]
  rfl
theorem leb_s (n : Nat) (h : n ≤ 1048576) : M.s_PutLeb (n : Int) = some (lebB n) := by
  obtain ⟨g, hg⟩ : ∃ g, bigN = g + 8 + 1 := ⟨bigN - 9, by have := bigN_le; omega⟩
  obtain ⟨m, pre, h1, h2, h3, h4⟩ := leb_loop_s 8 n g [] (by simp; omega) (by omega) (by simp)
  unfold M.s_PutLeb
  have d : decide ((n : Int) < 0) = false := decide_eq_false (by omega)
  rw [d, hg, h1]
  simp only [cond_false, List.nil_append, u8w m (by omega), u8okn m (by omega), u8ofn, List.length_cons, List.length_nil, lenB (show pre.length + (0 + 1) ≤ 1073741824 by omega), Bool.and_self, cond_true, List.map_id', h3]
  rfl

theorem fix_i (k : Nat) (h : k < 256) : M.i_putFix (k : Int) 1 = some [UInt8.ofNat k] := by
  obtain ⟨g, hg⟩ : ∃ g, bigN = (g + 1) + 1 := ⟨bigN - 2, by have := bigN_le; omega⟩
  have w : IntKind.wrap .i64 ((0 : Int) + 1) = 1 := by decide
  have e1 : ∀ (x : Int) (b : List UInt8), M.i_putFix_l0 1 (g + 1) x 1 b = some b := fun x b => by rw [M.i_putFix_l0]; simp
  have e2 : M.i_putFix_l0 1 (g + 1 + 1) (k : Int) 0 [] = some [UInt8.ofNat k] := by
    rw [M.i_putFix_l0]
    simp only [u8w k h, u8okn k h, u8ofn, w, e1]
    simp
  unfold M.i_putFix
  rw [hg, e2]; simp
theorem fix_s (k : Nat) (h : k < 256) : M.s_PutFix (k : Int) 1 = some [UInt8.ofNat k] := by
  obtain ⟨g, hg⟩ : ∃ g, bigN = (g + 1) + 1 := ⟨bigN - 2, by have := bigN_le; omega⟩
  have w : IntKind.wrap .i64 ((0 : Int) + 1) = 1 := by decide
  have e1 : ∀ (x : Int) (b : List UInt8), M.s_PutFix_l0 1 (g + 1) x 1 b = some b := fun x b => by rw [M.s_PutFix_l0]; simp
  have e2 : M.s_PutFix_l0 1 (g + 1 + 1) (k : Int) 0 [] = some [UInt8.ofNat k] := by
    rw [M.s_PutFix_l0]
    simp only [and255 k (by omega), Nat.mod_eq_of_lt h, u8w k h, u8okn k h, u8ofn, w, e1]
    simp
  unfold M.s_PutFix
  rw [hg, e2]; simp


theorem catOk {a b : List UInt8} (h : a.length + b.length ≤ 1073741824) : catB a b = true := by
  unfold catB; exact decide_eq_true (by omega)
/-- a text with its length ahead -/
def pb (s : List UInt8) : List UInt8 := lebB s.length ++ s
theorem pb_len (s : List UInt8) : (pb s).length ≤ 9 + s.length := by
  have := lebB_len s.length
  unfold pb; rw [List.length_append]; omega
theorem bytes_i (s : List UInt8) (h : s.length ≤ 1048576) : M.i_PutBytes s = some (pb s) := by
  unfold M.i_PutBytes
  have := lebB_len s.length
  rw [leb_i _ h]
  simp only [Option.getD_some, Option.isSome_some, Bool.and_true, catOk (show (lebB s.length).length + s.length ≤ 1073741824 by omega), cond_true]
  rfl
theorem bytes_s (s : List UInt8) (h : s.length ≤ 1048576) : M.s_PutBytes s = some (pb s) := by
  unfold M.s_PutBytes
  have := lebB_len s.length
  rw [leb_s _ h]
  simp only [Option.getD_some, Option.isSome_some, Bool.and_true, catOk (show (lebB s.length).length + s.length ≤ 1073741824 by omega), cond_true]
  rfl
end M
/-
  A TYPE's BYTES: both sides write the same.
-/
set_option linter.unusedVariables false
set_option linter.unusedSimpArgs false
namespace M
open Go.V (inB slB bigN bigN_le catB)

mutual
def tB : SType → List UInt8
  | .mk k n l kids => UInt8.ofNat k.toNat :: (if k = 20 ∨ k = 21 then pb n else if k = 15 then lebB kids.length ++ kB kids else (if 16 ≤ k ∧ k ≤ 19 then lebB l.length ++ (l.map pb).flatten else []) ++ kB kids)
def kB : List SType → List UInt8
  | [] => []
  | x :: r => tB x ++ kB r
end
def lbB (l : List (List UInt8)) : List UInt8 := lebB l.length ++ (l.map pb).flatten
theorem tB_eq (t : SType) : tB t = UInt8.ofNat t.Kind.toNat :: (if t.Kind = 20 ∨ t.Kind = 21 then pb t.Name else if t.Kind = 15 then lebB t.Kids.length ++ kB t.Kids else (if 16 ≤ t.Kind ∧ t.Kind ≤ 19 then lbB t.Labels else []) ++ kB t.Kids) := by
  cases t; rfl

theorem flat_len {α : Type} {f : α → List UInt8} {g : α → Nat} : ∀ (l : List α) (N : Nat), (∀ x ∈ l, (f x).length ≤ N * (g x + 1)) → ((l.map f).flatten).length ≤ N * szL g l
  | [], N, _ => by simp
  | x :: r, N, h => by
    have ih := flat_len r N fun y hy => h y (List.mem_cons_of_mem _ hy)
    have hx := h x (List.mem_cons_self ..)
    have e : szL g (x :: r) = (g x + 1) + szL g r := by simp only [szL]
    rw [List.map_cons, List.flatten_cons, List.length_append, e, Nat.mul_add]
    omega
theorem kB_flat : ∀ l, kB l = (l.map tB).flatten
  | [] => rfl
  | x :: r => by rw [kB, List.map_cons, List.flatten_cons, kB_flat r]
theorem lbB_len (l : List (List UInt8)) : (lbB l).length ≤ 9 + 10 * szL List.length l := by
  have h1 := lebB_len l.length
  have h2 := flat_len (f := pb) (g := List.length) l 10 (fun x _ => by have := pb_len x; omega)
  unfold lbB; rw [List.length_append]; omega
theorem tB_len : ∀ (n : Nat) (t : SType), t.sz < n → (tB t).length ≤ 20 * (t.sz + 1)
  | 0, t, h => absurd h (Nat.not_lt_zero _)
  | n + 1, t, h => by
    have hk := flat_len (f := tB) (g := SType.sz) t.Kids 20 (fun x hx => tB_len n x (by have := SType.kid_lt hx; omega))
    rw [← kB_flat] at hk
    have hl := lbB_len t.Labels
    have hp := pb_len t.Name
    have hb := lebB_len t.Kids.length
    have hs := SType.sz_eq t
    rw [tB_eq, List.length_cons]
    split
    · omega
    · split
      · rw [List.length_append]; omega
      · split
        · rw [List.length_append]; omega
        · rw [List.length_append, List.length_nil]; omega
theorem kB_len (l : List SType) (N : Nat) (h : szL SType.sz l ≤ N) : (kB l).length ≤ 20 * N := by
  have := flat_len (f := tB) (g := SType.sz) l 20 (fun x _ => tB_len _ x (Nat.lt_succ_self _))
  rw [← kB_flat] at this
  have h2 : 20 * szL SType.sz l ≤ 20 * N := Nat.mul_le_mul_left _ h
  omega
theorem len_mem {l : List SType} {x : SType} (hx : x ∈ l) : (tB x).length ≤ (kB l).length := by
  induction l with
  | nil => cases hx
  | cons y r ih =>
    rw [kB, List.length_append]
    rcases List.mem_cons.1 hx with rfl | h
    · omega
    · have := ih h; omega

/-- a loop that puts one behind the other -/
theorem cat_loop {α : Type} {F : Nat → Int → List UInt8 → Option (List UInt8)} {e : α → List UInt8} (l : List α) (N : Nat) (hn : l.length ≤ 1048576)
    (step : ∀ f k b, ∀ hk : k < l.length, b.length + (e l[k]).length ≤ N → F (f + 1) (k : Int) b = F f ((k + 1 : Nat) : Int) (b ++ e l[k])) (stop : ∀ f b, F (f + 1) (l.length : Int) b = some b)
    (a : List UInt8) (h0 : a.length + ((l.map e).flatten).length ≤ N) : F bigN 0 a = some (a ++ (l.map e).flatten) := by
  have := fold_loop (F := F) (g := fun b x => b ++ e x) (h := fun b => b) l (by omega) (fun k b => b.length + (((l.drop k).map e).flatten).length ≤ N) (fun f k b hk hI => by
    rw [drop_get hk, List.map_cons, List.flatten_cons, List.length_append] at hI
    exact ⟨step f k b hk (by omega), by rw [List.length_append]; omega⟩) (fun f b _ => stop f b) a (by simpa using h0)
  rw [this]
  congr 1
  clear this step stop h0 hn
  induction l generalizing a with
  | nil => simp
  | cons x r ih => rw [List.foldl_cons, ih, List.map_cons, List.flatten_cons, List.append_assoc]

theorem ws_ok {s b : List UInt8} (h : b.length + s.length ≤ 1073741824) : M.strings_Builder_WriteString s b = some ((s.length : Int), b ++ s) := by
  unfold M.strings_Builder_WriteString
  simp only [List.map_id', lenB h, Bool.and_true, cond_true]

theorem labs_i (l : List (List UInt8)) (h : szL List.length l ≤ 1048576) : M.i_sequence_string l = some (lbB l) := by
  have hn : l.length ≤ 1048576 := Nat.le_trans (szL_len _ _) h
  have hb := lebB_len l.length
  have htot := lbB_len l
  have htot2 : (lebB l.length).length + ((l.map pb).flatten).length ≤ 1073741824 := by unfold lbB at htot; rw [List.length_append] at htot; omega
  have e := cat_loop (F := fun f i b => M.i_sequence_string_l0 l (l.length : Int) f i b) (e := pb) l 1073741824 hn (fun f k b hk hI => by
    show M.i_sequence_string_l0 l (l.length : Int) (f + 1) (k : Int) b = _
    rw [M.i_sequence_string_l0]
    have hx : (l[k]).length ≤ 1048576 := szL_mem' h (List.getElem_mem hk)
    simp only [getD_lt hk, Int.toNat_natCast, bytes_i _ hx, ws_ok hI, inB_nat, Int.ofNat_lt, hk, decide_true, cond_true, Bool.true_and, Bool.and_true, wrapk hk (by omega : l.length < 2 ^ 62), Option.getD_some, Option.isSome_some]) (fun f b => by
    show M.i_sequence_string_l0 l (l.length : Int) (f + 1) _ b = _
    rw [M.i_sequence_string_l0]; simp) (lebB l.length) htot2
  have e' : M.i_sequence_string_l0 l (l.length : Int) bigN 0 (lebB l.length) = _ := e
  unfold M.i_sequence_string
  rw [leb_i _ hn]
  simp only [Option.getD_some, ws_ok (b := []) (s := lebB l.length) (by simp; omega), List.nil_append, e']
  have : M.strings_Builder_String (lebB l.length ++ (l.map pb).flatten) = some (lebB l.length ++ (l.map pb).flatten) := by
    unfold M.strings_Builder_String
    rw [lenB (by rw [List.length_append]; exact htot2)]; rfl
  rw [this]; rfl
theorem labs_s (l : List (List UInt8)) (h : szL List.length l ≤ 1048576) : M.s_l24Texts l = some (lbB l) := by
  have hn : l.length ≤ 1048576 := Nat.le_trans (szL_len _ _) h
  have hb := lebB_len l.length
  have htot := lbB_len l
  have htot2 : (lebB l.length).length + ((l.map pb).flatten).length ≤ 1073741824 := by unfold lbB at htot; rw [List.length_append] at htot; omega
  have e := cat_loop (F := fun f i b => M.s_l24Texts_l0 l f i b) (e := pb) l 1073741824 hn (fun f k b hk hI => by
    show M.s_l24Texts_l0 l (f + 1) (k : Int) b = _
    rw [M.s_l24Texts_l0]
    have hx : (l[k]).length ≤ 1048576 := szL_mem' h (List.getElem_mem hk)
    simp only [getD_lt hk, Int.toNat_natCast, bytes_s _ hx, List.map_id', lenB hI, inB_nat, Int.ofNat_lt, hk, decide_true, cond_true, Bool.true_and, Bool.and_true, wrapk hk (by omega : l.length < 2 ^ 62), Option.getD_some, Option.isSome_some]) (fun f b => by
    show M.s_l24Texts_l0 l (f + 1) _ b = _
    rw [M.s_l24Texts_l0]; simp) (lebB l.length) htot2
  have e' : M.s_l24Texts_l0 l bigN 0 (lebB l.length) = _ := e
  unfold M.s_l24Texts
  rw [leb_s _ hn]
  simp only [Option.getD_some, List.map_id', e', lenB (show (lebB l.length).length ≤ 1073741824 by omega), Option.isSome_some, Bool.and_self, cond_true]
  rfl

theorem shape_kind {t : SType} (h : tShape t = true) : (1 ≤ t.Kind ∧ t.Kind ≤ 23) ∧ ((16 ≤ t.Kind ∧ t.Kind ≤ 19) ↔ t.Labels ≠ []) ∧ ((t.Kind = 20 ∨ t.Kind = 21) ↔ t.Name ≠ []) := by
  rw [tShape_eq] at h
  simp only [Bool.and_eq_true] at h
  have hk := h.1
  unfold shape1 at hk
  simp only [Bool.and_eq_true] at hk
  obtain ⟨⟨hl, hn⟩, hk⟩ := hk
  refine ⟨?_, ?_, ?_⟩
  · unfold kidsB at hk
    split at hk
    · omega
    · split at hk
      · omega
      · split at hk
        · omega
        · split at hk
          · omega
          · split at hk
            · omega
            · split at hk
              · omega
              · simp only [Bool.and_eq_true, decide_eq_true_eq] at hk; omega
  · unfold labB at hl
    split at hl
    · rename_i hb
      simp only [Bool.and_eq_true, decide_eq_true_eq] at hb
      refine ⟨fun _ e => ?_, fun _ => hb⟩
      rw [e] at hl; unfold labOk at hl; simp at hl
    · rename_i hb
      simp only [Bool.and_eq_true, decide_eq_true_eq] at hb
      have : t.Labels = [] := List.eq_nil_of_length_eq_zero (by simpa using hl)
      exact ⟨fun h => absurd h hb, fun h => absurd this h⟩
  · unfold namedB at hn
    split at hn
    · rename_i hb
      simp only [Bool.or_eq_true, beq_iff_eq] at hb
      refine ⟨fun _ e => ?_, fun _ => hb⟩
      rw [e] at hn; unfold nameOk at hn; simp at hn
    · rename_i hb
      simp only [Bool.or_eq_true, beq_iff_eq] at hb
      have : t.Name = [] := by simpa using hn
      exact ⟨fun h => absurd h hb, fun h => absurd this h⟩
theorem kb {a b : Int} (h : a ≠ b) : (a == b) = false := by rw [beq_eq_false_iff_ne]; exact h
theorem kt {a b : Int} (h : a = b) : (a == b) = true := by rw [h]; exact beq_self_eq_true b

section
variable {rec : SType → Option (List UInt8)} {kids : List SType}
theorem kids_i (h : szL SType.sz kids ≤ 1048576) (hr : ∀ x ∈ kids, rec x = some (tB x)) (a : List UInt8) (ha : a.length ≤ 100000000) : M.i_typeBytes_l0 rec kids (kids.length : Int) bigN a 0 = some (a ++ kB kids) := by
  have hn : kids.length ≤ 1048576 := Nat.le_trans (szL_len _ _) h
  have hk := kB_len kids _ h
  have e := cat_loop (F := fun f i b => M.i_typeBytes_l0 rec kids (kids.length : Int) f b i) (e := tB) kids 1073741824 hn (fun f k b hk hI => by
    show M.i_typeBytes_l0 rec kids (kids.length : Int) (f + 1) b (k : Int) = _
    rw [M.i_typeBytes_l0]
    simp only [SType.re_eq, getD_lt hk, Int.toNat_natCast, hr _ (List.getElem_mem hk), catOk hI, inB_nat, Int.ofNat_lt, hk, decide_true, cond_true, Bool.true_and, Bool.and_true, wrapk hk (by omega : kids.length < 2 ^ 62), Option.getD_some, Option.isSome_some]) (fun f b => by
    show M.i_typeBytes_l0 rec kids (kids.length : Int) (f + 1) b _ = _
    rw [M.i_typeBytes_l0]; simp) a (by rw [← kB_flat]; omega)
  rw [kB_flat]; exact e
theorem kids_s {t : SType} (hkk : t.Kids = kids) (h : szL SType.sz kids ≤ 1048576) (hr : ∀ x ∈ kids, rec x = some (tB x)) (a : List UInt8) (ha : a.length ≤ 100000000) : M.s_l24Type_l0 rec bigN a 0 t = some (a ++ kB kids) := by
  have hn : kids.length ≤ 1048576 := Nat.le_trans (szL_len _ _) h
  have hk := kB_len kids _ h
  have e := cat_loop (F := fun f i b => M.s_l24Type_l0 rec f b i t) (e := tB) kids 1073741824 hn (fun f k b hk hI => by
    show M.s_l24Type_l0 rec (f + 1) b (k : Int) t = _
    rw [M.s_l24Type_l0]
    simp only [SType.re_eq, hkk, getD_lt hk, Int.toNat_natCast, hr _ (List.getElem_mem hk), catOk hI, inB_nat, Int.ofNat_lt, hk, decide_true, cond_true, Bool.true_and, Bool.and_true, wrapk hk (by omega : kids.length < 2 ^ 62), Option.getD_some, Option.isSome_some]) (fun f b => by
    show M.s_l24Type_l0 rec (f + 1) b _ t = _
    rw [M.s_l24Type_l0, hkk]; simp) a (by rw [← kB_flat]; omega)
  rw [kB_flat]; exact e
theorem seq_i (h : szL SType.sz kids ≤ 1048576) (hr : ∀ x ∈ kids, rec x = some (tB x)) : M.i_sequence_Type rec kids = some (lebB kids.length ++ kB kids) := by
  have hn : kids.length ≤ 1048576 := Nat.le_trans (szL_len _ _) h
  have hk := kB_len kids _ h
  have hb := lebB_len kids.length
  have e := cat_loop (F := fun f i b => M.i_sequence_Type_l0 rec kids (kids.length : Int) f i b) (e := tB) kids 1073741824 hn (fun f k b hk hI => by
    show M.i_sequence_Type_l0 rec kids (kids.length : Int) (f + 1) (k : Int) b = _
    rw [M.i_sequence_Type_l0]
    simp only [SType.re_eq, getD_lt hk, Int.toNat_natCast, hr _ (List.getElem_mem hk), ws_ok hI, inB_nat, Int.ofNat_lt, hk, decide_true, cond_true, Bool.true_and, Bool.and_true, wrapk hk (by omega : kids.length < 2 ^ 62), Option.getD_some, Option.isSome_some]) (fun f b => by
    show M.i_sequence_Type_l0 rec kids (kids.length : Int) (f + 1) _ b = _
    rw [M.i_sequence_Type_l0]; simp) (lebB kids.length) (by rw [← kB_flat]; omega)
  have e' : M.i_sequence_Type_l0 rec kids (kids.length : Int) bigN 0 (lebB kids.length) = _ := e
  unfold M.i_sequence_Type
  rw [leb_i _ hn]
  simp only [Option.getD_some, ws_ok (b := []) (s := lebB kids.length) (by simp; omega), List.nil_append, e']
  have : M.strings_Builder_String (lebB kids.length ++ (kids.map tB).flatten) = some (lebB kids.length ++ (kids.map tB).flatten) := by
    unfold M.strings_Builder_String
    rw [lenB (by rw [List.length_append, ← kB_flat]; omega)]; rfl
  rw [this, kB_flat]; rfl
end

theorem bytes_t_i : ∀ (m : Nat) (t : SType), t.sz < m → t.sz ≤ 1048576 → tShape t = true → M.i_typeBytes_n m t = some (tB t)
  | 0, t, h, _, _ => absurd h (Nat.not_lt_zero _)
  | m + 1, t, h, ht, hs => by
    obtain ⟨hkd, hlab, hnam⟩ := shape_kind hs
    have hkidsS : ∀ x ∈ t.Kids, tShape x = true := by
      rw [tShape_eq, Bool.and_eq_true, kShape_all, List.all_eq_true] at hs; exact hs.2
    have hr : ∀ x ∈ t.Kids, M.i_typeBytes_n m x = some (tB x) := fun x hx => by
      have := SType.kid_lt hx
      exact bytes_t_i m x (by omega) (by omega) (hkidsS x hx)
    have hK := SType.kids_le ht
    have hf : M.i_putFix t.Kind 1 = some [UInt8.ofNat t.Kind.toNat] := by
      have := fix_i t.Kind.toNat (by omega)
      rwa [show ((t.Kind.toNat : Nat) : Int) = t.Kind by omega] at this
    show M.i_typeBytes_b (M.i_typeBytes_n m) t = _
    unfold M.i_typeBytes_b
    rw [tB_eq, hf, bytes_i _ (SType.name_le ht), seq_i hK hr, labs_i _ (SType.labels_le ht)]
    have hp := pb_len t.Name
    have hnl := SType.name_le ht
    have hkl := kB_len _ _ hK
    have hll := lbB_len t.Labels
    have hlle := SType.labels_le ht
    have hbl := lebB_len t.Kids.length
    by_cases h20 : t.Kind = 20 ∨ t.Kind = 21
    · have : ((t.Kind == 20) || (t.Kind == 21)) = true := by rcases h20 with h | h <;> simp [h]
      rw [this, if_pos h20]
      simp only [Option.getD_some, Option.isSome_some, cond_true, Bool.and_true, catOk (a := [UInt8.ofNat t.Kind.toNat]) (b := pb t.Name) (by simp; omega)]
      rfl
    · rw [if_neg h20]
      simp only [not_or] at h20
      rw [kb h20.1, kb h20.2]
      simp only [Bool.or_self, cond_false]
      by_cases h15 : t.Kind = 15
      · rw [if_pos h15, kt h15]
        simp only [Option.getD_some, Option.isSome_some, cond_true, Bool.and_true, catOk (a := [UInt8.ofNat t.Kind.toNat]) (b := lebB t.Kids.length ++ kB t.Kids) (by simp; omega)]
        rfl
      · rw [if_neg h15, kb h15]
        simp only [cond_false, Option.getD_some, Option.isSome_some, Bool.and_true]
        by_cases hlk : 16 ≤ t.Kind ∧ t.Kind ≤ 19
        · have : (decide ((16 : Int) ≤ t.Kind) && decide (t.Kind ≤ 19)) = true := by rw [decide_eq_true hlk.1, decide_eq_true hlk.2]; rfl
          rw [this, if_pos hlk]
          simp only [cond_true]
          rw [kids_i hK hr _ (by simp; omega)]
          simp only [catOk (a := [UInt8.ofNat t.Kind.toNat]) (b := lbB t.Labels) (by simp; omega), Bool.true_or, Bool.or_true, Bool.and_self, cond_true]
          simp
        · have : (decide ((16 : Int) ≤ t.Kind) && decide (t.Kind ≤ 19)) = false := by
            rw [Bool.and_eq_false_iff]
            by_cases h0 : (16 : Int) ≤ t.Kind
            · right; exact decide_eq_false (by omega)
            · left; exact decide_eq_false h0
          rw [this, if_neg hlk]
          simp only [cond_false]
          rw [kids_i hK hr _ (by simp)]
          simp
theorem bytes_t_s : ∀ (m : Nat) (t : SType), t.sz < m → t.sz ≤ 1048576 → tShape t = true → M.s_l24Type_n m t = some (tB t)
  | 0, t, h, _, _ => absurd h (Nat.not_lt_zero _)
  | m + 1, t, h, ht, hs => by
    obtain ⟨hkd, hlab, hnam⟩ := shape_kind hs
    have hkidsS : ∀ x ∈ t.Kids, tShape x = true := by
      rw [tShape_eq, Bool.and_eq_true, kShape_all, List.all_eq_true] at hs; exact hs.2
    have hr : ∀ x ∈ t.Kids, M.s_l24Type_n m x = some (tB x) := fun x hx => by
      have := SType.kid_lt hx
      exact bytes_t_s m x (by omega) (by omega) (hkidsS x hx)
    have hK := SType.kids_le ht
    have hf : M.s_PutFix t.Kind 1 = some [UInt8.ofNat t.Kind.toNat] := by
      have := fix_s t.Kind.toNat (by omega)
      rwa [show ((t.Kind.toNat : Nat) : Int) = t.Kind by omega] at this
    have hn : t.Kids.length ≤ 1048576 := SType.kids_len ht
    show M.s_l24Type_b (M.s_l24Type_n m) t = _
    unfold M.s_l24Type_b
    rw [tB_eq, hf, bytes_s _ (SType.name_le ht), labs_s _ (SType.labels_le ht), leb_s _ hn, SType.re_eq]
    have hp := pb_len t.Name
    have hnl := SType.name_le ht
    have hkl := kB_len _ _ hK
    have hll := lbB_len t.Labels
    have hlle := SType.labels_le ht
    have hbl := lebB_len t.Kids.length
    by_cases h20 : t.Kind = 20 ∨ t.Kind = 21
    · have : (t.Name == []) = false := by
        cases hh : t.Name with
        | nil => exact absurd hh (hnam.1 h20)
        | cons a r => rfl
      rw [this, if_pos h20]
      simp only [Bool.not_false, Option.getD_some, Option.isSome_some, cond_true, Bool.and_true, catOk (a := [UInt8.ofNat t.Kind.toNat]) (b := pb t.Name) (by simp; omega)]
      rfl
    · rw [if_neg h20]
      have : t.Name = [] := by
        by_cases hh : t.Name = []
        · exact hh
        · exact absurd (hnam.2 hh) h20
      rw [this]
      simp only [beq_self_eq_true, Bool.not_true, cond_false, Option.getD_some, Option.isSome_some, Bool.and_true]
      by_cases hlk : 16 ≤ t.Kind ∧ t.Kind ≤ 19
      · have hne := hlab.1 hlk
        have hpos : 0 < t.Labels.length := List.length_pos_iff.2 hne
        have d : decide ((0 : Int) < (t.Labels.length : Int)) = true := decide_eq_true (by omega)
        rw [d, if_neg (by omega), if_pos hlk]
        simp only [cond_true]
        rw [kids_s rfl hK hr _ (by simp; omega)]
        simp only [catOk (a := [UInt8.ofNat t.Kind.toNat]) (b := lbB t.Labels) (by simp; omega), Bool.true_or, Bool.or_true, Bool.and_self, cond_true]
        simp
      · have hnil : t.Labels = [] := by
          by_cases hh : t.Labels = []
          · exact hh
          · exact absurd (hlab.2 hh) hlk
        have d : decide ((0 : Int) < (t.Labels.length : Int)) = false := decide_eq_false (by rw [hnil]; simp)
        rw [d]
        simp only [cond_false]
        by_cases h15 : t.Kind = 15
        · rw [if_pos h15, kt h15]
          simp only [cond_true]
          rw [kids_s rfl hK hr _ (by simp; omega)]
          simp only [catOk (a := [UInt8.ofNat t.Kind.toNat]) (b := lebB t.Kids.length) (by simp; omega), Bool.true_or, Bool.or_true, Bool.and_self, cond_true]
          simp
        · rw [if_neg h15, if_neg hlk, kb h15]
          simp only [cond_false]
          rw [kids_s rfl hK hr _ (by simp)]
          simp

end M
/-
  A FACE's BYTES: both sides write the same.
-/
set_option linter.unusedVariables false
set_option linter.unusedSimpArgs false
namespace M
open Go.V (inB slB bigN bigN_le catB)

def paB (p : SParam) : List UInt8 := pb p.Name ++ tB p.Type_
def fuB (x : SFunc) : List UInt8 := ((pb x.Name ++ [if x.Type_.Async then 1 else 0]) ++ (lebB x.Type_.Params.length ++ (x.Type_.Params.map paB).flatten)) ++ tB x.Type_.Result
def faB (f : SFace) : List UInt8 := (((pb f.Package ++ pb f.Name) ++ pb f.Version) ++ lbB f.Resources) ++ (lebB f.Funcs.length ++ (f.Funcs.map fuB).flatten)

theorem tB_le (t : SType) : (tB t).length ≤ 20 * (t.sz + 1) := tB_len _ t (Nat.lt_succ_self _)
theorem paB_le (p : SParam) : (paB p).length ≤ 30 * (p.sz + 1) := by
  have h1 := tB_le p.Type_
  have h2 := pb_len p.Name
  have h3 := SParam.sz_eq p
  unfold paB; rw [List.length_append]; omega
theorem fuB_le (x : SFunc) : (fuB x).length ≤ 60 * (x.sz + 1) := by
  have h1 := tB_le x.Type_.Result
  have h2 := pb_len x.Name
  have h3 := SFunc.sz_eq x
  have h4 := SFuncType.sz_eq x.Type_
  have h5 := lebB_len x.Type_.Params.length
  have h6 := flat_len (f := paB) (g := SParam.sz) x.Type_.Params 30 fun p _ => paB_le p
  unfold fuB; simp only [List.length_append, List.length_cons, List.length_nil]; omega

theorem fOk_parts {f : SFuncType} (h : fOk f = true) : (∀ p ∈ f.Params, tShape p.Type_ = true) ∧ tShape f.Result = true := by
  unfold fOk at h
  simp only [Bool.and_eq_true, List.all_eq_true] at h
  refine ⟨fun p hp => ?_, tOk_shp h.1.2⟩
  have := h.1.1.2.1 p hp
  unfold parOk at this
  simp only [Bool.not_eq_true', Bool.or_eq_false_iff, Bool.not_eq_false'] at this
  exact tOk_shp this.1.2
where tOk_shp {t : SType} (h : tOk t = true) : tShape t = true := by unfold tOk at h; simp only [Bool.and_eq_true] at h; exact h.2

theorem type_i (t : SType) (h : t.sz ≤ 1048576) (hs : tShape t = true) : M.i_typeBytes t = some (tB t) := bytes_t_i bigN t (bigN_gt h) h hs
theorem type_s (t : SType) (h : t.sz ≤ 1048576) (hs : tShape t = true) : M.s_l24Type t = some (tB t) := bytes_t_s bigN t (bigN_gt h) h hs

theorem func_bi (x : SFunc) (h : x.sz ≤ 1048576) (ho : fOk x.Type_ = true) : M.i_funcBytes x = some (fuB x) := by
  have hle := fuB_le x
  rw [SFunc.sz_eq, SFuncType.sz_eq] at h
  obtain ⟨hp, hr⟩ := fOk_parts ho
  have hl : x.Type_.Params.length ≤ 1048576 := Nat.le_trans (szL_len SParam.sz x.Type_.Params) (by omega)
  have hb := lebB_len x.Type_.Params.length
  have hfl := flat_len (f := paB) (g := SParam.sz) x.Type_.Params 30 fun p _ => paB_le p
  have hpa : ∀ k (hk : k < x.Type_.Params.length), M.i_paramBytes x.Type_.Params[k] = some (paB x.Type_.Params[k]) := fun k hk => by
    have hm := szL_mem SParam.sz _ _ (List.getElem_mem hk)
    have hsz := SParam.sz_eq x.Type_.Params[k]
    have l1 := pb_len x.Type_.Params[k].Name
    have l2 := tB_le x.Type_.Params[k].Type_
    unfold M.i_paramBytes paB
    rw [SType.re_eq, bytes_i _ (by omega), type_i _ (by omega) (hp _ (List.getElem_mem hk))]
    simp only [Option.getD_some, Option.isSome_some, Bool.and_true, catOk (a := pb x.Type_.Params[k].Name) (b := tB x.Type_.Params[k].Type_) (by omega), cond_true]
  have e := cat_loop (F := fun f i b => M.i_sequence_Param_l0 x.Type_.Params (x.Type_.Params.length : Int) f i b) (e := paB) x.Type_.Params 1073741824 hl (fun f k b hk hI => by
    show M.i_sequence_Param_l0 x.Type_.Params (x.Type_.Params.length : Int) (f + 1) (k : Int) b = _
    rw [M.i_sequence_Param_l0]
    simp only [SParam.re_eq, getD_lt hk, hpa k hk, Int.toNat_natCast, ws_ok hI, inB_nat, Int.ofNat_lt, hk, decide_true, cond_true, Bool.true_and, Bool.and_true, wrapk hk (big_of hl), Option.getD_some, Option.isSome_some]) (fun f b => by
    show M.i_sequence_Param_l0 x.Type_.Params (x.Type_.Params.length : Int) (f + 1) _ b = _
    rw [M.i_sequence_Param_l0]; simp) (lebB x.Type_.Params.length) (by omega)
  have e' : M.i_sequence_Param_l0 x.Type_.Params (x.Type_.Params.length : Int) bigN 0 (lebB x.Type_.Params.length) = _ := e
  have hseq : M.i_sequence_Param x.Type_.Params = some (lebB x.Type_.Params.length ++ (x.Type_.Params.map paB).flatten) := by
    unfold M.i_sequence_Param
    rw [leb_i _ hl]
    simp only [Option.getD_some, ws_ok (b := []) (s := lebB x.Type_.Params.length) (by simp; omega), List.nil_append, e']
    have : M.strings_Builder_String (lebB x.Type_.Params.length ++ (x.Type_.Params.map paB).flatten) = some (lebB x.Type_.Params.length ++ (x.Type_.Params.map paB).flatten) := by
      unfold M.strings_Builder_String
      rw [lenB (by rw [List.length_append]; omega)]; rfl
    rw [this]; rfl
  have hbit : M.i_putFix (Option.getD (M.i_bit x.Type_.Async) Inhabited.default) 1 = some [if x.Type_.Async then 1 else 0] := by
    cases x.Type_.Async
    · exact fix_i 0 (by omega)
    · exact fix_i 1 (by omega)
  have hbs : (M.i_bit x.Type_.Async).isSome = true := by cases x.Type_.Async <;> rfl
  have l1 := pb_len x.Name
  have l2 := tB_le x.Type_.Result
  unfold M.i_funcBytes
  simp only [SType.re_eq, bytes_i x.Name (by omega), hbit, hbs, hseq, type_i x.Type_.Result (by omega) hr, Option.getD_some, Option.isSome_some, Bool.and_true]
  rw [catOk (by simp only [List.length_append, List.length_cons, List.length_nil]; omega), catOk (by simp only [List.length_append, List.length_cons, List.length_nil]; omega), catOk (by simp only [List.length_append, List.length_cons, List.length_nil]; omega)]
  rfl

theorem func_bs (x : SFunc) (h : x.sz ≤ 1048576) (ho : fOk x.Type_ = true) : M.s_l24Func x = some (fuB x) := by
  rw [SFunc.sz_eq, SFuncType.sz_eq] at h
  obtain ⟨hp, hr⟩ := fOk_parts ho
  have hl : x.Type_.Params.length ≤ 1048576 := Nat.le_trans (szL_len SParam.sz x.Type_.Params) (by omega)
  have hb := lebB_len x.Type_.Params.length
  have hfl := flat_len (f := paB) (g := SParam.sz) x.Type_.Params 30 fun p _ => paB_le p
  have l1 := pb_len x.Name
  have l2 := tB_le x.Type_.Result
  have key : ∀ g k (b : List UInt8), k ≤ x.Type_.Params.length → x.Type_.Params.length - k < g → b.length + (((x.Type_.Params.drop k).map paB).flatten).length ≤ 1073741824 →
      M.s_l24Func_l0 g b (k : Int) x = some (b ++ ((x.Type_.Params.drop k).map paB).flatten, x) := by
    intro g
    induction g with
    | zero => intro k b h1 h2; omega
    | succ g ih =>
      intro k b h1 h2 h3
      rw [M.s_l24Func_l0]
      rcases Nat.lt_or_ge k x.Type_.Params.length with hk | hk
      · have hm := szL_mem SParam.sz _ _ (List.getElem_mem hk)
        have hsz := SParam.sz_eq x.Type_.Params[k]
        rw [drop_get hk, List.map_cons, List.flatten_cons, List.length_append] at h3
        have hpl : (paB x.Type_.Params[k]).length = (pb x.Type_.Params[k].Name).length + (tB x.Type_.Params[k].Type_).length := by unfold paB; rw [List.length_append]
        have c1 : catB b (pb x.Type_.Params[k].Name) = true := catOk (by omega)
        have c2 : catB (b ++ pb x.Type_.Params[k].Name) (tB x.Type_.Params[k].Type_) = true := catOk (by rw [List.length_append]; omega)
        simp only [SType.re_eq, SFunc.re_eq, getD_lt hk, bytes_s x.Type_.Params[k].Name (by omega), type_s x.Type_.Params[k].Type_ (by omega) (hp _ (List.getElem_mem hk)), c1, c2, Int.toNat_natCast, inB_nat, Int.ofNat_lt, hk, decide_true, cond_true, Bool.true_and, Bool.and_true, wrapk hk (big_of hl), Option.getD_some, Option.isSome_some]
        rw [ih (k + 1) _ (by omega) (by omega) (by simp only [List.length_append]; omega), drop_get hk, List.map_cons, List.flatten_cons]
        unfold paB
        simp [List.append_assoc]
      · have : k = x.Type_.Params.length := by omega
        subst this
        rw [List.drop_length, SFunc.re_eq]; simp
  have hbit : M.s_l17Bit x.Type_.Async = some [if x.Type_.Async then 1 else 0] := by cases x.Type_.Async <;> rfl
  have e := key bigN 0 ((pb x.Name ++ [if x.Type_.Async then 1 else 0]) ++ lebB x.Type_.Params.length) (Nat.zero_le _) (by have := bigN_le; omega) (by rw [List.drop_zero]; simp only [List.length_append, List.length_cons, List.length_nil]; omega)
  rw [List.drop_zero] at e
  have e' : M.s_l24Func_l0 bigN ((pb x.Name ++ [if x.Type_.Async then 1 else 0]) ++ lebB x.Type_.Params.length) 0 x = _ := e
  unfold M.s_l24Func
  simp only [SType.re_eq, SFunc.re_eq, bytes_s x.Name (by omega), hbit, leb_s _ hl, e', type_s x.Type_.Result (by omega) hr, Option.getD_some, Option.isSome_some, Bool.and_true]
  rw [catOk (by simp only [List.length_append, List.length_cons, List.length_nil]; omega), catOk (by simp only [List.length_append, List.length_cons, List.length_nil]; omega), catOk (by simp only [List.length_append, List.length_cons, List.length_nil]; omega)]
  unfold fuB
  simp [List.append_assoc]

theorem face_parts {f : SFace} (h : faceOk f = true) : ∀ x ∈ f.Funcs, fOk x.Type_ = true := fun x hx => by
  unfold faceOk at h
  simp only [Bool.and_eq_true, List.all_eq_true] at h
  have := h.2.2.1 x hx
  unfold fnOk at this
  simp only [Bool.and_eq_true] at this
  exact this.1.2

theorem lens {f : SFace} (h : f.sz ≤ 1048576) : f.Package.length ≤ 1048576 ∧ f.Name.length ≤ 1048576 ∧ f.Version.length ≤ 1048576 ∧ szL List.length f.Resources ≤ 1048576 ∧ f.Funcs.length ≤ 1048576 ∧ (pb f.Package).length ≤ 1048600 ∧ (pb f.Name).length ≤ 1048600 ∧ (pb f.Version).length ≤ 1048600 ∧ (lbB f.Resources).length ≤ 10485800 ∧ (lebB f.Funcs.length).length ≤ 9 ∧ ((f.Funcs.map fuB).flatten).length ≤ 62914560 := by
  rw [SFace.sz_eq] at h
  have h1 := pb_len f.Package
  have h2 := pb_len f.Name
  have h3 := pb_len f.Version
  have h4 := lbB_len f.Resources
  have h5 := lebB_len f.Funcs.length
  have h6 := flat_len (f := fuB) (g := SFunc.sz) f.Funcs 60 fun x _ => fuB_le x
  have h7 := szL_len SFunc.sz f.Funcs
  refine ⟨by omega, by omega, by omega, by omega, by omega, by omega, by omega, by omega, by omega, by omega, by omega⟩

theorem face_bi (f : SFace) (h : f.sz ≤ 1048576) (ho : faceOk f = true) : M.i_faceBytes f = some (faB f) := by
  obtain ⟨g1, g2, g3, g4, g5, g6, g7, g8, g9, g10, g11⟩ := lens h
  have hf := face_parts ho
  have hsz : ∀ k (hk : k < f.Funcs.length), f.Funcs[k].sz ≤ 1048576 := fun k hk => by rw [SFace.sz_eq] at h; have := szL_mem SFunc.sz _ _ (List.getElem_mem hk); omega
  have e := cat_loop (F := fun g i b => M.i_sequence_Func_l0 f.Funcs (f.Funcs.length : Int) g i b) (e := fuB) f.Funcs 1073741824 g5 (fun g k b hk hI => by
    show M.i_sequence_Func_l0 f.Funcs (f.Funcs.length : Int) (g + 1) (k : Int) b = _
    rw [M.i_sequence_Func_l0]
    simp only [SFunc.re_eq, getD_lt hk, func_bi _ (hsz k hk) (hf _ (List.getElem_mem hk)), Int.toNat_natCast, ws_ok hI, inB_nat, Int.ofNat_lt, hk, decide_true, cond_true, Bool.true_and, Bool.and_true, wrapk hk (big_of g5), Option.getD_some, Option.isSome_some]) (fun g b => by
    show M.i_sequence_Func_l0 f.Funcs (f.Funcs.length : Int) (g + 1) _ b = _
    rw [M.i_sequence_Func_l0]; simp) (lebB f.Funcs.length) (by omega)
  have e' : M.i_sequence_Func_l0 f.Funcs (f.Funcs.length : Int) bigN 0 (lebB f.Funcs.length) = _ := e
  have hseq : M.i_sequence_Func f.Funcs = some (lebB f.Funcs.length ++ (f.Funcs.map fuB).flatten) := by
    unfold M.i_sequence_Func
    rw [leb_i _ g5]
    simp only [Option.getD_some, ws_ok (b := []) (s := lebB f.Funcs.length) (by simp; omega), List.nil_append, e']
    have : M.strings_Builder_String (lebB f.Funcs.length ++ (f.Funcs.map fuB).flatten) = some (lebB f.Funcs.length ++ (f.Funcs.map fuB).flatten) := by
      unfold M.strings_Builder_String
      rw [lenB (by rw [List.length_append]; omega)]; rfl
    rw [this]; rfl
  unfold M.i_faceBytes
  simp only [bytes_i f.Package g1, bytes_i f.Name g2, bytes_i f.Version g3, labs_i f.Resources g4, hseq, Option.getD_some, Option.isSome_some, Bool.and_true]
  rw [catOk (by first | omega | (simp only [List.length_append]; omega)), catOk (by first | omega | (simp only [List.length_append]; omega)), catOk (by first | omega | (simp only [List.length_append]; omega)), catOk (by first | omega | (simp only [List.length_append]; omega))]
  rfl

theorem face_bs (f : SFace) (h : f.sz ≤ 1048576) (ho : faceOk f = true) : M.s_l24Face f = some (faB f) := by
  obtain ⟨g1, g2, g3, g4, g5, g6, g7, g8, g9, g10, g11⟩ := lens h
  have hf := face_parts ho
  have hsz : ∀ k (hk : k < f.Funcs.length), f.Funcs[k].sz ≤ 1048576 := fun k hk => by rw [SFace.sz_eq] at h; have := szL_mem SFunc.sz _ _ (List.getElem_mem hk); omega
  have e := cat_loop (F := fun g i b => M.s_l24Face_l0 f g i b) (e := fuB) f.Funcs 1073741824 g5 (fun g k b hk hI => by
    show M.s_l24Face_l0 f (g + 1) (k : Int) b = _
    rw [M.s_l24Face_l0]
    simp only [SFunc.re_eq, getD_lt hk, func_bs _ (hsz k hk) (hf _ (List.getElem_mem hk)), List.map_id', lenB hI, Int.toNat_natCast, inB_nat, Int.ofNat_lt, hk, decide_true, cond_true, Bool.true_and, Bool.and_true, wrapk hk (big_of g5), Option.getD_some, Option.isSome_some]) (fun g b => by
    show M.s_l24Face_l0 f (g + 1) _ b = _
    rw [M.s_l24Face_l0]; simp) (((((pb f.Package ++ pb f.Name) ++ pb f.Version) ++ lbB f.Resources)) ++ lebB f.Funcs.length) (by simp only [List.length_append]; omega)
  have e' : M.s_l24Face_l0 f bigN 0 (((((pb f.Package ++ pb f.Name) ++ pb f.Version) ++ lbB f.Resources)) ++ lebB f.Funcs.length) = _ := e
  unfold M.s_l24Face
  simp only [bytes_s f.Package g1, bytes_s f.Name g2, bytes_s f.Version g3, labs_s f.Resources g4, leb_s _ g5, List.map_id', e', Option.getD_some, Option.isSome_some, Bool.and_true]
  rw [catOk (by first | omega | (simp only [List.length_append]; omega)), catOk (by first | omega | (simp only [List.length_append]; omega)), catOk (by first | omega | (simp only [List.length_append]; omega)), catOk (by first | omega | (simp only [List.length_append]; omega)), lenB (by simp only [List.length_append]; omega)]
  unfold faB
  simp [List.append_assoc]

theorem law_FaceBytes (x : SFace) (hx : x.Ok) : M.l_FnExactFaceBytes x = some true := by
  unfold M.l_FnExactFaceBytes
  have hsz := sz_Face x 1048576 hx (by omega) (by omega)
  rw [hsz]
  by_cases h : x.sz ≤ 1048576
  · have h' : ((x.sz : Nat) : Int) ≤ 1048576 := by omega
    have hn : decide ((1048576 : Int) - ((x.sz : Nat) : Int) < 0) = false := by rw [decide_eq_false_iff_not]; omega
    have hi : M.i_FaceBytes x = M.s_FaceBytes x ∧ ∃ s, M.s_FaceBytes x = some s := by
      have hso : M.s_FaceOk x = some (faceOk x) := by unfold M.s_FaceOk; rw [face_s x h]; rfl
      unfold M.i_FaceBytes M.s_FaceBytes
      rw [face_i x h, hso]
      cases ho : faceOk x
      · exact ⟨rfl, _, rfl⟩
      · rw [face_bi x h ho, face_bs x h ho]
        have hsh : ∃ s, M.s_l24Short (faB x) = some s := by
          unfold M.s_l24Short
          cases decide ((60000 : Int) < ((List.length (faB x)) : Int)) <;> exact ⟨_, rfl⟩
        obtain ⟨s, hs⟩ := hsh
        have hs' : M.i_short (faB x) = some s := hs
        simp only [Option.getD_some, Option.isSome_some, hs, hs', Bool.not_true, cond_false, Bool.and_true, cond_true]
        exact ⟨trivial, s, rfl⟩
    obtain ⟨e1, s, e2⟩ := hi
    have e3 := eq_Face x h
    simp only [if_pos h', Option.getD_some, hn, to_Face x h, e1, e2, e3, beq_self_eq_true, Option.isSome_some, Bool.and_true, Bool.not_true, cond_false, cond_true]
  · have h' : ¬ ((x.sz : Nat) : Int) ≤ 1048576 := by omega
    simp [h']
end M
