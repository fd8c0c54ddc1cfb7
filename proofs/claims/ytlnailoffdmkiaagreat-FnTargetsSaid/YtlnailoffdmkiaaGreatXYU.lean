/-
  THE DRAWERS: numbers from a source of bytes.
-/
import Derived.Test.YtlnailoffdmkiaaGreatXYT
set_option linter.unusedVariables false
set_option linter.unusedSimpArgs false
namespace M
open Go.V (inB slB catB bigN bigN_le)

structure SOk (s : Sl00Src) (m : Int) : Prop where
  c : s.code.length ≤ 1048576
  lo : 0 ≤ s.at_
  hi : s.at_ ≤ m
theorem SOk.up {s : Sl00Src} {m k : Int} (h : SOk s m) (hk : m ≤ k) : SOk s k := ⟨h.c, h.lo, by have := h.hi; omega⟩
theorem byte_and (x : Int) : 0 ≤ Go.IntKind.wrap .i64 (Go.V.bitsV .and .u64 x 255) := by
  have h : (BitVec.ofInt 64 x &&& BitVec.ofInt 64 255).toNat ≤ 255 := by
    rw [BitVec.toNat_and]
    exact Nat.and_le_right
  have e : Go.V.bitsV .and .u64 x 255 = (((BitVec.ofInt 64 x &&& BitVec.ofInt 64 255).toNat : Nat) : Int) := by
    unfold Go.V.bitsV
    show Go.IntKind.wrap .u64 (((BitVec.ofInt 64 x &&& BitVec.ofInt 64 255).toNat : Nat) : Int) = _
    exact Go.IntWalk.u64_in _ ⟨by omega, by omega⟩
  rw [e, wrap_i64 (by omega) (by omega)]
  omega
theorem next_ok {s : Sl00Src} {m : Int} (h : SOk s m) (hm : m ≤ 1000000000000) : ∃ v s', M.s_l00Src_next s = some (v, s') ∧ SOk s' (m + 1) ∧ 0 ≤ v := by
  obtain ⟨hc, hlo, hhi⟩ := h
  have hw : Go.IntKind.wrap .i64 (s.at_ + 1) = s.at_ + 1 := wrap_i64 (by omega) (by omega)
  have hin : ((inB s.at_ s.code.length && true) || !decide (s.at_ < ((s.code.length : Nat) : Int))) = true := by
    obtain ⟨n, hn⟩ := Int.eq_ofNat_of_zero_le hlo
    rw [hn, inB_nat, Bool.and_true]
    by_cases hh : n < s.code.length
    · rw [decide_eq_true hh]; rfl
    · rw [decide_eq_false hh, decide_eq_false (by omega)]; rfl
  unfold M.s_l00Src_next
  simp only [hw, hin, Bool.true_and, cond_true]
  have hv : (0 : Int) ≤ (bif decide (s.at_ < ((s.code.length : Nat) : Int)) then Go.IntKind.wrap .i64 (((s.code.getD s.at_.toNat 0).toNat : Nat) : Int) else 0) := by
    cases decide (s.at_ < ((s.code.length : Nat) : Int)) with
    | false => exact Int.le_refl _
    | true =>
      have := (s.code.getD s.at_.toNat 0).toNat_lt
      simp only [cond_true]
      rw [wrap_i64 (by omega) (by omega)]; omega
  cases decide (s.at_ + 1 ≤ ((s.code.length : Nat) : Int)) with
  | true => exact ⟨_, _, rfl, ⟨hc, by simp only []; omega, by simp only []; omega⟩, hv⟩
  | false => exact ⟨_, _, rfl, ⟨hc, by simp only []; omega, by simp only []; omega⟩, byte_and _⟩
theorem pick_ok {s : Sl00Src} {m : Int} (h : SOk s m) (hm : m ≤ 1000000000000) (n : Int) (h1 : 2 ≤ n) (h2 : n ≤ 200) : ∃ v s', M.s_l00Src_pick n s = some (v, s') ∧ SOk s' (m + 1) ∧ 0 ≤ v ∧ v < n := by
  obtain ⟨v, s', e, g1, g2⟩ := next_ok h hm
  unfold M.s_l00Src_pick
  rw [decide_eq_false (show ¬ n ≤ 1 by omega), decide_eq_false (show ¬ (200 : Int) < n by omega)]
  have hn : (n != 0) = true := by simp; omega
  simp only [e, hn, cond_false, Option.getD_some, Option.isSome_some, Bool.and_true, Bool.true_and, cond_true]
  exact ⟨_, _, rfl, g1, Int.tmod_nonneg _ g2, Int.tmod_lt_of_pos _ (by omega)⟩
theorem one_ok {s : Sl00Src} {m : Int} (h : SOk s m) (hm : m ≤ 1000000000000) (n : Int) (h1 : 2 ≤ n) (h2 : n ≤ 200) : ∃ v s', M.s_l00Src_one n s = some (v, s') ∧ SOk s' (m + 1) := by
  obtain ⟨v, s', e, g1, -⟩ := pick_ok h hm n h1 h2
  unfold M.s_l00Src_one
  simp only [e, Option.getD_some, Option.isSome_some, Bool.and_true, cond_true]
  exact ⟨_, _, rfl, g1⟩
theorem among_ok {s : Sl00Src} {m : Int} (h : SOk s m) (hm : m ≤ 1000000000000) (l : List Int) (h1 : 2 ≤ l.length) (h2 : l.length ≤ 200) : ∃ v s', M.s_l00Src_among l s = some (v, s') ∧ SOk s' (m + 1) := by
  obtain ⟨v, s', e, g1, g2, g3⟩ := pick_ok h hm (l.length : Int) (by omega) (by omega)
  unfold M.s_l00Src_among
  obtain ⟨k, rfl⟩ := Int.eq_ofNat_of_zero_le g2
  have hk : k < l.length := by omega
  have hin : inB (k : Int) l.length = true := by rw [inB_nat]; simpa using hk
  simp only [e, hin, Option.getD_some, Option.isSome_some, Bool.and_true, Bool.true_and, cond_true]
  exact ⟨_, _, rfl, g1⟩
theorem pick_any {s : Sl00Src} {m : Int} (h : SOk s m) (hm : m ≤ 1000000000000) (n : Int) (h2 : n ≤ 200) : ∃ v s', M.s_l00Src_pick n s = some (v, s') ∧ SOk s' (m + 1) ∧ 0 ≤ v ∧ (1 ≤ n → v < n) := by
  by_cases h1 : 2 ≤ n
  · obtain ⟨v, s', e, g1, g2, g3⟩ := pick_ok h hm n h1 h2
    exact ⟨v, s', e, g1, g2, fun _ => g3⟩
  · refine ⟨0, s, ?_, h.up (by omega), by omega, fun _ => by omega⟩
    unfold M.s_l00Src_pick
    rw [decide_eq_true (show n ≤ 1 by omega)]; rfl
theorem pick_big {s : Sl00Src} {m : Int} (h : SOk s m) (hm : m ≤ 100000000000) (n : Int) (h1 : 200 < n) : ∃ v s', M.s_l00Src_pick n s = some (v, s') ∧ SOk s' (m + 2) := by
  obtain ⟨v, s1, e1, g1, -⟩ := next_ok h (by omega)
  obtain ⟨w, s2, e2, g2, -⟩ := next_ok g1 (by omega)
  unfold M.s_l00Src_pick
  rw [decide_eq_false (show ¬ n ≤ 1 by omega), decide_eq_true h1]
  have hn : (n != 0) = true := by simp; omega
  simp only [e1, e2, hn, cond_false, cond_true, Option.getD_some, Option.isSome_some, Bool.and_true, Bool.true_and]
  exact ⟨_, _, rfl, g2.up (by omega)⟩
theorem const_ok {s : Sl00Src} {m : Int} (h : SOk s m) (hm : m ≤ 100000000000) : ∃ v s', M.s_l15Const s = some (v, s') ∧ SOk s' (m + 2) := by
  obtain ⟨v, s1, e1, g1, -⟩ := pick_ok h (by omega) 200 (by omega) (by omega)
  unfold M.s_l15Const
  simp only [e1, Option.getD_some, Option.isSome_some, Bool.and_true]
  generalize hl : [(0 : Int), (1 : Int), (2 : Int), (3 : Int), (5 : Int), (7 : Int), (10 : Int), (-(1 : Int)), (-(3 : Int)), (64 : Int), (255 : Int), (256 : Int), (1099511627776 : Int), (9223372036854775807 : Int), (-(9223372036854775808 : Int)), v] = l
  have hn : l.length = 16 := by rw [← hl]; rfl
  obtain ⟨w, s2, e2, g2⟩ := among_ok g1 (by omega) l (by omega) (by omega)
  simp only [e2, Option.getD_some, Option.isSome_some, cond_true]
  exact ⟨w, s2, rfl, g2.up (by omega)⟩
theorem ctP {α : Type} (a b : α) : (bif true then a else b) = a := id rfl
theorem cfP {α : Type} (a b : α) : (bif false then a else b) = b := id rfl
theorem le30 {a : Nat} (h : a ≤ 100000) : decide (a ≤ 1073741824) = true := decide_eq_true (by omega)
end M
/-
  THE DRAWERS: code that pushes a value is short.
-/
set_option linter.unusedVariables false
set_option linter.unusedSimpArgs false
namespace M
open Go.V (inB slB catB bigN bigN_le)

abbrev RecV := Int → Int → Sl00Src → Option (Sl00Src × List SIns)
def VaI (rec : RecV) (d L : Nat) (Z : Int) : Prop := ∀ (locals : Int) (s : Sl00Src) (m : Int), locals ≤ 200 → SOk s m → m + Z ≤ 10000000000 → ∃ s' l, rec locals (d : Int) s = some (s', l) ∧ SOk s' (m + Z) ∧ l.length ≤ L
theorem value_zero (rec : RecV) : VaI (M.s_l15Value_b rec) 0 1 4 := fun locals s m hlo hs hm => by
  have pk := @pick_any
  have on := @one_ok
  have co := @const_ok
  unfold M.s_l15Value_b
  generalize M.s_l00Src_pick = P at pk ⊢
  generalize M.s_l00Src_one = O at on ⊢
  generalize M.s_l15Const = C at co ⊢
  have hz : (((0 : Nat) : Int) == 0) = true := rfl
  simp only [hz, ctP, beq_self_eq_true, Bool.and_true, Bool.true_and, Bool.and_self]
  cases hl : decide ((0 : Int) < locals) with
  | true =>
    obtain ⟨b, s1, e1, g1⟩ := on hs (by omega) 2 (by omega) (by omega)
    simp only [ctP, e1, Option.getD_some, Option.isSome_some, beq_self_eq_true, Bool.and_true, Bool.true_and, Bool.and_self]
    cases b with
    | true =>
      obtain ⟨v, s2, e2, g2, -, -⟩ := pk g1 (by omega) locals hlo
      simp only [ctP, e2, Option.getD_some, Option.isSome_some, Bool.and_self]
      exact ⟨_, _, rfl, g2.up (by omega), by simp⟩
    | false =>
      obtain ⟨v, s2, e2, g2⟩ := co g1 (by omega)
      simp only [ctP, cfP, e2, Option.getD_some, Option.isSome_some, Bool.and_self]
      exact ⟨_, _, rfl, g2.up (by omega), by simp⟩
  | false =>
    obtain ⟨v, s2, e2, g2⟩ := co hs (by omega)
    simp only [ctP, cfP, e2, Option.getD_some, Option.isSome_some, beq_self_eq_true, Bool.and_self]
    exact ⟨_, _, rfl, g2.up (by omega), by simp⟩
theorem value_step (rec : RecV) (d L : Nat) (Z : Int) (hL1 : 1 ≤ L) (hL : L ≤ 1000) (hZ0 : 0 ≤ Z) (hZ : Z ≤ 1000) (hd : d ≤ 100) (hrec : VaI rec d L Z) : VaI (M.s_l15Value_b rec) (d + 1) (3 * L + 3) (3 * Z + 6) := fun locals s m hlo hs hm => by
  have pk := @pick_any
  have on := @one_ok
  have co := @const_ok
  have am := @among_ok
  unfold M.s_l15Value_b
  generalize M.s_l00Src_pick = P at pk ⊢
  generalize M.s_l00Src_one = O at on ⊢
  generalize M.s_l15Const = C at co ⊢
  generalize M.s_l00Src_among = G at am ⊢
  have hz : (((d + 1 : Nat) : Int) == 0) = false := by rw [beq_eq_false_iff_ne]; omega
  obtain ⟨b, s1, e1, g1⟩ := on hs (by omega) 3 (by omega) (by omega)
  simp only [hz, e1, cfP, Option.getD_some, Option.isSome_some, beq_self_eq_true, Bool.and_true, Bool.true_and, Bool.and_self]
  cases b with
  | true =>
    cases hl : decide ((0 : Int) < locals) with
    | true =>
      obtain ⟨b2, s2, e2, g2⟩ := on g1 (by omega) 2 (by omega) (by omega)
      simp only [ctP, e2, Option.getD_some, Option.isSome_some, beq_self_eq_true, Bool.and_true, Bool.true_and, Bool.and_self]
      cases b2 with
      | true =>
        obtain ⟨v, s3, e3, g3, -, -⟩ := pk g2 (by omega) locals hlo
        simp only [ctP, e3, Option.getD_some, Option.isSome_some, Bool.and_self]
        exact ⟨_, _, rfl, g3.up (by omega), by (try simp only [List.length_append, List.length_cons, List.length_nil]); omega⟩
      | false =>
        obtain ⟨v, s3, e3, g3⟩ := co g2 (by omega)
        simp only [ctP, cfP, e3, Option.getD_some, Option.isSome_some, Bool.and_self]
        exact ⟨_, _, rfl, g3.up (by omega), by (try simp only [List.length_append, List.length_cons, List.length_nil]); omega⟩
    | false =>
      obtain ⟨v, s3, e3, g3⟩ := co g1 (by omega)
      simp only [ctP, cfP, e3, Option.getD_some, Option.isSome_some, beq_self_eq_true, Bool.and_self]
      exact ⟨_, _, rfl, g3.up (by omega), by (try simp only [List.length_append, List.length_cons, List.length_nil]); omega⟩
  | false =>
    obtain ⟨s2, l2, e2, g2, n2⟩ := hrec locals s1 _ hlo g1 (by omega)
    obtain ⟨k, s3, e3, g3, k0, k8⟩ := pk g2 (by omega) 8 (by omega)
    have hw : Go.IntKind.wrap .i64 (((d + 1 : Nat) : Int) - 1) = (d : Int) := by rw [wrap_i64 (by omega) (by omega)]; omega
    simp only [cfP, hw, e2, e3, Option.getD_some, Option.isSome_some, beq_self_eq_true, Bool.and_true, Bool.true_and, Bool.and_self]
    cases h0 : (k == 0) with
    | true =>
      simp (disch := ((try simp only [List.length_append, List.length_cons, List.length_nil]); omega)) only [ctP, cfP, le30, Option.getD_some, Option.isSome_some, beq_self_eq_true, Bool.and_true, Bool.true_and, Bool.and_self]
      exact ⟨_, _, rfl, g3.up (by omega), by (try simp only [List.length_append, List.length_cons, List.length_nil]); omega⟩
    | false =>
    simp only [cfP]
    cases h1 : (k == 1) with
    | true =>
      obtain ⟨w, s4, e4, g4⟩ := am g3 (by omega) [(34 : Int), (35 : Int), (36 : Int)] (by decide) (by decide)
      obtain ⟨v, s5, e5, g5, -, -⟩ := pk g4 (by omega) 20 (by omega)
      simp (disch := ((try simp only [List.length_append, List.length_cons, List.length_nil]); omega)) only [ctP, cfP, le30, e4, e5, Option.getD_some, Option.isSome_some, beq_self_eq_true, Bool.and_true, Bool.true_and, Bool.and_self]
      exact ⟨_, _, rfl, g5.up (by omega), by (try simp only [List.length_append, List.length_cons, List.length_nil]); omega⟩
    | false =>
    simp only [cfP]
    cases h2 : (k == 2) with
    | true =>
      simp only [ctP]
      cases hl : decide ((0 : Int) < locals) with
      | true =>
        obtain ⟨v, s4, e4, g4, -, -⟩ := pk g3 (by omega) locals hlo
        simp (disch := ((try simp only [List.length_append, List.length_cons, List.length_nil]); omega)) only [ctP, cfP, le30, e4, Option.getD_some, Option.isSome_some, beq_self_eq_true, Bool.and_true, Bool.true_and, Bool.and_self]
        exact ⟨_, _, rfl, g4.up (by omega), by (try simp only [List.length_append, List.length_cons, List.length_nil]); omega⟩
      | false =>
        obtain ⟨s4, l4, e4, g4, n4⟩ := hrec locals s3 _ hlo g3 (by omega)
        obtain ⟨v, s5, e5, g5, -, -⟩ := pk g4 (by omega) 16 (by omega)
        simp (disch := ((try simp only [List.length_append, List.length_cons, List.length_nil]); omega)) only [ctP, cfP, le30, e4, e5, Option.getD_some, Option.isSome_some, beq_self_eq_true, Bool.and_true, Bool.true_and, Bool.and_self]
        exact ⟨_, _, rfl, g5.up (by omega), by (try simp only [List.length_append, List.length_cons, List.length_nil]); omega⟩
    | false =>
    simp only [cfP]
    cases h3 : (k == 3) with
    | true =>
      obtain ⟨s4, l4, e4, g4, n4⟩ := hrec locals s3 _ hlo g3 (by omega)
      obtain ⟨s5, l5, e5, g5, n5⟩ := hrec locals s4 _ hlo g4 (by omega)
      simp (disch := ((try simp only [List.length_append, List.length_cons, List.length_nil]); omega)) only [ctP, cfP, le30, e4, e5, Option.getD_some, Option.isSome_some, beq_self_eq_true, Bool.and_true, Bool.true_and, Bool.and_self]
      exact ⟨_, _, rfl, g5.up (by omega), by (try simp only [List.length_append, List.length_cons, List.length_nil]); omega⟩
    | false =>
    simp only [cfP]
    cases h4 : (k == 4) with
    | true =>
      obtain ⟨s4, l4, e4, g4, n4⟩ := hrec locals s3 _ hlo g3 (by omega)
      obtain ⟨s5, l5, e5, g5, n5⟩ := hrec locals s4 _ hlo g4 (by omega)
      simp (disch := ((try simp only [List.length_append, List.length_cons, List.length_nil]); omega)) only [ctP, cfP, le30, e4, e5, Option.getD_some, Option.isSome_some, beq_self_eq_true, Bool.and_true, Bool.true_and, Bool.and_self]
      exact ⟨_, _, rfl, g5.up (by omega), by (try simp only [List.length_append, List.length_cons, List.length_nil]); omega⟩
    | false =>
      obtain ⟨s4, l4, e4, g4, n4⟩ := hrec locals s3 _ hlo g3 (by omega)
      obtain ⟨v, s5, e5, g5, -, -⟩ := pk g4 (by omega) 16 (by omega)
      simp (disch := ((try simp only [List.length_append, List.length_cons, List.length_nil]); omega)) only [ctP, cfP, le30, e4, e5, Option.getD_some, Option.isSome_some, beq_self_eq_true, Bool.and_true, Bool.true_and, Bool.and_self]
      exact ⟨_, _, rfl, g5.up (by omega), by (try simp only [List.length_append, List.length_cons, List.length_nil]); omega⟩
theorem value_n : ∀ k : Nat, VaI (M.s_l15Value_n (k + 1)) 0 1 4 ∧ VaI (M.s_l15Value_n (k + 2)) 1 6 18 ∧ VaI (M.s_l15Value_n (k + 3)) 2 21 60 := fun k => by
  have h0 : ∀ j, VaI (M.s_l15Value_n (j + 1)) 0 1 4 := fun j => value_zero _
  have h1 : ∀ j, VaI (M.s_l15Value_n (j + 2)) 1 6 18 := fun j => value_step _ 0 1 4 (by omega) (by omega) (by omega) (by omega) (by omega) (h0 j)
  exact ⟨h0 k, h1 k, value_step _ 1 6 18 (by omega) (by omega) (by omega) (by omega) (by omega) (h1 k)⟩
theorem big_3 : ∃ k, bigN = k + 3 := ⟨bigN - 3, by have := bigN_le; omega⟩
theorem value1 : VaI M.s_l15Value 1 6 18 := by
  obtain ⟨k, hk⟩ := big_3
  unfold M.s_l15Value
  rw [hk]
  exact (value_n (k + 1)).2.1
theorem value2 : VaI M.s_l15Value 2 21 60 := by
  obtain ⟨k, hk⟩ := big_3
  unfold M.s_l15Value
  rw [hk]
  exact (value_n k).2.2
end M
/-
  THE DRAWERS: calls and deeds are short.
-/
set_option linter.unusedVariables false
set_option linter.unusedSimpArgs false
namespace M
open Go.V (inB slB catB bigN bigN_le)
structure CaI (o1 : List SImport) (o2 : List SCore) : Prop where
  i : o1.length ≤ 100
  c : o2.length ≤ 100
  c1 : 1 ≤ o2.length
  ip : ∀ x ∈ o1, 0 ≤ x.Params ∧ x.Params ≤ 2
  cp : ∀ x ∈ o2, 0 ≤ x.Params ∧ x.Params ≤ 2
theorem getD_mem {α : Type} {l : List α} {k : Nat} (d : α) (h : k < l.length) : l.getD k d ∈ l := by rw [getD_lt h]; exact List.getElem_mem h
theorem calls_loop (locals : Int) (hlo : locals ≤ 200) (n : Nat) (hn : n ≤ 2) (w : Bool) (i : SIns) : ∀ (r : Nat) (f : Nat) (s : Sl00Src) (a : List SIns) (m : Int), r ≤ n → r < f → SOk s m → m + 18 * r ≤ 1000000000 → a.length + 6 * r ≤ 1000 →
    ∃ s' a', M.s_l15Calls_l0 locals (n : Int) w i f ((n - r : Nat) : Int) s a = some (w, s'.code, s'.at_, s'.seed, i, a') ∧ SOk s' (m + 18 * r) ∧ a'.length ≤ a.length + 6 * r
  | 0, f, s, a, m, h1, h2, hs, hm, ha => by
    obtain ⟨f, rfl⟩ : ∃ g, f = g + 1 := ⟨f - 1, by omega⟩
    rw [M.s_l15Calls_l0]
    simp only [Nat.sub_zero, Int.lt_irrefl, decide_false, cfP]
    exact ⟨s, a, rfl, hs.up (by omega), by omega⟩
  | r + 1, f, s, a, m, h1, h2, hs, hm, ha => by
    obtain ⟨f, rfl⟩ : ∃ g, f = g + 1 := ⟨f - 1, by omega⟩
    obtain ⟨s1, l1, e1, g1, n1⟩ := value1 locals s m hlo hs (by omega)
    have e1' : M.s_l15Value locals 1 s = some (s1, l1) := e1
    have hk : decide ((((n - (r + 1) : Nat) : Nat) : Int) < (n : Int)) = true := decide_eq_true (by omega)
    have hw : Go.IntKind.wrap .i64 ((((n - (r + 1) : Nat) : Nat) : Int) + 1) = ((n - r : Nat) : Int) := by rw [wrap_i64 (by omega) (by omega)]; omega
    obtain ⟨s2, a2, e2, g2, n2⟩ := calls_loop locals hlo n hn w i r f s1 (a ++ l1) (m + 18) (by omega) (by omega) g1 (by omega) (by rw [List.length_append]; omega)
    rw [M.s_l15Calls_l0]
    simp (disch := ((try simp only [List.length_append, List.length_cons, List.length_nil]); omega)) only [ctP, cfP, le30, hk, hw, e1', Option.getD_some, Option.isSome_some, beq_self_eq_true, Bool.and_true, Bool.true_and, Bool.and_self, Bool.true_or, Bool.or_true]
    refine ⟨s2, a2, e2, g2.up (by omega), ?_⟩
    rw [List.length_append] at n2; omega
theorem calls_run {o1 : List SImport} {o2 : List SCore} (locals : Int) (hlo : locals ≤ 200) (p : Int) (h0 : 0 ≤ p) (h2 : p ≤ 2) (w : Bool) (i : SIns) {s : Sl00Src} {m : Int} (hs : SOk s m) (hm : m ≤ 900000000) :
    ∃ s' a', M.s_l15Calls_l0 locals p w i bigN 0 s [] = some (w, s'.code, s'.at_, s'.seed, i, a') ∧ SOk s' (m + 36) ∧ a'.length ≤ 12 := by
  obtain ⟨n, rfl⟩ := Int.eq_ofNat_of_zero_le h0
  obtain ⟨s', a', e, g, hl⟩ := calls_loop locals hlo n (by omega) w i n bigN s [] m (Nat.le_refl _) (by have := bigN_le; omega) hs (by omega) (by simp only [List.length_nil]; omega)
  rw [Nat.sub_self] at e
  refine ⟨s', a', e, g.up (by omega), ?_⟩
  simp only [List.length_nil] at hl; omega
theorem calls_ok {o1 : List SImport} {o2 : List SCore} (hc : CaI o1 o2) (mm locals : Int) (hlo : locals ≤ 200) {s : Sl00Src} {m : Int} (hs : SOk s m) (hm : m ≤ 100000000) :
    ∃ s' l, M.s_l15Calls mm locals s o1 o2 = some (s', o1, o2, l) ∧ SOk s' (m + 40) ∧ l.length ≤ 14 := by
  have pk := @pick_any
  have on := @one_ok
  have run := fun p w i s m h0 h2 hs hm => @calls_run o1 o2 locals hlo p h0 h2 w i s m hs hm
  have hi := hc.i
  have h2l := hc.c
  have h21 := hc.c1
  unfold M.s_l15Calls
  generalize M.s_l00Src_pick = P at pk ⊢
  generalize M.s_l00Src_one = O at on ⊢
  cases h0 : decide ((0 : Int) < ((o1.length : Nat) : Int)) with
  | true =>
    have h0' : 0 < o1.length := by have := of_decide_eq_true h0; omega
    obtain ⟨b, s1, e1, g1⟩ := on hs (by omega) 2 (by omega) (by omega)
    simp only [ctP, e1, Option.getD_some, Option.isSome_some, beq_self_eq_true, Bool.and_true, Bool.true_and, Bool.and_self]
    cases b with
    | true =>
      obtain ⟨v, s2, e2, g2, v0, v1⟩ := pk g1 (by omega) (o1.length : Int) (by omega)
      obtain ⟨j, rfl⟩ := Int.eq_ofNat_of_zero_le v0
      have hj : j < o1.length := by have := v1 (by omega); omega
      have hin : inB (j : Int) o1.length = true := by rw [inB_nat]; simpa using hj
      have hp := hc.ip _ (getD_mem SImport.zero hj)
      obtain ⟨s3, a3, e3, g3, n3⟩ := run _ (o1.getD j SImport.zero).Result (SIns.mk 33 (j : Int)) s2 _ hp.1 hp.2 g2 (by omega)
      simp only [ctP, e2, e3, Int.toNat_natCast, Option.getD_some]
      cases (o1.getD j SImport.zero).Result with
      | true =>
        simp (disch := ((try simp only [List.length_append, List.length_cons, List.length_nil]); omega)) only [ctP, cfP, le30, hin, Option.getD_some, Option.isSome_some, beq_self_eq_true, Bool.and_true, Bool.true_and, Bool.and_self, Bool.true_or, Bool.or_true]
        exact ⟨s3, _, rfl, g3.up (by omega), by (try simp only [List.length_append, List.length_cons, List.length_nil]); omega⟩
      | false =>
        simp (disch := ((try simp only [List.length_append, List.length_cons, List.length_nil]); omega)) only [ctP, cfP, le30, hin, Option.getD_some, Option.isSome_some, beq_self_eq_true, Bool.and_true, Bool.true_and, Bool.and_self, Bool.true_or, Bool.or_true]
        exact ⟨s3, _, rfl, g3.up (by omega), by (try simp only [List.length_append, List.length_cons, List.length_nil]); omega⟩
    | false =>
      obtain ⟨v, s2, e2, g2, v0, v1⟩ := pk g1 (by omega) (o2.length : Int) (by omega)
      obtain ⟨j, rfl⟩ := Int.eq_ofNat_of_zero_le v0
      have hj : j < o2.length := by have := v1 (by omega); omega
      have hin : inB (j : Int) o2.length = true := by rw [inB_nat]; simpa using hj
      have hp := hc.cp _ (getD_mem SCore.zero hj)
      obtain ⟨s3, a3, e3, g3, n3⟩ := run _ (o2.getD j SCore.zero).Result (SIns.mk 32 (j : Int)) s2 _ hp.1 hp.2 g2 (by omega)
      simp only [cfP, e2, e3, Int.toNat_natCast, Option.getD_some]
      cases (o2.getD j SCore.zero).Result with
      | true =>
        simp (disch := ((try simp only [List.length_append, List.length_cons, List.length_nil]); omega)) only [ctP, cfP, le30, hin, Option.getD_some, Option.isSome_some, beq_self_eq_true, Bool.and_true, Bool.true_and, Bool.and_self, Bool.true_or, Bool.or_true]
        exact ⟨s3, _, rfl, g3.up (by omega), by (try simp only [List.length_append, List.length_cons, List.length_nil]); omega⟩
      | false =>
        simp (disch := ((try simp only [List.length_append, List.length_cons, List.length_nil]); omega)) only [ctP, cfP, le30, hin, Option.getD_some, Option.isSome_some, beq_self_eq_true, Bool.and_true, Bool.true_and, Bool.and_self, Bool.true_or, Bool.or_true]
        exact ⟨s3, _, rfl, g3.up (by omega), by (try simp only [List.length_append, List.length_cons, List.length_nil]); omega⟩
  | false =>
    obtain ⟨v, s2, e2, g2, v0, v1⟩ := pk hs (by omega) (o2.length : Int) (by omega)
    obtain ⟨j, rfl⟩ := Int.eq_ofNat_of_zero_le v0
    have hj : j < o2.length := by have := v1 (by omega); omega
    have hin : inB (j : Int) o2.length = true := by rw [inB_nat]; simpa using hj
    have hp := hc.cp _ (getD_mem SCore.zero hj)
    obtain ⟨s3, a3, e3, g3, n3⟩ := run _ (o2.getD j SCore.zero).Result (SIns.mk 32 (j : Int)) s2 _ hp.1 hp.2 g2 (by omega)
    simp only [cfP, e2, e3, Int.toNat_natCast, Option.getD_some]
    cases (o2.getD j SCore.zero).Result with
    | true =>
      simp (disch := ((try simp only [List.length_append, List.length_cons, List.length_nil]); omega)) only [ctP, cfP, le30, hin, Option.getD_some, Option.isSome_some, beq_self_eq_true, Bool.and_true, Bool.true_and, Bool.and_self, Bool.true_or, Bool.or_true]
      exact ⟨s3, _, rfl, g3.up (by omega), by (try simp only [List.length_append, List.length_cons, List.length_nil]); omega⟩
    | false =>
      simp (disch := ((try simp only [List.length_append, List.length_cons, List.length_nil]); omega)) only [ctP, cfP, le30, hin, Option.getD_some, Option.isSome_some, beq_self_eq_true, Bool.and_true, Bool.true_and, Bool.and_self, Bool.true_or, Bool.or_true]
      exact ⟨s3, _, rfl, g3.up (by omega), by (try simp only [List.length_append, List.length_cons, List.length_nil]); omega⟩

abbrev RecE := Int → Int → Int → Sl00Src → List SImport → List SCore → Option (Sl00Src × List SImport × List SCore × List SIns)
def DeI (rec : RecE) (d L : Nat) (Z : Int) : Prop := ∀ (mm locals : Int) (s : Sl00Src) (o1 : List SImport) (o2 : List SCore) (m : Int), CaI o1 o2 → locals ≤ 200 → SOk s m → m + Z ≤ 10000000 → ∃ s' l, rec mm locals (d : Int) s o1 o2 = some (s', o1, o2, l) ∧ SOk s' (m + Z) ∧ l.length ≤ L
theorem deed_step (rec : RecE) (d L : Nat) (Z : Int) (hL1 : 23 ≤ L) (hL : L ≤ 1000) (hZ0 : 70 ≤ Z) (hZ : Z ≤ 1000) (hd : d ≤ 100) (hrec : 1 ≤ d → DeI rec (d - 1) (L - 10) (Z - 70)) : DeI (M.s_l15Deed_b rec) d L Z := fun mm locals s o1 o2 m hc hlo hs hm => by
  have pk := @pick_any
  have pb := @pick_big
  have am := @among_ok
  have v1 := value1
  have v2 := value2
  have ca := fun (s : Sl00Src) (m : Int) (hs : SOk s m) (hm : m ≤ 100000000) => calls_ok hc mm locals hlo hs hm
  unfold M.s_l15Deed_b
  generalize M.s_l00Src_pick = P at pk pb ⊢
  generalize M.s_l00Src_among = G at am ⊢
  generalize M.s_l15Value = V at v1 v2 ⊢
  generalize M.s_l15Calls = C at ca ⊢
  have v1' : ∀ (s : Sl00Src) (m : Int), SOk s m → m ≤ 1000000000 → ∃ s' l, V locals 1 s = some (s', l) ∧ SOk s' (m + 18) ∧ l.length ≤ 6 := fun s m hs hm => v1 locals s m hlo hs (by omega)
  have v2' : ∀ (s : Sl00Src) (m : Int), SOk s m → m ≤ 1000000000 → ∃ s' l, V locals 2 s = some (s', l) ∧ SOk s' (m + 60) ∧ l.length ≤ 21 := fun s m hs hm => v2 locals s m hlo hs (by omega)
  obtain ⟨k, s1, e1, g1, k0, k9⟩ := pk hs (by omega) 9 (by omega)
  simp only [e1, Option.getD_some, Option.isSome_some, Bool.and_true, Bool.true_and, Bool.and_self, Bool.true_or]
  obtain ⟨sv, lv, ev, gv, nv⟩ := v2' s1 _ g1 (by omega)
  have hdz : decide ((0 : Int) < (d : Int)) = decide (0 < d) := by simp only [decide_eq_decide]; omega
  rw [hdz]
  cases h01 : (bif (k == 0) then (k == 0) else (k == 1)) with
  | true =>
    simp only [ctP]
    cases hl : decide ((0 : Int) < locals) with
    | true =>
      obtain ⟨v, s3, e3, g3, -, -⟩ := pk gv (by omega) locals hlo
      simp (disch := ((try simp only [List.length_append, List.length_cons, List.length_nil]); omega)) only [ctP, cfP, le30, ev, e3, h01, Option.getD_some, Option.isSome_some, beq_self_eq_true, Bool.and_true, Bool.true_and, Bool.and_self, Bool.true_or, Bool.or_true]
      exact ⟨s3, _, rfl, g3.up (by omega), by (try simp only [List.length_append, List.length_cons, List.length_nil]); omega⟩
    | false =>
      simp (disch := ((try simp only [List.length_append, List.length_cons, List.length_nil]); omega)) only [ctP, cfP, le30, ev, h01, Option.getD_some, Option.isSome_some, beq_self_eq_true, Bool.and_true, Bool.true_and, Bool.and_self, Bool.true_or, Bool.or_true]
      exact ⟨sv, _, rfl, gv.up (by omega), by (try simp only [List.length_append, List.length_cons, List.length_nil]); omega⟩
  | false =>
  simp only [cfP]
  cases h2 : (k == 2) with
  | true =>
    obtain ⟨v, s2, e2, g2⟩ := pb g1 (by omega) 250 (by omega)
    obtain ⟨s3, l3, e3, g3, n3⟩ := v2' s2 _ g2 (by omega)
    obtain ⟨w, s4, e4, g4⟩ := am g3 (by omega) [(37 : Int), (38 : Int), (39 : Int)] (by decide) (by decide)
    obtain ⟨u, s5, e5, g5, -, -⟩ := pk g4 (by omega) 9 (by omega)
    simp (disch := ((try simp only [List.length_append, List.length_cons, List.length_nil]); omega)) only [ctP, cfP, le30, e2, e3, e4, e5, Option.getD_some, Option.isSome_some, beq_self_eq_true, Bool.and_true, Bool.true_and, Bool.and_self, Bool.true_or, Bool.or_true]
    exact ⟨s5, _, rfl, g5.up (by omega), by (try simp only [List.length_append, List.length_cons, List.length_nil]); omega⟩
  | false =>
  simp only [cfP]
  cases h3 : (k == 3) with
  | true =>
    simp only [ctP]
    cases hdd : decide (0 < d) with
    | true =>
      have hd1 : 0 < d := of_decide_eq_true hdd
      have hw : Go.IntKind.wrap .i64 ((d : Int) - 1) = ((d - 1 : Nat) : Int) := by rw [wrap_i64 (by omega) (by omega)]; omega
      obtain ⟨s2, l2, e2, g2, n2⟩ := v1' s1 _ g1 (by omega)
      obtain ⟨s3, l3, e3, g3, n3⟩ := hrec hd1 mm locals s2 o1 o2 _ hc hlo g2 (by omega)
      simp (disch := ((try simp only [List.length_append, List.length_cons, List.length_nil]); omega)) only [ctP, cfP, le30, hw, e2, e3, Option.getD_some, Option.isSome_some, beq_self_eq_true, Bool.and_true, Bool.true_and, Bool.and_self, Bool.true_or, Bool.or_true]
      exact ⟨s3, _, rfl, g3.up (by omega), by (try simp only [List.length_append, List.length_cons, List.length_nil]); omega⟩
    | false =>
      simp (disch := ((try simp only [List.length_append, List.length_cons, List.length_nil]); omega)) only [ctP, cfP, le30, ev, h01, Option.getD_some, Option.isSome_some, beq_self_eq_true, Bool.and_true, Bool.true_and, Bool.and_self, Bool.true_or, Bool.or_true]
      exact ⟨sv, _, rfl, gv.up (by omega), by (try simp only [List.length_append, List.length_cons, List.length_nil]); omega⟩
  | false =>
  simp only [cfP]
  cases h4 : (k == 4) with
  | true =>
    simp only [ctP]
    cases hdd : (decide (0 < d) && decide ((0 : Int) < locals)) with
    | true =>
      have hd1 : 0 < d := by rw [Bool.and_eq_true] at hdd; exact of_decide_eq_true hdd.1
      have hw : Go.IntKind.wrap .i64 ((d : Int) - 1) = ((d - 1 : Nat) : Int) := by rw [wrap_i64 (by omega) (by omega)]; omega
      obtain ⟨v, s2, e2, g2, -, -⟩ := pk g1 (by omega) locals hlo
      obtain ⟨u, s3, e3, g3, -, -⟩ := pk g2 (by omega) 3 (by omega)
      obtain ⟨s4, l4, e4, g4, n4⟩ := hrec hd1 mm locals s3 o1 o2 _ hc hlo g3 (by omega)
      simp (disch := ((try simp only [List.length_append, List.length_cons, List.length_nil]); omega)) only [ctP, cfP, le30, hw, e2, e3, e4, Option.getD_some, Option.isSome_some, beq_self_eq_true, Bool.and_true, Bool.true_and, Bool.and_self, Bool.true_or, Bool.or_true]
      exact ⟨s4, _, rfl, g4.up (by omega), by (try simp only [List.length_append, List.length_cons, List.length_nil]); omega⟩
    | false =>
      simp (disch := ((try simp only [List.length_append, List.length_cons, List.length_nil]); omega)) only [ctP, cfP, le30, ev, h01, Option.getD_some, Option.isSome_some, beq_self_eq_true, Bool.and_true, Bool.true_and, Bool.and_self, Bool.true_or, Bool.or_true]
      exact ⟨sv, _, rfl, gv.up (by omega), by (try simp only [List.length_append, List.length_cons, List.length_nil]); omega⟩
  | false =>
  simp only [cfP]
  cases h5 : (k == 5) with
  | true =>
    simp only [ctP]
    cases hdd : decide (0 < d) with
    | true =>
      have hd1 : 0 < d := of_decide_eq_true hdd
      have hw : Go.IntKind.wrap .i64 ((d : Int) - 1) = ((d - 1 : Nat) : Int) := by rw [wrap_i64 (by omega) (by omega)]; omega
      obtain ⟨s2, l2, e2, g2, n2⟩ := v1' s1 _ g1 (by omega)
      obtain ⟨s3, l3, e3, g3, n3⟩ := hrec hd1 mm locals s2 o1 o2 _ hc hlo g2 (by omega)
      simp (disch := ((try simp only [List.length_append, List.length_cons, List.length_nil]); omega)) only [ctP, cfP, le30, hw, e2, e3, Option.getD_some, Option.isSome_some, beq_self_eq_true, Bool.and_true, Bool.true_and, Bool.and_self, Bool.true_or, Bool.or_true]
      exact ⟨s3, _, rfl, g3.up (by omega), by (try simp only [List.length_append, List.length_cons, List.length_nil]); omega⟩
    | false =>
      simp (disch := ((try simp only [List.length_append, List.length_cons, List.length_nil]); omega)) only [ctP, cfP, le30, ev, h01, Option.getD_some, Option.isSome_some, beq_self_eq_true, Bool.and_true, Bool.true_and, Bool.and_self, Bool.true_or, Bool.or_true]
      exact ⟨sv, _, rfl, gv.up (by omega), by (try simp only [List.length_append, List.length_cons, List.length_nil]); omega⟩
  | false =>
  simp only [cfP]
  cases h6 : (k == 6) with
  | true =>
    obtain ⟨s2, l2, e2, g2, n2⟩ := ca s1 _ g1 (by omega)
    simp (disch := ((try simp only [List.length_append, List.length_cons, List.length_nil]); omega)) only [ctP, cfP, le30, e2, Option.getD_some, Option.isSome_some, beq_self_eq_true, Bool.and_true, Bool.true_and, Bool.and_self, Bool.true_or, Bool.or_true]
    exact ⟨s2, _, rfl, g2.up (by omega), by omega⟩
  | false =>
    simp (disch := ((try simp only [List.length_append, List.length_cons, List.length_nil]); omega)) only [ctP, cfP, le30, ev, h01, Option.getD_some, Option.isSome_some, beq_self_eq_true, Bool.and_true, Bool.true_and, Bool.and_self, Bool.true_or, Bool.or_true]
    exact ⟨sv, _, rfl, gv.up (by omega), by (try simp only [List.length_append, List.length_cons, List.length_nil]); omega⟩
theorem deed_n : ∀ k : Nat, DeI (M.s_l15Deed_n (k + 3)) 2 43 210 := fun k => by
  have h0 : ∀ j, DeI (M.s_l15Deed_n (j + 1)) 0 23 70 := fun j => deed_step _ 0 23 70 (by omega) (by omega) (by omega) (by omega) (by omega) (fun h => absurd h (by omega))
  have h1 : ∀ j, DeI (M.s_l15Deed_n (j + 2)) 1 33 140 := fun j => deed_step _ 1 33 140 (by omega) (by omega) (by omega) (by omega) (by omega) (fun _ => h0 j)
  exact deed_step _ 2 43 210 (by omega) (by omega) (by omega) (by omega) (by omega) (fun _ => h1 k)
theorem deed2 : DeI M.s_l15Deed 2 43 210 := by
  obtain ⟨k, hk⟩ := big_3
  unfold M.s_l15Deed
  rw [hk]
  exact deed_n k
end M
/-
  THE DRAWERS: a drawn module is small; what the law is handed is valid.
-/
set_option linter.unusedVariables false
set_option linter.unusedSimpArgs false
namespace M
open Go.V (inB slB catB bigN bigN_le)

def imB (x : SImport) : Prop := (0 ≤ x.Params ∧ x.Params ≤ 2) ∧ x.Name.length ≤ 10
def coB (B : Nat) (x : SCore) : Prop := ((0 ≤ x.Params ∧ x.Params ≤ 2) ∧ (0 ≤ x.Locals ∧ x.Locals ≤ 2)) ∧ x.Name.length ≤ 10 ∧ x.Code.length ≤ B
def ImI (l : List SImport) : Prop := ∀ x ∈ l, imB x
def CoI (B : Nat) (l : List SCore) : Prop := ∀ x ∈ l, coB B x
theorem CoI.up {B B' : Nat} {l : List SCore} (h : CoI B l) (hb : B ≤ B') : CoI B' l := fun x hx => by
  have := h x hx; exact ⟨this.1, this.2.1, by have := this.2.2; omega⟩
theorem coB_zero (B : Nat) : coB B SCore.zero := ⟨⟨⟨Int.le_refl _, by decide⟩, Int.le_refl _, by decide⟩, Nat.zero_le _, Nat.zero_le _⟩
theorem CoI.getD {B : Nat} {l : List SCore} (h : CoI B l) (j : Nat) : coB B (l.getD j SCore.zero) := by
  rw [List.getD_eq_getElem?_getD]
  cases e : l[j]? with
  | none => exact coB_zero B
  | some x => exact h x (List.mem_of_getElem? e)
theorem CoI.set {B : Nat} {l : List SCore} (h : CoI B l) (j : Nat) {y : SCore} (hy : coB B y) : CoI B (l.set j y) := fun x hx => by
  rcases List.mem_or_eq_of_mem_set hx with hx | rfl
  · exact h x hx
  · exact hy
theorem cai_of {B : Nat} {o1 : List SImport} {o2 : List SCore} (h1 : ImI o1) (h2 : CoI B o2) (l1 : o1.length ≤ 100) (l2 : o2.length ≤ 100) (l3 : 1 ≤ o2.length) : CaI o1 o2 :=
  ⟨l1, l2, l3, fun x hx => (h1 x hx).1, fun x hx => (h2 x hx).1.1⟩
theorem dig_ok (n : Nat) (h : n ≤ 2) : ∃ t, M.s_l15Digits (n : Int) = some t ∧ t.length = 1 := by
  obtain ⟨k, hk⟩ := big_3
  unfold M.s_l15Digits
  rw [hk]
  match n, h with
  | 0, _ => exact ⟨[48], rfl, rfl⟩
  | 1, _ => exact ⟨[49], rfl, rfl⟩
  | 2, _ => exact ⟨[50], rfl, rfl⟩
theorem draw0 (t2 pg : Int) (o7 : List SImport) (o8 o10 : List SCore) : ∀ (r f : Nat) (s : Sl00Src) (o9 : List SImport) (m : Int), r < f → r + o9.length ≤ 2 → SOk s m → m + 2 * r ≤ 1000000 → ImI o9 →
    ∃ s' o9', M.s_l15Draw_l0 t2 pg o7 o8 o10 f (r : Int) s o9 = some (s', t2, pg, o7, o8, o9', o10) ∧ SOk s' (m + 2 * r) ∧ ImI o9' ∧ o9'.length ≤ o9.length + r
  | 0, f, s, o9, m, h1, h2, hs, hm, hi => by
    obtain ⟨f, rfl⟩ : ∃ g, f = g + 1 := ⟨f - 1, by omega⟩
    rw [M.s_l15Draw_l0]
    exact ⟨s, o9, rfl, hs.up (by omega), hi, by omega⟩
  | r + 1, f, s, o9, m, h1, h2, hs, hm, hi => by
    obtain ⟨f, rfl⟩ : ∃ g, f = g + 1 := ⟨f - 1, by omega⟩
    obtain ⟨t, et, ht⟩ := dig_ok o9.length (by omega)
    obtain ⟨v, s1, e1, g1, v0, v1⟩ := pick_any hs (by omega) 3 (by omega)
    obtain ⟨b, s2, e2, g2⟩ := one_ok g1 (by omega) 2 (by omega) (by omega)
    have hk : decide ((0 : Int) < ((r + 1 : Nat) : Int)) = true := decide_eq_true (by omega)
    have hw : Go.IntKind.wrap .i64 (((r + 1 : Nat) : Int) - 1) = (r : Int) := by rw [wrap_i64 (by omega) (by omega)]; omega
    have hcat : Go.V.catB [(104 : UInt8), (111 : UInt8), (115 : UInt8), (116 : UInt8), (45 : UInt8)] t = true := by
      unfold Go.V.catB
      rw [ht]; rfl
    have hv3 := v1 (by omega)
    obtain ⟨s3, o3, e3, g3, i3, n3⟩ := draw0 t2 pg o7 o8 o10 r f s2 (o9 ++ [SImport.mk ([(104 : UInt8), (111 : UInt8), (115 : UInt8), (116 : UInt8), (45 : UInt8)] ++ t) v b]) (m + 2) (by omega) (by (try simp only [List.length_append, List.length_cons, List.length_nil]); omega) (g2.up (by omega)) (by omega) (fun x hx => by
      rcases List.mem_append.1 hx with hx | hx
      · exact hi x hx
      · simp only [List.mem_cons, List.not_mem_nil, or_false] at hx; subst hx
        refine ⟨⟨v0, by show v ≤ 2; omega⟩, ?_⟩
        simp only [List.length_append, List.length_cons, List.length_nil]; omega)
    rw [M.s_l15Draw_l0]
    simp (disch := ((try simp only [List.length_append, List.length_cons, List.length_nil]); omega)) only [ctP, cfP, le30, hk, hw, et, e1, e2, hcat, Option.getD_some, Option.isSome_some, beq_self_eq_true, Bool.and_true, Bool.true_and, Bool.and_self, Bool.true_or, Bool.or_true, eq_self, decide_true, Int.toNat_natCast]
    refine ⟨s3, o3, e3, g3.up (by omega), i3, ?_⟩
    simp only [List.length_append, List.length_cons, List.length_nil] at n3; omega
theorem nm_len : ∀ n : Nat, (List.getD [[(114 : UInt8), (117 : UInt8), (110 : UInt8)], [(116 : UInt8), (119 : UInt8), (111 : UInt8)], [(116 : UInt8), (104 : UInt8), (114 : UInt8), (101 : UInt8), (101 : UInt8)]] n []).length ≤ 5
  | 0 => by decide
  | 1 => by decide
  | 2 => by decide
  | n + 3 => by simp
theorem draw1 (t2 pg : Int) (o7 : List SImport) (o8 : List SCore) (o9 : List SImport) : ∀ (r f : Nat) (s : Sl00Src) (o10 : List SCore) (m : Int), r < f → r + o10.length ≤ 3 → SOk s m → m + 3 * r ≤ 1000000 → CoI 0 o10 →
    ∃ s' o10', M.s_l15Draw_l1 t2 pg o7 o8 o9 f (r : Int) s o10 = some (s', t2, pg, o7, o8, o9, o10') ∧ SOk s' (m + 3 * r) ∧ CoI 0 o10' ∧ o10'.length = o10.length + r
  | 0, f, s, o10, m, h1, h2, hs, hm, hi => by
    obtain ⟨f, rfl⟩ : ∃ g, f = g + 1 := ⟨f - 1, by omega⟩
    rw [M.s_l15Draw_l1]
    exact ⟨s, o10, rfl, hs.up (by omega), hi, by omega⟩
  | r + 1, f, s, o10, m, h1, h2, hs, hm, hi => by
    obtain ⟨f, rfl⟩ : ∃ g, f = g + 1 := ⟨f - 1, by omega⟩
    obtain ⟨v, s1, e1, g1, v0, v1⟩ := pick_any hs (by omega) 3 (by omega)
    obtain ⟨u, s2, e2, g2, u0, u1⟩ := pick_any g1 (by omega) 3 (by omega)
    obtain ⟨b, s3, e3, g3⟩ := one_ok g2 (by omega) 2 (by omega) (by omega)
    have hk : decide ((0 : Int) < ((r + 1 : Nat) : Int)) = true := decide_eq_true (by omega)
    have hw : Go.IntKind.wrap .i64 (((r + 1 : Nat) : Int) - 1) = (r : Int) := by rw [wrap_i64 (by omega) (by omega)]; omega
    have hin : inB ((o10.length : Nat) : Int) (List.length [[(114 : UInt8), (117 : UInt8), (110 : UInt8)], [(116 : UInt8), (119 : UInt8), (111 : UInt8)], [(116 : UInt8), (104 : UInt8), (114 : UInt8), (101 : UInt8), (101 : UInt8)]]) = true := by
      rw [inB_nat]; exact decide_eq_true (by simp only [List.length_cons, List.length_nil]; omega)
    have hv3 := v1 (by omega)
    have hu3 := u1 (by omega)
    have hnm := nm_len o10.length
    obtain ⟨s4, o4, e4, g4, i4, n4⟩ := draw1 t2 pg o7 o8 o9 r f s3 (o10 ++ [SCore.mk (List.getD [[(114 : UInt8), (117 : UInt8), (110 : UInt8)], [(116 : UInt8), (119 : UInt8), (111 : UInt8)], [(116 : UInt8), (104 : UInt8), (114 : UInt8), (101 : UInt8), (101 : UInt8)]] o10.length []) v u b []]) (m + 3) (by omega) (by (try simp only [List.length_append, List.length_cons, List.length_nil]); omega) (g3.up (by omega)) (by omega) (fun x hx => by
      rcases List.mem_append.1 hx with hx | hx
      · exact hi x hx
      · simp only [List.mem_cons, List.not_mem_nil, or_false] at hx; subst hx
        exact ⟨⟨⟨v0, by show v ≤ 2; omega⟩, u0, by show u ≤ 2; omega⟩, Nat.le_trans hnm (by omega), Nat.le_refl _⟩)
    rw [M.s_l15Draw_l1]
    simp (disch := ((try simp only [List.length_append, List.length_cons, List.length_nil]); omega)) only [ctP, cfP, le30, hk, hw, e1, e2, e3, hin, Option.getD_some, Option.isSome_some, beq_self_eq_true, Bool.and_true, Bool.true_and, Bool.and_self, Bool.true_or, Bool.or_true, eq_self, decide_true, Int.toNat_natCast]
    refine ⟨s4, o4, e4, g4.up (by omega), i4, ?_⟩
    simp only [List.length_append, List.length_cons, List.length_nil] at n4; omega
theorem draw20 (i : Int) (c : Nat) (n t2 pg : Int) (o8 : List SImport) (o9 : List SCore) (hn : n ≤ 200) (B : Nat) (hB : 89 ≤ B) (hB2 : B ≤ 500) (o10 : List SImport) (hi : ImI o10) (hi2 : o10.length ≤ 100) : ∀ (r f : Nat) (s : Sl00Src) (o7 : List SCore) (m : Int), r < f → SOk s m → r ≤ 4 → m + 210 * r ≤ 1000000 → CoI B o7 → 1 ≤ o7.length → o7.length ≤ 3 →
    ∃ s' o7', M.s_l15Draw_l2_0 i c n t2 pg o8 o9 f (r : Int) s o7 o10 = some (i, c, n, s', t2, pg, o7', o8, o9, o10) ∧ SOk s' (m + 210 * r) ∧ CoI B o7' ∧ o7'.length = o7.length
  | 0, f, s, o7, m, h1, hs, hr, hm, hc, hl1, hl3 => by
    obtain ⟨f, rfl⟩ : ∃ g, f = g + 1 := ⟨f - 1, by omega⟩
    rw [M.s_l15Draw_l2_0]
    exact ⟨s, o7, rfl, hs.up (by omega), hc, rfl⟩
  | r + 1, f, s, o7, m, h1, hs, hr, hm, hc, hl1, hl3 => by
    obtain ⟨f, rfl⟩ : ∃ g, f = g + 1 := ⟨f - 1, by omega⟩
    obtain ⟨s1, l1, e1, g1, n1⟩ := deed2 pg n s o10 o7 m (cai_of hi hc hi2 (by omega) hl1) hn hs (by omega)
    have e1' : M.s_l15Deed pg n 2 s o10 o7 = some (s1, o10, o7, l1) := e1
    have hk : decide ((0 : Int) < ((r + 1 : Nat) : Int)) = true := decide_eq_true (by omega)
    have hw : Go.IntKind.wrap .i64 (((r + 1 : Nat) : Int) - 1) = (r : Int) := by rw [wrap_i64 (by omega) (by omega)]; omega
    have hq := hc.getD c
    have hcl := hq.2.2
    have hsum : Go.IntKind.wrap .i64 ((((o7.getD c SCore.zero).Code.length : Nat) : Int) + ((l1.length : Nat) : Int)) = (((o7.getD c SCore.zero).Code.length + l1.length : Nat) : Int) := by rw [wrap_i64 (by omega) (by omega)]; omega
    rw [M.s_l15Draw_l2_0]
    simp only [hk, ctP, e1', Option.getD_some, hsum]
    cases hlt : decide ((((o7.getD c SCore.zero).Code.length + l1.length : Nat) : Int) < 90) with
    | true =>
      have hlt' := of_decide_eq_true hlt
      obtain ⟨s2, o2, e2, g2, c2, n2⟩ := draw20 i c n t2 pg o8 o9 hn B hB hB2 o10 hi hi2 r f s1 (o7.set c (SCore.mk (o7.getD c SCore.zero).Name (o7.getD c SCore.zero).Params (o7.getD c SCore.zero).Locals (o7.getD c SCore.zero).Result ((o7.getD c SCore.zero).Code ++ l1))) (m + 210) (by omega) g1 (by omega) (by omega) (hc.set c ⟨hq.1, hq.2.1, by simp only [List.length_append]; omega⟩) (by rw [List.length_set]; exact hl1) (by rw [List.length_set]; exact hl3)
      simp (disch := ((try simp only [List.length_append, List.length_cons, List.length_nil]); omega)) only [ctP, cfP, le30, hw, Option.getD_some, Option.isSome_some, beq_self_eq_true, Bool.and_true, Bool.true_and, Bool.and_self, Bool.true_or, Bool.or_true, eq_self, decide_true, Int.toNat_natCast]
      exact ⟨s2, o2, e2, g2.up (by omega), c2, by rw [n2, List.length_set]⟩
    | false =>
      obtain ⟨s2, o2, e2, g2, c2, n2⟩ := draw20 i c n t2 pg o8 o9 hn B hB hB2 o10 hi hi2 r f s1 (o7.set c (o7.getD c SCore.zero)) (m + 210) (by omega) g1 (by omega) (by omega) (hc.set c hq) (by rw [List.length_set]; exact hl1) (by rw [List.length_set]; exact hl3)
      simp (disch := ((try simp only [List.length_append, List.length_cons, List.length_nil]); omega)) only [ctP, cfP, le30, hw, Option.getD_some, Option.isSome_some, beq_self_eq_true, Bool.and_true, Bool.true_and, Bool.and_self, Bool.true_or, Bool.or_true, eq_self, decide_true, Int.toNat_natCast]
      exact ⟨s2, o2, e2, g2.up (by omega), c2, by rw [n2, List.length_set]⟩
theorem draw2 (t2 pg : Int) (o7 : List SImport) (o8 : List SCore) (o9 : List SImport) (hi : ImI o9) (hi2 : o9.length ≤ 100) : ∀ (r f j : Nat) (s : Sl00Src) (o10 : List SCore) (m : Int) (B : Nat), r < f → j + r = o10.length → SOk s m → r ≤ 3 → m + 1000 * r ≤ 100000 → CoI B o10 → 89 ≤ B → B + 30 * r ≤ 500 → o10.length ≤ 3 →
    ∃ s' o10', M.s_l15Draw_l2 f (j : Int) s t2 pg o7 o8 o9 o10 = some (s'.code, s'.at_, s'.seed, t2, pg, o7, o8, o9, o10') ∧ SOk s' (m + 1000 * r) ∧ CoI (B + 30 * r) o10' ∧ o10'.length = o10.length
  | 0, f, j, s, o10, m, B, h1, hj, hs, hr, hm, hc, hB, hB2, hl => by
    obtain ⟨f, rfl⟩ : ∃ g, f = g + 1 := ⟨f - 1, by omega⟩
    rw [M.s_l15Draw_l2]
    have hk : decide ((j : Int) < ((o10.length : Nat) : Int)) = false := decide_eq_false (by omega)
    simp only [hk, cfP]
    exact ⟨s, o10, rfl, hs.up (by omega), hc.up (by omega), rfl⟩
  | r + 1, f, j, s, o10, m, B, h1, hj, hs, hr, hm, hc, hB, hB2, hl => by
    obtain ⟨f, rfl⟩ : ∃ g, f = g + 1 := ⟨f - 1, by omega⟩
    have hjl : j < o10.length := by omega
    have hk : decide ((j : Int) < ((o10.length : Nat) : Int)) = true := decide_eq_true (by omega)
    have hin : inB (j : Int) o10.length = true := by rw [inB_nat]; simpa using hjl
    have hw1 : Go.IntKind.wrap .i64 ((j : Int) + 1) = ((j + 1 : Nat) : Int) := by rw [wrap_i64 (by omega) (by omega)]; omega
    have hq := hc.getD j
    obtain ⟨n, hwn, hn4⟩ : ∃ n, Go.IntKind.wrap .i64 ((o10.getD j SCore.zero).Params + (o10.getD j SCore.zero).Locals) = n ∧ n ≤ 200 := by
      have := hq.1
      exact ⟨_, wrap_i64 (by omega) (by omega), by omega⟩
    obtain ⟨v, s1, e1, g1, v0, v1⟩ := pick_any hs (by omega) 5 (by omega)
    obtain ⟨k, rfl⟩ := Int.eq_ofNat_of_zero_le v0
    have hk5 := v1 (by omega)
    obtain ⟨s2, cs, e2, g2, c2, n2⟩ := draw20 (j : Int) j n t2 pg o7 o8 hn4 B hB (by omega) o9 hi hi2 k bigN s1 o10 (m + 1) (by have := bigN_le; omega) g1 (by omega) (by omega) hc (by omega) hl
    obtain ⟨b, s3, e3, g3⟩ := one_ok g2 (by omega) 9 (by omega) (by omega)
    have hq2 := c2.getD j
    have hql := hq2.2.2
    have hjc : j < cs.length := by omega
    rw [M.s_l15Draw_l2]
    simp only [hk, ctP, Int.toNat_natCast, hwn, e1, e2, e3, Option.getD_some]
    cases b with
    | true =>
      obtain ⟨s4, o4, e4, g4, c4, n4⟩ := draw2 t2 pg o7 o8 o9 hi hi2 r f (j + 1) s3 (cs.set j (SCore.mk (cs.getD j SCore.zero).Name (cs.getD j SCore.zero).Params (cs.getD j SCore.zero).Locals (cs.getD j SCore.zero).Result ((cs.getD j SCore.zero).Code ++ [SIns.mk 40 0]))) (m + 1000) (B + 30) (by omega) (by rw [List.length_set]; omega) (g3.up (by omega)) (by omega) (by omega) ((c2.up (B' := B + 30) (by omega)).set j ⟨hq2.1, hq2.2.1, by (try simp only [List.length_append, List.length_cons, List.length_nil]); omega⟩) (by omega) (by omega) (by rw [List.length_set]; omega)
      simp (disch := ((try simp only [List.length_append, List.length_cons, List.length_nil]); omega)) only [ctP, cfP, le30, hin, hw1, Option.getD_some, Option.isSome_some, beq_self_eq_true, Bool.and_true, Bool.true_and, Bool.and_self, Bool.true_or, Bool.or_true, eq_self, decide_true, Int.toNat_natCast]
      exact ⟨s4, o4, e4, g4.up (by omega), c4.up (by omega), by rw [n4, List.length_set]; omega⟩
    | false =>
    simp only [cfP]
    cases hres : (cs.getD j SCore.zero).Result with
    | true =>
      obtain ⟨s4, l4, e4, g4, n4⟩ := value2 n s3 _ hn4 g3 (by omega)
      have e4' : M.s_l15Value n 2 s3 = some (s4, l4) := e4
      obtain ⟨b2, s5, e5, g5⟩ := one_ok g4 (by omega) 3 (by omega) (by omega)
      simp only [ctP, e4', e5, Option.getD_some]
      have hset : (cs.set j (SCore.mk (cs.getD j SCore.zero).Name (cs.getD j SCore.zero).Params (cs.getD j SCore.zero).Locals true ((cs.getD j SCore.zero).Code ++ l4))).getD j SCore.zero = SCore.mk (cs.getD j SCore.zero).Name (cs.getD j SCore.zero).Params (cs.getD j SCore.zero).Locals true ((cs.getD j SCore.zero).Code ++ l4) := by
        rw [List.getD_eq_getElem?_getD, List.getElem?_set_self hjc]; rfl
      have y1 : coB (B + 30) (SCore.mk (cs.getD j SCore.zero).Name (cs.getD j SCore.zero).Params (cs.getD j SCore.zero).Locals true ((cs.getD j SCore.zero).Code ++ l4)) := ⟨hq2.1, hq2.2.1, by simp only [List.length_append]; omega⟩
      have y2 : coB (B + 30) (SCore.mk (cs.getD j SCore.zero).Name (cs.getD j SCore.zero).Params (cs.getD j SCore.zero).Locals true ((cs.getD j SCore.zero).Code ++ l4 ++ [SIns.mk 31 0])) := ⟨hq2.1, hq2.2.1, by simp only [List.length_append, List.length_cons, List.length_nil]; omega⟩
      cases b2 with
      | true =>
        obtain ⟨s6, o6, e6, g6, c6, n6⟩ := draw2 t2 pg o7 o8 o9 hi hi2 r f (j + 1) s5 ((cs.set j (SCore.mk (cs.getD j SCore.zero).Name (cs.getD j SCore.zero).Params (cs.getD j SCore.zero).Locals true ((cs.getD j SCore.zero).Code ++ l4))).set j (SCore.mk (cs.getD j SCore.zero).Name (cs.getD j SCore.zero).Params (cs.getD j SCore.zero).Locals true ((cs.getD j SCore.zero).Code ++ l4 ++ [SIns.mk 31 0]))) (m + 1000) (B + 30) (by omega) (by rw [List.length_set, List.length_set]; omega) (g5.up (by omega)) (by omega) (by omega) (((c2.up (B' := B + 30) (by omega)).set j y1).set j y2) (by omega) (by omega) (by rw [List.length_set, List.length_set]; omega)
        simp (disch := ((try simp only [List.length_append, List.length_cons, List.length_nil]); omega)) only [ctP, cfP, le30, hin, hw1, hset, Option.getD_some, Option.isSome_some, beq_self_eq_true, Bool.and_true, Bool.true_and, Bool.and_self, Bool.true_or, Bool.or_true, eq_self, decide_true, Int.toNat_natCast]
        exact ⟨s6, o6, e6, g6.up (by omega), c6.up (by omega), by rw [n6, List.length_set, List.length_set]; omega⟩
      | false =>
        obtain ⟨s6, o6, e6, g6, c6, n6⟩ := draw2 t2 pg o7 o8 o9 hi hi2 r f (j + 1) s5 (cs.set j (SCore.mk (cs.getD j SCore.zero).Name (cs.getD j SCore.zero).Params (cs.getD j SCore.zero).Locals true ((cs.getD j SCore.zero).Code ++ l4))) (m + 1000) (B + 30) (by omega) (by rw [List.length_set]; omega) (g5.up (by omega)) (by omega) (by omega) ((c2.up (B' := B + 30) (by omega)).set j y1) (by omega) (by omega) (by rw [List.length_set]; omega)
        simp (disch := ((try simp only [List.length_append, List.length_cons, List.length_nil]); omega)) only [ctP, cfP, le30, hin, hw1, Option.getD_some, Option.isSome_some, beq_self_eq_true, Bool.and_true, Bool.true_and, Bool.and_self, Bool.true_or, Bool.or_true, eq_self, decide_true, Int.toNat_natCast]
        exact ⟨s6, o6, e6, g6.up (by omega), c6.up (by omega), by rw [n6, List.length_set]; omega⟩
    | false =>
      obtain ⟨s6, o6, e6, g6, c6, n6⟩ := draw2 t2 pg o7 o8 o9 hi hi2 r f (j + 1) s3 cs (m + 1000) (B + 30) (by omega) (by omega) (g3.up (by omega)) (by omega) (by omega) (c2.up (by omega)) (by omega) (by omega) (by omega)
      simp (disch := ((try simp only [List.length_append, List.length_cons, List.length_nil]); omega)) only [ctP, cfP, le30, hin, hw1, Option.getD_some, Option.isSome_some, beq_self_eq_true, Bool.and_true, Bool.true_and, Bool.and_self, Bool.true_or, Bool.or_true, eq_self, decide_true, Int.toNat_natCast]
      exact ⟨s6, o6, e6, g6.up (by omega), c6.up (by omega), by omega⟩
theorem szL_bound {α : Type} {f : α → Nat} {K : Nat} : ∀ l : List α, (∀ x ∈ l, f x ≤ K) → szL f l ≤ (K + 1) * l.length
  | [], _ => by simp [szL]
  | x :: r, h => by
    have h1 := szL_bound r fun y hy => h y (List.mem_cons.2 (.inr hy))
    have h2 := h x (List.mem_cons.2 (.inl rfl))
    simp only [szL, List.length_cons, Nat.mul_add, Nat.mul_one]; omega
theorem draw_ok (code : List UInt8) (hc : code.length ≤ 1048576) : ∃ md s', M.s_l15Draw (Sl00Src.mk code 0 0) = some (md, s') ∧ md.sz ≤ 1048576 := by
  have hs : SOk (Sl00Src.mk code 0 0) 0 := ⟨hc, Int.le_refl _, Int.le_refl _⟩
  obtain ⟨v, s1, e1, g1, -, -⟩ := pick_any hs (by omega) 2 (by omega)
  obtain ⟨u, s2, e2, g2, u0, u1⟩ := pick_any g1 (by omega) 3 (by omega)
  obtain ⟨r, rfl⟩ := Int.eq_ofNat_of_zero_le u0
  have hr := u1 (by omega)
  obtain ⟨s3, ims, e3, g3, i3, n3⟩ := draw0 0 (Go.IntKind.wrap .i64 (1 + v)) [] [] [] r bigN s2 [] (0 + 1 + 1) (by have := bigN_le; omega) (by simp only [List.length_nil]; omega) g2 (by omega) (fun x hx => by simp at hx)
  obtain ⟨w, s4, e4, g4, w0, w1⟩ := pick_any g3 (by omega) 3 (by omega)
  obtain ⟨q, rfl⟩ := Int.eq_ofNat_of_zero_le w0
  have hq := w1 (by omega)
  have hw : Go.IntKind.wrap .i64 (1 + (q : Int)) = ((q + 1 : Nat) : Int) := by rw [wrap_i64 (by omega) (by omega)]; omega
  obtain ⟨s5, cs, e5, g5, i5, n5⟩ := draw1 0 (Go.IntKind.wrap .i64 (1 + v)) [] [] ims (q + 1) bigN s4 [] (0 + 1 + 1 + 2 * r + 1) (by have := bigN_le; omega) (by simp only [List.length_nil]; omega) g4 (by omega) (fun x hx => by simp at hx)
  simp only [List.length_nil] at n3 n5
  obtain ⟨s6, cs2, e6, g6, i6, n6⟩ := draw2 0 (Go.IntKind.wrap .i64 (1 + v)) [] [] ims i3 (by omega) cs.length bigN 0 s5 cs _ 89 (by have := bigN_le; omega) (by omega) g5 (by omega) (by omega) (i5.up (by omega)) (by omega) (by omega) (by omega)
  have e6' : M.s_l15Draw_l2 bigN 0 s5 0 (Go.IntKind.wrap .i64 (1 + v)) [] [] ims cs = _ := e6
  unfold M.s_l15Draw
  simp only [e1, e2, e3, e4, hw, e5, e6', Option.getD_some, Option.isSome_some, Bool.and_self, Bool.and_true, ctP]
  refine ⟨_, _, rfl, ?_⟩
  rw [SModule.sz_eq]
  have b1 := szL_bound (f := SImport.sz) (K := 10) ims fun x hx => (i3 x hx).2
  have b2 := szL_bound (f := SCore.sz) (K := 1000) cs2 fun x hx => by
    have hx := i6 x hx
    have := szL_bound (f := SIns.sz) (K := 0) x.Code fun y _ => Nat.le_refl _
    rw [SCore.sz_eq]
    have h1 := hx.2.1
    have h2 := hx.2.2
    omega
  have m1 : (10 + 1) * ims.length ≤ (10 + 1) * 3 := Nat.mul_le_mul_left _ (by omega)
  have m2 : (1000 + 1) * cs2.length ≤ (1000 + 1) * 3 := Nat.mul_le_mul_left _ (by omega)
  simp only
  omega
def dfM : SModule := SModule.mk 1 [] [SCore.mk [(114 : UInt8), (117 : UInt8), (110 : UInt8)] 0 0 false [SIns.mk 1 3, SIns.mk 5 0]]
theorem dfM_ok : (chkR dfM).2.2 = 0 := by rfl
theorem right_s (m : SModule) (h : m.sz ≤ 1048576) : M.s_l16Right m = some ((chkR m).2.2 == 0) := by
  unfold M.s_l16Right
  rw [l16_s m h]; rfl
theorem a8_ok (code : List UInt8) (hc : code.length ≤ 1048576) : ∃ md, M.s_A8Module code = some md ∧ md.sz ≤ 1048576 ∧ (chkR md).2.2 = 0 := by
  obtain ⟨md, s', e, hsz⟩ := draw_ok code hc
  unfold M.s_A8Module
  simp only [e, right_s md hsz, Option.getD_some, Option.isSome_some, Bool.and_self, Bool.and_true]
  cases h : ((chkR md).2.2 == 0) with
  | true => exact ⟨md, rfl, hsz, by simpa using h⟩
  | false => exact ⟨dfM, rfl, by decide, dfM_ok⟩
end M
