/-
  THE DRAWERS: numbers from a source of bytes.
-/
import Derived.Test.YtmgbhalimhbejaaGreatXSZ
import Derived.Test.YtmgbhalimhbejaaGreatXSY
set_option linter.unusedVariables false
set_option linter.unusedSimpArgs false
namespace M
open Go.V (inB slB catB bigN bigN_le)

structure SOk (s : Sl00Src) (m : Int) : Prop where
  c : s.code.length ≤ 1048576
  lo : 0 ≤ s.at_
  hi : s.at_ ≤ m
theorem SOk.up {s : Sl00Src} {m k : Int} (h : SOk s m) (hk : m ≤ k) : SOk s k := ⟨h.c, h.lo, by have := h.hi; omega⟩
theorem byte_and (x : Int) : 0 ≤ Go.IntKind.wrap .i64 (Go.V.bitsV .and .u64 x 255) := by
  have h : (BitVec.ofInt 64 x &&& BitVec.ofInt 64 255).toNat ≤ 255 := by
    rw [BitVec.toNat_and]
    exact Nat.and_le_right
  have e : Go.V.bitsV .and .u64 x 255 = (((BitVec.ofInt 64 x &&& BitVec.ofInt 64 255).toNat : Nat) : Int) := by
    unfold Go.V.bitsV
    show Go.IntKind.wrap .u64 (((BitVec.ofInt 64 x &&& BitVec.ofInt 64 255).toNat : Nat) : Int) = _
    exact Go.IntWalk.u64_in _ ⟨by omega, by omega⟩
  rw [e, wrap_i64 (by omega) (by omega)]
  omega
theorem next_ok {s : Sl00Src} {m : Int} (h : SOk s m) (hm : m ≤ 1000000000000) : ∃ v s', M.s_l00Src_next s = some (v, s') ∧ SOk s' (m + 1) ∧ 0 ≤ v := by
  obtain ⟨hc, hlo, hhi⟩ := h
  have hw : Go.IntKind.wrap .i64 (s.at_ + 1) = s.at_ + 1 := wrap_i64 (by omega) (by omega)
  have hin : ((inB s.at_ s.code.length && true) || !decide (s.at_ < ((s.code.length : Nat) : Int))) = true := by
    obtain ⟨n, hn⟩ := Int.eq_ofNat_of_zero_le hlo
    rw [hn, inB_nat, Bool.and_true]
    by_cases hh : n < s.code.length
    · rw [decide_eq_true hh]; rfl
    · rw [decide_eq_false hh, decide_eq_false (by omega)]; rfl
  unfold M.s_l00Src_next
  simp only [hw, hin, Bool.true_and, cond_true]
  have hv : (0 : Int) ≤ (bif decide (s.at_ < ((s.code.length : Nat) : Int)) then Go.IntKind.wrap .i64 (((s.code.getD s.at_.toNat 0).toNat : Nat) : Int) else 0) := by
    cases decide (s.at_ < ((s.code.length : Nat) : Int)) with
    | false => exact Int.le_refl _
    | true =>
      have := (s.code.getD s.at_.toNat 0).toNat_lt
      simp only [cond_true]
      rw [wrap_i64 (by omega) (by omega)]; omega
  cases decide (s.at_ + 1 ≤ ((s.code.length : Nat) : Int)) with
  | true => exact ⟨_, _, rfl, ⟨hc, by simp only []; omega, by simp only []; omega⟩, hv⟩
  | false => exact ⟨_, _, rfl, ⟨hc, by simp only []; omega, by simp only []; omega⟩, byte_and _⟩
theorem pick_ok {s : Sl00Src} {m : Int} (h : SOk s m) (hm : m ≤ 1000000000000) (n : Int) (h1 : 2 ≤ n) (h2 : n ≤ 200) : ∃ v s', M.s_l00Src_pick n s = some (v, s') ∧ SOk s' (m + 1) ∧ 0 ≤ v ∧ v < n := by
  obtain ⟨v, s', e, g1, g2⟩ := next_ok h hm
  unfold M.s_l00Src_pick
  rw [decide_eq_false (show ¬ n ≤ 1 by omega), decide_eq_false (show ¬ (200 : Int) < n by omega)]
  have hn : (n != 0) = true := by simp; omega
  simp only [e, hn, cond_false, Option.getD_some, Option.isSome_some, Bool.and_true, Bool.true_and, cond_true]
  exact ⟨_, _, rfl, g1, Int.tmod_nonneg _ g2, Int.tmod_lt_of_pos _ (by omega)⟩
theorem one_ok {s : Sl00Src} {m : Int} (h : SOk s m) (hm : m ≤ 1000000000000) (n : Int) (h1 : 2 ≤ n) (h2 : n ≤ 200) : ∃ v s', M.s_l00Src_one n s = some (v, s') ∧ SOk s' (m + 1) := by
  obtain ⟨v, s', e, g1, -⟩ := pick_ok h hm n h1 h2
  unfold M.s_l00Src_one
  simp only [e, Option.getD_some, Option.isSome_some, Bool.and_true, cond_true]
  exact ⟨_, _, rfl, g1⟩
theorem text_ok {s : Sl00Src} {m : Int} (h : SOk s m) (hm : m ≤ 1000000000000) (l : List (List UInt8)) (N : Nat) (h1 : 2 ≤ l.length) (h2 : l.length ≤ 200) (hN : ∀ x ∈ l, x.length ≤ N) : ∃ v s', M.s_l00Src_text l s = some (v, s') ∧ SOk s' (m + 1) ∧ v.length ≤ N := by
  obtain ⟨v, s', e, g1, g2, g3⟩ := pick_ok h hm (l.length : Int) (by omega) (by omega)
  unfold M.s_l00Src_text
  obtain ⟨k, rfl⟩ := Int.eq_ofNat_of_zero_le g2
  have hk : k < l.length := by omega
  have hin : inB (k : Int) l.length = true := by rw [inB_nat]; simpa using hk
  simp only [e, hin, Option.getD_some, Option.isSome_some, Bool.and_true, Bool.true_and, cond_true, Int.toNat_natCast, getD_lt hk]
  exact ⟨_, _, rfl, g1, hN _ (List.getElem_mem hk)⟩
theorem among_ok {s : Sl00Src} {m : Int} (h : SOk s m) (hm : m ≤ 1000000000000) (l : List Int) (h1 : 2 ≤ l.length) (h2 : l.length ≤ 200) : ∃ v s', M.s_l00Src_among l s = some (v, s') ∧ SOk s' (m + 1) := by
  obtain ⟨v, s', e, g1, g2, g3⟩ := pick_ok h hm (l.length : Int) (by omega) (by omega)
  unfold M.s_l00Src_among
  obtain ⟨k, rfl⟩ := Int.eq_ofNat_of_zero_le g2
  have hk : k < l.length := by omega
  have hin : inB (k : Int) l.length = true := by rw [inB_nat]; simpa using hk
  simp only [e, hin, Option.getD_some, Option.isSome_some, Bool.and_true, Bool.true_and, cond_true]
  exact ⟨_, _, rfl, g1⟩
theorem unlike_ok {s : Sl00Src} {m : Int} (h : SOk s m) (hm : m ≤ 1000000000000) (many : Int) (h0 : 0 ≤ many) (h1 : many ≤ 10) : ∃ s' l, M.s_l03Unlike many s = some (s', l) ∧ SOk s' (m + 1) ∧ (l.length : Int) = many ∧ szL List.length l ≤ 9 * l.length := by
  obtain ⟨v, s', e, g1, g2, g3⟩ := pick_ok h hm 6 (by omega) (by omega)
  have key : ∀ (all : List (List UInt8)), all.length = 6 → (∀ x ∈ all, x.length ≤ 8) → ∀ (f : Nat) (k : Nat) (out : List (List UInt8)), (k : Int) ≤ many → 11 ≤ f + k → out.length = k → szL List.length out ≤ 9 * k → ∃ l, M.s_l03Unlike_l0 many v all f (k : Int) out = some l ∧ (l.length : Int) = many ∧ szL List.length l ≤ 9 * l.length := by
    intro all ha hb f
    induction f with
    | zero => intro k out a1 a2; omega
    | succ f ih =>
      intro k out a1 a2 a3 a4
      rw [M.s_l03Unlike_l0]
      by_cases hk : (k : Int) < many
      · have w : Go.IntKind.wrap .i64 (v + (k : Int)) = v + (k : Int) := wrap_i64 (by omega) (by omega)
        have w2 : Go.IntKind.wrap .i64 ((k : Int) + 1) = ((k + 1 : Nat) : Int) := by rw [wrap_i64 (by omega) (by omega)]; omega
        have t0 : (0 : Int) ≤ Int.tmod (v + (k : Int)) 6 := Int.tmod_nonneg _ (by omega)
        have t1 : Int.tmod (v + (k : Int)) 6 < 6 := Int.tmod_lt_of_pos _ (by omega)
        obtain ⟨j, hj⟩ := Int.eq_ofNat_of_zero_le t0
        have hj6 : j < all.length := by omega
        have hin : inB (j : Int) all.length = true := by rw [inB_nat]; simpa using hj6
        have hc := cat_le (a := out.length) (b := 1) (by omega)
        have h6 : ((6 : Int) != 0) = true := by decide
        simp only [decide_eq_true hk, cond_true, w, hj, w2, hin, hc, h6, List.length_cons, List.length_nil, Nat.zero_add, Bool.and_true, Bool.true_and, Int.toNat_natCast, getD_lt hj6]
        have h8 := hb _ (List.getElem_mem hj6)
        exact ih (k + 1) _ (by omega) (by omega) (by simp; omega) (by rw [szL_app, szL_one]; omega)
      · simp only [decide_eq_false hk, cond_false]
        exact ⟨out, rfl, by omega, by omega⟩
  unfold M.s_l03Unlike
  obtain ⟨l, e2, k1, k2⟩ := key [[(97 : UInt8)], [(98 : UInt8)], [(105 : UInt8), (100 : UInt8)], [(109 : UInt8), (97 : UInt8), (120 : UInt8), (45 : UInt8), (115 : UInt8), (105 : UInt8), (122 : UInt8), (101 : UInt8)], [(120 : UInt8), (49 : UInt8)], [(110 : UInt8), (97 : UInt8), (109 : UInt8), (101 : UInt8)]] rfl (by decide) bigN 0 [] (by omega) (by have := bigN_le; omega) rfl (by simp [szL])
  simp only [e, Option.getD_some, Option.isSome_some, Bool.and_true, cond_true]
  have e2' : M.s_l03Unlike_l0 many v [[(97 : UInt8)], [(98 : UInt8)], [(105 : UInt8), (100 : UInt8)], [(109 : UInt8), (97 : UInt8), (120 : UInt8), (45 : UInt8), (115 : UInt8), (105 : UInt8), (122 : UInt8), (101 : UInt8)], [(120 : UInt8), (49 : UInt8)], [(110 : UInt8), (97 : UInt8), (109 : UInt8), (101 : UInt8)]] bigN 0 [] = _ := e2
  rw [e2']
  exact ⟨s', l, rfl, g1, k1, k2⟩
end M
/-
  THE DRAWERS: types.
-/
set_option linter.unusedVariables false
set_option linter.unusedSimpArgs false
namespace M
open Go.V (inB slB catB bigN bigN_le)

def Zd (d : Nat) : Nat := 40 * 4 ^ d
theorem Zd_succ (d : Nat) : Zd (d + 1) = 4 * Zd d := by unfold Zd; rw [Nat.pow_succ]; omega
theorem Zd_ge (d : Nat) : 40 ≤ Zd d := by unfold Zd; have : 0 < 4 ^ d := Nat.pow_pos (by decide); omega
abbrev RecD := Int → Bool → Bool → M.Sl00Src → Option (Int × (List UInt8) × M.Sl00Src × (List (List UInt8)) × (List M.SType))
def tupD (t : SType) (s : Sl00Src) : Int × (List UInt8) × M.Sl00Src × (List (List UInt8)) × (List M.SType) := (t.Kind, t.Name, s, t.Labels, t.Kids)
def DrI (rec : RecD) (d : Nat) : Prop := ∀ (own borrow : Bool) (s : Sl00Src) (m : Int), SOk s m → m + (Zd d : Int) ≤ 1000000000 → ∃ t s', rec (d : Int) own borrow s = some (tupD t s') ∧ SOk s' (m + (Zd d : Int)) ∧ t.sz ≤ Zd d
theorem some_ok {rec : RecD} {d : Nat} (h : DrI rec d) (own borrow : Bool) (s : Sl00Src) (m : Int) (hs : SOk s m) (hm : m + 1 + (Zd d : Int) ≤ 1000000000) : ∃ t s', M.s_l03Some rec (d : Int) own borrow s = some (tupD t s') ∧ SOk s' (m + 1 + (Zd d : Int)) ∧ t.sz ≤ Zd d := by
  obtain ⟨v, s1, e, g1⟩ := one_ok hs (by omega) 3 (by omega) (by omega)
  unfold M.s_l03Some
  simp only [e, Option.getD_some, Option.isSome_some, Bool.and_true, cond_true]
  cases v with
  | true => exact ⟨SType.mk 1 [] [] [], s1, rfl, g1.up (by omega), Nat.zero_le _⟩
  | false =>
    obtain ⟨t, s2, e2, g2, g3⟩ := h own borrow s1 (m + 1) g1 (by omega)
    simp only [e2, Option.getD_some, Option.isSome_some, cond_false, cond_true]
    exact ⟨t, s2, rfl, g2, g3⟩
theorem wrapD1 {d : Nat} (h : 1 ≤ d) (h2 : d ≤ 100) : Go.IntKind.wrap .i64 ((d : Int) - 1) = ((d - 1 : Nat) : Int) := by rw [wrap_i64 (by omega) (by omega)]; omega
theorem loop0_ok {rec : RecD} {d : Nat} (hd : 1 ≤ d) (hd2 : d ≤ 10) (h : DrI rec (d - 1)) (own borrow : Bool) (t8 : Int) (t82 : List UInt8) (t : Int) (t2 : List UInt8) (o7 : List (List UInt8)) (o8 : List SType) (o9 : List (List UInt8)) :
    ∀ (f i : Nat) (s : Sl00Src) (m : Int) (o : List SType), i < f → i ≤ 10 → SOk s m → m + ((i * Zd (d - 1) : Nat) : Int) ≤ 1000000000 → o.length + i ≤ 100 →
      ∃ s' ks, M.s_l03Draw_l0 rec (d : Int) own borrow t8 t82 t t2 o7 o8 o9 f (i : Int) s o = some (s'.code, s'.at_, s'.seed, t8, t82, t, t2, o7, o8, o9, o ++ ks) ∧ SOk s' (m + ((i * Zd (d - 1) : Nat) : Int)) ∧ szL SType.sz ks ≤ i * (Zd (d - 1) + 1)
  | 0, i, s, m, o, h1, _, _, _, _ => by omega
  | f + 1, 0, s, m, o, h1, h2, hs, hm, ho => by
    rw [M.s_l03Draw_l0]
    exact ⟨s, [], by simp, hs.up (by simp), by simp [szL]⟩
  | f + 1, i + 1, s, m, o, h1, h2, hs, hm, ho => by
    have e1 := Nat.succ_mul i (Zd (d - 1))
    have e2 := Nat.succ_mul i (Zd (d - 1) + 1)
    simp only [Nat.succ_eq_add_one] at e1 e2
    rw [e1] at hm ⊢
    rw [e2]
    obtain ⟨x, s1, e, g1, g2⟩ := h own borrow s m hs (by omega)
    have hc := cat_le (a := o.length) (b := 1) (by omega)
    have w : Go.IntKind.wrap .i64 (((i + 1 : Nat) : Int) - 1) = (i : Int) := by rw [wrap_i64 (by omega) (by omega)]; omega
    obtain ⟨s2, ks, e3, k1, k2⟩ := loop0_ok hd hd2 h own borrow t8 t82 t t2 o7 o8 o9 f i s1 (m + (Zd (d - 1) : Int)) (o ++ [x]) (by omega) (by omega) g1 (by omega) (by simp; omega)
    rw [M.s_l03Draw_l0]
    rw [decide_eq_true (show (0 : Int) < ((i + 1 : Nat) : Int) by omega)]
    simp only [cond_true, wrapD1 hd (by omega), e, tupD, SType.eta, Option.getD_some, Option.isSome_some, List.length_cons, List.length_nil, Nat.zero_add, hc, Bool.and_true, Bool.true_and, w, e3]
    exact ⟨s2, x :: ks, by simp, k1.up (by omega), by simp only [szL]; omega⟩
theorem loop1_ok {rec : RecD} {d : Nat} (hd : 1 ≤ d) (hd2 : d ≤ 10) (h : DrI rec (d - 1)) (own borrow : Bool) (t8 : Int) (t82 : List UInt8) (t : Int) (t2 : List UInt8) (o7 : List (List UInt8)) (o8 : List SType) (o9 : List (List UInt8)) (h9 : o9.length ≤ 10) :
    ∀ (j f i : Nat) (s : Sl00Src) (m : Int) (o : List SType), j < f → i + j = o9.length → SOk s m → m + ((j * Zd (d - 1) : Nat) : Int) ≤ 1000000000 → o.length + j ≤ 100 →
      ∃ s' ks, M.s_l03Draw_l1 rec (d : Int) own borrow t8 t82 t t2 o7 o8 o9 f (i : Int) s o = some (s'.code, s'.at_, s'.seed, t8, t82, t, t2, o7, o8, o9, o ++ ks) ∧ SOk s' (m + ((j * Zd (d - 1) : Nat) : Int)) ∧ szL SType.sz ks ≤ j * (Zd (d - 1) + 1)
  | j, 0, i, s, m, o, h1, _, _, _, _ => by omega
  | 0, f + 1, i, s, m, o, h1, h2, hs, hm, ho => by
    rw [M.s_l03Draw_l1, decide_eq_false (by omega)]
    exact ⟨s, [], by simp, hs.up (by simp), by simp [szL]⟩
  | j + 1, f + 1, i, s, m, o, h1, h2, hs, hm, ho => by
    have e1 := Nat.succ_mul j (Zd (d - 1))
    have e2 := Nat.succ_mul j (Zd (d - 1) + 1)
    simp only [Nat.succ_eq_add_one] at e1 e2
    rw [e1] at hm ⊢
    rw [e2]
    obtain ⟨x, s1, e, g1, g2⟩ := h own borrow s m hs (by omega)
    have hc := cat_le (a := o.length) (b := 1) (by omega)
    have w : Go.IntKind.wrap .i64 ((i : Int) + 1) = ((i + 1 : Nat) : Int) := by rw [wrap_i64 (by omega) (by omega)]; omega
    obtain ⟨s2, ks, e3, k1, k2⟩ := loop1_ok hd hd2 h own borrow t8 t82 t t2 o7 o8 o9 h9 j f (i + 1) s1 (m + (Zd (d - 1) : Int)) (o ++ [x]) (by omega) (by omega) g1 (by omega) (by simp; omega)
    rw [M.s_l03Draw_l1, decide_eq_true (by omega)]
    simp only [cond_true, wrapD1 hd (by omega), e, tupD, SType.eta, Option.getD_some, Option.isSome_some, List.length_cons, List.length_nil, Nat.zero_add, hc, Bool.and_true, Bool.true_and, w, e3]
    exact ⟨s2, x :: ks, by simp, k1.up (by omega), by simp only [szL]; omega⟩
theorem loop2_ok {rec : RecD} {d : Nat} (hd : 1 ≤ d) (hd2 : d ≤ 10) (h : DrI rec (d - 1)) (own borrow : Bool) (t8 : Int) (t82 : List UInt8) (t : Int) (t2 : List UInt8) (o7 : List (List UInt8)) (o8 : List SType) (o9 : List (List UInt8)) (h9 : o9.length ≤ 10) :
    ∀ (j f i : Nat) (s : Sl00Src) (m : Int) (o : List SType), j < f → i + j = o9.length → SOk s m → m + ((j * (Zd (d - 1) + 1) : Nat) : Int) ≤ 1000000000 → o.length + j ≤ 100 →
      ∃ s' ks, M.s_l03Draw_l2 rec (d : Int) own borrow t8 t82 t t2 o7 o8 o9 f (i : Int) s o = some (s'.code, s'.at_, s'.seed, t8, t82, t, t2, o7, o8, o9, o ++ ks) ∧ SOk s' (m + ((j * (Zd (d - 1) + 1) : Nat) : Int)) ∧ szL SType.sz ks ≤ j * (Zd (d - 1) + 1)
  | j, 0, i, s, m, o, h1, _, _, _, _ => by omega
  | 0, f + 1, i, s, m, o, h1, h2, hs, hm, ho => by
    rw [M.s_l03Draw_l2, decide_eq_false (by omega)]
    exact ⟨s, [], by simp, hs.up (by simp), by simp [szL]⟩
  | j + 1, f + 1, i, s, m, o, h1, h2, hs, hm, ho => by
    have e2 := Nat.succ_mul j (Zd (d - 1) + 1)
    simp only [Nat.succ_eq_add_one] at e2
    rw [e2] at hm ⊢
    obtain ⟨x, s1, e, g1, g2⟩ := some_ok h own borrow s m hs (by omega)
    have hc := cat_le (a := o.length) (b := 1) (by omega)
    have w : Go.IntKind.wrap .i64 ((i : Int) + 1) = ((i + 1 : Nat) : Int) := by rw [wrap_i64 (by omega) (by omega)]; omega
    obtain ⟨s2, ks, e3, k1, k2⟩ := loop2_ok hd hd2 h own borrow t8 t82 t t2 o7 o8 o9 h9 j f (i + 1) s1 (m + 1 + (Zd (d - 1) : Int)) (o ++ [x]) (by omega) (by omega) g1 (by omega) (by simp; omega)
    rw [M.s_l03Draw_l2, decide_eq_true (by omega)]
    simp only [cond_true, wrapD1 hd (by omega), e, tupD, SType.eta, Option.getD_some, Option.isSome_some, List.length_cons, List.length_nil, Nat.zero_add, hc, Bool.and_true, Bool.true_and, w, e3]
    exact ⟨s2, x :: ks, by simp, k1.up (by omega), by simp only [szL]; omega⟩
end M
/-
  THE DRAWERS: a drawn type is small.
-/
set_option linter.unusedVariables false
set_option linter.unusedSimpArgs false
namespace M
open Go.V (inB slB catB bigN bigN_le)

theorem ctP {α : Type} (a b : α) : (bif true then a else b) = a := id rfl
theorem cfP {α : Type} (a b : α) : (bif false then a else b) = b := id rfl
theorem fl_sz (k : Int) : (SType.mk k [] [] []).sz = 0 := rfl
theorem nm_sz (k : Int) (n : List UInt8) : (SType.mk k n [] []).sz = n.length := rfl
theorem kd_sz (k : Int) (ls : List (List UInt8)) (ks : List SType) : (SType.mk k [] ls ks).sz = szL List.length ls + szL SType.sz ks := by
  rw [SType.sz_eq]; show 0 + szL List.length ls + szL SType.sz ks = _; omega
theorem draw_step (rec : RecD) (d : Nat) (h5 : d ≤ 5) (hrec0 : 1 ≤ d → DrI rec (d - 1)) : DrI (M.s_l03Draw_b rec) d := fun own borrow s m hs hm => by
    have hz := Zd_ge d
    have hbig := bigN_le
    have pk := @pick_ok
    have on := @one_ok
    have tx := @text_ok
    have am := @among_ok
    have un := @unlike_ok
    unfold M.s_l03Draw_b
    generalize M.s_l00Src_pick = P at pk ⊢
    generalize M.s_l00Src_one = O at on ⊢
    generalize M.s_l00Src_text = T at tx ⊢
    generalize M.s_l00Src_among = G at am ⊢
    generalize M.s_l03Unlike = U at un ⊢
    obtain ⟨k, s1, e, g1, k0, k1⟩ := pk hs (by omega) 20 (by omega) (by omega)
    simp only [e, Option.getD_some, Option.isSome_some, Bool.and_true, Bool.true_or, Bool.true_and, Bool.and_self]
    cases hc : (decide ((d : Int) ≤ 1) || decide (k < 7)) with
    | true =>
      simp only [ctP]
      cases own with
      | true =>
        obtain ⟨v, s2, e2, g2⟩ := on g1 (by omega) 5 (by omega) (by omega)
        simp only [ctP, e2, Option.getD_some, Option.isSome_some, beq_self_eq_true, Bool.and_self, Bool.true_and]
        cases v with
        | true =>
          obtain ⟨nm, s3, e3, g3, g4⟩ := tx g2 (by omega) [[(114 : UInt8), (101 : UInt8), (115 : UInt8)], [(102 : UInt8), (105 : UInt8), (108 : UInt8), (101 : UInt8)]] 4 (by decide) (by decide) (by decide)
          cases borrow with
          | true =>
            obtain ⟨v2, s4, e4, g5⟩ := on g3 (by omega) 2 (by omega) (by omega)
            simp only [ctP, e3, e4, Option.getD_some, Option.isSome_some, beq_self_eq_true, Bool.and_self, Bool.true_and]
            cases v2 with
            | true => exact ⟨SType.mk 21 nm [] [], s4, rfl, g5.up (by omega), by rw [nm_sz]; omega⟩
            | false => exact ⟨SType.mk 20 nm [] [], s4, rfl, g5.up (by omega), by rw [nm_sz]; omega⟩
          | false =>
            simp only [ctP, cfP, e3, Option.getD_some, Option.isSome_some, beq_self_eq_true, Bool.and_self, Bool.true_and]
            exact ⟨SType.mk 20 nm [] [], s3, rfl, g3.up (by omega), by rw [nm_sz]; omega⟩
        | false =>
          obtain ⟨v2, s3, e3, g3⟩ := am g2 (by omega) [(2 : Int), (3 : Int), (4 : Int), (5 : Int), (6 : Int), (7 : Int), (8 : Int), (9 : Int), (10 : Int), (11 : Int), (11 : Int)] (by decide) (by decide)
          simp only [cfP, e3, Option.getD_some, Option.isSome_some, Bool.and_self, ctP]
          exact ⟨SType.mk v2 [] [] [], s3, rfl, g3.up (by omega), by rw [fl_sz]; omega⟩
      | false =>
        obtain ⟨v2, s3, e3, g3⟩ := am g1 (by omega) [(2 : Int), (3 : Int), (4 : Int), (5 : Int), (6 : Int), (7 : Int), (8 : Int), (9 : Int), (10 : Int), (11 : Int), (11 : Int)] (by decide) (by decide)
        simp only [cfP, e3, Option.getD_some, Option.isSome_some, beq_self_eq_true, Bool.and_self, Bool.true_and, ctP]
        exact ⟨SType.mk v2 [] [] [], s3, rfl, g3.up (by omega), by rw [fl_sz]; omega⟩
    | false =>
      simp only [Bool.or_eq_false_iff, decide_eq_false_iff_not] at hc
      have hd : 1 ≤ d := by omega
      obtain ⟨z, hz1⟩ : ∃ z, Zd (d - 1) = z := ⟨_, rfl⟩
      have hz2 : Zd d = 4 * z := by
        have := Zd_succ (d - 1)
        rw [show d - 1 + 1 = d by omega] at this; omega
      have hz3 : 40 ≤ z := by rw [← hz1]; exact Zd_ge _
      have hz4 : z ≤ 100000 := by
        have := Nat.pow_le_pow_right (show 0 < 4 by omega) (show d - 1 ≤ 4 by omega)
        rw [← hz1]; unfold Zd
        have h256 : 4 ^ 4 = 256 := rfl
        omega
      have hrec := hrec0 hd
      have hrec' := hrec
      unfold DrI at hrec'
      rw [hz1] at hrec'
      have w := wrapD1 hd (by omega)
      simp only [cfP, w]
      cases hA : (bif (k == (7 : Int)) then (k == (7 : Int)) else (k == (8 : Int))) with
      | true =>
        obtain ⟨x, s2, e2, g2, g3⟩ := hrec' own borrow s1 (m + 1) g1 (by omega)
        simp only [ctP, e2, tupD, SType.eta, Option.getD_some, Option.isSome_some, Bool.and_self]
        exact ⟨SType.mk 12 [] [] [x], s2, rfl, g2.up (by omega), by rw [kd_sz, szL_one]; simp only [szL]; omega⟩
      | false =>
        simp only [cfP]
        cases hB : (bif (k == (9 : Int)) then (k == (9 : Int)) else (k == (10 : Int))) with
        | true =>
          obtain ⟨x, s2, e2, g2, g3⟩ := hrec' own borrow s1 (m + 1) g1 (by omega)
          simp only [ctP, e2, tupD, SType.eta, Option.getD_some, Option.isSome_some, Bool.and_self]
          exact ⟨SType.mk 13 [] [] [x], s2, rfl, g2.up (by omega), by rw [kd_sz, szL_one]; simp only [szL]; omega⟩
        | false =>
          simp only [cfP]
          cases hC : (bif (k == (11 : Int)) then (k == (11 : Int)) else (k == (12 : Int))) with
          | true =>
            obtain ⟨x, s2, e2, g2, g3⟩ := some_ok hrec own borrow s1 (m + 1) g1 (by omega)
            rw [hz1] at g2 g3
            obtain ⟨y, s3, e3, g4, g5⟩ := some_ok hrec own borrow s2 _ g2 (by omega)
            rw [hz1] at g4 g5
            simp only [ctP, e2, tupD, e3, SType.eta, Option.getD_some, Option.isSome_some, Bool.and_self]
            exact ⟨SType.mk 14 [] [] [x, y], s3, rfl, g4.up (by omega), by rw [kd_sz]; simp only [szL]; omega⟩
          | false =>
            simp only [cfP]
            cases hD : (k == (13 : Int)) with
            | true =>
              obtain ⟨v, s2, e2, g2, v0, v1⟩ := pk g1 (by omega) 3 (by omega) (by omega)
              obtain ⟨i, rfl⟩ := Int.eq_ofNat_of_zero_le v0
              have w3 : Go.IntKind.wrap .i64 (1 + (i : Int)) = ((i + 1 : Nat) : Int) := by rw [wrap_i64 (by omega) (by omega)]; omega
              have hi : (i + 1) * z ≤ 3 * z := Nat.mul_le_mul_right _ (by omega)
              have hi2 : (i + 1) * (z + 1) ≤ 3 * (z + 1) := Nat.mul_le_mul_right _ (by omega)
              obtain ⟨s3, ks, e3, g3, g4⟩ := loop0_ok hd (by omega) hrec own borrow 0 [] 15 [] [] [] [] bigN (i + 1) s2 (m + 1 + 1) [] (by omega) (by omega) g2 (by rw [hz1]; omega) (by simp; omega)
              rw [hz1] at g3 g4
              simp only [ctP, e2, Option.getD_some, Option.isSome_some, w3, e3, Bool.and_self]
              exact ⟨SType.mk 15 [] [] ([] ++ ks), s3, rfl, g3.up (by omega), by rw [kd_sz, List.nil_append]; simp only [szL]; omega⟩
            | false =>
              simp only [cfP]
              cases hE : (bif (k == (14 : Int)) then (k == (14 : Int)) else (k == (15 : Int))) with
              | true =>
                obtain ⟨v, s2, e2, g2, v0, v1⟩ := pk g1 (by omega) 3 (by omega) (by omega)
                have w3 : Go.IntKind.wrap .i64 (1 + v) = 1 + v := wrap_i64 (by omega) (by omega)
                obtain ⟨s3, ls, e3, g3, l1, l2⟩ := un g2 (by omega) (1 + v) (by omega) (by omega)
                have hi : ls.length * z ≤ 3 * z := Nat.mul_le_mul_right _ (by omega)
                have hi2 : ls.length * (z + 1) ≤ 3 * (z + 1) := Nat.mul_le_mul_right _ (by omega)
                obtain ⟨s4, ks, e4, g4, g5⟩ := loop1_ok hd (by omega) hrec own borrow 0 [] 16 [] [] [] ls (by omega) ls.length bigN 0 s3 (m + 1 + 1 + 1) [] (by omega) (by omega) g3 (by rw [hz1]; omega) (by simp; omega)
                rw [hz1] at g4 g5
                rw [show ((0 : Nat) : Int) = 0 from rfl] at e4
                simp only [ctP, e2, Option.getD_some, Option.isSome_some, w3, e3, e4, Bool.and_self]
                exact ⟨SType.mk 16 [] ls ([] ++ ks), s4, rfl, g4.up (by omega), by rw [kd_sz, List.nil_append]; omega⟩
              | false =>
                simp only [cfP]
                cases hF : (bif (k == (16 : Int)) then (k == (16 : Int)) else (k == (17 : Int))) with
                | true =>
                  obtain ⟨v, s2, e2, g2, v0, v1⟩ := pk g1 (by omega) 3 (by omega) (by omega)
                  have w3 : Go.IntKind.wrap .i64 (1 + v) = 1 + v := wrap_i64 (by omega) (by omega)
                  obtain ⟨s3, ls, e3, g3, l1, l2⟩ := un g2 (by omega) (1 + v) (by omega) (by omega)
                  have hi2 : ls.length * (z + 1) ≤ 3 * (z + 1) := Nat.mul_le_mul_right _ (by omega)
                  obtain ⟨s4, ks, e4, g4, g5⟩ := loop2_ok hd (by omega) hrec own borrow 0 [] 17 [] [] [] ls (by omega) ls.length bigN 0 s3 (m + 1 + 1 + 1) [] (by omega) (by omega) g3 (by rw [hz1]; omega) (by simp; omega)
                  rw [hz1] at g4 g5
                  rw [show ((0 : Nat) : Int) = 0 from rfl] at e4
                  simp only [ctP, e2, Option.getD_some, Option.isSome_some, w3, e3, e4, Bool.and_self]
                  exact ⟨SType.mk 17 [] ls ([] ++ ks), s4, rfl, g4.up (by omega), by rw [kd_sz, List.nil_append]; omega⟩
                | false =>
                  simp only [cfP]
                  obtain ⟨v, s2, e2, g2, v0, v1⟩ := pk g1 (by omega) 4 (by omega) (by omega)
                  have w3 : Go.IntKind.wrap .i64 (1 + v) = 1 + v := wrap_i64 (by omega) (by omega)
                  obtain ⟨s3, ls, e3, g3, l1, l2⟩ := un g2 (by omega) (1 + v) (by omega) (by omega)
                  cases hG : (k == (18 : Int)) with
                  | true =>
                    simp only [ctP, e2, Option.getD_some, Option.isSome_some, w3, e3, Bool.and_self]
                    exact ⟨SType.mk 18 [] ls [], s3, rfl, g3.up (by omega), by rw [kd_sz]; simp only [szL]; omega⟩
                  | false =>
                    simp only [cfP, ctP, e2, Option.getD_some, Option.isSome_some, w3, e3, Bool.and_self]
                    exact ⟨SType.mk 19 [] ls [], s3, rfl, g3.up (by omega), by rw [kd_sz]; simp only [szL]; omega⟩
theorem draw_ok : ∀ (n d : Nat), d < n → d ≤ 5 → DrI (M.s_l03Draw_n n) d
  | 0, d, h, _ => by omega
  | n + 1, d, h, h5 => draw_step (M.s_l03Draw_n n) d h5 fun h1 => draw_ok n (d - 1) (by omega) (by omega)
theorem draw_big (d : Nat) (h5 : d ≤ 5) : DrI M.s_l03Draw d := draw_ok bigN d (by have := bigN_le; omega) h5
end M
/-
  THE DRAWERS: any type, any type of a function.
-/
set_option linter.unusedVariables false
set_option linter.unusedSimpArgs false
namespace M
open Go.V (inB slB catB bigN bigN_le)

theorem Zd_4 {d : Nat} (h : d ≤ 4) : Zd d ≤ 10240 := by
  have := Nat.pow_le_pow_right (show 0 < 4 by omega) h
  have h256 : 4 ^ 4 = 256 := rfl
  unfold Zd; omega
theorem any_loop : ∀ (j f : Nat) (t : SType), j < f → j ≤ 10 → ∃ t' : SType, M.s_l03Any_l0 0 [] [] [] f ((j : Int) - 1) t.Kind t.Name t.Labels t.Kids = some (0, [], t'.Kind, t'.Name, [], [], t'.Labels, t'.Kids) ∧ t'.sz ≤ t.sz + j
  | j, 0, t, h, _ => by omega
  | 0, f + 1, t, h, _ => by
    rw [M.s_l03Any_l0, decide_eq_false (by omega), cfP]
    exact ⟨t, rfl, by omega⟩
  | j + 1, f + 1, t, h, h2 => by
    rw [M.s_l03Any_l0, decide_eq_true (by omega), ctP]
    have w : Go.IntKind.wrap .i64 (((j + 1 : Nat) : Int) - 1 - 1) = (j : Int) - 1 := by rw [wrap_i64 (by omega) (by omega)]; omega
    rw [w, SType.eta]
    obtain ⟨t', e, h3⟩ := any_loop j f (SType.mk 13 [] [] [t]) (by omega) (by omega)
    refine ⟨t', e, ?_⟩
    rw [kd_sz, szL_one] at h3
    simp only [szL] at h3; omega
theorem any_ok {s : Sl00Src} {m : Int} (h : SOk s m) (hm : m ≤ 100000000) : ∃ t s', M.s_l03Any s = some (tupD t s') ∧ SOk s' (m + 30000) ∧ t.sz ≤ 20000 := by
  have pk := @pick_ok
  have tx := @text_ok
  have hbig := bigN_le
  obtain ⟨v, s1, e1, g1, v0, v1⟩ := pk h (by omega) 4 (by omega) (by omega)
  obtain ⟨i, rfl⟩ := Int.eq_ofNat_of_zero_le v0
  have w : Go.IntKind.wrap .i64 (1 + (i : Int)) = ((i + 1 : Nat) : Int) := by rw [wrap_i64 (by omega) (by omega)]; omega
  have hz := Zd_4 (show i + 1 ≤ 4 by omega)
  obtain ⟨t, s2, e2, g2, t1⟩ := draw_big (i + 1) (by omega) true true s1 (m + 1) g1 (by omega)
  obtain ⟨k, s3, e3, g3, k0, k1⟩ := pk g2 (by omega) 12 (by omega) (by omega)
  have hsz := SType.sz_eq t
  have hll := szL_len List.length t.Labels
  have hkl := szL_len SType.sz t.Kids
  have hc2 := cat_le (a := t.Labels.length) (b := 1) (by omega)
  have hc3 := cat_le (a := t.Kids.length) (b := 1) (by omega)
  have so := @some_ok M.s_l03Draw 2 (draw_big 2 (by omega)) true true
  have hz2 := Zd_4 (show 2 ≤ 4 by omega)
  unfold M.s_l03Any
  simp only [e1, w, e2, tupD, e3, Option.getD_some, Option.isSome_some, Bool.and_true, Bool.true_and, Bool.and_self]
  cases c0 : (k == (0 : Int)) with
  | true =>
    obtain ⟨v2, s4, e4, g4, -, -⟩ := pk g3 (by omega) 25 (by omega) (by omega)
    simp only [ctP, e4, Option.getD_some, Option.isSome_some]
    exact ⟨SType.mk v2 t.Name t.Labels t.Kids, s4, rfl, g4.up (by omega), by rw [SType.sz_eq]; show t.Name.length + szL List.length t.Labels + szL SType.sz t.Kids ≤ _; omega⟩
  | false =>
    simp only [cfP]
    cases c1 : (k == (1 : Int)) with
    | true =>
      obtain ⟨v2, s4, e4, g4, -, -⟩ := pk g3 (by omega) 24 (by omega) (by omega)
      simp only [ctP, e4, Option.getD_some, Option.isSome_some, List.length_cons, List.length_nil, Nat.zero_add, hc3, Bool.and_self]
      exact ⟨SType.mk t.Kind t.Name t.Labels (t.Kids ++ [SType.mk v2 [] [] []]), s4, rfl, g4.up (by omega), by rw [SType.sz_eq]; show t.Name.length + szL List.length t.Labels + szL SType.sz (t.Kids ++ [SType.mk v2 [] [] []]) ≤ _; rw [szL_app, szL_one, fl_sz]; omega⟩
    | false =>
      simp only [cfP]
      cases c2 : (k == (2 : Int)) with
      | true =>
        obtain ⟨x, s4, e4, g4, x1⟩ := tx g3 (by omega) [[(97 : UInt8)], [(66 : UInt8)], [(45 : UInt8)], [(113 : UInt8)]] 1 (by decide) (by decide) (by decide)
        simp only [ctP, e4, Option.getD_some, Option.isSome_some, List.length_cons, List.length_nil, Nat.zero_add, hc2, Bool.and_self]
        exact ⟨SType.mk t.Kind t.Name (t.Labels ++ [x]) t.Kids, s4, rfl, g4.up (by omega), by rw [SType.sz_eq]; show t.Name.length + szL List.length (t.Labels ++ [x]) + szL SType.sz t.Kids ≤ _; rw [szL_app, szL_one]; omega⟩
      | false =>
        simp only [cfP]
        cases c3 : (k == (3 : Int)) with
        | true =>
          obtain ⟨x, s4, e4, g4, x1⟩ := tx g3 (by omega) [[(114 : UInt8), (101 : UInt8), (115 : UInt8)], [(97 : UInt8), (45 : UInt8), (45 : UInt8), (98 : UInt8)], [(97 : UInt8), (45 : UInt8)]] 4 (by decide) (by decide) (by decide)
          simp only [ctP, e4, Option.getD_some, Option.isSome_some, Bool.and_self]
          exact ⟨SType.mk t.Kind x t.Labels t.Kids, s4, rfl, g4.up (by omega), by rw [SType.sz_eq]; show x.length + szL List.length t.Labels + szL SType.sz t.Kids ≤ _; omega⟩
        | false =>
          simp only [cfP]
          cases c4 : (k == (4 : Int)) with
          | true =>
            obtain ⟨x, s4, e4, g4, x1⟩ := so s3 _ g3 (by omega)
            have e4' : M.s_l03Some M.s_l03Draw 2 true true s3 = _ := e4
            simp only [ctP, e4', tupD, SType.eta, Option.getD_some, Option.isSome_some, Bool.and_self]
            exact ⟨SType.mk 22 [] [] [x], s4, rfl, g4.up (by omega), by rw [kd_sz, szL_one]; simp only [szL]; omega⟩
          | false =>
            simp only [cfP]
            cases c5 : (k == (5 : Int)) with
            | true =>
              obtain ⟨v2, s4, e4, g4, j0, j1⟩ := pk g3 (by omega) 4 (by omega) (by omega)
              obtain ⟨j, rfl⟩ := Int.eq_ofNat_of_zero_le j0
              obtain ⟨t', e5, h5⟩ := any_loop (j + 1) bigN t (by omega) (by omega)
              rw [show (((j + 1 : Nat) : Int) - 1) = (j : Int) by omega] at e5
              simp only [ctP, e4, e5, Option.getD_some, Option.isSome_some, Bool.and_self]
              exact ⟨t', s4, rfl, g4.up (by omega), by omega⟩
            | false =>
              simp only [cfP]
              cases c6 : (k == (6 : Int)) with
              | true =>
                obtain ⟨v2, s4, e4, g4, -, -⟩ := pk g3 (by omega) 3 (by omega) (by omega)
                simp only [ctP, e4, Option.getD_some, Option.isSome_some]
                exact ⟨SType.mk (Go.IntKind.wrap .i64 (v2 + 1)) [] [] [], s4, rfl, g4.up (by omega), by rw [fl_sz]; omega⟩
              | false =>
                simp only [cfP, ctP]
                exact ⟨t, s3, rfl, g3.up (by omega), by omega⟩
def tupF (f : SFuncType) (s : Sl00Src) : Int × (List UInt8) × Bool × M.Sl00Src × (List M.SParam) × (List (List UInt8)) × (List M.SType) := (f.Result.Kind, f.Result.Name, f.Async, s, f.Params, f.Result.Labels, f.Result.Kids)
theorem drawFunc_loop (own : Bool) (f : Int) (f2 : List UInt8) (f3 : Bool) (names : List (List UInt8)) (o15 : List (List UInt8)) (o16 : List SType) (hn : names.length ≤ 10) :
    ∀ (j g i : Nat) (s : Sl00Src) (m : Int) (o : List SParam), j < g → i + j = names.length → SOk s m → m + ((j * 10240 : Nat) : Int) ≤ 200000000 → o.length + j ≤ 100 →
      ∃ s' ps, M.s_l03DrawFunc_l0 own 0 [] false f f2 f3 names [] [] [] o15 o16 g (i : Int) s o = some (s'.code, s'.at_, s'.seed, 0, [], false, f, f2, f3, [], [], [], o ++ ps, o15, o16) ∧ SOk s' (m + ((j * 10240 : Nat) : Int)) ∧ szL SParam.sz ps ≤ szL List.length (names.drop i) + j * 10241
  | j, 0, i, s, m, o, h1, _, _, _, _ => by omega
  | 0, g + 1, i, s, m, o, h1, h2, hs, hm, ho => by
    rw [M.s_l03DrawFunc_l0, decide_eq_false (by omega), cfP]
    exact ⟨s, [], by simp, hs.up (by simp), by simp [szL]⟩
  | j + 1, g + 1, i, s, m, o, h1, h2, hs, hm, ho => by
    have hi : i < names.length := by omega
    have hz := Zd_4 (show 3 ≤ 4 by omega)
    obtain ⟨x, s1, e, g1, g2⟩ := draw_big 3 (by omega) own own s m hs (by omega)
    have e' : M.s_l03Draw 3 own own s = _ := e
    have hc := cat_le (a := o.length) (b := 1) (by omega)
    have hin : inB (i : Int) names.length = true := by rw [inB_nat]; simpa using hi
    have w : Go.IntKind.wrap .i64 ((i : Int) + 1) = ((i + 1 : Nat) : Int) := by rw [wrap_i64 (by omega) (by omega)]; omega
    obtain ⟨s2, ps, e3, k1, k2⟩ := drawFunc_loop own f f2 f3 names o15 o16 hn j g (i + 1) s1 (m + 10240) (o ++ [SParam.mk names[i] x]) (by omega) (by omega) (g1.up (by omega)) (by omega) (by simp; omega)
    rw [M.s_l03DrawFunc_l0, decide_eq_true (by omega), ctP]
    simp only [e', tupD, SType.eta, Option.getD_some, Option.isSome_some, List.length_cons, List.length_nil, Nat.zero_add, hc, hin, Bool.and_true, Bool.true_and, ctP, w, Int.toNat_natCast, getD_lt hi, e3]
    refine ⟨s2, SParam.mk names[i] x :: ps, by simp, k1.up (by omega), ?_⟩
    have hp : szL SParam.sz (SParam.mk names[i] x :: ps) = names[i].length + x.sz + 1 + szL SParam.sz ps := rfl
    rw [hp, drop_get hi]
    simp only [szL]; omega
theorem drawFunc_ok {s : Sl00Src} {m : Int} (h : SOk s m) (hm : m ≤ 100000000) : ∃ f s', M.s_l03DrawFunc true s = some (tupF f s') ∧ SOk s' (m + 60000) ∧ f.sz ≤ 60000 := by
  have hbig := bigN_le
  have hz := Zd_4 (show 3 ≤ 4 by omega)
  obtain ⟨x, s1, e1, g1, x1⟩ := some_ok (draw_big 3 (by omega)) true false s m h (by omega)
  have e1' : M.s_l03Some M.s_l03Draw 3 true false s = _ := e1
  obtain ⟨a, s2, e2, g2⟩ := one_ok g1 (by omega) 6 (by omega) (by omega)
  obtain ⟨v, s3, e3, g3, v0, v1⟩ := pick_ok g2 (by omega) 4 (by omega) (by omega)
  obtain ⟨s4, names, e4, g4, n1, n2⟩ := unlike_ok g3 (by omega) v v0 (by omega)
  obtain ⟨s5, ps, e5, g5, p1⟩ := drawFunc_loop true x.Kind x.Name a names x.Labels x.Kids (by omega) names.length bigN 0 s4 _ [] (by omega) (by omega) g4 (by omega) (by simp; omega)
  have e5' : M.s_l03DrawFunc_l0 true 0 [] false x.Kind x.Name a names [] [] [] x.Labels x.Kids bigN 0 s4 [] = _ := e5
  have hpl := szL_len SParam.sz ps
  unfold M.s_l03DrawFunc
  simp only [e1', tupD, e2, e3, e4, Option.getD_some, Option.isSome_some, Bool.and_true, Bool.and_self]
  rw [e5']
  simp only [ctP, List.nil_append]
  rw [List.drop_zero] at p1
  exact ⟨SFuncType.mk ps x a, s5, rfl, g5.up (by omega), by rw [SFuncType.sz_eq]; show szL SParam.sz ps + x.sz ≤ _; omega⟩
end M
/-
  TYPES ARE READ BACK: the law in plain Lean.
-/
set_option linter.unusedVariables false
set_option linter.unusedSimpArgs false
namespace M
open Go.V (inB slB catB bigN bigN_le)

theorem anyFunc_ok {s : Sl00Src} {m : Int} (h : SOk s m) (hm : m ≤ 10000000) : ∃ f s', M.s_l03AnyFunc s = some (tupF f s') ∧ f.sz ≤ 100000 := by
  have pk := @pick_ok
  have tx := @text_ok
  have an := @any_ok
  obtain ⟨f, s1, e1, g1, f1⟩ := drawFunc_ok h (by omega)
  obtain ⟨k, s2, e2, g2, k0, k1⟩ := pk g1 (by omega) 10 (by omega) (by omega)
  have hsz := SFuncType.sz_eq f
  have hpl := szL_len SParam.sz f.Params
  have hc := cat_le (a := f.Params.length) (b := 1) (by omega)
  unfold M.s_l03AnyFunc
  simp only [e1, tupF, e2, Option.getD_some, Option.isSome_some, Bool.and_true, Bool.true_and, Bool.and_self]
  cases c0 : (k == (0 : Int)) with
  | true =>
    obtain ⟨x, s3, e3, g3, x1⟩ := an g2 (by omega)
    simp only [ctP, e3, tupD, Option.getD_some, Option.isSome_some]
    exact ⟨SFuncType.mk f.Params x f.Async, s3, rfl, by rw [SFuncType.sz_eq]; show szL SParam.sz f.Params + x.sz ≤ _; omega⟩
  | false =>
    simp only [cfP]
    cases c1 : (k == (1 : Int)) with
    | true =>
      obtain ⟨nm, s3, e3, g3, n1⟩ := tx g2 (by omega) [[(97 : UInt8)], [(98 : UInt8)], []] 1 (by decide) (by decide) (by decide)
      obtain ⟨x, s4, e4, g4, x1⟩ := an g3 (by omega)
      simp only [ctP, e3, e4, tupD, SType.eta, Option.getD_some, Option.isSome_some, List.length_cons, List.length_nil, Nat.zero_add, hc, Bool.and_self]
      have hp : szL SParam.sz [SParam.mk nm x] = nm.length + x.sz + 1 := rfl
      exact ⟨SFuncType.mk (f.Params ++ [SParam.mk nm x]) f.Result f.Async, s4, rfl, by rw [SFuncType.sz_eq]; show szL SParam.sz (f.Params ++ [SParam.mk nm x]) + f.Result.sz ≤ _; rw [szL_app, hp]; omega⟩
    | false =>
      simp only [cfP, ctP]
      exact ⟨f, s2, rfl, by omega⟩
theorem src0 {code : List UInt8} (h : code.length ≤ 1048576) : SOk (Sl00Src.mk code 0 0) 0 := ⟨h, Int.le_refl _, Int.le_refl _⟩
theorem drawType_ok {code : List UInt8} (h : code.length ≤ 1048576) : ∃ t : SType, M.s_DrawTypeText code = some (t.Kind, t.Name, t.Labels, t.Kids) ∧ t.sz ≤ 20000 := by
  obtain ⟨t, s1, e, -, h1⟩ := any_ok (src0 h) (by omega)
  unfold M.s_DrawTypeText
  simp only [e, tupD, Option.getD_some, Option.isSome_some, Bool.and_self, ctP]
  exact ⟨t, rfl, h1⟩
theorem drawFuncText_ok {code : List UInt8} (h : code.length ≤ 1048576) : ∃ f : SFuncType, M.s_DrawFuncText code = some (f.Result.Kind, f.Result.Name, f.Async, f.Params, f.Result.Labels, f.Result.Kids) ∧ f.sz ≤ 100000 := by
  obtain ⟨f, s1, e, h1⟩ := anyFunc_ok (src0 h) (by omega)
  unfold M.s_DrawFuncText
  simp only [e, tupF, Option.getD_some, Option.isSome_some, Bool.and_self, ctP]
  exact ⟨f, rfl, h1⟩
theorem typeText_sp (t : SType) (h : t.sz ≤ 1000000) : M.s_TypeText t = some (if tOk t = true then txt t else []) := by
  unfold M.s_TypeText
  simp only [SType.re_eq, ok_s t (by omega), Option.getD_some, Option.isSome_some, Bool.and_true, Bool.and_self]
  cases hok : tOk t with
  | false => simp
  | true => simp [l03Text_s t (by omega) hok]
theorem drawRead_ok {code : List UInt8} (h : code.length ≤ 1048576) : ∃ w : List UInt8, M.s_DrawReadType code = some w ∧ w.length ≤ 200000 := by
  have pk := @pick_ok
  have tx := @text_ok
  obtain ⟨t, s1, e1, g1, h1⟩ := any_ok (src0 h) (by omega)
  obtain ⟨k, s2, e2, g2, -, -⟩ := pk g1 (by omega) 8 (by omega) (by omega)
  have et := typeText_sp t (by omega)
  have hl : (if tOk t = true then txt t else []).length ≤ 120019 := by
    split
    · rename_i hok; exact txt_small hok
    · simp
  generalize hw : (if tOk t = true then txt t else []) = w at et hl
  unfold M.s_DrawReadType
  simp only [e1, tupD, e2, SType.eta, et, Option.getD_some, Option.isSome_some, Bool.and_true, Bool.true_and, Bool.and_self]
  cases c0 : (k == (0 : Int)) with
  | true =>
    obtain ⟨x, s3, e3, g3, x1⟩ := tx g2 (by omega) [[(32 : UInt8)], [(62 : UInt8)], [(44 : UInt8)], [(125 : UInt8)]] 1 (by decide) (by decide) (by decide)
    have hc : catB w x = true := catOk (by omega)
    simp only [ctP, e3, Option.getD_some, Option.isSome_some, hc, Bool.and_self]
    exact ⟨w ++ x, rfl, by rw [List.length_append]; omega⟩
  | false =>
    simp only [cfP]
    cases c1 : (k == (1 : Int)) with
    | true =>
      have key : ∀ l : List (List UInt8), 2 ≤ l.length → l.length ≤ 200 → (∀ x ∈ l, x.length ≤ 100) → ∃ v s', M.s_l00Src_text l s2 = some (v, s') ∧ v.length ≤ 100 := fun l a b c => by
        obtain ⟨v, s', e, -, hv⟩ := tx g2 (by omega) l 100 a b c
        exact ⟨v, s', e, hv⟩
      simp only [ctP]
      obtain ⟨v, s3, e3, v1⟩ := key [[], [(108 : UInt8), (105 : UInt8), (115 : UInt8), (116 : UInt8)], [(108 : UInt8), (105 : UInt8), (115 : UInt8), (116 : UInt8), (60 : UInt8), (62 : UInt8)], [(108 : UInt8), (105 : UInt8), (115 : UInt8), (116 : UInt8), (60 : UInt8), (117 : UInt8), (110 : UInt8), (105 : UInt8), (116 : UInt8), (62 : UInt8)], [(114 : UInt8), (101 : UInt8), (99 : UInt8), (111 : UInt8), (114 : UInt8), (100 : UInt8), (123 : UInt8), (125 : UInt8)], [(114 : UInt8), (101 : UInt8), (99 : UInt8), (111 : UInt8), (114 : UInt8), (100 : UInt8), (123 : UInt8), (97 : UInt8), (125 : UInt8)], [(114 : UInt8), (101 : UInt8), (99 : UInt8), (111 : UInt8), (114 : UInt8), (100 : UInt8), (123 : UInt8), (97 : UInt8), (58 : UInt8), (117 : UInt8), (110 : UInt8), (105 : UInt8), (116 : UInt8), (125 : UInt8)], [(118 : UInt8), (97 : UInt8), (114 : UInt8), (105 : UInt8), (97 : UInt8), (110 : UInt8), (116 : UInt8), (123 : UInt8), (97 : UInt8), (58 : UInt8), (117 : UInt8), (110 : UInt8), (105 : UInt8), (116 : UInt8), (125 : UInt8)], [(118 : UInt8), (97 : UInt8), (114 : UInt8), (105 : UInt8), (97 : UInt8), (110 : UInt8), (116 : UInt8), (123 : UInt8), (97 : UInt8), (44 : UInt8), (97 : UInt8), (125 : UInt8)], [(111 : UInt8), (119 : UInt8), (110 : UInt8), (60 : UInt8), (62 : UInt8)], [(111 : UInt8), (119 : UInt8), (110 : UInt8), (60 : UInt8), (65 : UInt8), (62 : UInt8)], [(114 : UInt8), (101 : UInt8), (115 : UInt8), (117 : UInt8), (108 : UInt8), (116 : UInt8), (60 : UInt8), (117 : UInt8), (110 : UInt8), (105 : UInt8), (116 : UInt8), (44 : UInt8), (117 : UInt8), (110 : UInt8), (105 : UInt8), (116 : UInt8), (62 : UInt8)], [(116 : UInt8), (117 : UInt8), (112 : UInt8), (108 : UInt8), (101 : UInt8), (60 : UInt8), (117 : UInt8), (56 : UInt8), (44 : UInt8), (62 : UInt8)], [(108 : UInt8), (105 : UInt8), (115 : UInt8), (116 : UInt8), (60 : UInt8), (108 : UInt8), (105 : UInt8), (115 : UInt8), (116 : UInt8), (60 : UInt8), (108 : UInt8), (105 : UInt8), (115 : UInt8), (116 : UInt8), (60 : UInt8), (108 : UInt8), (105 : UInt8), (115 : UInt8), (116 : UInt8), (60 : UInt8), (117 : UInt8), (56 : UInt8), (62 : UInt8), (62 : UInt8), (62 : UInt8), (62 : UInt8)], [(101 : UInt8), (110 : UInt8), (117 : UInt8), (109 : UInt8), (123 : UInt8), (97 : UInt8), (44 : UInt8), (98 : UInt8), (44 : UInt8), (125 : UInt8)], [(117 : UInt8), (56 : UInt8), (32 : UInt8)], [(115 : UInt8), (116 : UInt8), (114 : UInt8), (101 : UInt8), (97 : UInt8), (109 : UInt8), (60 : UInt8), (98 : UInt8), (111 : UInt8), (114 : UInt8), (114 : UInt8), (111 : UInt8), (119 : UInt8), (60 : UInt8), (114 : UInt8), (62 : UInt8), (62 : UInt8)]] (by decide) (by decide) (by decide)
      rw [e3]
      simp only [Option.getD_some, Option.isSome_some, ctP]
      exact ⟨v, rfl, by omega⟩
    | false =>
      simp only [cfP, ctP]
      exact ⟨w, rfl, by omega⟩
theorem texts_same (a : List (List UInt8)) (ha : a.length ≤ 1048576) : M.s_l03Texts a a = some true := by
  unfold M.s_l03Texts
  rw [stop_loop (F := M.s_l03Texts_l0 a a) (y := some (.inr ())) a.length (by omega) (fun f k hk => by
    rw [M.s_l03Texts_l0]
    simp [hk, getD_lt hk, wrapk hk (big_of ha)]) (fun f => by rw [M.s_l03Texts_l0]; simp)]
  simp
theorem same_n : ∀ (n : Nat) (t : SType) (D : Nat), t.sz < n → t.sz ≤ 1000000 → tDepth t + D ≤ 100 → M.s_l03Same_n n t t (D : Int) = some true
  | 0, t, D, h, _, _ => by omega
  | n + 1, t, D, h, h2, h3 => by
    have hs := SType.sz_eq t
    have hll := szL_len List.length t.Labels
    have hkl := szL_len SType.sz t.Kids
    have hdp := tDepth_pos t
    show M.s_l03Same_b (M.s_l03Same_n n) t t (D : Int) = _
    unfold M.s_l03Same_b
    have h100 : decide ((100 : Int) < (D : Int)) = false := by rw [decide_eq_false_iff_not]; omega
    have e := stop_loop (F := fun f i => M.s_l03Same_l0 (M.s_l03Same_n n) (D : Int) f i t t) (y := some (.inr ())) t.Kids.length (by omega) (fun f k hk => by
      show M.s_l03Same_l0 (M.s_l03Same_n n) (D : Int) (f + 1) (k : Int) t t = _
      rw [M.s_l03Same_l0]
      have hm := List.getElem_mem hk
      have hlt := SType.kid_lt hm
      have hd := kMax_mem t.Kids _ hm
      rw [tDepth_eq] at h3
      have w : Go.IntKind.wrap .i64 ((D : Int) + 1) = ((D + 1 : Nat) : Int) := by rw [wrap_i64 (by omega) (by omega)]; omega
      have er := same_n n t.Kids[k] (D + 1) (by omega) (by omega) (by omega)
      simp only [SType.re_eq, Int.ofNat_lt, hk, decide_true, Int.toNat_natCast, getD_lt hk, w, er, inB_nat, Option.getD_some, Option.isSome_some, Bool.not_true, Bool.and_self, Bool.and_true, cond_true, cond_false, wrapk hk (by omega : t.Kids.length < 2 ^ 62)]) (fun f => by
      show M.s_l03Same_l0 (M.s_l03Same_n n) (D : Int) (f + 1) _ t t = _
      rw [M.s_l03Same_l0]; simp)
    have e' : M.s_l03Same_l0 (M.s_l03Same_n n) (D : Int) bigN 0 t t = some (.inr ()) := e
    simp only [SType.re_eq, h100, texts_same t.Labels (by omega), bne_self_eq_false, beq_self_eq_true, Option.getD_some, Option.isSome_some, Bool.not_true, Bool.or_self, cond_false, e', Bool.true_or, Bool.and_self, cond_true]
theorem sameType_ok {t : SType} (h : tOk t = true) : M.s_SameType t t = some true := by
  have hz := tOk_small h
  have hdp : tDepth t ≤ 4 := by unfold tOk at h; simp only [Bool.and_eq_true, decide_eq_true_eq] at h; exact h.1.1
  have e := same_n bigN t 1 (by have := bigN_le; omega) (by omega) (by omega)
  have e' : M.s_l03Same t t 1 = some true := e
  unfold M.s_SameType
  simp only [SType.re_eq, e', Option.getD_some, Option.isSome_some, Bool.and_self, cond_true]
theorem sameFunc_ok {f : SFuncType} (h : fOk f = true) : M.s_SameFunc f f = some true := by
  obtain ⟨h1, h2, h3⟩ := fOk_parts h
  unfold M.s_SameFunc
  have e := stop_loop (F := fun g i => M.s_SameFunc_l0 g i f f) (y := some (.inr ())) f.Params.length (by omega) (fun g k hk => by
    show M.s_SameFunc_l0 (g + 1) (k : Int) f f = _
    rw [M.s_SameFunc_l0]
    have ep := sameType_ok (parOk_parts (h2 _ (List.getElem_mem hk))).2.1
    simp only [SType.re_eq, SFuncType.re_eq, Int.ofNat_lt, hk, decide_true, Int.toNat_natCast, getD_lt hk, ep, inB_nat, beq_self_eq_true, Option.getD_some, Option.isSome_some, Bool.not_true, Bool.or_self, Bool.true_or, Bool.and_self, Bool.and_true, cond_true, cond_false, wrapk hk (by omega : f.Params.length < 2 ^ 62)]) (fun g => by
    show M.s_SameFunc_l0 (g + 1) _ f f = _
    rw [M.s_SameFunc_l0]; simp)
  have e' : M.s_SameFunc_l0 bigN 0 f f = some (.inr ()) := e
  simp only [SType.re_eq, SFuncType.re_eq, sameType_ok h3, bne_self_eq_false, beq_self_eq_true, Option.getD_some, Option.isSome_some, Bool.not_true, Bool.or_self, cond_false, e', Bool.true_or, Bool.and_self, cond_true]
end M
/-
  TYPES ARE READ BACK FROM THEIR TEXTS: the law in plain Lean.
-/
set_option linter.unusedVariables false
set_option linter.unusedSimpArgs false
namespace M
open Go.V (inB slB catB bigN bigN_le)

theorem typeOk_sp (t : SType) (h : t.sz ≤ 1000000) : M.s_TypeOk t = some (tOk t) := by
  unfold M.s_TypeOk
  simp only [SType.re_eq, ok_s t (by omega), Option.getD_some, Option.isSome_some, Bool.and_self, cond_true]
theorem funcOk_sp (f : SFuncType) (h : f.sz ≤ 1000000) : M.s_FuncOk f = some (fOk f) := by
  unfold M.s_FuncOk
  simp only [SFuncType.re_eq, func_s f (by omega), Option.getD_some, Option.isSome_some, Bool.and_self, cond_true]
theorem read_no : M.i_ReadType [] = some (0, [], false, [], []) := (readType_i (s := []) (by simp)).2 fun t ht e => txt_ne (tOk_shape ht) e
theorem readF_no : M.i_ReadFunc [] = some (0, [], false, false, [], [], []) := readFunc_nil
theorem third (w : List UInt8) (hw : w.length ≤ 1048576) : ∃ (u : SType) (b : Bool) (v : SType), M.i_ReadType w = some (u.Kind, u.Name, b, u.Labels, u.Kids) ∧ M.s_ReadType w = some (v, b) ∧ (b = true → M.i_TypeText u = some w) := by
  obtain ⟨a1, a2⟩ := readType_i hw
  obtain ⟨b1, b2⟩ := readType_s hw
  by_cases hex : ∃ t, tOk t = true ∧ txt t = w
  · obtain ⟨t, ht, he⟩ := hex
    have hz := tOk_small ht
    refine ⟨t, true, t, a1 t ht he, b1 t ht he, fun _ => ?_⟩
    rw [typeText_i t (by omega), ht, he]; rfl
  · have hno : ∀ t, tOk t = true → txt t ≠ w := fun t ht he => hex ⟨t, ht, he⟩
    exact ⟨SType.mk 0 [] [] [], false, _, a2 hno, b2 hno, fun h => by cases h⟩
theorem first (t : SType) (h : t.sz ≤ 1000000) : ∃ (s : List UInt8) (u : SType) (c : Option Bool), M.i_TypeText t = some s ∧ M.i_ReadType s = some (u.Kind, u.Name, tOk t, u.Labels, u.Kids) ∧ M.s_SameType u t = c ∧ (tOk t = true → c = some true) ∧ (tOk t = false → s = []) := by
  have e := typeText_i t (by omega)
  cases hok : tOk t with
  | true =>
    rw [hok] at e
    have hl := txt_small hok
    exact ⟨txt t, t, some true, e, (readType_i (s := txt t) (by omega)).1 t hok rfl, sameType_ok hok, (fun _ => rfl), fun h => by cases h⟩
  | false =>
    rw [hok] at e
    exact ⟨[], SType.mk 0 [] [] [], _, e, read_no, rfl, (fun h => by cases h), fun _ => rfl⟩
theorem ftxt_small {f : SFuncType} (h : fOk f = true) : (ftxt f).length ≤ 1048576 := by
  have hs := fpars_small h
  have hj := jn_len (f.Params.map fpar)
  have hr := txt_small (fOk_parts h).2.2
  have hhd := fHead_len f.Async
  have ht : (fTail f.Result).length ≤ 120021 := by
    unfold fTail; split
    · simp
    · simp only [List.length_append, List.length_cons, List.length_nil]; omega
  unfold ftxt
  simp only [List.length_append, List.length_cons]; omega
theorem second (f : SFuncType) (h : f.sz ≤ 1000000) : ∃ (s : List UInt8) (u : SFuncType) (c : Option Bool), M.i_FuncText f = some s ∧ M.i_ReadFunc s = some (u.Result.Kind, u.Result.Name, u.Async, fOk f, u.Params, u.Result.Labels, u.Result.Kids) ∧ M.s_SameFunc u f = c ∧ (fOk f = true → c = some true) ∧ (fOk f = false → s = []) := by
  have e := funcText_all f (by omega)
  cases hok : fOk f with
  | true =>
    rw [hok] at e
    exact ⟨ftxt f, f, some true, e, (readFunc_i (ftxt_small hok)).1 f hok rfl, sameFunc_ok hok, (fun _ => rfl), fun h => by cases h⟩
  | false =>
    rw [hok] at e
    exact ⟨[], SFuncType.mk [] (SType.mk 0 [] [] []) false, _, e, readF_no, rfl, (fun h => by cases h), fun _ => rfl⟩
theorem law_Types (code : List UInt8) : M.l_FnTypes code = some true := by
  unfold M.l_FnTypes M.l_c2Big
  by_cases hs : code.length ≤ 1048576
  · obtain ⟨t, e1, z1⟩ := drawType_ok hs
    obtain ⟨f, e2, z2⟩ := drawFuncText_ok hs
    obtain ⟨w, e3, z3⟩ := drawRead_ok hs
    obtain ⟨s, u, c, p1, p2, p3, p4, p5⟩ := first t (by omega)
    obtain ⟨s', u', c', q1, q2, q3, q4, q5⟩ := second f (by omega)
    obtain ⟨x, b, v, r1, r2, r3⟩ := third w (by omega)
    have ef : SFuncType.mk f.Params f.Result f.Async = f := rfl
    have eu : SFuncType.mk u'.Params u'.Result u'.Async = u' := rfl
    have h0 : (decide ((1048576 : Int) < ((code.length : Nat) : Int)) || decide ((1048576 : Int) < ((([] : List UInt8).length : Nat) : Int))) = false := by
      rw [decide_eq_false (by omega), decide_eq_false (by simp)]; rfl
    simp only [h0, Option.getD_some, Option.isSome_some, cfP, e1, SType.eta, typeOk_sp t (by omega), p1, p2, p3, e2, ef, funcOk_sp f (by omega), q1, q2, eu, q3, e3, r1, r2]
    cases ht : tOk t with
    | true =>
      have hc := p4 ht
      subst hc
      cases hf : fOk f with
      | true =>
        have hc' := q4 hf
        subst hc'
        cases b with
        | true => simp [r3 rfl]
        | false => simp
      | false =>
        have hz := q5 hf
        subst hz
        cases b with
        | true => simp [r3 rfl]
        | false => simp
    | false =>
      have hz := p5 ht
      subst hz
      cases hf : fOk f with
      | true =>
        have hc' := q4 hf
        subst hc'
        cases b with
        | true => simp [r3 rfl]
        | false => simp
      | false =>
        have hz := q5 hf
        subst hz
        cases b with
        | true => simp [r3 rfl]
        | false => simp
  · have h0 : (decide ((1048576 : Int) < ((code.length : Nat) : Int)) || decide ((1048576 : Int) < ((([] : List UInt8).length : Nat) : Int))) = true := by
      rw [decide_eq_true (show (1048576 : Int) < ((code.length : Nat) : Int) by omega)]; rfl
    simp only [h0, Option.getD_some, ctP]
end M
