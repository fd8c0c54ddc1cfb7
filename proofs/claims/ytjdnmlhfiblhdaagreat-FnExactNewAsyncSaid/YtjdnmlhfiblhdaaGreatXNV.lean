/-
  RUNNING NUMBERS in plain Lean: a list whose elements are marked one behind the other.
-/
import Derived.Test.YtjdnmlhfiblhdaaGreatXNpl4
import Derived.Test.YtjdnmlhfiblhdaaGreatXNZM
import Derived.Test.YtjdnmlhfiblhdaaGreatXNTP
import Derived.Test.YtjdnmlhfiblhdaaGreatXNZH
set_option linter.unusedVariables false
namespace M
open Go.V (inB slB bigN bigN_le)

def markL {α : Type} (mk : Int → α → Int × α) : Int → List α → Int × List α
  | k, [] => (k, [])
  | k, x :: r => ((markL mk (mk k x).1 r).1, (mk k x).2 :: (markL mk (mk k x).1 r).2)
theorem markL_len {α : Type} (mk : Int → α → Int × α) : ∀ (k : Int) (l : List α), (markL mk k l).2.length = l.length
  | k, [] => rfl
  | k, x :: r => by simp [markL, markL_len mk _ r]
theorem getD_set {α : Type} {l : List α} {i : Nat} (h : i < l.length) (x d : α) : (l.set i x).getD i d = x := by
  rw [List.getD_eq_getElem?_getD, List.getElem?_set_self h]; rfl
theorem mark_loop {α : Type} {F : Nat → Int → Int → List α → Option (Int × List α)} {mk : Int → α → Int × α} (a : List α) (ha : a.length ≤ 1048576) (I : Nat → Int → Prop) (d : α)
    (step : ∀ f k i (l : List α), ∀ h : i < a.length, i < l.length → l.getD i d = a[i] → I i k → F (f + 1) k (i : Int) l = F f (mk k a[i]).1 ((i + 1 : Nat) : Int) (l.set i (mk k a[i]).2) ∧ I (i + 1) (mk k a[i]).1)
    (stop : ∀ f k (l : List α), l.length = a.length → F (f + 1) k (a.length : Int) l = some (k, l)) (k0 : Int) (h0 : I 0 k0) : F bigN k0 0 a = some (markL mk k0 a) := by
  have key : ∀ f i k (l : List α), i ≤ a.length → a.length - i < f → l.length = a.length → (∀ j, i ≤ j → l[j]? = a[j]?) → I i k → F f k (i : Int) l = some ((markL mk k (a.drop i)).1, l.take i ++ (markL mk k (a.drop i)).2) := by
    intro f
    induction f with
    | zero => intro i k l h1 h2; omega
    | succ f ih =>
      intro i k l h1 h2 hl hj hI
      rcases Nat.lt_or_ge i a.length with hi | hi
      · have hg : l.getD i d = a[i] := by rw [List.getD_eq_getElem?_getD, hj i (Nat.le_refl _), List.getElem?_eq_getElem hi]; rfl
        obtain ⟨e, hI'⟩ := step f k i l hi (by omega) hg hI
        rw [e, ih (i + 1) _ _ (by omega) (by omega) (by simpa using hl) (fun j hj' => by rw [List.getElem?_set, if_neg (by omega)]; exact hj j (by omega)) hI', drop_get hi]
        simp only [markL]
        congr 2
        rw [List.take_add_one, List.getElem?_set_self (by omega), List.take_set_of_le (Nat.le_refl _)]
        simp
      · have : i = a.length := by omega
        subst this
        rw [stop f k l hl, List.drop_length, ← hl, List.take_length]
        simp [markL]
  have := key bigN 0 k0 a (Nat.zero_le _) (by have := bigN_le; omega) rfl (fun _ _ => rfl) h0
  simpa using this
theorem held_loop {α E : Type} {F : Nat → Int → Int → Option (Int ⊕ E)} {mk : Int → α → Int × α} {fin : Int → E} (a : List α) (ha : a.length ≤ 1048576) (I : Nat → Int → Prop) (d : α) (k0 : Int) (h0 : I 0 k0)
    (step : ∀ f k i (y : α), ∀ h : i < a.length, ((markL mk k0 a).2).getD i d = y → y = (mk k a[i]).2 → I i k → F (f + 1) k (i : Int) = F f (mk k a[i]).1 ((i + 1 : Nat) : Int) ∧ I (i + 1) (mk k a[i]).1)
    (stop : ∀ f k, F (f + 1) k (a.length : Int) = some (.inr (fin k))) : F bigN k0 0 = some (.inr (fin (markL mk k0 a).1)) := by
  have key : ∀ f i k, i ≤ a.length → a.length - i < f → (markL mk k0 a).2.drop i = (markL mk k (a.drop i)).2 → (markL mk k0 a).1 = (markL mk k (a.drop i)).1 → I i k → F f k (i : Int) = some (.inr (fin (markL mk k (a.drop i)).1)) := by
    intro f
    induction f with
    | zero => intro i k h1 h2; omega
    | succ f ih =>
      intro i k h1 h2 hd hk hI
      rcases Nat.lt_or_ge i a.length with hi | hi
      · have hlen := markL_len mk k0 a
        have hi' : i < (markL mk k0 a).2.length := by omega
        have hd' := hd
        rw [drop_get hi, markL, drop_get hi'] at hd
        have hg : ((markL mk k0 a).2).getD i d = (mk k a[i]).2 := by
          rw [getD_lt hi']; exact (List.cons.inj hd).1
        obtain ⟨e, hI'⟩ := step f k i _ hi rfl hg hI
        rw [e, ih (i + 1) _ (by omega) (by omega) (List.cons.inj hd).2 (by rw [hk, drop_get hi, markL]) hI', drop_get hi, markL]
      · have : i = a.length := by omega
        subst this
        rw [stop, List.drop_length]; rfl
  have := key bigN 0 k0 (Nat.zero_le _) (by have := bigN_le; omega) rfl rfl h0
  simpa using this
end M
/-
  RUNNING NUMBERS: the mark of a text is some text.
-/
set_option linter.unusedVariables false
set_option linter.unusedSimpArgs false
namespace M
open Go.V (inB slB bigN bigN_le)

theorem mk_digit {n : Nat} (h : n < 10) : Go.IntKind.wrap .u8 (Go.IntKind.wrap .i64 ((48 : Int) + (n : Int))) = ((48 + n : Nat) : Int) := by
  rw [wrap_i64 (by omega) (by omega)]
  have : ∀ m : Fin 10, Go.IntKind.wrap .u8 ((48 : Int) + ((m.val : Nat) : Int)) = ((48 + m.val : Nat) : Int) := by decide
  exact this ⟨n, h⟩
theorem mk_digit_ok {n : Nat} (h : n < 10) : Go.V.u8ok ((48 + n : Nat) : Int) = true := by
  unfold Go.V.u8ok; simp only [Bool.and_eq_true, decide_eq_true_eq]; omega
theorem mk_cat {a b : List UInt8} (h : a.length + b.length ≤ 100000) : Go.V.catB a b = true := by
  unfold Go.V.catB; rw [decide_eq_true_eq]; omega

theorem markText_loop : ∀ (j f k : Nat) (out : List UInt8), k < 10 ^ j → j < f → k < 4611686018427387904 → out.length + j ≤ 1000 → ∃ s, M.l_markText_l0 f (k : Int) out = some s ∧ s.length ≤ out.length + j
  | j, 0, k, out, _, h, _, _ => by omega
  | 0, f + 1, k, out, h1, h2, h3, h4 => by
    have : k = 0 := by simpa using h1
    subst this
    exact ⟨out, by rw [M.l_markText_l0]; simp, Nat.le_refl _⟩
  | j + 1, f + 1, k, out, h1, h2, h3, h4 => by
    rw [M.l_markText_l0]
    rcases Nat.eq_zero_or_pos k with h0 | h0
    · subst h0
      exact ⟨out, by simp, by omega⟩
    · have hd : decide ((0 : Int) < (k : Int)) = true := by rw [decide_eq_true_eq]; omega
      have e3 : Int.tmod (k : Int) 10 = ((k % 10 : Nat) : Int) := (Int.ofNat_tmod k 10).symm
      have e4 : Go.IntKind.wrap .i64 (Int.tdiv (k : Int) 10) = ((k / 10 : Nat) : Int) := by
        rw [show Int.tdiv (k : Int) 10 = ((k / 10 : Nat) : Int) from (Int.ofNat_tdiv k 10).symm, wrap_i64 (by omega) (by omega)]
      have hm : k % 10 < 10 := Nat.mod_lt _ (by decide)
      obtain ⟨s, g1, g2⟩ := markText_loop j f (k / 10) ([Go.V.u8of ((48 + k % 10 : Nat) : Int)] ++ out) (by rw [Nat.pow_succ] at h1; omega) (by omega) (by omega) (by simp; omega)
      refine ⟨s, ?_, by simp at g2; omega⟩
      simp only [hd, e3, e4, mk_digit hm, mk_digit_ok hm, cond_true, List.map_cons, List.map_nil]
      rw [mk_cat (by simp; omega)]
      exact g1
theorem markText_ok (k : Int) (h0 : 0 ≤ k) (h1 : k ≤ 1000000000000) : ∃ s, M.l_markText k = some s := by
  obtain ⟨n, rfl⟩ := Int.eq_ofNat_of_zero_le h0
  unfold M.l_markText
  by_cases hz : (n : Int) ≤ 0
  · rw [decide_eq_true hz]; exact ⟨_, rfl⟩
  · rw [decide_eq_false hz]
    obtain ⟨s, e, hl⟩ := markText_loop 13 bigN n [] (by omega) (by have := bigN_le; omega) (by omega) (by simp)
    rw [e]
    simp only [cond_false]
    rw [mk_cat (by simp at hl ⊢; omega)]
    exact ⟨_, rfl⟩
noncomputable def mT (k : Int) : List UInt8 := (M.l_markText k).getD Inhabited.default
theorem mT_eq {k : Int} (h0 : 0 ≤ k) (h1 : k ≤ 1000000000000) : M.l_markText k = some (mT k) := by
  obtain ⟨s, e⟩ := markText_ok k h0 h1
  unfold mT; rw [e]; rfl

/-! ### texts -/
noncomputable def mS (k : Int) (_ : List UInt8) : Int × List UInt8 := (k + 1, mT k)
end M
/-
  COPIES of types, on both sides.
-/
set_option linter.unusedVariables false
set_option linter.unusedSimpArgs false
namespace M
open Go.V (inB slB bigN bigN_le)

theorem push_loop {α β Y : Type} {F : Nat → Int → List β → Option Y} {h : List β → Option Y} (g : α → β) (l : List α) (hn : l.length ≤ 1048576) (out0 : List β)
    (step : ∀ f k out, ∀ hk : k < l.length, out.length = out0.length + k → F (f + 1) (k : Int) out = F f ((k + 1 : Nat) : Int) (out ++ [g l[k]]))
    (stop : ∀ f out, F (f + 1) (l.length : Int) out = h out) : F bigN 0 out0 = h (out0 ++ l.map g) := by
  have key : ∀ f k out, k ≤ l.length → l.length - k < f → out.length = out0.length + k → F f (k : Int) out = h (out ++ (l.drop k).map g) := by
    intro f
    induction f with
    | zero => intro k out h1 h2; omega
    | succ f ih =>
      intro k out h1 h2 ho
      rcases Nat.lt_or_ge k l.length with hk | hk
      · rw [step f k out hk ho, ih (k + 1) _ (by omega) (by omega) (by simp [ho]; omega), drop_get hk]
        simp only [List.map_cons, List.append_assoc, List.singleton_append]
      · have : k = l.length := by omega
        subst this
        rw [stop, List.drop_length]; simp
  have := key bigN 0 out0 (Nat.zero_le _) (by have := bigN_le; omega) rfl
  simpa using this
theorem cat_le {a b : Nat} (h : a + b ≤ 1073741824) : decide (a + b ≤ 1073741824) = true := by rw [decide_eq_true_eq]; exact h

/-! ### the copy of a type, as the program makes it -/
theorem copyTy_n : ∀ (m : Nat) (t : SType), t.sz < m → t.sz ≤ 1048576 → M.i_copyType_n m t = some (t.Kind, t.Name, t.Labels, t.Kids)
  | 0, t, h, _ => by omega
  | m + 1, t, h, hN => by
    have hs := SType.sz_eq t
    have hkk := szL_len SType.sz t.Kids
    have hll := szL_len List.length t.Labels
    show M.i_copyType_b (M.i_copyType_n m) t = _
    unfold M.i_copyType_b
    have e1 : M.i_copyTypes (M.i_copyType_n m) t.Kids = some t.Kids := by
      unfold M.i_copyTypes
      rw [push_loop (F := M.i_copyTypes_l0 (M.i_copyType_n m) t.Kids (t.Kids.length : Int)) (h := some) id t.Kids (by omega) [] (fun f k out hk ho => by
        have hmem := szL_mem SType.sz t.Kids t.Kids[k] (List.getElem_mem hk)
        have hpos := szL_pos SType.sz t.Kids t.Kids[k] (List.getElem_mem hk)
        rw [M.i_copyTypes_l0]
        have e := copyTy_n m t.Kids[k] (by omega) (by omega)
        have hc := cat_le (a := out.length) (b := 1) (by simp at ho; omega)
        simp only [SType.re_eq, Int.ofNat_lt, hk, decide_true, cond_true, Int.toNat_natCast, getD_lt hk, e, inB_nat, Option.isSome_some, Option.getD_some, SType.eta, List.length_cons, List.length_nil, Nat.zero_add, hc, Bool.true_and, Bool.and_true, wrapk hk (big_of (show t.Kids.length ≤ 1048576 by omega)), id]) (fun f out => by rw [M.i_copyTypes_l0]; simp)]
      simp
    have e2 : M.slices_Clone_string_string t.Labels = some t.Labels := by
      unfold M.slices_Clone_string_string; rw [decide_eq_true (by omega)]; rfl
    simp only [e1, e2, Option.isSome_some, Option.getD_some, Bool.true_and, Bool.and_true, cond_true]
theorem copyTy (t : SType) (h : t.sz ≤ 1048576) : M.i_copyType t = some (t.Kind, t.Name, t.Labels, t.Kids) :=
  copyTy_n _ t (by have := bigN_le; omega) h

theorem own_s : ∀ (m : Nat) (t : SType), t.sz < m → t.sz ≤ 1048576 → M.s_l03Own_n m t = some t
  | 0, t, h, _ => absurd h (Nat.not_lt_zero _)
  | m + 1, t, h, hN => by
    have hl := SType.kids_len hN
    have hlb := SType.labels_len hN
    have key : ∀ f k, k ≤ t.Kids.length → t.Kids.length - k < f → M.s_l03Own_l0 (M.s_l03Own_n m) (0 : Int) [] t.Kind t.Name [] [] ([] ++ t.Labels) f (k : Int) t (t.Kids.take k) = some ((0 : Int), [], t.Kind, t.Name, [], [], t.Labels, t.Kids) := by
      intro f
      induction f with
      | zero => intro k h1 h2; omega
      | succ f ih =>
        intro k h1 h2
        rcases Nat.lt_or_ge k t.Kids.length with hk | hk
        · rw [M.s_l03Own_l0]
          have hx := SType.kid_lt (List.getElem_mem hk)
          have hd : decide (((t.Kids.take k).length + ([t.Kids[k]] : List SType).length) ≤ 1073741824) = true := by
            simp only [decide_eq_true_eq, List.length_take, List.length_cons, List.length_nil]; omega
          have ht : t.Kids.take k ++ [t.Kids[k]] = t.Kids.take (k + 1) := by
            rw [List.take_add_one, List.getElem?_eq_getElem hk]; rfl
          simp only [SType.re_eq, getD_lt hk, own_s m t.Kids[k] (by omega) (by omega), Int.toNat_natCast, inB_nat, Int.ofNat_lt, hk, decide_true, cond_true, Bool.true_and, Bool.and_true, wrapk hk (by omega : t.Kids.length < 2 ^ 62), Option.getD_some, Option.isSome_some, hd, ht]
          exact ih (k + 1) (by omega) (by omega)
        · have : k = t.Kids.length := by omega
          subst this
          rw [M.s_l03Own_l0]
          simp
    show M.s_l03Own_b (M.s_l03Own_n m) t = _
    unfold M.s_l03Own_b
    have e := key bigN 0 (Nat.zero_le _) (by have := bigN_le; omega)
    have e' : M.s_l03Own_l0 (M.s_l03Own_n m) (0 : Int) [] t.Kind t.Name [] [] ([] ++ t.Labels) bigN 0 t [] = _ := e
    have hd : decide (0 + t.Labels.length ≤ 1073741824) = true := by simp only [decide_eq_true_eq]; omega
    simp only [SType.re_eq, e', hd, Bool.and_self, cond_true]
    cases t; rfl
end M
/-
  PROGRAMS: both sides agree.
-/
set_option linter.unusedVariables false
set_option linter.unusedSimpArgs false
namespace M
open Go.V (inB slB bigN bigN_le)

theorem aop_same (o : SAop) : M.i_aopOk o = M.s_l22Aop o := by
  unfold M.i_aopOk M.s_l22Aop
  generalize SAop.Kind o = k
  generalize SAop.A o = a
  generalize SAop.B o = b
  by_cases h : 1 ≤ k ∧ k ≤ 12
  · have : k = 1 ∨ k = 2 ∨ k = 3 ∨ k = 4 ∨ k = 5 ∨ k = 6 ∨ k = 7 ∨ k = 8 ∨ k = 9 ∨ k = 10 ∨ k = 11 ∨ k = 12 := by omega
    rcases this with rfl | rfl | rfl | rfl | rfl | rfl | rfl | rfl | rfl | rfl | rfl | rfl <;> simp
    all_goals (try (rw [Bool.cond_eq_ite]))
    all_goals split
    all_goals
      congr 1
      rw [Bool.eq_iff_iff]
      simp only [Bool.and_eq_true, Bool.or_eq_true, Bool.not_eq_true', decide_eq_true_eq, decide_eq_false_iff_not, beq_iff_eq, reduceCtorEq, iff_false, Bool.false_eq_true] at *
      omega
  · have h1 : (decide (1 ≤ k) && decide (k ≤ 12)) = false := by simp; omega
    simp [h1]

theorem aop_some (o : SAop) : ∃ b, M.s_l22Aop o = some b := by
  unfold M.s_l22Aop
  cases (_ || _ : Bool) <;> simp only [cond_true, cond_false] <;> first | exact ⟨_, rfl⟩ | skip
  cases (_ || _ : Bool) <;> exact ⟨_, rfl⟩
noncomputable def aopOk (o : SAop) : Bool := (M.s_l22Aop o).getD false
theorem s_aop (o : SAop) : M.s_l22Aop o = some (aopOk o) := by
  obtain ⟨b, hb⟩ := aop_some o
  unfold aopOk; rw [hb]; rfl
theorem i_aop (o : SAop) : M.i_aopOk o = some (aopOk o) := by rw [aop_same, s_aop]

theorem s_ProgOk_loop (p : SProg) (hp : p.Ops.length < 2 ^ 62) : M.s_ProgOk_l0 p Go.V.bigN 0 = some (if p.Ops.all aopOk then .inr () else .inl false) := by
  have := loop_big (F := M.s_ProgOk_l0 p) (n := p.Ops.length) (res := fun k => some (if (p.Ops.drop k).all aopOk then .inr () else .inl false)) hp
    (fun f k hk ih => by
      rw [M.s_ProgOk_l0, all_drop _ hk]
      simp only [s_aop, getD_lt hk, Int.toNat_natCast, inB_nat, Int.ofNat_lt, hk, wrapk hk hp, ih]
      cases aopOk p.Ops[k] <;> simp)
    (fun f => by rw [M.s_ProgOk_l0]; simp)
  simpa using this
theorem s_ProgOk_some (p : SProg) (hp : p.Ops.length < 2 ^ 62) : M.s_ProgOk p = some ((decide (1 ≤ p.Inst) && decide (p.Inst ≤ 6)) && decide ((p.Ops.length : Int) ≤ 12) && p.Ops.all aopOk) := by
  unfold M.s_ProgOk
  rw [s_ProgOk_loop p hp, show decide (12 < (p.Ops.length : Int)) = !decide ((p.Ops.length : Int) ≤ 12) by rw [Bool.eq_iff_iff]; simp]
  cases decide (1 ≤ p.Inst) <;> cases decide (p.Inst ≤ 6) <;> cases decide ((p.Ops.length : Int) ≤ 12) <;> cases p.Ops.all aopOk <;> rfl

theorem indexFunc_loop (s : List SAop) (hs : s.length < 2 ^ 62) : M.slices_IndexFunc_Aop_Aop_l0 s (s.length : Int) Go.V.bigN 0 = some (match s.findIdx? (fun o => !aopOk o) with
    | some j => .inl (j : Int)
    | none => .inr ()) := by
  have := loop_big (F := M.slices_IndexFunc_Aop_Aop_l0 s (s.length : Int)) (n := s.length) (res := fun k => some (match (s.drop k).findIdx? (fun o => !aopOk o) with
    | some j => .inl ((j + k : Nat) : Int)
    | none => .inr ())) hs
    (fun f k hk ih => by
      rw [M.slices_IndexFunc_Aop_Aop_l0, drop_get hk, List.findIdx?_cons]
      simp only [i_aop, getD_lt hk, Int.toNat_natCast, inB_nat, Int.ofNat_lt, hk, wrapk hk hs, ih]
      cases aopOk s[k] <;> simp
      cases h : List.findIdx? (fun o => !aopOk o) (List.drop (k + 1) s) <;> simp
      omega)
    (fun f => by rw [M.slices_IndexFunc_Aop_Aop_l0]; simp)
  simpa using this

theorem containsFunc (s : List SAop) (hs : s.length < 2 ^ 62) : M.slices_ContainsFunc_Aop_Aop s = some (s.any fun o => !aopOk o) := by
  unfold M.slices_ContainsFunc_Aop_Aop M.slices_IndexFunc_Aop_Aop
  rw [indexFunc_loop s hs]
  cases h : s.findIdx? (fun o => !aopOk o) with
  | none =>
    have : s.any (fun o => !aopOk o) = false := by
      rw [List.findIdx?_eq_none_iff] at h
      rw [List.any_eq_false]; intro x hx; have := h x hx; simpa using this
    simp [this]
  | some j =>
    have : s.any (fun o => !aopOk o) = true := by
      rw [List.findIdx?_eq_some_iff_getElem] at h
      obtain ⟨hj, h1, -⟩ := h
      rw [List.any_eq_true]; exact ⟨s[j], List.getElem_mem hj, h1⟩
    simp [this]
theorem i_ProgOk_some (p : SProg) (hp : p.Ops.length < 2 ^ 62) : M.i_ProgOk p = some ((decide (1 ≤ p.Inst) && decide (p.Inst ≤ 6)) && decide ((p.Ops.length : Int) ≤ 12) && p.Ops.all aopOk) := by
  unfold M.i_ProgOk
  rw [containsFunc _ hp]
  have : (p.Ops.any fun o => !aopOk o) = !p.Ops.all aopOk := by rw [List.all_eq_not_any_not]; simp
  simp [this]


noncomputable def progB (p : SProg) : Bool := ((decide (1 ≤ p.Inst) && decide (p.Inst ≤ 6)) && decide ((p.Ops.length : Int) ≤ 12)) && p.Ops.all aopOk
theorem prog_s (p : SProg) (h : p.Ops.length ≤ 1048576) : M.s_ProgOk p = some (progB p) := s_ProgOk_some p (by omega)
theorem prog_i (p : SProg) (h : p.Ops.length ≤ 1048576) : M.i_ProgOk p = some (progB p) := i_ProgOk_some p (by omega)
noncomputable def progsB (l : List SProg) : Bool := (decide ((1 : Int) ≤ (l.length : Int)) && decide ((l.length : Int) ≤ 6)) && l.all progB
theorem progs_s (l : List SProg) (hl : l.length ≤ 1048576) (h : ∀ p ∈ l, p.Ops.length ≤ 1048576) : M.s_l22Progs l = some (progsB l) := by
  have e := all_list (p := progB) (F := M.s_l22Progs_l0 l) (e := ()) (b := false) l (by omega) (fun f k hk => by
    rw [M.s_l22Progs_l0]
    simp only [getD_lt hk, prog_s _ (h _ (List.getElem_mem hk)), Int.toNat_natCast, inB_nat, Int.ofNat_lt, hk, decide_true, cond_true, Bool.true_and, Bool.and_true, wrapk hk (by omega : l.length < 2 ^ 62), Option.getD_some, Option.isSome_some]
    cases progB l[k] <;> rfl) (fun f => by rw [M.s_l22Progs_l0]; simp)
  have e1 : decide ((l.length : Int) < 1) = !decide ((1 : Int) ≤ (l.length : Int)) := by rw [← decide_not]; simp only [decide_eq_decide]; omega
  have e2 : decide ((6 : Int) < (l.length : Int)) = !decide ((l.length : Int) ≤ 6) := by rw [← decide_not]; simp only [decide_eq_decide]; omega
  unfold M.s_l22Progs progsB
  rw [e, e1, e2]
  cases decide ((1 : Int) ≤ (l.length : Int)) <;> cases decide ((l.length : Int) ≤ 6) <;> cases l.all progB <;> rfl
theorem progs_i (l : List SProg) (hl : l.length ≤ 1048576) (h : ∀ p ∈ l, p.Ops.length ≤ 1048576) : M.i_progsOk l = some (progsB l) := by
  have e := find_list (p := fun p => !progB p) (F := M.slices_IndexFunc_Prog_Prog_l0 l (l.length : Int)) (e := ()) (fun k => k) l (by omega) (fun f k hk => by
    rw [M.slices_IndexFunc_Prog_Prog_l0]
    have ec : M.i_progsOk_c1 l[k] = some (!progB l[k]) := by unfold M.i_progsOk_c1; rw [prog_i _ (h _ (List.getElem_mem hk))]; rfl
    simp only [getD_lt hk, ec, Int.toNat_natCast, inB_nat, Int.ofNat_lt, hk, decide_true, cond_true, Bool.true_and, Bool.and_true, wrapk hk (by omega : l.length < 2 ^ 62), Option.getD_some, Option.isSome_some]) (fun f => by
    rw [M.slices_IndexFunc_Prog_Prog_l0]; simp)
  have e2 : M.slices_ContainsFunc_Prog_Prog l = some (!l.all progB) := by
    unfold M.slices_ContainsFunc_Prog_Prog M.slices_IndexFunc_Prog_Prog
    rw [e, List.not_all_eq_any_not, findIdx_any]
    cases l.findIdx? (fun p => !progB p) <;> simp
  unfold M.i_progsOk progsB
  rw [e2]
  simp only [Option.isSome_some, Option.getD_some, Bool.true_or, Bool.and_self, cond_true, Bool.not_not]
end M
/-
  NewAsync: both sides hand back the same world.
-/
set_option linter.unusedVariables false
set_option linter.unusedSimpArgs false
namespace M
open Go.V (inB slB bigN bigN_le)

theorem push_or {α β Y : Type} {F : Nat → Int → List β → Option Y} {h : List β → Option Y} {bad : Option Y} {p : α → Bool} (g : α → β) (l : List α) (hn : l.length ≤ 1048576) (out0 : List β)
    (step : ∀ f k out, ∀ hk : k < l.length, out.length = out0.length + k → F (f + 1) (k : Int) out = bif p l[k] then F f ((k + 1 : Nat) : Int) (out ++ [g l[k]]) else bad)
    (stop : ∀ f out, F (f + 1) (l.length : Int) out = h out) : F bigN 0 out0 = bif l.all p then h (out0 ++ l.map g) else bad := by
  have key : ∀ f k out, k ≤ l.length → l.length - k < f → out.length = out0.length + k → F f (k : Int) out = bif (l.drop k).all p then h (out ++ (l.drop k).map g) else bad := by
    intro f
    induction f with
    | zero => intro k out h1 h2; omega
    | succ f ih =>
      intro k out h1 h2 ho
      rcases Nat.lt_or_ge k l.length with hk | hk
      · rw [step f k out hk ho, ih (k + 1) _ (by omega) (by omega) (by simp [ho]; omega), drop_get hk]
        simp only [List.map_cons, List.append_assoc, List.singleton_append, List.all_cons]
        cases p l[k] <;> rfl
      · have : k = l.length := by omega
        subst this
        rw [stop, List.drop_length]; simp
  have := key bigN 0 out0 (Nat.zero_le _) (by have := bigN_le; omega) rfl
  simpa using this
theorem push_all {α β Y : Type} {F : Nat → Int → List β → Option Y} {h : List β → Option Y} (g : α → β) (l : List α) (hn : l.length ≤ 1048576) (out0 : List β)
    (step : ∀ f k out, ∀ hk : k < l.length, out.length = out0.length + k → F (f + 1) (k : Int) out = F f ((k + 1 : Nat) : Int) (out ++ [g l[k]]))
    (stop : ∀ f out, F (f + 1) (l.length : Int) out = h out) : F bigN 0 out0 = h (out0 ++ l.map g) := by
  have h := push_or (F := F) (p := fun _ => true) (bad := none) g l hn out0 (fun f k out hk ho => by rw [step f k out hk ho]; rfl) stop
  have e : l.all (fun _ => true) = true := by simp
  rw [e] at h
  exact h

theorem sz9 : (SType.mk 9 [] [] []).sz ≤ 1048576 := by decide
theorem ty9 : typB (SType.mk 9 [] [] []) = true := by decide
theorem ty_s : M.s_l21Type (SType.mk 9 [] [] []) = some true := by rw [type_s _ sz9, ty9]
theorem ty_i : M.i_streamable (SType.mk 9 [] [] []) = some true := by rw [type_i _ sz9, ty9]
theorem own9 : M.s_l03Own (SType.mk 9 [] [] []) = some (SType.mk 9 [] [] []) := own_s bigN _ (by have := bigN_le; have := sz9; omega) sz9
theorem copy9 : M.i_copyType (SType.mk 9 [] [] []) = some (9, [], [], []) := copyTy _ sz9
def errS : SStream := SStream.mk (SType.mk 0 [] [] []) 0 false [] 0 0 false false
def newSt (r : Int) : SStream := SStream.mk (SType.mk 9 [] [] []) r false [] 0 0 false false
def roomB (r : Int) : Bool := decide ((1 : Int) ≤ r) && decide (r ≤ (6 : Int))
theorem new_s (r : Int) : M.s_NewStream (SType.mk 9 [] [] []) r = some (bif roomB r then (newSt r, 0) else (errS, 2)) := by
  unfold M.s_NewStream roomB
  simp only [SType.re_eq, ty_s, own9, Option.isSome_some, Option.getD_some, Bool.not_true, cond_false, Bool.true_and, Bool.and_true]
  cases (decide ((1 : Int) ≤ r) && decide (r ≤ (6 : Int))) <;> rfl
theorem new_i (r : Int) : M.i_NewStream (SType.mk 9 [] [] []) r = some (bif roomB r then (9, [], r, false, 0, 0, false, false, 0, [], [], []) else (0, [], 0, false, 0, 0, false, false, 2, [], [], [])) := by
  unfold M.i_NewStream roomB
  simp only [SType.re_eq, ty_i, copy9, Option.isSome_some, Option.getD_some, Bool.not_true, cond_false, Bool.true_and, Bool.and_true]
  cases (decide ((1 : Int) ≤ r) && decide (r ≤ (6 : Int))) <;> rfl

theorem SProg.eta (p : SProg) : SProg.mk p.Inst p.Ops = p := rfl
theorem own_progs (l : List SProg) (hl : l.length ≤ 1048576) (h : ∀ p ∈ l, p.Ops.length ≤ 1048576) : M.s_l22OwnProgs l = some l := by
  unfold M.s_l22OwnProgs
  rw [push_all (F := M.s_l22OwnProgs_l0 l) (h := some) id l hl [] (fun f k out hk ho => by
    rw [M.s_l22OwnProgs_l0]
    have hc := cat_le (a := out.length) (b := 1) (by simp at ho; omega)
    have hp := h l[k] (List.getElem_mem hk)
    have hd := cat_le (a := 0) (b := l[k].Ops.length) (by omega)
    simp only [Int.ofNat_lt, hk, decide_true, cond_true, Int.toNat_natCast, getD_lt hk, inB_nat, List.length_cons, List.length_nil, Nat.zero_add, List.nil_append, SProg.eta, hc, Bool.true_and, Bool.and_true, wrapk hk (big_of hl), id]
    simp only [Nat.zero_add] at hd
    simp only [hd, cond_true]) (fun f out => by rw [M.s_l22OwnProgs_l0]; simp)]
  simp
theorem copy_as (l : List SProg) (hl : l.length ≤ 1048576) (h : ∀ p ∈ l, p.Ops.length ≤ 1048576) : M.i_copyAsync (SAsync.mk l [] [] [] []) = some (l, [], [], [], []) := by
  have e1 : M.slices_Clone_int64_int64 [] = some [] := by kernel_rfl
  have e2 : M.slices_Clone_Note_Note [] = some [] := by kernel_rfl
  unfold M.i_copyAsync
  simp only [e1, e2, Option.getD_some, Option.isSome_some]
  rw [push_all (F := M.i_copyAsync_l0 l (l.length : Int) (SAsync.mk l [] [] [] []) [] [] [] [] [] [] [] [] []) (h := fun out => some (SAsync.mk l [] [] [] [], [], [], [], [], [], out, [], [], [], [])) id l hl [] (fun f k out hk ho => by
    rw [M.i_copyAsync_l0]
    have hc := cat_le (a := out.length) (b := 1) (by simp at ho; omega)
    have hp := h l[k] (List.getElem_mem hk)
    have hd : M.slices_Clone_Aop_Aop l[k].Ops = some l[k].Ops := by unfold M.slices_Clone_Aop_Aop; rw [decide_eq_true (by omega)]; rfl
    simp only [Int.ofNat_lt, hk, decide_true, cond_true, Int.toNat_natCast, getD_lt hk, inB_nat, List.length_cons, List.length_nil, Nat.zero_add, hd, SProg.eta, Option.getD_some, Option.isSome_some, hc, Bool.true_and, Bool.and_true, wrapk hk (big_of hl), id]) (fun f out => by rw [M.i_copyAsync_l0]; simp)]
  have s1 : ∀ (w : SAsync) (a1 a2 a3 a4 a5 a6 a7 a8 a9 a10), M.i_copyAsync_l1 [] (0 : Int) w a1 a2 a3 a4 a5 a6 a7 a8 a9 bigN (0 : Int) a10 = some (w, a1, a2, a3, a4, a5, a6, a10, a7, a8, a9) := fun w a1 a2 a3 a4 a5 a6 a7 a8 a9 a10 => by
    obtain ⟨n, hn⟩ : ∃ n, bigN = n + 1 := ⟨bigN - 1, by have := bigN_le; omega⟩
    rw [hn, M.i_copyAsync_l1]; rfl
  have s2 : ∀ (a0 a1 a2 a3 a4 a5 a6 a7 a8 a10), M.i_copyAsync_l2 [] (0 : Int) a0 a1 a2 a3 a4 a5 a6 a7 a8 bigN (0 : Int) a10 = some (a0, a1, a2, a3, a4, a5, a6, a10, a7, a8) := fun a0 a1 a2 a3 a4 a5 a6 a7 a8 a10 => by
    obtain ⟨n, hn⟩ : ∃ n, bigN = n + 1 := ⟨bigN - 1, by have := bigN_le; omega⟩
    rw [hn, M.i_copyAsync_l2]; rfl
  simp only [List.map_id, List.nil_append, List.length_nil, Int.natCast_zero, s1, s2, Bool.true_and, cond_true, Bool.and_true]

def errA : SAsync := SAsync.mk [] [] [] [] []
noncomputable def newR (progs : List SProg) (rooms : List Int) : SAsync × Int :=
  bif !progsB progs then (errA, 1) else bif decide ((4 : Int) < ((rooms.length : Nat) : Int)) then (errA, 4) else bif rooms.all roomB then (SAsync.mk progs (rooms.map newSt) [] [] [], 0) else (errA, 2)
theorem newR_s (progs : List SProg) (rooms : List Int) (hl : progs.length ≤ 1048576) (h : ∀ p ∈ progs, p.Ops.length ≤ 1048576) (hr : rooms.length ≤ 1048576) : M.s_NewAsync progs rooms = some (newR progs rooms) := by
  unfold M.s_NewAsync newR
  simp only [progs_s progs hl h, own_progs progs hl h, Option.getD_some, Option.isSome_some, Bool.true_and, Bool.and_true, cond_true]
  rw [push_or (F := M.s_NewAsync_l0 rooms progs [] [] [] [] [] [] [] []) (p := roomB) (h := fun out => some (.inr (progs, [], [], [], [], [], out, [], [], []))) (bad := some (.inl (2, [], [], [], [], []))) newSt rooms hr [] (fun f k out hk ho => by
    rw [M.s_NewAsync_l0]
    have hc := cat_le (a := out.length) (b := 1) (by simp at ho; omega)
    simp only [Int.ofNat_lt, hk, decide_true, cond_true, Int.toNat_natCast, getD_lt hk, inB_nat, new_s, Option.getD_some, Option.isSome_some, List.length_cons, List.length_nil, Nat.zero_add, hc, Bool.true_and, Bool.and_true, wrapk hk (big_of hr)]
    cases roomB rooms[k] <;> simp only [cond_true, cond_false, SStream.re_eq] <;> rfl) (fun f out => by rw [M.s_NewAsync_l0]; simp)]
  cases progsB progs <;> cases decide ((4 : Int) < ((rooms.length : Nat) : Int)) <;> cases rooms.all roomB <;> rfl
theorem newR_i (progs : List SProg) (rooms : List Int) (hl : progs.length ≤ 1048576) (h : ∀ p ∈ progs, p.Ops.length ≤ 1048576) (hr : rooms.length ≤ 1048576) :
    M.i_NewAsync progs rooms = some ((newR progs rooms).2, (newR progs rooms).1.Progs, (newR progs rooms).1.Streams, (newR progs rooms).1.Tasks, (newR progs rooms).1.Back, (newR progs rooms).1.Notes) := by
  unfold M.i_NewAsync newR
  simp only [progs_i progs hl h, copy_as progs hl h, Option.getD_some, Option.isSome_some, Bool.true_and, Bool.and_true, cond_true]
  rw [push_or (F := M.i_NewAsync_l0 rooms (rooms.length : Int) [] [] [] [] [] progs [] [] []) (p := roomB) (h := fun out => some (.inr ([], [], [], [], [], progs, out, [], [], []))) (bad := some (.inl (2, [], [], [], [], []))) newSt rooms hr [] (fun f k out hk ho => by
    rw [M.i_NewAsync_l0]
    have hc := cat_le (a := out.length) (b := 1) (by simp at ho; omega)
    simp only [Int.ofNat_lt, hk, decide_true, cond_true, Int.toNat_natCast, getD_lt hk, inB_nat, new_i, Option.getD_some, Option.isSome_some, List.length_cons, List.length_nil, Nat.zero_add, hc, Bool.true_and, Bool.and_true, wrapk hk (big_of hr)]
    cases roomB rooms[k] <;> simp only [cond_true, cond_false] <;> rfl) (fun f out => by rw [M.i_NewAsync_l0]; simp)]
  cases progsB progs <;> cases decide ((4 : Int) < ((rooms.length : Nat) : Int)) <;> cases rooms.all roomB <;> rfl
end M
/-
  NewAsync: running numbers on programs, numbers, new streams.
-/
set_option linter.unusedVariables false
set_option linter.unusedSimpArgs false
namespace M
open Go.V (inB slB bigN bigN_le)

theorem neg_false {n : Int} (h : 0 ≤ n) : decide (n < 0) = false := by rw [decide_eq_false_iff_not]; omega
theorem big_succ : ∃ n, bigN = n + 1 := ⟨bigN - 1, by have := bigN_le; omega⟩

/-! ### operations -/
def mAop (k : Int) (_ : SAop) : Int × SAop := (k + 1 + 1 + 1, SAop.mk k (k + 1) (k + 1 + 1))
theorem mAop_le (l : List SAop) (k : Int) : (markL mAop k l).1 = k + 3 * (l.length : Int) := by
  induction l generalizing k with
  | nil => simp [markL]
  | cons x r ih => have := ih (k + 1 + 1 + 1); simp only [markL, mAop, List.length_cons] at *; omega
theorem markAops (a : List SAop) (ha : a.length ≤ 1048576) (k : Int) (h0 : 0 ≤ k) (h1 : k ≤ 100000000000) : M.l_markAopS k a = some (markL mAop k a) := by
  unfold M.l_markAopS
  rw [mark_loop (F := M.l_markAopS_l0) (mk := mAop) a ha (fun i q => q = k + 3 * (i : Int)) SAop.zero (fun f q i l hi hl hg hI => by
    rw [M.l_markAopS_l0]
    have hlt : decide ((i : Int) < ((l.length : Nat) : Int)) = true := by rw [decide_eq_true_eq]; omega
    have hin : inB (i : Int) l.length = true := by rw [inB_nat]; simpa using hl
    have w1 : Go.IntKind.wrap .i64 (q + 1) = q + 1 := wrap_i64 (by omega) (by omega)
    have w2 : Go.IntKind.wrap .i64 (q + 1 + 1) = q + 1 + 1 := wrap_i64 (by omega) (by omega)
    have w3 : Go.IntKind.wrap .i64 (q + 1 + 1 + 1) = q + 1 + 1 + 1 := wrap_i64 (by omega) (by omega)
    simp only [hlt, hin, Int.toNat_natCast, cond_true, Bool.true_and, Bool.and_true, getD_set, hl, List.length_set, hg, w1, w2, w3, wrapk hi (big_of ha), List.set_set]
    exact ⟨rfl, by simp only [mAop]; omega⟩) (fun f q l hl => by rw [M.l_markAopS_l0]; simp [hl]) k (by simp)]
theorem heldAops (a : List SAop) (ha : a.length ≤ 1048576) (k : Int) (h0 : 0 ≤ k) (h1 : k ≤ 100000000000) : M.l_heldAopS (markL mAop k a).2 k = some (markL mAop k a).1 := by
  unfold M.l_heldAopS
  rw [held_loop (F := M.l_heldAopS_l0 (markL mAop k a).2) (mk := mAop) (fin := id) a ha (fun i q => q = k + 3 * (i : Int)) SAop.zero k (by simp) (fun f q i y hi e1 e2 hI => by
    subst e2
    rw [M.l_heldAopS_l0]
    have hlt : decide ((i : Int) < (((markL mAop k a).2.length : Nat) : Int)) = true := by rw [decide_eq_true_eq, markL_len]; omega
    have hin : inB (i : Int) (markL mAop k a).2.length = true := by rw [inB_nat, markL_len]; simpa using hi
    have w1 : Go.IntKind.wrap .i64 (q + 1) = q + 1 := wrap_i64 (by omega) (by omega)
    have w2 : Go.IntKind.wrap .i64 (q + 1 + 1) = q + 1 + 1 := wrap_i64 (by omega) (by omega)
    have w3 : Go.IntKind.wrap .i64 (q + 1 + 1 + 1) = q + 1 + 1 + 1 := wrap_i64 (by omega) (by omega)
    simp only [hlt, hin, e1, mAop, Int.toNat_natCast, cond_true, cond_false, Bool.true_and, Bool.and_true, w1, w2, w3, wrapk hi (big_of ha), bne_self_eq_false]
    exact ⟨trivial, by omega⟩) (fun f q => by rw [M.l_heldAopS_l0]; simp [markL_len])]
  rfl

/-! ### programs -/
def mProg (k : Int) (p : SProg) : Int × SProg := ((markL mAop (k + 1) p.Ops).1, SProg.mk k (markL mAop (k + 1) p.Ops).2)
theorem mProg_1 (k : Int) (p : SProg) : (mProg k p).1 = k + 1 + 3 * (p.Ops.length : Int) := by unfold mProg; rw [mAop_le]
theorem szA : ∀ l : List SAop, szL SAop.sz l = l.length
  | [] => rfl
  | x :: r => by simp only [szL, szA r, SAop.sz, List.length_cons]; omega
theorem mProg_le : ∀ (l : List SProg) (k : Int), k ≤ (markL mProg k l).1 ∧ (markL mProg k l).1 ≤ k + 3 * (szL SProg.sz l : Int)
  | [], k => by simp [markL, szL]
  | x :: r, k => by
    have h1 := mProg_1 k x
    have h2 := mProg_le r (mProg k x).1
    have h3 : SProg.sz x = x.Ops.length := szA _
    simp only [markL, szL]
    omega
theorem markProgs (a : List SProg) (hz : szL SProg.sz a ≤ 1048576) (k : Int) (h0 : 0 ≤ k) (h1 : k ≤ 1000000000) : M.l_markProgS k a = some (markL mProg k a) := by
  have ha := szL_len SProg.sz a
  unfold M.l_markProgS
  rw [mark_loop (F := M.l_markProgS_l0) (mk := mProg) a (by omega) (fun i q => 0 ≤ q ∧ q + 3 * (szL SProg.sz (a.drop i) : Int) ≤ 100000000000) SProg.zero (fun f q i l hi hl hg hI => by
    rw [drop_get hi, szL] at hI
    have h3 : SProg.sz a[i] = a[i].Ops.length := szA _
    have hle := mProg_1 q a[i]
    have hmem := szL_mem SProg.sz a a[i] (List.getElem_mem hi)
    rw [M.l_markProgS_l0]
    have hlt : decide ((i : Int) < ((l.length : Nat) : Int)) = true := by rw [decide_eq_true_eq]; omega
    have hin : inB (i : Int) l.length = true := by rw [inB_nat]; simpa using hl
    have w1 : Go.IntKind.wrap .i64 (q + 1) = q + 1 := wrap_i64 (by omega) (by omega)
    have e := markAops a[i].Ops (by omega) (q + 1) (by omega) (by omega)
    simp only [hlt, hin, Int.toNat_natCast, cond_true, Bool.true_and, Bool.and_true, getD_set, hl, List.length_set, hg, w1, e, Option.isSome_some, Option.getD_some, wrapk hi (big_of (show a.length ≤ 1048576 by omega)), List.set_set]
    exact ⟨rfl, by omega, by omega⟩) (fun f q l hl => by rw [M.l_markProgS_l0]; simp [hl]) k ⟨h0, by simp only [List.drop_zero]; omega⟩]
theorem heldProgs (a : List SProg) (hz : szL SProg.sz a ≤ 1048576) (k : Int) (h0 : 0 ≤ k) (h1 : k ≤ 1000000000) : M.l_heldProgS (markL mProg k a).2 k = some (markL mProg k a).1 := by
  have ha := szL_len SProg.sz a
  unfold M.l_heldProgS
  rw [held_loop (F := M.l_heldProgS_l0 (markL mProg k a).2) (mk := mProg) (fin := id) a (by omega) (fun i q => 0 ≤ q ∧ q + 3 * (szL SProg.sz (a.drop i) : Int) ≤ 100000000000) SProg.zero k ⟨h0, by simp only [List.drop_zero]; omega⟩ (fun f q i y hi e1 e2 hI => by
    subst e2
    rw [drop_get hi, szL] at hI
    have h3 : SProg.sz a[i] = a[i].Ops.length := szA _
    have hle := mProg_1 q a[i]
    have hmem := szL_mem SProg.sz a a[i] (List.getElem_mem hi)
    rw [M.l_heldProgS_l0]
    have hlt : decide ((i : Int) < (((markL mProg k a).2.length : Nat) : Int)) = true := by rw [decide_eq_true_eq, markL_len]; omega
    have hin : inB (i : Int) (markL mProg k a).2.length = true := by rw [inB_nat, markL_len]; simpa using hi
    have w1 : Go.IntKind.wrap .i64 (q + 1) = q + 1 := wrap_i64 (by omega) (by omega)
    have e := heldAops a[i].Ops (by omega) (q + 1) (by omega) (by omega)
    have n1 := neg_false (n := (markL mAop (q + 1) a[i].Ops).1) (by rw [mAop_le]; omega)
    simp only [hlt, hin, e1, mProg, Int.toNat_natCast, cond_true, cond_false, Bool.true_and, Bool.and_true, w1, e, n1, Option.isSome_some, Option.getD_some, wrapk hi (big_of (show a.length ≤ 1048576 by omega)), bne_self_eq_false]
    simp only [mProg] at hle
    exact ⟨trivial, by omega, by omega⟩) (fun f q => by rw [M.l_heldProgS_l0]; simp [markL_len])]
  rfl

/-! ### numbers -/
def mInt (k : Int) (_ : Int) : Int × Int := (k + 1, k)
theorem mInt_le (l : List Int) (k : Int) : (markL mInt k l).1 = k + (l.length : Int) := by
  induction l generalizing k with
  | nil => simp [markL]
  | cons x r ih => have := ih (k + 1); simp only [markL, mInt, List.length_cons] at *; omega
theorem markInts (a : List Int) (ha : a.length ≤ 1048576) (k : Int) (h0 : 0 ≤ k) (h1 : k ≤ 100000000000) : M.l_markInt64S k a = some (markL mInt k a) := by
  unfold M.l_markInt64S
  rw [mark_loop (F := M.l_markInt64S_l0) (mk := mInt) a ha (fun i q => q = k + (i : Int)) 0 (fun f q i l hi hl hg hI => by
    rw [M.l_markInt64S_l0]
    have hlt : decide ((i : Int) < ((l.length : Nat) : Int)) = true := by rw [decide_eq_true_eq]; omega
    have hin : inB (i : Int) l.length = true := by rw [inB_nat]; simpa using hl
    have w1 : Go.IntKind.wrap .i64 (q + 1) = q + 1 := wrap_i64 (by omega) (by omega)
    simp only [hlt, hin, Int.toNat_natCast, cond_true, Bool.true_and, Bool.and_true, w1, wrapk hi (big_of ha)]
    exact ⟨rfl, by simp only [mInt]; omega⟩) (fun f q l hl => by rw [M.l_markInt64S_l0]; simp [hl]) k (by simp)]

/-! ### new streams -/
def bareS (s : SStream) : Prop := s.Type_.Labels = [] ∧ s.Type_.Kids = [] ∧ s.Buffer = []
noncomputable def mSt (k : Int) (_ : SStream) : Int × SStream :=
  (k + 1 + 1 + 1 + 1 + 1 + 1 + 1 + 1, SStream.mk (SType.mk k (mT (k + 1)) [] []) (k + 1 + 1) (Int.tmod (k + 1 + 1 + 1) 3 == 0) [] (k + 1 + 1 + 1 + 1) (k + 1 + 1 + 1 + 1 + 1) (Int.tmod (k + 1 + 1 + 1 + 1 + 1 + 1) 3 == 0) (Int.tmod (k + 1 + 1 + 1 + 1 + 1 + 1 + 1) 3 == 0))
theorem mSt_le (l : List SStream) (k : Int) : (markL mSt k l).1 = k + 8 * (l.length : Int) := by
  induction l generalizing k with
  | nil => simp [markL]
  | cons x r ih => have := ih (k + 1 + 1 + 1 + 1 + 1 + 1 + 1 + 1); simp only [markL, mSt, List.length_cons] at *; omega
theorem SType.p1 (a b c d) : (SType.mk a b c d).Kind = a := rfl
theorem SType.p2 (a b c d) : (SType.mk a b c d).Name = b := rfl
theorem SType.p3 (a b c d) : (SType.mk a b c d).Labels = c := rfl
theorem SType.p4 (a b c d) : (SType.mk a b c d).Kids = d := rfl
theorem mk0s (k : Int) : M.l_markStringS k [] = some (k, []) := by obtain ⟨n, hn⟩ := big_succ; unfold M.l_markStringS; rw [hn, M.l_markStringS_l0]; rfl
theorem mk0t (k : Int) : M.l_markTypeS k [] = some (k, []) := by
  obtain ⟨n, hn⟩ := big_succ; unfold M.l_markTypeS; rw [hn]; show M.l_markTypeS_b _ k [] = _; unfold M.l_markTypeS_b; rw [hn, M.l_markTypeS_l0]; rfl
theorem mk0v (k : Int) : M.l_markValueS k [] = some (k, []) := by
  obtain ⟨n, hn⟩ := big_succ; unfold M.l_markValueS; rw [hn]; show M.l_markValueS_b _ k [] = _; unfold M.l_markValueS_b; rw [hn, M.l_markValueS_l0]; rfl
theorem mk0k (k : Int) : M.l_markTaskS k [] = some (k, []) := by obtain ⟨n, hn⟩ := big_succ; unfold M.l_markTaskS; rw [hn, M.l_markTaskS_l0]; rfl
theorem mk0n (k : Int) : M.l_markNoteS k [] = some (k, []) := by obtain ⟨n, hn⟩ := big_succ; unfold M.l_markNoteS; rw [hn, M.l_markNoteS_l0]; rfl
theorem he0s (k : Int) : M.l_heldStringS [] k = some k := by obtain ⟨n, hn⟩ := big_succ; unfold M.l_heldStringS; rw [hn, M.l_heldStringS_l0]; rfl
theorem he0t (k : Int) : M.l_heldTypeS [] k = some k := by
  obtain ⟨n, hn⟩ := big_succ; unfold M.l_heldTypeS; rw [hn]; show M.l_heldTypeS_b _ [] k = _; unfold M.l_heldTypeS_b; rw [hn, M.l_heldTypeS_l0]; rfl
theorem he0v (k : Int) : M.l_heldValueS [] k = some k := by
  obtain ⟨n, hn⟩ := big_succ; unfold M.l_heldValueS; rw [hn]; show M.l_heldValueS_b _ [] k = _; unfold M.l_heldValueS_b; rw [hn, M.l_heldValueS_l0]; rfl
theorem he0k (k : Int) : M.l_heldTaskS [] k = some k := by obtain ⟨n, hn⟩ := big_succ; unfold M.l_heldTaskS; rw [hn, M.l_heldTaskS_l0]; rfl
theorem he0n (k : Int) : M.l_heldNoteS [] k = some k := by obtain ⟨n, hn⟩ := big_succ; unfold M.l_heldNoteS; rw [hn, M.l_heldNoteS_l0]; rfl
theorem he0i (k : Int) : M.l_heldInt64S [] k = some k := by obtain ⟨n, hn⟩ := big_succ; unfold M.l_heldInt64S; rw [hn, M.l_heldInt64S_l0]; rfl
theorem three : ((3 : Int) != (0 : Int)) = true := rfl
theorem markSts (a : List SStream) (ha : a.length ≤ 1048576) (hE : ∀ x ∈ a, bareS x) (k : Int) (h0 : 0 ≤ k) (h1 : k ≤ 100000000000) : M.l_markStreamS k a = some (markL mSt k a) := by
  unfold M.l_markStreamS
  rw [mark_loop (F := M.l_markStreamS_l0) (mk := mSt) a ha (fun i q => q = k + 8 * (i : Int)) SStream.zero (fun f q i l hi hl hg hI => by
    obtain ⟨x1, x2, x3⟩ := hE a[i] (List.getElem_mem hi)
    rw [M.l_markStreamS_l0]
    have hlt : decide ((i : Int) < ((l.length : Nat) : Int)) = true := by rw [decide_eq_true_eq]; omega
    have hin : inB (i : Int) l.length = true := by rw [inB_nat]; simpa using hl
    have w1 : Go.IntKind.wrap .i64 (q + 1) = q + 1 := wrap_i64 (by omega) (by omega)
    have w2 : Go.IntKind.wrap .i64 (q + 1 + 1) = q + 1 + 1 := wrap_i64 (by omega) (by omega)
    have w3 : Go.IntKind.wrap .i64 (q + 1 + 1 + 1) = q + 1 + 1 + 1 := wrap_i64 (by omega) (by omega)
    have w4 : Go.IntKind.wrap .i64 (q + 1 + 1 + 1 + 1) = q + 1 + 1 + 1 + 1 := wrap_i64 (by omega) (by omega)
    have w5 : Go.IntKind.wrap .i64 (q + 1 + 1 + 1 + 1 + 1) = q + 1 + 1 + 1 + 1 + 1 := wrap_i64 (by omega) (by omega)
    have w6 : Go.IntKind.wrap .i64 (q + 1 + 1 + 1 + 1 + 1 + 1) = q + 1 + 1 + 1 + 1 + 1 + 1 := wrap_i64 (by omega) (by omega)
    have w7 : Go.IntKind.wrap .i64 (q + 1 + 1 + 1 + 1 + 1 + 1 + 1) = q + 1 + 1 + 1 + 1 + 1 + 1 + 1 := wrap_i64 (by omega) (by omega)
    have w8 : Go.IntKind.wrap .i64 (q + 1 + 1 + 1 + 1 + 1 + 1 + 1 + 1) = q + 1 + 1 + 1 + 1 + 1 + 1 + 1 + 1 := wrap_i64 (by omega) (by omega)
    have e1 := mT_eq (k := q + 1) (by omega) (by omega)
    simp only [hlt, hin, Int.toNat_natCast, cond_true, Bool.true_and, Bool.and_true, getD_set, hl, List.length_set, hg, w1, w2, w3, w4, w5, w6, w7, w8, e1, x1, x2, x3, mk0s, mk0t, mk0v, three, SType.re_eq, SType.p1, SType.p2, SType.p3, SType.p4, Option.isSome_some, Option.getD_some, wrapk hi (big_of ha), List.set_set]
    exact ⟨rfl, by simp only [mSt]; omega⟩) (fun f q l hl => by rw [M.l_markStreamS_l0]; simp [hl]) k (by simp)]
theorem heldSts (a : List SStream) (ha : a.length ≤ 1048576) (k : Int) (h0 : 0 ≤ k) (h1 : k ≤ 100000000000) : M.l_heldStreamS (markL mSt k a).2 k = some (markL mSt k a).1 := by
  unfold M.l_heldStreamS
  rw [held_loop (F := M.l_heldStreamS_l0 (markL mSt k a).2) (mk := mSt) (fin := id) a ha (fun i q => q = k + 8 * (i : Int)) SStream.zero k (by simp) (fun f q i y hi e1 e2 hI => by
    subst e2
    rw [M.l_heldStreamS_l0]
    have hlt : decide ((i : Int) < (((markL mSt k a).2.length : Nat) : Int)) = true := by rw [decide_eq_true_eq, markL_len]; omega
    have hin : inB (i : Int) (markL mSt k a).2.length = true := by rw [inB_nat, markL_len]; simpa using hi
    have w1 : Go.IntKind.wrap .i64 (q + 1) = q + 1 := wrap_i64 (by omega) (by omega)
    have w2 : Go.IntKind.wrap .i64 (q + 1 + 1) = q + 1 + 1 := wrap_i64 (by omega) (by omega)
    have w3 : Go.IntKind.wrap .i64 (q + 1 + 1 + 1) = q + 1 + 1 + 1 := wrap_i64 (by omega) (by omega)
    have w4 : Go.IntKind.wrap .i64 (q + 1 + 1 + 1 + 1) = q + 1 + 1 + 1 + 1 := wrap_i64 (by omega) (by omega)
    have w5 : Go.IntKind.wrap .i64 (q + 1 + 1 + 1 + 1 + 1) = q + 1 + 1 + 1 + 1 + 1 := wrap_i64 (by omega) (by omega)
    have w6 : Go.IntKind.wrap .i64 (q + 1 + 1 + 1 + 1 + 1 + 1) = q + 1 + 1 + 1 + 1 + 1 + 1 := wrap_i64 (by omega) (by omega)
    have w7 : Go.IntKind.wrap .i64 (q + 1 + 1 + 1 + 1 + 1 + 1 + 1) = q + 1 + 1 + 1 + 1 + 1 + 1 + 1 := wrap_i64 (by omega) (by omega)
    have w8 : Go.IntKind.wrap .i64 (q + 1 + 1 + 1 + 1 + 1 + 1 + 1 + 1) = q + 1 + 1 + 1 + 1 + 1 + 1 + 1 + 1 := wrap_i64 (by omega) (by omega)
    have m1 := mT_eq (k := q + 1) (by omega) (by omega)
    have n1 := neg_false (n := q + 1 + 1) (by omega)
    have n2 := neg_false (n := q + 1 + 1 + 1 + 1) (by omega)
    simp only [hlt, hin, e1, mSt, Int.toNat_natCast, cond_true, cond_false, Bool.true_and, Bool.and_true, w1, w2, w3, w4, w5, w6, w7, w8, m1, n1, n2, he0s, he0t, he0v, three, SType.p1, SType.p2, SType.p3, SType.p4, Option.isSome_some, Option.getD_some, wrapk hi (big_of ha), bne_self_eq_false, beq_self_eq_true, Bool.not_true]
    exact ⟨trivial, by omega⟩) (fun f q => by rw [M.l_heldStreamS_l0]; simp [markL_len])]
  rfl
end M
/-
  THE LAW of NewAsync.
-/
set_option linter.unusedVariables false
set_option linter.unusedSimpArgs false
namespace M
open Go.V (inB slB bigN bigN_le)
def WOk (w : SAsync) : Prop := szL SProg.sz w.Progs ≤ 1000 ∧ w.Streams.length ≤ 4 ∧ (∀ x ∈ w.Streams, bareS x ∧ x.sz = 0) ∧ w.Tasks = [] ∧ w.Back = [] ∧ w.Notes = []
theorem szL_bd {α : Type} (f : α → Nat) (m : Nat) : ∀ l : List α, (∀ x ∈ l, f x ≤ m) → szL f l ≤ l.length * (m + 1)
  | [], _ => by simp [szL]
  | x :: r, h => by
    have h1 := h x (by simp)
    have h2 := szL_bd f m r fun y hy => h y (by simp [hy])
    simp only [szL, List.length_cons, Nat.succ_mul]
    omega
theorem errA_ok : WOk errA := ⟨by decide, by decide, fun x hx => absurd hx (by simp [errA]), rfl, rfl, rfl⟩
theorem newR_ok (progs : List SProg) (rooms : List Int) : WOk (newR progs rooms).1 := by
  unfold newR
  cases hp : progsB progs
  · exact errA_ok
  · cases hr : decide ((4 : Int) < ((rooms.length : Nat) : Int))
    · cases ha : rooms.all roomB
      · exact errA_ok
      · simp only [Bool.not_true, cond_false, cond_true]
        unfold progsB at hp
        simp only [Bool.and_eq_true, decide_eq_true_eq, List.all_eq_true] at hp
        rw [decide_eq_false_iff_not] at hr
        refine ⟨?_, by simp only [List.length_map]; omega, fun x hx => ?_, rfl, rfl, rfl⟩
        · have := szL_bd SProg.sz 12 progs fun p hp' => by
            have h1 := hp.2 p hp'
            unfold progB at h1
            simp only [Bool.and_eq_true, decide_eq_true_eq] at h1
            have : SProg.sz p = p.Ops.length := szA _
            omega
          show szL SProg.sz progs ≤ 1000
          omega
        · obtain ⟨r, -, rfl⟩ := List.mem_map.1 hx
          exact ⟨⟨rfl, rfl, rfl⟩, rfl⟩
    · exact errA_ok
theorem WOk.sz {w : SAsync} (h : WOk w) : w.sz ≤ 1048576 := by
  obtain ⟨h1, h2, h3, h4, h5, h6⟩ := h
  have := szL_bd SStream.sz 0 w.Streams fun x hx => by rw [(h3 x hx).2]; exact Nat.le_refl _
  rw [SAsync.sz_eq, h4, h5, h6]
  simp only [szL]
  omega
noncomputable def k1 (w : SAsync) : Int := (markL mProg 1 w.Progs).1
noncomputable def k2 (w : SAsync) : Int := (markL mSt (k1 w) w.Streams).1
theorem k_le {w : SAsync} (h : WOk w) : 1 ≤ k1 w ∧ k1 w ≤ k2 w ∧ k2 w ≤ 10000 := by
  have h1 := mProg_le w.Progs 1
  have h2 := mSt_le w.Streams (k1 w)
  have := h.1; have := h.2.1
  unfold k2 k1 at *
  omega
theorem markW {w : SAsync} (h : WOk w) : M.l_markAsync 1 w.Progs w.Streams w.Tasks w.Back w.Notes = some (k2 w, (markL mProg 1 w.Progs).2, (markL mSt (k1 w) w.Streams).2, [], [], []) := by
  have hk := k_le h
  obtain ⟨h1, h2, h3, h4, h5, h6⟩ := h
  unfold M.l_markAsync
  have e1 := markProgs w.Progs (by omega) 1 (by omega) (by omega)
  have e2 := markSts w.Streams (by omega) (fun x hx => (h3 x hx).1) (k1 w) (by omega) (by omega)
  have e3 : M.l_markInt64S (k2 w) [] = some (k2 w, []) := markInts [] (by simp) (k2 w) (by omega) (by omega)
  have e1' : (markL mProg 1 w.Progs).1 = k1 w := rfl
  have e2' : (markL mSt (k1 w) w.Streams).1 = k2 w := rfl
  simp only [h4, h5, h6, e1, e1', e2, e2', e3, mk0k, mk0n, Option.isSome_some, Option.getD_some, Bool.true_and, Bool.and_true, Bool.and_self, cond_true]
theorem heldW {w : SAsync} (h : WOk w) : M.l_heldAsync (SAsync.mk (markL mProg 1 w.Progs).2 (markL mSt (k1 w) w.Streams).2 [] [] []) 1 = some (k2 w) := by
  have hk := k_le h
  obtain ⟨h1, h2, h3, h4, h5, h6⟩ := h
  unfold M.l_heldAsync
  have e1 : M.l_heldProgS (markL mProg 1 w.Progs).2 1 = some (k1 w) := heldProgs w.Progs (by omega) 1 (by omega) (by omega)
  have e2 : M.l_heldStreamS (markL mSt (k1 w) w.Streams).2 (k1 w) = some (k2 w) := heldSts w.Streams (by omega) (k1 w) (by omega) (by omega)
  simp only [e1, e2, he0k, he0i, he0n, neg_false (show 0 ≤ k1 w by omega), neg_false (show 0 ≤ k2 w by omega), Option.isSome_some, Option.getD_some, Bool.true_and, Bool.and_true, Bool.and_self, cond_true, cond_false]
theorem szI : ∀ l : List Int, szL (fun _ => 0) l = l.length
  | [] => rfl
  | x :: r => by simp only [szL, szI r, List.length_cons]; omega
theorem SAsync.eta (w : SAsync) : SAsync.mk w.Progs w.Streams w.Tasks w.Back w.Notes = w := rfl

theorem law_NewAsync (progs : List SProg) (rooms : List Int) (hp : LOk SProg.Ok progs) : M.l_FnExactNewAsync progs rooms = some true := by
  unfold M.l_FnExactNewAsync
  by_cases hr : (1048576 : Int) < ((rooms.length : Nat) : Int)
  · rw [decide_eq_true hr]; rfl
  rw [decide_eq_false hr, cond_false, szS_Prog progs 1048576 hp (by omega) (by omega)]
  by_cases h1 : (szL SProg.sz progs : Int) ≤ 1048576
  · have h : szL SProg.sz progs ≤ 1048576 := by omega
    have hl := szL_len SProg.sz progs
    have hr' : rooms.length ≤ 1048576 := by omega
    have n1 : ¬ (1048576 - (szL SProg.sz progs : Int) < 0) := by omega
    rw [if_pos h1]
    have hops : ∀ p ∈ progs, p.Ops.length ≤ 1048576 := fun p hp' => by
      have := szL_mem SProg.sz progs p hp'
      have : SProg.sz p = p.Ops.length := szA _
      omega
    have q0 := toS_Prog progs h
    have q1 := toS_Int64 rooms (by rw [szI]; omega)
    have q2 := eqS_Prog progs h
    have q3 := eqS_Int64 rooms (by rw [szI]; omega)
    have hw := newR_ok progs rooms
    have e1 := newR_i progs rooms (by omega) hops hr'
    have e2 := newR_s progs rooms (by omega) hops hr'
    generalize newR progs rooms = r at hw e1 e2
    obtain ⟨w, c⟩ := r
    simp only at hw e1 e2
    have q4 := eq_Async w hw.sz
    have q5 := markW hw
    have q6 := heldW hw
    have q7 := neg_false (show 0 ≤ k2 w by have := k_le hw; omega)
    have q8 := markProgs progs h 1 (by omega) (by omega)
    have q8' := mProg_le progs 1
    have q9 := markInts rooms hr' (markL mProg 1 progs).1 (by omega) (by omega)
    have q9' := neg_false (n := (markL mInt (markL mProg 1 progs).1 rooms).1) (by rw [mInt_le]; omega)
    simp only [q0, q1, q2, q3, q4, q5, q6, q7, q8, q9, q9', e1, e2, SAsync.eta, Option.getD_some, Option.isSome_some, n1, decide_false, cond_false, Bool.and_true, Bool.and_self, Bool.true_and, cond_true, beq_self_eq_true, bne_self_eq_false, Bool.not_true, Bool.or_false, Bool.false_or, Bool.true_or]
  · rw [if_neg h1]; simp
end M
