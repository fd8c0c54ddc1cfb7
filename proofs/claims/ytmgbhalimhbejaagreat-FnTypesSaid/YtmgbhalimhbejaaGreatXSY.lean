/-
  THE TEXT OF A TYPE: both sides write the same.
-/
import Derived.Test.YtmgbhalimhbejaaGreatXSUP
import Derived.Lib.Join
set_option linter.unusedVariables false
set_option linter.unusedSimpArgs false
namespace M
open Go.V (inB slB catB bigN bigN_le)

noncomputable def kwL : List (List UInt8) := Option.getD M.i_kindWords default
theorem kw_i : M.i_kindWords = some kwL := rfl
theorem kw_s : M.s_l03Words = some kwL := rfl
theorem kw_len : kwL.length = 24 := rfl
noncomputable def kword (k : Int) : List UInt8 := kwL.getD k.toNat []
theorem kword_len (k : Int) : (kword k).length ≤ 7 := by
  have h : ∀ w ∈ kwL, w.length ≤ 7 := by
    have : (kwL.all fun w => decide (w.length ≤ 7)) = true := by decide
    intro w hw
    simpa using List.all_eq_true.1 this w hw
  unfold kword
  rcases Nat.lt_or_ge k.toNat kwL.length with hk | hk
  · rw [getD_lt hk]; exact h _ (List.getElem_mem hk)
  · rw [List.getD_eq_getElem?_getD, List.getElem?_eq_none hk]; simp
def jn (l : List (List UInt8)) : List UInt8 := Go.Lib.join l [44]
theorem jn_nil : jn [] = [] := rfl
theorem jn_cons (x : List UInt8) (r : List (List UInt8)) : jn (x :: r) = x ++ Go.Lib.joinTail [44] r := Go.Lib.join_cons x r [44]
theorem jt_nil : Go.Lib.joinTail [44] [] = [] := rfl
theorem jt_cons (x : List UInt8) (r : List (List UInt8)) : Go.Lib.joinTail [44] (x :: r) = 44 :: (x ++ Go.Lib.joinTail [44] r) := by simp [Go.Lib.joinTail]
theorem jt_app (a b : List (List UInt8)) : Go.Lib.joinTail [44] (a ++ b) = Go.Lib.joinTail [44] a ++ Go.Lib.joinTail [44] b := by simp [Go.Lib.joinTail]
theorem jn_snoc (l : List (List UInt8)) (x : List UInt8) : jn (l ++ [x]) = (if 0 < l.length then jn l ++ [44] else []) ++ x := by
  cases l with
  | nil => simp [jn_cons, jt_nil]
  | cons y r => rw [List.cons_append, jn_cons, jn_cons, jt_app]; simp [jt_cons, jt_nil]
theorem jn_len : ∀ (l : List (List UInt8)), (jn l).length ≤ szL List.length l
  | [] => by simp [jn_nil]
  | x :: r => by
    rw [jn_cons, List.length_append]
    have : ∀ r : List (List UInt8), (Go.Lib.joinTail [44] r).length = szL List.length r := fun r => by
      induction r with
      | nil => rfl
      | cons y t ih => rw [jt_cons]; simp only [List.length_cons, List.length_append, ih, szL]; omega
    rw [this]; simp only [szL]; omega
def labs : List (List UInt8) → List Int → List (List UInt8) → List (List UInt8)
  | [], _, _ => []
  | l :: r, k :: kr, x :: xr => (if k = 1 then l else l ++ ([58] ++ x)) :: labs r kr xr
  | l :: r, _, _ => l :: labs r [] []
mutual
noncomputable def txt : SType → List UInt8
  | .mk k n ls ks => if k = 20 ∨ k = 21 then kword k ++ [60] ++ n ++ [62] else if 16 ≤ k ∧ k ≤ 19 then kword k ++ [123] ++ jn (labs ls (ks.map SType.Kind) (txts ks)) ++ [125]
    else if ks.length = 0 then kword k else kword k ++ [60] ++ jn (txts ks) ++ [62]
noncomputable def txts : List SType → List (List UInt8)
  | [] => []
  | t :: r => txt t :: txts r
end
theorem txts_map : ∀ l, txts l = l.map txt
  | [] => by rw [txts]; rfl
  | t :: r => by rw [txts, txts_map r]; rfl
theorem txt_eq (t : SType) : txt t = (if t.Kind = 20 ∨ t.Kind = 21 then kword t.Kind ++ [60] ++ t.Name ++ [62] else if 16 ≤ t.Kind ∧ t.Kind ≤ 19 then kword t.Kind ++ [123] ++ jn (labs t.Labels (t.Kids.map SType.Kind) (t.Kids.map txt)) ++ [125]
    else if t.Kids.length = 0 then kword t.Kind else kword t.Kind ++ [60] ++ jn (t.Kids.map txt) ++ [62]) := by
  cases t; rw [txt, txts_map]; rfl
theorem labs_len : ∀ (ls : List (List UInt8)) (ks : List Int) (xs : List (List UInt8)), szL List.length (labs ls ks xs) ≤ szL List.length ls + szL List.length xs
  | [], _, _ => by simp [labs, szL]
  | l :: r, [], xs => by
    have := labs_len r [] []
    have e : szL List.length ([] : List (List UInt8)) = 0 := rfl
    cases xs <;> simp only [labs, szL] at * <;> omega
  | l :: r, k :: kr, [] => by
    have := labs_len r [] []
    simp only [labs, szL] at *; omega
  | l :: r, k :: kr, x :: xr => by
    have := labs_len r kr xr
    simp only [labs, szL]
    split <;> (try simp only [List.length_append, List.length_cons, List.length_nil]) <;> omega
theorem txt_len : ∀ (n : Nat) (t : SType), t.sz < n → (txt t).length + 1 ≤ 20 * (t.sz + 1)
  | 0, t, h => by omega
  | n + 1, t, h => by
    have hs := SType.sz_eq t
    have hk := kword_len t.Kind
    have hx : szL List.length (t.Kids.map txt) ≤ 20 * szL SType.sz t.Kids := by
      have key : ∀ l : List SType, (∀ x ∈ l, x.sz < n) → szL List.length (l.map txt) ≤ 20 * szL SType.sz l := fun l => by
        induction l with
        | nil => intro _; simp [szL]
        | cons y r ih =>
          intro hl
          have h1 := txt_len n y (hl y (by simp))
          have h2 := ih fun x hx => hl x (by simp [hx])
          simp only [List.map_cons, szL]; omega
      exact key _ fun x hx => by have := SType.kid_lt hx; omega
    have hj := jn_len (t.Kids.map txt)
    have hl := labs_len t.Labels (t.Kids.map SType.Kind) (t.Kids.map txt)
    have hj2 := jn_len (labs t.Labels (t.Kids.map SType.Kind) (t.Kids.map txt))
    rw [txt_eq]
    split
    · simp only [List.length_append, List.length_cons, List.length_nil]; omega
    · split
      · simp only [List.length_append, List.length_cons, List.length_nil]; omega
      · split
        · omega
        · simp only [List.length_append, List.length_cons, List.length_nil]; omega
theorem txt_le (t : SType) {N : Nat} (h : t.sz ≤ N) : (txt t).length ≤ 20 * N + 19 := by
  have := txt_len _ t (Nat.lt_succ_self _); omega

/-! ### loops -/
theorem push_loop {α β Y : Type} {F : Nat → Int → List β → Option Y} {h : List β → Option Y} (g : α → β) (l : List α) (hn : l.length ≤ 2097152) (out0 : List β)
    (step : ∀ f k out, ∀ hk : k < l.length, out.length = out0.length + k → F (f + 1) (k : Int) out = F f ((k + 1 : Nat) : Int) (out ++ [g l[k]]))
    (stop : ∀ f out, F (f + 1) (l.length : Int) out = h out) : F bigN 0 out0 = h (out0 ++ l.map g) := by
  have key : ∀ f k out, k ≤ l.length → l.length - k < f → out.length = out0.length + k → F f (k : Int) out = h (out ++ (l.drop k).map g) := by
    intro f
    induction f with
    | zero => intro k out h1 h2; omega
    | succ f ih =>
      intro k out h1 h2 ho
      rcases Nat.lt_or_ge k l.length with hk | hk
      · rw [step f k out hk ho, ih (k + 1) _ (by omega) (by omega) (by simp [ho]; omega), drop_get hk]
        simp only [List.map_cons, List.append_assoc, List.singleton_append]
      · have : k = l.length := by omega
        subst this
        rw [stop, List.drop_length]; simp
  have := key bigN 0 out0 (Nat.zero_le _) (by have := bigN_le; omega) rfl
  simpa using this
theorem cat_le {a b : Nat} (h : a + b ≤ 1073741824) : decide (a + b ≤ 1073741824) = true := by rw [decide_eq_true_eq]; exact h
theorem catOk {a b : List UInt8} (h : a.length + b.length ≤ 1073741824) : catB a b = true := by unfold catB; rw [decide_eq_true_eq]; omega
theorem join_ok (l : List (List UInt8)) (h : szL List.length l ≤ 1073741824) : M.strings_Join l [44] = some (jn l) := by
  have h1 := jn_len l
  have h2 := szL_len List.length l
  unfold M.strings_Join
  have e1 : decide (l.length ≤ 1073741824) = true := by rw [decide_eq_true_eq]; omega
  have e2 : decide ((Go.Lib.join l [44]).length ≤ 1073741824) = true := by rw [decide_eq_true_eq]; unfold jn at h1; omega
  rw [e1, e2]; rfl
end M
/-
  THE TEXT OF A TYPE: the program's and the reference's writers.
-/
set_option linter.unusedVariables false
set_option linter.unusedSimpArgs false
namespace M
open Go.V (inB slB catB bigN bigN_le)
structure Shp (t : SType) : Prop where
  lo : 1 ≤ t.Kind
  hi : t.Kind ≤ 23
  lab : (16 ≤ t.Kind ∧ t.Kind ≤ 19) ↔ t.Labels ≠ []
  name : (t.Kind = 20 ∨ t.Kind = 21) ↔ t.Name ≠ []
  flat : t.Kind ≤ 11 → t.Kids = []
  noK : (t.Kind = 20 ∨ t.Kind = 21 ∨ t.Kind = 18 ∨ t.Kind = 19) → t.Kids = []
  kids : (12 ≤ t.Kind ∧ t.Kind ≤ 15) ∨ 22 ≤ t.Kind → t.Kids ≠ []
  recK : t.Kind = 16 → t.Kids.length = t.Labels.length ∧ ∀ x ∈ t.Kids, x.Kind ≠ 1
  varK : t.Kind = 17 → t.Kids.length = t.Labels.length
  all : ∀ x ∈ t.Kids, tShape x = true
  labs : t.Labels ≠ [] → labOk t.Labels = true
  nam : t.Name ≠ [] → nameOk t.Name = true
theorem shp {t : SType} (h : tShape t = true) : Shp t := by
  rw [tShape_eq] at h
  simp only [Bool.and_eq_true] at h
  obtain ⟨hk, hall⟩ := h
  rw [kShape_all, List.all_eq_true] at hall
  unfold shape1 at hk
  simp only [Bool.and_eq_true] at hk
  obtain ⟨⟨hl, hn⟩, hk⟩ := hk
  have hlab : ((16 ≤ t.Kind ∧ t.Kind ≤ 19) ↔ t.Labels ≠ []) ∧ (t.Labels ≠ [] → labOk t.Labels = true) := by
    unfold labB at hl
    split at hl
    · rename_i hb
      simp only [Bool.and_eq_true, decide_eq_true_eq] at hb
      refine ⟨⟨fun _ e => ?_, fun _ => hb⟩, fun _ => hl⟩
      rw [e] at hl; unfold labOk at hl; simp at hl
    · rename_i hb
      simp only [Bool.and_eq_true, decide_eq_true_eq] at hb
      have : t.Labels = [] := List.eq_nil_of_length_eq_zero (by simpa using hl)
      exact ⟨⟨fun h => absurd h hb, fun h => absurd this h⟩, fun h => absurd this h⟩
  have hnam : ((t.Kind = 20 ∨ t.Kind = 21) ↔ t.Name ≠ []) ∧ (t.Name ≠ [] → nameOk t.Name = true) := by
    unfold namedB at hn
    split at hn
    · rename_i hb
      simp only [Bool.or_eq_true, beq_iff_eq] at hb
      refine ⟨⟨fun _ e => ?_, fun _ => hb⟩, fun _ => hn⟩
      rw [e] at hn; unfold nameOk at hn; simp at hn
    · rename_i hb
      simp only [Bool.or_eq_true, beq_iff_eq] at hb
      have : t.Name = [] := by simpa using hn
      exact ⟨⟨fun h => absurd h hb, fun h => absurd this h⟩, fun h => absurd this h⟩
  have hu : ∀ x ∈ t.Kids, unitB x = false → x.Kind ≠ 1 := fun x _ h e => by unfold unitB at h; rw [e] at h; simp at h
  have base : ∀ (a1 : 1 ≤ t.Kind) (a2 : t.Kind ≤ 23) (a3 : t.Kind ≤ 11 → t.Kids = []) (a4 : (t.Kind = 20 ∨ t.Kind = 21 ∨ t.Kind = 18 ∨ t.Kind = 19) → t.Kids = []) (a5 : (12 ≤ t.Kind ∧ t.Kind ≤ 15) ∨ 22 ≤ t.Kind → t.Kids ≠ []) (a6 : t.Kind = 16 → t.Kids.length = t.Labels.length ∧ ∀ x ∈ t.Kids, x.Kind ≠ 1) (a7 : t.Kind = 17 → t.Kids.length = t.Labels.length), Shp t :=
    fun a1 a2 a3 a4 a5 a6 a7 => ⟨a1, a2, hlab.1, hnam.1, a3, a4, a5, a6, a7, hall, hlab.2, hnam.2⟩
  have ne1 : ∀ n, t.Kids.length = n + 1 → t.Kids ≠ [] := fun n h e => by rw [e] at h; simp at h
  unfold kidsB at hk
  split at hk
  · rename_i hc
    simp only [Bool.and_eq_true, beq_iff_eq] at hk
    exact base (by omega) (by omega) (by omega) (by omega) (fun _ => ne1 0 hk.1) (by omega) (by omega)
  · split at hk
    · simp only [beq_iff_eq] at hk
      exact base (by omega) (by omega) (by omega) (by omega) (fun _ => ne1 1 hk) (by omega) (by omega)
    · split at hk
      · simp only [Bool.and_eq_true, decide_eq_true_eq] at hk
        exact base (by omega) (by omega) (by omega) (by omega) (fun _ e => by rw [e] at hk; simp at hk) (by omega) (by omega)
      · split at hk
        · rename_i hc
          simp only [Bool.and_eq_true, beq_iff_eq, Bool.not_eq_true', List.any_eq_false] at hk
          exact base (by omega) (by omega) (by omega) (by omega) (by omega) (fun _ => ⟨hk.1, fun x hx => hu x hx (by simpa using hk.2 x hx)⟩) (by omega)
        · split at hk
          · simp only [beq_iff_eq] at hk
            exact base (by omega) (by omega) (by omega) (by omega) (by omega) (by omega) (fun _ => hk)
          · split at hk
            · simp only [Bool.and_eq_true, beq_iff_eq] at hk
              exact base (by omega) (by omega) (by omega) (by omega) (fun _ => ne1 0 hk.1) (by omega) (by omega)
            · simp only [Bool.and_eq_true, decide_eq_true_eq, beq_iff_eq] at hk
              have := List.eq_nil_of_length_eq_zero hk.2
              exact base (by omega) (by omega) (fun _ => this) (fun _ => this) (by omega) (by omega) (by omega)
theorem inB_kw {k : Int} (h1 : 1 ≤ k) (h2 : k ≤ 23) : inB k (List.length kwL) = true := by
  obtain ⟨n, rfl⟩ := Int.eq_ofNat_of_zero_le (show 0 ≤ k by omega)
  rw [inB_nat, kw_len]; simp; omega
theorem labs_kids : ∀ (ls : List (List UInt8)) (ks : List SType) (k : Nat), k < ls.length → (labs ls (ks.map SType.Kind) (ks.map txt)).getD k [] = if h : k < ks.length then (if ks[k].Kind = 1 then ls.getD k [] else ls.getD k [] ++ ([58] ++ txt ks[k])) else ls.getD k []
  | [], _, k, h => by simp at h
  | l :: r, [], k, h => by
    cases k with
    | zero => simp [labs]
    | succ k =>
      have := labs_kids r [] k (by simpa using h)
      simpa [labs] using this
  | l :: r, x :: ks, k, h => by
    cases k with
    | zero => simp [labs]
    | succ k =>
      have := labs_kids r ks k (by simpa using h)
      simp only [List.map_cons, labs, List.getD_cons_succ, this, List.length_cons, Nat.add_lt_add_iff_right, List.getElem_cons_succ]
theorem labs_length : ∀ (ls : List (List UInt8)) (ks : List Int) (xs : List (List UInt8)), (labs ls ks xs).length = ls.length
  | [], _, _ => by simp [labs]
  | l :: r, [], xs => by cases xs <;> simp [labs, labs_length r [] []]
  | l :: r, k :: kr, [] => by simp [labs, labs_length r [] []]
  | l :: r, k :: kr, x :: xr => by simp [labs, labs_length r kr xr]
end M
/-
  THE TEXT OF A TYPE: what the writers write is the text.
-/
set_option linter.unusedVariables false
set_option linter.unusedSimpArgs false
namespace M
open Go.V (inB slB catB bigN bigN_le)

theorem szL_take {α : Type} (f : α → Nat) : ∀ (l : List α) (k : Nat), szL f (l.take k) ≤ szL f l
  | [], k => by simp [szL]
  | x :: r, 0 => by simp [szL]
  | x :: r, k + 1 => by have := szL_take f r k; simp only [List.take_succ_cons, szL]; omega
theorem comma_loop {Y : Type} {F : Nat → List UInt8 → Int → Option Y} {h : List UInt8 → Option Y} (L : List (List UInt8)) (hn : L.length ≤ 2097152) (s0 : List UInt8)
    (step : ∀ f k s, ∀ hk : k < L.length, s.length ≤ s0.length + szL List.length L → F (f + 1) s (k : Int) = F f ((if 0 < k then s ++ [44] else s) ++ L[k]) ((k + 1 : Nat) : Int))
    (stop : ∀ f s, F (f + 1) s (L.length : Int) = h s) : F bigN s0 0 = h (s0 ++ jn L) := by
  have key : ∀ f k, k ≤ L.length → L.length - k < f → F f (s0 ++ jn (L.take k)) (k : Int) = h (s0 ++ jn L) := by
    intro f
    induction f with
    | zero => intro k h1 h2; omega
    | succ f ih =>
      intro k h1 h2
      rcases Nat.lt_or_ge k L.length with hk | hk
      · have hj := jn_len (L.take k)
        have ht := szL_take List.length L k
        rw [step f k _ hk (by rw [List.length_append]; omega)]
        have e : (if 0 < k then s0 ++ jn (L.take k) ++ [44] else s0 ++ jn (L.take k)) ++ L[k] = s0 ++ jn (L.take (k + 1)) := by
          rw [List.take_add_one, List.getElem?_eq_getElem hk, Option.toList_some, jn_snoc, List.length_take, Nat.min_eq_left (by omega)]
          by_cases hz : 0 < k
          · rw [if_pos hz, if_pos hz]; simp only [List.append_assoc]
          · have : k = 0 := by omega
            subst this; simp [jn_nil]
        rw [e]; exact ih (k + 1) (by omega) (by omega)
      · have : k = L.length := by omega
        subst this
        rw [stop, List.take_length]
  have := key bigN 0 (Nat.zero_le _) (by have := bigN_le; omega)
  simpa [jn_nil] using this
theorem kb {a b : Int} (h : a ≠ b) : (a == b) = false := by rw [beq_eq_false_iff_ne]; exact h
theorem map_len (l : List SType) (N : Nat) (h : szL SType.sz l ≤ N) : szL List.length (l.map txt) ≤ 20 * N := by
  have key : ∀ l : List SType, szL List.length (l.map txt) ≤ 20 * szL SType.sz l := fun l => by
    induction l with
    | nil => simp [szL]
    | cons y r ih => have h1 := txt_len _ y (Nat.lt_succ_self _); simp only [List.map_cons, szL]; omega
  have := key l; omega
theorem wordGet (k : Int) : List.getD kwL k.toNat [] = kword k := rfl
theorem text_i : ∀ (m : Nat) (t : SType), t.sz < m → t.sz ≤ 2097152 → tShape t = true → M.i_typeText_n m t = some (txt t)
  | 0, t, h, _, _ => by omega
  | m + 1, t, h, hN, ht => by
    have hs := shp ht
    have hsz := SType.sz_eq t
    have hkw := kword_len t.Kind
    have hin := inB_kw hs.lo hs.hi
    have hll := szL_len List.length t.Labels
    have hkl := szL_len SType.sz t.Kids
    have hmk := map_len t.Kids 2097152 (by omega)
    have hlb := labs_len t.Labels (t.Kids.map SType.Kind) (t.Kids.map txt)
    show M.i_typeText_b (M.i_typeText_n m) t = _
    unfold M.i_typeText_b
    rw [txt_eq]
    simp only [kw_i, Option.getD_some, Option.isSome_some, hin, wordGet, Bool.true_and, Bool.and_true, cond_true]
    by_cases c1 : t.Kind ≤ 11
    · have hk0 := hs.flat c1
      rw [decide_eq_true c1, if_neg (by omega), if_neg (by omega), if_pos (by rw [hk0]; rfl)]; rfl
    · rw [decide_eq_false c1, cond_false]
      by_cases c2 : t.Kind = 20 ∨ t.Kind = 21
      · have : ((t.Kind == 20) || (t.Kind == 21)) = true := by rcases c2 with h | h <;> rw [h] <;> rfl
        rw [this, if_pos c2, catOk (by simp only [List.length_append, List.length_cons, List.length_nil]; omega), catOk (by simp only [List.length_append, List.length_cons, List.length_nil]; omega), catOk (by simp only [List.length_append, List.length_cons, List.length_nil]; omega)]
        rfl
      · rw [kb (fun e => c2 (.inl e)), kb (fun e => c2 (.inr e)), if_neg c2]
        by_cases c3 : 16 ≤ t.Kind ∧ t.Kind ≤ 19
        · rw [decide_eq_true c3.1, decide_eq_true c3.2, if_pos c3]
          simp only [Bool.and_self, Bool.not_true, cond_false, Bool.or_self]
          have e := push_loop (F := fun f i o => M.i_typeText_l1 (M.i_typeText_n m) (kword t.Kind) t.Labels (t.Labels.length : Int) f i t o) (h := fun o => some (kword t.Kind, o)) id (labs t.Labels (t.Kids.map SType.Kind) (t.Kids.map txt)) (by rw [labs_length]; omega) [] (fun f k out hk ho => by
            have hk' := hk
            rw [labs_length] at hk
            have hg := labs_kids t.Labels t.Kids k hk
            rw [getD_lt hk'] at hg
            show M.i_typeText_l1 (M.i_typeText_n m) (kword t.Kind) t.Labels (t.Labels.length : Int) (f + 1) (k : Int) t out = _
            rw [M.i_typeText_l1]
            have hc := cat_le (a := out.length) (b := 1) (by simp at ho; omega)
            have hml := szL_mem List.length t.Labels t.Labels[k] (List.getElem_mem hk)
            simp only [SType.re_eq, Int.ofNat_lt, hk, decide_true, cond_true, Int.toNat_natCast, inB_nat, List.length_cons, List.length_nil, Nat.zero_add, hc, Bool.true_and, Bool.and_true, wrapk hk (by omega : t.Labels.length < 2 ^ 62)]
            by_cases hkk : k < t.Kids.length
            · rw [dif_pos hkk] at hg
              have hmem := List.getElem_mem hkk
              have hpos := szL_pos SType.sz t.Kids t.Kids[k] hmem
              have er := text_i m t.Kids[k] (by have := SType.kid_lt hmem; omega) (by have := SType.kid_lt hmem; omega) (hs.all _ hmem)
              have hln := txt_len _ t.Kids[k] (Nat.lt_succ_self _)
              have hss := SType.kid_lt hmem
              simp only [hkk, decide_true, Bool.true_and, getD_lt hkk, er, Option.getD_some, Option.isSome_some, Bool.true_or]
              rw [catOk (by simp only [List.length_append, List.length_cons, List.length_nil]; rw [getD_lt hk]; omega), catOk (by simp only [List.length_cons, List.length_nil]; omega)]
              by_cases h1 : t.Kids[k].Kind = 1
              · rw [if_pos h1] at hg
                simp only [h1, beq_self_eq_true, Bool.not_true, cond_false, Bool.and_false, Bool.not_false, Bool.or_true, Bool.true_or, Bool.and_true, cond_true, Bool.and_self, Bool.or_false, id, hg]
              · rw [if_neg h1] at hg
                simp only [kb h1, Bool.not_false, cond_true, Bool.and_true, Bool.not_true, Bool.or_false, Bool.or_true, Bool.and_self, id, hg]
            · rw [dif_neg hkk] at hg
              simp only [hkk, decide_false, Bool.false_and, cond_false, Bool.not_false, Bool.or_true, Bool.true_and, Bool.and_true, Bool.or_false, cond_true, id, hg]
              simp [hkk]) (fun f out => by
            show M.i_typeText_l1 (M.i_typeText_n m) (kword t.Kind) t.Labels (t.Labels.length : Int) (f + 1) _ t out = _
            rw [labs_length, M.i_typeText_l1]; simp)
          simp only [List.nil_append, List.map_id] at e
          rw [SType.re_eq, e]
          have hj := jn_len (labs t.Labels (t.Kids.map SType.Kind) (t.Kids.map txt))
          simp only [join_ok _ (show szL List.length (labs t.Labels (t.Kids.map SType.Kind) (t.Kids.map txt)) ≤ 1073741824 by omega), Option.getD_some, Option.isSome_some, Bool.true_and, Bool.and_true]
          rw [catOk (by simp only [List.length_append, List.length_cons, List.length_nil]; omega), catOk (by simp only [List.length_append, List.length_cons, List.length_nil]; omega), catOk (by simp only [List.length_append, List.length_cons, List.length_nil]; omega)]
          rfl
        · have c4 : (12 ≤ t.Kind ∧ t.Kind ≤ 15) ∨ 22 ≤ t.Kind := by have := hs.hi; omega
          have hne := hs.kids c4
          have hb : (!(decide ((16 : Int) ≤ t.Kind) && decide (t.Kind ≤ (19 : Int)))) = true := by
            rw [Bool.not_eq_true', Bool.and_eq_false_iff, decide_eq_false_iff_not, decide_eq_false_iff_not]; omega
          rw [hb, if_neg c3, if_neg (fun e => hne (List.eq_nil_of_length_eq_zero e))]
          simp only [cond_true, cond_false, Bool.or_self]
          have e := push_loop (F := M.i_typeText_l0 (M.i_typeText_n m) (kword t.Kind) t.Kids (t.Kids.length : Int)) (h := fun o => some (kword t.Kind, o)) txt t.Kids (by omega) [] (fun f k out hk ho => by
            rw [M.i_typeText_l0]
            have hc := cat_le (a := out.length) (b := 1) (by simp at ho; omega)
            have hmem := List.getElem_mem hk
            have hss := SType.kid_lt hmem
            have er := text_i m t.Kids[k] (by omega) (by omega) (hs.all _ hmem)
            simp only [SType.re_eq, Int.ofNat_lt, hk, decide_true, cond_true, Int.toNat_natCast, getD_lt hk, er, inB_nat, Option.isSome_some, Option.getD_some, List.length_cons, List.length_nil, Nat.zero_add, hc, Bool.true_and, Bool.and_true, wrapk hk (by omega : t.Kids.length < 2 ^ 62)]) (fun f out => by rw [M.i_typeText_l0]; simp)
          simp only [List.nil_append] at e
          rw [e]
          have hj := jn_len (t.Kids.map txt)
          simp only [join_ok _ (show szL List.length (t.Kids.map txt) ≤ 1073741824 by omega), Option.getD_some, Option.isSome_some, Bool.true_and, Bool.and_true]
          rw [catOk (by simp only [List.length_append, List.length_cons, List.length_nil]; omega), catOk (by simp only [List.length_append, List.length_cons, List.length_nil]; omega), catOk (by simp only [List.length_append, List.length_cons, List.length_nil]; omega)]
          rfl
end M
/-
  THE TEXT OF A TYPE: what the reference writes is the text.
-/
set_option linter.unusedVariables false
set_option linter.unusedSimpArgs false
namespace M
open Go.V (inB slB catB bigN bigN_le)

theorem ite_comma (k : Nat) (s : List UInt8) : (bif decide ((0 : Int) < (k : Int)) then s ++ [(44 : UInt8)] else s) = if 0 < k then s ++ [44] else s := by
  by_cases h : 0 < k
  · rw [if_pos h, decide_eq_true (by omega)]; rfl
  · rw [if_neg h, decide_eq_false (by omega)]; rfl
theorem comma_len (k : Nat) (s : List UInt8) : (if 0 < k then s ++ [(44 : UInt8)] else s).length ≤ s.length + 1 := by split <;> simp
theorem comma_ok (k : Nat) {s : List UInt8} (h : s.length ≤ 1000000000) : ((catB s [(44 : UInt8)] && true) || !decide ((0 : Int) < (k : Int))) = true := by
  rw [catOk (by simp only [List.length_cons, List.length_nil]; omega)]; rfl
theorem comma_ok2 (k : Nat) {s : List UInt8} (h : s.length ≤ 1000000000) : (catB s [(44 : UInt8)] || !decide ((0 : Int) < (k : Int))) = true := by
  rw [catOk (by simp only [List.length_cons, List.length_nil]; omega)]; rfl
theorem text_s : ∀ (m : Nat) (t : SType), t.sz < m → t.sz ≤ 2097152 → tShape t = true → M.s_l03Text_n m t = some (txt t)
  | 0, t, h, _, _ => by omega
  | m + 1, t, h, hN, ht => by
    have hs := shp ht
    have hsz := SType.sz_eq t
    have hkw := kword_len t.Kind
    have hin := inB_kw hs.lo hs.hi
    have hll := szL_len List.length t.Labels
    have hkl := szL_len SType.sz t.Kids
    have hmk := map_len t.Kids 2097152 (by omega)
    have hlb := labs_len t.Labels (t.Kids.map SType.Kind) (t.Kids.map txt)
    show M.s_l03Text_b (M.s_l03Text_n m) t = _
    unfold M.s_l03Text_b
    rw [txt_eq]
    simp only [kw_s, Option.getD_some, Option.isSome_some, hin, wordGet, Bool.true_and, Bool.and_true, cond_true, SType.re_eq]
    by_cases c2 : t.Kind = 20 ∨ t.Kind = 21
    · have hn : (t.Name == []) = false := by rw [beq_eq_false_iff_ne]; exact hs.name.1 c2
      rw [hn, if_pos c2, catOk (by simp only [List.length_append, List.length_cons, List.length_nil]; omega), catOk (by simp only [List.length_append, List.length_cons, List.length_nil]; omega), catOk (by simp only [List.length_append, List.length_cons, List.length_nil]; omega)]
      rfl
    · have hn : t.Name = [] := Decidable.byContradiction fun e => c2 (hs.name.2 e)
      rw [hn, if_neg c2]
      simp only [beq_self_eq_true, Bool.not_true, cond_false]
      by_cases c3 : 16 ≤ t.Kind ∧ t.Kind ≤ 19
      · have hl0 : 0 < t.Labels.length := List.length_pos_iff.2 (hs.lab.1 c3)
        rw [if_pos c3, decide_eq_true (by omega), cond_true]
        have e := comma_loop (F := fun f s i => M.s_l03Text_l0 (M.s_l03Text_n m) f s i t) (h := some) (labs t.Labels (t.Kids.map SType.Kind) (t.Kids.map txt)) (by rw [labs_length]; omega) (kword t.Kind ++ [123]) (fun f k s hk hls => by
          have hk' := hk
          rw [labs_length] at hk
          have hg := labs_kids t.Labels t.Kids k hk
          rw [getD_lt hk'] at hg
          show M.s_l03Text_l0 (M.s_l03Text_n m) (f + 1) s (k : Int) t = _
          rw [M.s_l03Text_l0]
          simp only [List.length_append, List.length_cons, List.length_nil] at hls
          have hcl := comma_len k s
          have hml := szL_mem List.length t.Labels t.Labels[k] (List.getElem_mem hk)
          simp only [SType.re_eq, Int.ofNat_lt, hk, decide_true, cond_true, Int.toNat_natCast, inB_nat, ite_comma, comma_ok k (show s.length ≤ 1000000000 by omega), comma_ok2 k (show s.length ≤ 1000000000 by omega), getD_lt hk, Bool.true_and, Bool.and_true, wrapk hk (by omega : t.Labels.length < 2 ^ 62)]
          have hc1 : catB (if 0 < k then s ++ [44] else s) t.Labels[k] = true := catOk (by omega)
          rw [hc1, hg]
          by_cases hkk : k < t.Kids.length
          · rw [dif_pos hkk]
            have hmem := List.getElem_mem hkk
            have er := text_s m t.Kids[k] (by have := SType.kid_lt hmem; omega) (by have := SType.kid_lt hmem; omega) (hs.all _ hmem)
            have hln := txt_len _ t.Kids[k] (Nat.lt_succ_self _)
            have hss := SType.kid_lt hmem
            have h0 : decide ((0 : Int) < (t.Kids.length : Int)) = true := by rw [decide_eq_true_eq]; omega
            have hc2 : catB ((if 0 < k then s ++ [44] else s) ++ t.Labels[k]) ([58] ++ txt t.Kids[k]) = true := catOk (by simp only [List.length_append, List.length_cons, List.length_nil]; omega)
            have hc3 : catB [58] (txt t.Kids[k]) = true := catOk (by simp only [List.length_cons, List.length_nil]; omega)
            simp only [h0, hkk, decide_true, Bool.true_and, getD_lt hkk, er, Option.getD_some, Option.isSome_some, Bool.true_or, hc2, hc3, getD_lt hk, bne_not']
            by_cases h1 : t.Kids[k].Kind = 1
            · simp only [h1, beq_self_eq_true, Bool.not_true, cond_false, Bool.not_false, Bool.or_true, Bool.true_or, Bool.and_true, cond_true, Bool.and_self, Bool.or_false, if_true]
            · simp only [kb h1, h1, Bool.not_false, cond_true, Bool.and_true, Bool.not_true, Bool.or_false, Bool.or_true, Bool.and_self, if_false, List.append_assoc]
          · rw [dif_neg hkk]
            have hk18 : t.Kids = [] := by
              rcases Nat.lt_or_ge t.Kind.toNat 18 with h | h
              · have : t.Kind = 16 ∨ t.Kind = 17 := by omega
                rcases this with h | h
                · exact absurd (by rw [(hs.recK h).1]; exact hk) hkk
                · exact absurd (by rw [hs.varK h]; exact hk) hkk
              · exact hs.noK (by omega)
            rw [hk18]
            simp only [List.length_nil, Int.ofNat_zero, Int.lt_irrefl, decide_false, Bool.false_and, cond_false, Bool.not_false, Bool.or_true, Bool.true_and, Bool.and_true, Bool.or_false, cond_true, getD_lt hk]
            simp) (fun f s => by
          show M.s_l03Text_l0 (M.s_l03Text_n m) (f + 1) s _ t = _
          rw [labs_length, M.s_l03Text_l0]; simp)
        have hj := jn_len (labs t.Labels (t.Kids.map SType.Kind) (t.Kids.map txt))
        have e' : M.s_l03Text_l0 (M.s_l03Text_n m) bigN (kword t.Kind ++ [123]) 0 t = _ := e
        rw [e']
        simp only []
        rw [catOk (by simp only [List.length_append, List.length_cons, List.length_nil]; omega), catOk (by simp only [List.length_append, List.length_cons, List.length_nil]; omega)]
        rfl
      · have hl : t.Labels = [] := Decidable.byContradiction fun e => c3 (hs.lab.2 e)
        rw [hl, if_neg c3]
        simp only [List.length_nil, Int.ofNat_zero, Int.lt_irrefl, decide_false, cond_false]
        by_cases c4 : t.Kids.length = 0
        · rw [if_pos c4, c4]; rfl
        · rw [if_neg c4, decide_eq_true (by omega), cond_true]
          have e := comma_loop (F := fun f s i => M.s_l03Text_l1 (M.s_l03Text_n m) f s i t) (h := some) (t.Kids.map txt) (by rw [List.length_map]; omega) (kword t.Kind ++ [60]) (fun f k s hk hls => by
            rw [List.length_map] at hk
            show M.s_l03Text_l1 (M.s_l03Text_n m) (f + 1) s (k : Int) t = _
            rw [M.s_l03Text_l1]
            simp only [List.length_append, List.length_cons, List.length_nil] at hls
            have hcl := comma_len k s
            have hmem := List.getElem_mem hk
            have hss := SType.kid_lt hmem
            have er := text_s m t.Kids[k] (by omega) (by omega) (hs.all _ hmem)
            have hln := txt_len _ t.Kids[k] (Nat.lt_succ_self _)
            have hc1 : catB (if 0 < k then s ++ [44] else s) (txt t.Kids[k]) = true := catOk (by omega)
            simp only [SType.re_eq, Int.ofNat_lt, hk, decide_true, cond_true, Int.toNat_natCast, inB_nat, ite_comma, comma_ok k (show s.length ≤ 1000000000 by omega), comma_ok2 k (show s.length ≤ 1000000000 by omega), getD_lt hk, er, Option.getD_some, Option.isSome_some, hc1, Bool.true_and, Bool.and_true, wrapk hk (by omega : t.Kids.length < 2 ^ 62), List.getElem_map]) (fun f s => by
            show M.s_l03Text_l1 (M.s_l03Text_n m) (f + 1) s _ t = _
            rw [List.length_map, M.s_l03Text_l1]; simp)
          have hj := jn_len (t.Kids.map txt)
          have e' : M.s_l03Text_l1 (M.s_l03Text_n m) bigN (kword t.Kind ++ [60]) 0 t = _ := e
          rw [e']
          simp only []
          rw [catOk (by simp only [List.length_append, List.length_cons, List.length_nil]; omega), catOk (by simp only [List.length_append, List.length_cons, List.length_nil]; omega)]
          rfl
theorem typeText_i (t : SType) (hN : t.sz ≤ 2097152) : M.i_TypeText t = some (if tOk t then txt t else []) := by
  unfold M.i_TypeText
  simp only [SType.re_eq, typeOk_i t hN, Option.getD_some, Option.isSome_some, Bool.and_true, cond_true]
  cases h : tOk t
  · rfl
  · have hsh : tShape t = true := by unfold tOk at h; simp only [Bool.and_eq_true] at h; exact h.2
    have e : M.i_typeText t = some (txt t) := text_i bigN t (by have := bigN_le; omega) hN hsh
    simp only [Bool.not_true, cond_false, e, Option.getD_some, Option.isSome_some, Bool.true_and, cond_true, if_true]
theorem l03Text_s (t : SType) (hN : t.sz ≤ 2097152) (h : tOk t = true) : M.s_l03Text t = some (txt t) := by
  have hsh : tShape t = true := by unfold tOk at h; simp only [Bool.and_eq_true] at h; exact h.2
  exact text_s bigN t (by have := bigN_le; omega) hN hsh
end M
/-
  READING, the program's side: words and signs.
-/
set_option linter.unusedVariables false
set_option linter.unusedSimpArgs false
namespace M
open Go.V (inB slB catB bigN bigN_le)
def isD (x : UInt8) : Bool := !(decide ((M.idxByte [(60 : UInt8), (62 : UInt8), (123 : UInt8), (125 : UInt8), (40 : UInt8), (41 : UInt8), (44 : UInt8), (58 : UInt8)] ((UInt8.toNat x : Nat) : Int)) < (0 : Int)))
def wch (c : UInt8) : Bool := lowB c || (digB c || dashB c)
theorem wch_isD (c : UInt8) (h : wch c = true) : isD c = false := by
  have key : ∀ n : Fin 256, wch (UInt8.ofNat n.val) = true → isD (UInt8.ofNat n.val) = false := by decide +kernel
  have := key ⟨c.toNat, c.toNat_lt⟩
  simpa using this (by simpa using h)
def wordF (r : StypeReader) : List UInt8 × StypeReader := (r.rest.takeWhile (fun x => !isD x), ⟨r.rest.dropWhile (fun x => !isD x), r.bad⟩)
def takeF (c : UInt8) (r : StypeReader) : Bool × StypeReader := match r.rest with
  | [] => (false, r)
  | x :: t => if x = c then (true, ⟨t, r.bad⟩) else (false, r)
def needF (c : UInt8) (r : StypeReader) : StypeReader := if (takeF c r).1 then (takeF c r).2 else ⟨r.rest, true⟩
theorem slB_ok {a b n : Nat} (h1 : a ≤ b) (h2 : b ≤ n) : slB (a : Int) (b : Int) n = true := by
  unfold slB; simp only [Bool.and_eq_true, decide_eq_true_eq]; omega
theorem take_i (c : UInt8) (r : StypeReader) : M.i_typeReader_take [c] r = some (takeF c r) := by
  unfold M.i_typeReader_take M.strings_CutPrefix M.internal_stringslite_CutPrefix M.internal_stringslite_HasPrefix takeF
  obtain ⟨rest, bad⟩ := r
  cases rest with
  | nil => rfl
  | cons x t =>
    have h1 : slB (0 : Int) ((List.length [c] : Nat) : Int) (List.length (x :: t)) = true := slB_ok (a := 0) (by omega) (by simp)
    have h2 : slB ((List.length [c] : Nat) : Int) ((List.length (x :: t) : Nat) : Int) (List.length (x :: t)) = true := slB_ok (by simp) (Nat.le_refl _)
    have h3 : decide (((List.length [c] : Nat) : Int) ≤ ((List.length (x :: t) : Nat) : Int)) = true := by rw [decide_eq_true_eq]; simp; omega
    have h4 : List.drop (Int.toNat 0) (List.take (Int.toNat ((List.length [c] : Nat) : Int)) (x :: t)) = [x] := rfl
    have h5 : List.drop (Int.toNat ((List.length [c] : Nat) : Int)) (List.take (Int.toNat ((List.length (x :: t) : Nat) : Int)) (x :: t)) = t := by
      simp
    simp only [h1, h2, h3, h4, h5, Bool.true_and, Bool.and_true, Bool.true_or, cond_true, Option.getD_some, Option.isSome_some]
    by_cases hx : x = c
    · subst hx; simp
    · have : ([x] == [c]) = false := by rw [beq_eq_false_iff_ne]; intro e; exact hx (by simpa using e)
      simp [this, hx]
theorem need_i (c : UInt8) (r : StypeReader) : M.i_typeReader_need [c] r = some (needF c r) := by
  unfold M.i_typeReader_need needF
  rw [take_i]
  simp only [Option.getD_some, Option.isSome_some, Bool.and_true, cond_true]
  have : (takeF c r).1 = false → (takeF c r).2 = r := by
    unfold takeF; split
    · intro _; rfl
    · split
      · intro h; cases h
      · intro _; rfl
  cases h : (takeF c r).1
  · simp only [Bool.not_false, cond_true, this h]; rfl
  · rfl
theorem while_at {p : UInt8 → Bool} : ∀ (l : List UInt8) (k : Nat), k < (l.takeWhile p).length → p (l.getD k 0) = true
  | [], k, h => by simp at h
  | x :: r, k, h => by
    rw [List.takeWhile_cons] at h
    cases hx : p x
    · rw [hx] at h; simp at h
    · rw [hx] at h
      cases k with
      | zero => simpa using hx
      | succ k => simpa using while_at r k (by simpa using h)
theorem while_end {p : UInt8 → Bool} : ∀ (l : List UInt8), (l.takeWhile p).length < l.length → p (l.getD (l.takeWhile p).length 0) = false
  | [], h => by simp at h
  | x :: r, h => by
    rw [List.takeWhile_cons] at h ⊢
    cases hx : p x
    · simpa using hx
    · rw [hx] at h
      simpa using while_end r (by simpa using h)
theorem while_take {p : UInt8 → Bool} : ∀ (l : List UInt8), l.take (l.takeWhile p).length = l.takeWhile p
  | [] => rfl
  | x :: r => by
    rw [List.takeWhile_cons]
    cases hx : p x
    · rfl
    · simp [while_take r]
theorem while_drop {p : UInt8 → Bool} : ∀ (l : List UInt8), l.drop (l.takeWhile p).length = l.dropWhile p
  | [] => rfl
  | x :: r => by
    rw [List.takeWhile_cons, List.dropWhile_cons]
    cases hx : p x
    · rfl
    · simp [while_drop r]
theorem while_len {p : UInt8 → Bool} (l : List UInt8) : (l.takeWhile p).length ≤ l.length := by
  have := congrArg List.length (while_take (p := p) l)
  rw [List.length_take] at this; omega
theorem stop_loop {Y : Type} {F : Nat → Int → Option Y} {y : Option Y} (n : Nat) (hn : n ≤ 2097152) (step : ∀ f k, k < n → F (f + 1) (k : Int) = F f ((k + 1 : Nat) : Int)) (stop : ∀ f, F (f + 1) (n : Int) = y) : F bigN 0 = y := by
  have key : ∀ f k, k ≤ n → n - k < f → F f (k : Int) = y := by
    intro f
    induction f with
    | zero => intro k h1 h2; omega
    | succ f ih =>
      intro k h1 h2
      rcases Nat.lt_or_ge k n with hk | hk
      · rw [step f k hk]; exact ih _ (by omega) (by omega)
      · have : k = n := by omega
        subst this; exact stop f
  exact key bigN 0 (Nat.zero_le _) (by have := bigN_le; omega)
theorem isD_end {x : UInt8} (h : (!isD x) = false) : decide ((M.idxByte [(60 : UInt8), (62 : UInt8), (123 : UInt8), (125 : UInt8), (40 : UInt8), (41 : UInt8), (44 : UInt8), (58 : UInt8)] ((UInt8.toNat x : Nat) : Int)) < (0 : Int)) = false := by
  unfold isD at h; simpa using h
theorem word_i (r : StypeReader) (h : r.rest.length ≤ 2097152) : M.i_typeReader_word r = some (wordF r) := by
  have hl := while_len (p := fun x => !isD x) r.rest
  unfold M.i_typeReader_word
  rw [stop_loop (F := M.i_typeReader_word_l0 r) (y := some (((r.rest.takeWhile fun x => !isD x).length : Int), r)) (r.rest.takeWhile fun x => !isD x).length (by omega) (fun f k hk => by
    rw [M.i_typeReader_word_l0]
    have h1 := while_at (p := fun x => !isD x) r.rest k hk
    have h2 : decide ((M.idxByte [(60 : UInt8), (62 : UInt8), (123 : UInt8), (125 : UInt8), (40 : UInt8), (41 : UInt8), (44 : UInt8), (58 : UInt8)] ((UInt8.toNat (r.rest.getD k 0) : Nat) : Int)) < (0 : Int)) = true := by
      unfold isD at h1; simpa using h1
    have hk2 : k < r.rest.length := by omega
    simp only [Int.toNat_natCast, h2, Int.ofNat_lt, hk2, decide_true, Bool.and_true, cond_true, inB_nat, Bool.true_or, wrapk hk2 (by omega : r.rest.length < 2 ^ 62)]) (fun f => by
    rw [M.i_typeReader_word_l0]
    by_cases he : (r.rest.takeWhile fun x => !isD x).length < r.rest.length
    · have h1 := while_end (p := fun x => !isD x) r.rest he
      have h2 := isD_end h1
      simp only [Int.toNat_natCast, h2, Int.ofNat_lt, he, decide_true, Bool.and_false, cond_false, inB_nat, Bool.true_or, Bool.and_true, cond_true]
    · simp only [Int.ofNat_lt, he, decide_false, Bool.false_and, cond_false, Bool.not_false, Bool.or_true, Bool.and_true, cond_true]
      simp)]
  simp only [slB_ok hl (Nat.le_refl _), show slB (0 : Int) (((r.rest.takeWhile fun x => !isD x).length : Nat) : Int) r.rest.length = true from slB_ok (a := 0) (Nat.zero_le _) hl, Bool.and_true, cond_true, Int.toNat_natCast, List.take_length, while_take, while_drop]
  rfl
/-! ### the number of a word -/
theorem index_i (l : List (List UInt8)) (v : List UInt8) (hl : l.length < 2 ^ 62) : M.slices_Index_string_string l v = some (match l.findIdx? fun x => v == x with
    | some k => (k : Int)
    | none => -1) := by
  unfold M.slices_Index_string_string
  rw [find_list (p := fun x => v == x) (F := M.slices_Index_string_string_l0 l v (l.length : Int)) (e := ()) (fun k => k) l hl (fun f k hk => by
    rw [M.slices_Index_string_string_l0]
    simp only [getD_lt hk, Int.toNat_natCast, inB_nat, Int.ofNat_lt, hk, decide_true, cond_true, Bool.and_true, wrapk hk (by omega : l.length < 2 ^ 62)]) (fun f => by
    rw [M.slices_Index_string_string_l0]; simp)]
  cases l.findIdx? fun x => v == x <;> rfl
noncomputable def kindI (w : List UInt8) : Int := match kwL.findIdx? fun x => w == x with
  | some k => (k : Int)
  | none => -1
theorem kindI_eq (w : List UInt8) : M.slices_Index_string_string kwL w = some (kindI w) := index_i _ _ (by rw [kw_len]; omega)
theorem kindI_kword {k : Int} (h1 : 1 ≤ k) (h2 : k ≤ 23) : kindI (kword k) = k := by
  have key : ∀ n : Fin 24, kindI (kword (n.val : Int)) = (n.val : Int) := by decide
  have := key ⟨k.toNat, by omega⟩
  simpa [show ((k.toNat : Nat) : Int) = k by omega] using this
end M
/-
  READING, the program's side: every text is read to an end.
-/
set_option linter.unusedVariables false
set_option linter.unusedSimpArgs false
namespace M
open Go.V (inB slB catB bigN bigN_le)

def tupI (t : SType) (r : StypeReader) : Int × (List UInt8) × StypeReader × (List (List UInt8)) × (List SType) := (t.Kind, t.Name, r, t.Labels, t.Kids)
theorem wordF_len (r : StypeReader) : (wordF r).1.length + (wordF r).2.rest.length = r.rest.length := by
  have := congrArg List.length (List.takeWhile_append_dropWhile (p := fun x => !isD x) (l := r.rest))
  rw [List.length_append] at this; exact this
theorem takeF_hit {c : UInt8} {r : StypeReader} (h : (takeF c r).1 = true) : r.rest.length = (takeF c r).2.rest.length + 1 ∧ (takeF c r).2.bad = r.bad := by
  unfold takeF at h ⊢
  split at h
  · cases h
  · rename_i x t e
    split at h
    · rename_i hx; simp only [e, hx, if_true]; exact ⟨by simp, trivial⟩
    · cases h
theorem takeF_miss {c : UInt8} {r : StypeReader} (h : (takeF c r).1 = false) : (takeF c r).2 = r := by
  unfold takeF at h ⊢
  split at h
  · rename_i e; simp only [e]
  · rename_i x t e
    split at h
    · cases h
    · rename_i hx; simp only [e, hx, if_false]
theorem takeF_le (c : UInt8) (r : StypeReader) : (takeF c r).2.rest.length ≤ r.rest.length := by
  cases h : (takeF c r).1
  · rw [takeF_miss h]; exact Nat.le_refl _
  · have := takeF_hit h; omega
theorem needF_le (c : UInt8) (r : StypeReader) : (needF c r).rest.length ≤ r.rest.length := by
  unfold needF; split
  · exact takeF_le c r
  · exact Nat.le_refl _
theorem needF_bad (c : UInt8) (r : StypeReader) (h : r.bad = true) : (needF c r).bad = true := by
  unfold needF; split
  · rename_i hh; rw [(takeF_hit hh).2]; exact h
  · rfl
theorem set_last {α : Type} (o : List α) (z x : α) : List.set (o ++ [z]) o.length x = o ++ [x] := by
  rw [List.set_append_right _ _ (Nat.le_refl _)]; simp
theorem inB_last {α : Type} (o : List α) (z : α) : inB ((o.length : Nat) : Int) (List.length (o ++ [z])) = true := by rw [inB_nat]; simp
theorem szL_app {α : Type} (f : α → Nat) (a b : List α) : szL f (a ++ b) = szL f a + szL f b := by
  induction a with
  | nil => simp [szL]
  | cons x r ih => simp only [List.cons_append, szL, ih]; omega
theorem szL_one {α : Type} (f : α → Nat) (x : α) : szL f [x] = f x + 1 := by simp [szL]
def RdI (rec : Int → StypeReader → Option (Int × (List UInt8) × StypeReader × (List (List UInt8)) × (List SType))) (L : Int) : Prop :=
  ∀ r : StypeReader, r.rest.length ≤ 1048576 → ∃ t r', rec L r = some (tupI t r') ∧ r'.rest.length ≤ r.rest.length ∧ t.sz + 2 * r'.rest.length ≤ 2 * r.rest.length ∧ (r.bad = true → r'.bad = true)
abbrev RecI := Int → StypeReader → Option (Int × (List UInt8) × StypeReader × (List (List UInt8)) × (List SType))
theorem wrapL (L : Nat) (h1 : 1 ≤ L) (h4 : L ≤ 4) : Go.IntKind.wrap .i64 ((L : Int) - 1) = ((L - 1 : Nat) : Int) := by rw [wrap_i64 (by omega) (by omega)]; omega
theorem label_tot {rec : RecI} {L : Nat} (h1 : 1 ≤ L) (h4 : L ≤ 4) (hrec : RdI rec ((L - 1 : Nat) : Int)) (r : StypeReader) (k : Int) (n : List UInt8) (o2 : List (List UInt8)) (o3 : List SType) (hr : r.rest.length ≤ 1048576) (ho2 : o2.length ≤ 100000000) (ho3 : o3.length ≤ 100000000) :
    ∃ r' l ks, M.i_typeReader_label rec (L : Int) r k n o2 o3 = some (r', k, n, o2 ++ [l], o3 ++ ks) ∧ r'.rest.length ≤ r.rest.length ∧ ks.length ≤ 1 ∧ l.length + szL SType.sz ks + 2 * r'.rest.length ≤ 2 * r.rest.length + 1 ∧ (r.bad = true → r'.bad = true) := by
  have hw := wordF_len r
  have hc2 := cat_le (a := o2.length) (b := 1) (by omega)
  have hc3 := cat_le (a := o3.length) (b := 1) (by omega)
  unfold M.i_typeReader_label
  simp only [word_i r (by omega), take_i, Option.getD_some, Option.isSome_some, Bool.true_and, Bool.and_true, List.length_cons, List.length_nil, Nat.zero_add, hc2, hc3, wrapL L h1 h4, inB_last, Int.toNat_natCast, set_last]
  cases ht : (takeF 58 (wordF r).2).1
  · rw [takeF_miss ht, cond_false]
    by_cases hk : k = 17
    · rw [hk]
      refine ⟨(wordF r).2, (wordF r).1, [SType.mk 1 [] [] []], rfl, by omega, by simp, ?_, fun h => h⟩
      rw [szL_one, show (SType.mk 1 [] [] []).sz = 0 from rfl]; omega
    · rw [kb hk]
      refine ⟨(wordF r).2, (wordF r).1, [], by simp, by omega, by simp, ?_, fun h => h⟩
      simp only [szL]; omega
  · have hh := takeF_hit ht
    obtain ⟨t, r', e, h2, h3, hbb⟩ := hrec (takeF 58 (wordF r).2).2 (by omega)
    refine ⟨r', (wordF r).1, [t], ?_, by omega, by simp, ?_, fun h => hbb (by rw [hh.2]; exact h)⟩
    · simp only [e, cond_true, Option.getD_some, Option.isSome_some, Bool.true_and, tupI, SType.eta]
    · rw [szL_one]; omega
theorem kids_tot {rec : RecI} {L : Nat} (h1 : 1 ≤ L) (h4 : L ≤ 4) (hrec : RdI rec ((L - 1 : Nat) : Int)) (t4 : Int) (t42 : List UInt8) (t : Int) (t2 : List UInt8) (o7 : List (List UInt8)) (o8 : List SType) (o9 : List (List UInt8)) :
    ∀ (f : Nat) (r : StypeReader) (o : List SType), r.rest.length < f → r.rest.length ≤ 1048576 → o.length + r.rest.length ≤ 10000000 →
      ∃ r' ks, M.i_typeReader_read_l0 rec (L : Int) t4 t42 t t2 o7 o8 o9 f r o = some (r', t4, t42, t, t2, o7, o8, o9, o ++ ks) ∧ r'.rest.length ≤ r.rest.length ∧ szL SType.sz ks + 2 * r'.rest.length ≤ 2 * r.rest.length ∧ (r.bad = true → r'.bad = true)
  | 0, r, o, h, _, _ => by omega
  | f + 1, r, o, hf, hr, ho => by
    rw [M.i_typeReader_read_l0]
    have hc := cat_le (a := o.length) (b := 1) (by omega)
    cases hb : r.bad
    · simp only [take_i, Option.getD_some, Option.isSome_some, Bool.not_false, Bool.true_and, Bool.and_true, cond_true, beq_self_eq_true, Bool.and_self, List.length_cons, List.length_nil, Nat.zero_add, hc, wrapL L h1 h4, inB_last, Int.toNat_natCast, set_last]
      cases ht : (takeF 44 r).1
      · rw [takeF_miss ht, cond_false]
        exact ⟨r, [], by simp, Nat.le_refl _, by simp [szL], (fun h => by cases h)⟩
      · have hh := takeF_hit ht
        obtain ⟨x, r1, e, g1, g2, -⟩ := hrec (takeF 44 r).2 (by omega)
        obtain ⟨r', ks, e2, g3, g4, -⟩ := kids_tot h1 h4 hrec t4 t42 t t2 o7 o8 o9 f r1 (o ++ [x]) (by omega) (by omega) (by simp; omega)
        refine ⟨r', x :: ks, ?_, by omega, by simp only [szL]; omega, (fun h => by cases h)⟩
        simp only [e, cond_true, Option.getD_some, Option.isSome_some, Bool.true_and, tupI, SType.eta]
        rw [e2]; simp
    · simp only [Bool.not_true, cond_false, beq_self_eq_true, Bool.and_self, Bool.and_true, cond_true]
      exact ⟨r, [], by simp, Nat.le_refl _, by simp [szL], fun _ => hb⟩
theorem labels_tot {rec : RecI} {L : Nat} (h1 : 1 ≤ L) (h4 : L ≤ 4) (hrec : RdI rec ((L - 1 : Nat) : Int)) (t4 : Int) (t42 : List UInt8) (k : Int) (n : List UInt8) (o7 : List (List UInt8)) (o8 : List SType) :
    ∀ (f : Nat) (r : StypeReader) (o : List (List UInt8)) (p : List SType), r.rest.length < f → r.rest.length ≤ 1048576 → o.length + r.rest.length ≤ 10000000 → p.length + r.rest.length ≤ 10000000 →
      ∃ r' ls ks, M.i_typeReader_read_l1 rec (L : Int) t4 t42 o7 o8 f r k n o p = some (r', t4, t42, k, n, o7, o8, o ++ ls, p ++ ks) ∧ r'.rest.length ≤ r.rest.length ∧ szL List.length ls + szL SType.sz ks + 2 * r'.rest.length ≤ 2 * r.rest.length ∧ (r.bad = true → r'.bad = true)
  | 0, r, o, p, h, _, _, _ => by omega
  | f + 1, r, o, p, hf, hr, ho, hp => by
    rw [M.i_typeReader_read_l1]
    cases hb : r.bad
    · simp only [take_i, Option.getD_some, Option.isSome_some, Bool.not_false, Bool.true_and, Bool.and_true, cond_true, beq_self_eq_true, Bool.and_self]
      cases ht : (takeF 44 r).1
      · rw [takeF_miss ht, cond_false]
        exact ⟨r, [], [], by simp, Nat.le_refl _, by simp [szL], (fun h => by cases h)⟩
      · have hh := takeF_hit ht
        obtain ⟨r1, l, ks, e, g1, g5, g2, -⟩ := label_tot h1 h4 hrec (takeF 44 r).2 k n o p (by omega) (by omega) (by omega)
        obtain ⟨r', ls, ks', e2, g3, g4, -⟩ := labels_tot h1 h4 hrec t4 t42 k n o7 o8 f r1 (o ++ [l]) (p ++ ks) (by omega) (by omega) (by simp; omega) (by simp; omega)
        refine ⟨r', l :: ls, ks ++ ks', ?_, by omega, by rw [szL_app]; simp only [szL]; omega, (fun h => by cases h)⟩
        simp only [e, cond_true, Option.getD_some, Option.isSome_some, Bool.true_and]
        rw [e2]; simp
    · simp only [Bool.not_true, cond_false, beq_self_eq_true, Bool.and_self, Bool.and_true, cond_true]
      exact ⟨r, [], [], by simp, Nat.le_refl _, by simp [szL], fun _ => hb⟩
end M
/-
  READING, the program's side: a type is read off every text.
-/
set_option linter.unusedVariables false
set_option linter.unusedSimpArgs false
namespace M
open Go.V (inB slB catB bigN bigN_le)

theorem kindI_nil : kindI [] = 0 := by decide
theorem word_pos {w : List UInt8} (h : ¬ kindI w ≤ 0) : 1 ≤ w.length := by
  cases w with
  | nil => rw [kindI_nil] at h; omega
  | cons x r => simp
theorem read_tot : ∀ (m L : Nat), L < m → L ≤ 4 → RdI (M.i_typeReader_read_n m) (L : Int)
  | 0, L, h, _ => by omega
  | m + 1, L, h, h4 => fun r hr => by
    have hw := wordF_len r
    have hbig := bigN_le
    show ∃ t r', M.i_typeReader_read_b (M.i_typeReader_read_n m) (L : Int) r = some (tupI t r') ∧ _
    unfold M.i_typeReader_read_b
    simp only [word_i r (by omega), kw_i, Option.getD_some, Option.isSome_some, kindI_eq, need_i, Bool.true_and, Bool.and_true, cond_true]
    by_cases c0 : kindI (wordF r).1 ≤ 0 ∨ L = 0
    · have : (decide (kindI (wordF r).1 ≤ 0) || ((L : Int) == 0)) = true := by
        rcases c0 with h | h
        · rw [decide_eq_true h]; rfl
        · subst h; simp
      rw [this]
      refine ⟨SType.mk (kindI (wordF r).1) [] [] [], ⟨(wordF r).2.rest, true⟩, rfl, by simp only []; omega, ?_, fun _ => rfl⟩
      rw [show (SType.mk (kindI (wordF r).1) [] [] []).sz = 0 from rfl]; simp only []; omega
    · have hL : 1 ≤ L := by omega
      have hwp := word_pos (w := (wordF r).1) (fun e => c0 (.inl e))
      have : (decide (kindI (wordF r).1 ≤ 0) || ((L : Int) == 0)) = false := by
        rw [decide_eq_false (fun e => c0 (.inl e)), kb (by omega)]; rfl
      rw [this, cond_false]
      have hrec := read_tot m (L - 1) (by omega) (by omega)
      by_cases c1 : kindI (wordF r).1 ≤ 11
      · rw [decide_eq_true c1, cond_true]
        refine ⟨SType.mk (kindI (wordF r).1) [] [] [], (wordF r).2, rfl, by omega, ?_, fun h => h⟩
        rw [show (SType.mk (kindI (wordF r).1) [] [] []).sz = 0 from rfl]; omega
      · rw [decide_eq_false c1, cond_false]
        by_cases c2 : kindI (wordF r).1 = 20 ∨ kindI (wordF r).1 = 21
        · have : ((kindI (wordF r).1 == 20) || (kindI (wordF r).1 == 21)) = true := by rcases c2 with h | h <;> rw [h] <;> rfl
          rw [this, cond_true]
          have n1 := needF_le 60 (wordF r).2
          have hw2 := wordF_len (needF 60 (wordF r).2)
          have n2 := needF_le 62 (wordF (needF 60 (wordF r).2)).2
          rw [word_i (needF 60 (wordF r).2) (by omega)]
          simp only [Option.getD_some, Option.isSome_some, Bool.true_and, Bool.and_true, cond_true]
          refine ⟨SType.mk (kindI (wordF r).1) (wordF (needF 60 (wordF r).2)).1 [] [], _, rfl, by omega, ?_, fun h => needF_bad 62 _ (needF_bad 60 _ h)⟩
          rw [show (SType.mk (kindI (wordF r).1) (wordF (needF 60 (wordF r).2)).1 [] []).sz = (wordF (needF 60 (wordF r).2)).1.length from rfl]; omega
        · rw [kb (fun e => c2 (.inl e)), kb (fun e => c2 (.inr e))]
          simp only [Bool.or_self, cond_false]
          by_cases c3 : 16 ≤ kindI (wordF r).1 ∧ kindI (wordF r).1 ≤ 19
          · rw [decide_eq_true c3.1, decide_eq_true c3.2]
            simp only [Bool.and_self, Bool.not_true, cond_false]
            have n1 := needF_le 123 (wordF r).2
            obtain ⟨r1, l, ks, e, g1, g5, g2, hb1⟩ := label_tot hL h4 hrec (needF 123 (wordF r).2) (kindI (wordF r).1) [] [] [] (by omega) (by simp) (by simp)
            obtain ⟨r2, ls, ks', e2, g3, g4, hb2⟩ := labels_tot hL h4 hrec 0 [] (kindI (wordF r).1) [] [] [] bigN r1 ([] ++ [l]) ([] ++ ks) (by omega) (by omega) (by simp; omega) (by simp; omega)
            have n2 := needF_le 125 r2
            simp only [e, Option.getD_some, Option.isSome_some, Bool.true_and, Bool.and_true, cond_true]
            rw [e2]
            simp only [Option.getD_some, Option.isSome_some, Bool.true_and, Bool.and_true, cond_true]
            refine ⟨SType.mk (kindI (wordF r).1) [] (l :: ls) (ks ++ ks'), _, rfl, by omega, ?_, fun h => needF_bad 125 _ (hb2 (hb1 (needF_bad 123 _ h)))⟩
            rw [SType.sz_eq]
            show 0 + szL List.length (l :: ls) + szL SType.sz (ks ++ ks') + _ ≤ _
            rw [szL_app]; simp only [szL]; omega
          · have hb : (!(decide ((16 : Int) ≤ kindI (wordF r).1) && decide (kindI (wordF r).1 ≤ (19 : Int)))) = true := by
              rw [Bool.not_eq_true', Bool.and_eq_false_iff, decide_eq_false_iff_not, decide_eq_false_iff_not]; omega
            rw [hb, cond_true, wrapL L hL h4]
            have n1 := needF_le 60 (wordF r).2
            obtain ⟨x, r1, e, g1, g2, hb1⟩ := hrec (needF 60 (wordF r).2) (by omega)
            have hin : inB (0 : Int) (List.length (([] : List SType) ++ [SType.mk 0 [] [] []])) = true := rfl
            have hset : List.set (([] : List SType) ++ [SType.mk 0 [] [] []]) (Int.toNat 0) x = [x] := rfl
            obtain ⟨r2, ks, e2, g3, g4, hb2⟩ := kids_tot hL h4 hrec 0 [] (kindI (wordF r).1) [] [] [] [] bigN r1 [x] (by omega) (by omega) (by simp; omega)
            have n2 := needF_le 62 r2
            simp only [e, tupI, SType.eta, hin, hset, Option.getD_some, Option.isSome_some, Bool.true_and, Bool.and_true, cond_true]
            rw [e2]
            simp only [Option.getD_some, Option.isSome_some, Bool.true_and, Bool.and_true, cond_true]
            refine ⟨SType.mk (kindI (wordF r).1) [] [] (x :: ks), _, rfl, by omega, ?_, fun h => needF_bad 62 _ (hb2 (hb1 (needF_bad 60 _ h)))⟩
            rw [SType.sz_eq]
            show 0 + 0 + szL SType.sz (x :: ks) + _ ≤ _
            simp only [szL]; omega
end M
/-
  READING, the program's side: a right type is read back from its text.
-/
set_option linter.unusedVariables false
set_option linter.unusedSimpArgs false
namespace M
open Go.V (inB slB catB bigN bigN_le)
def Stop (l : List UInt8) : Prop := l = [] ∨ ∃ x t, l = x :: t ∧ isD x = true ∧ x ≠ 58
theorem stop_cons {x : UInt8} {t : List UInt8} (h : isD x = true) (h2 : x ≠ 58) : Stop (x :: t) := .inr ⟨x, t, rfl, h, h2⟩
def allW (w : List UInt8) : Prop := ∀ c ∈ w, wch c = true
theorem while_app {p : UInt8 → Bool} : ∀ (w r : List UInt8), (∀ c ∈ w, p c = true) → (r = [] ∨ ∃ x t, r = x :: t ∧ p x = false) → (w ++ r).takeWhile p = w ∧ (w ++ r).dropWhile p = r
  | [], r, _, h => by
    rcases h with rfl | ⟨x, t, rfl, hx⟩
    · exact ⟨rfl, rfl⟩
    · simp [List.takeWhile_cons, List.dropWhile_cons, hx]
  | c :: w, r, hw, h => by
    have := while_app w r (fun d hd => hw d (by simp [hd])) h
    simp only [List.cons_append, List.takeWhile_cons, List.dropWhile_cons, hw c (by simp), if_true, this]
    exact ⟨trivial, trivial⟩
theorem wordF_app {w r : List UInt8} (b : Bool) (hw : allW w) (hr : r = [] ∨ ∃ x t, r = x :: t ∧ isD x = true) : wordF ⟨w ++ r, b⟩ = (w, ⟨r, b⟩) := by
  have := while_app (p := fun x => !isD x) w r (fun c hc => by simp [wch_isD c (hw c hc)]) (by
    rcases hr with h | ⟨x, t, h, hx⟩
    · exact .inl h
    · exact .inr ⟨x, t, h, by simp [hx]⟩)
  unfold wordF
  simp only [this]
theorem Stop.d {r : List UInt8} (h : Stop r) : r = [] ∨ ∃ x t, r = x :: t ∧ isD x = true := by
  rcases h with h | ⟨x, t, h, hx, _⟩
  · exact .inl h
  · exact .inr ⟨x, t, h, hx⟩
theorem name_w {s : List UInt8} (h : nameOk s = true) : allW s := fun c hc => by
  obtain ⟨k, hk, e⟩ := List.getElem_of_mem hc
  unfold nameOk at h
  simp only [Bool.and_eq_true] at h
  have := List.all_eq_true.1 h.1 k (by simpa using hk)
  unfold nameStep at this
  rw [getD_lt hk, e] at this
  unfold wch
  simp only [Bool.or_eq_true, Bool.and_eq_true] at this ⊢
  rcases this with h | ⟨-, h, -⟩
  · exact .inl h
  · exact .inr h
theorem kword_w (k : Int) : allW (kword k) := by
  have h : ∀ w ∈ kwL, allW w := by
    have : (kwL.all fun w => w.all wch) = true := by decide +kernel
    intro w hw c hc
    exact List.all_eq_true.1 (List.all_eq_true.1 this w hw) c hc
  unfold kword
  rcases Nat.lt_or_ge k.toNat kwL.length with hk | hk
  · rw [getD_lt hk]; exact h _ (List.getElem_mem hk)
  · rw [List.getD_eq_getElem?_getD, List.getElem?_eq_none hk]; intro c hc; simp at hc
theorem labels_w {l : List (List UInt8)} (h : labOk l = true) : ∀ x ∈ l, allW x := fun x hx => by
  unfold labOk at h
  simp only [Bool.and_eq_true] at h
  exact name_w (List.all_eq_true.1 h.2.2 x hx)
theorem take_hit (c : UInt8) (t : List UInt8) (b : Bool) : takeF c ⟨c :: t, b⟩ = (true, ⟨t, b⟩) := by simp [takeF]
theorem take_miss {c x : UInt8} (t : List UInt8) (b : Bool) (h : x ≠ c) : takeF c ⟨x :: t, b⟩ = (false, ⟨x :: t, b⟩) := by simp [takeF, h]
theorem take_stop {r : List UInt8} (b : Bool) (h : Stop r) : takeF 58 ⟨r, b⟩ = (false, ⟨r, b⟩) := by
  rcases h with rfl | ⟨x, t, rfl, _, hx⟩
  · rfl
  · exact take_miss t b hx
theorem need_hit (c : UInt8) (t : List UInt8) (b : Bool) : needF c ⟨c :: t, b⟩ = ⟨t, b⟩ := by unfold needF; rw [take_hit]; rfl
theorem d44 : isD 44 = true := by decide
theorem d62 : isD 62 = true := by decide
theorem d125 : isD 125 = true := by decide
theorem d58 : isD 58 = true := by decide
theorem d60 : isD 60 = true := by decide
theorem d123 : isD 123 = true := by decide
theorem stop_jt (l : List (List UInt8)) (x : UInt8) (r : List UInt8) (h : isD x = true) (h2 : x ≠ 58) : Stop (Go.Lib.joinTail [44] l ++ x :: r) := by
  cases l with
  | nil => rw [jt_nil]; exact stop_cons h h2
  | cons y t => rw [jt_cons]; exact stop_cons d44 (by decide)
def BackI (rec : RecI) (L : Nat) : Prop := ∀ (t : SType) (r : List UInt8), tShape t = true → tDepth t ≤ L → Stop r → (txt t ++ r).length ≤ 1048576 → rec (L : Int) ⟨txt t ++ r, false⟩ = some (tupI t ⟨r, false⟩)
theorem unit_eq {t : SType} (h : tShape t = true) (hk : t.Kind = 1) : t = SType.mk 1 [] [] [] := by
  have hs := shp h
  have h1 := hs.flat (by omega)
  have h2 : t.Labels = [] := Decidable.byContradiction fun e => by have := hs.lab.2 e; omega
  have h3 : t.Name = [] := Decidable.byContradiction fun e => by have := hs.name.2 e; omega
  rw [← SType.eta t, hk, h1, h2, h3]
def labE (l : List UInt8) : Option SType → List UInt8 → List UInt8
  | none, _ => l
  | some x, e => if x.Kind = 1 then l else l ++ ([58] ++ e)
theorem label_back {rec : RecI} {L : Nat} (h1 : 1 ≤ L) (h4 : L ≤ 4) (hrec : BackI rec (L - 1)) (l : List UInt8) (hl : allW l) (k : Int) (n : List UInt8) (o2 : List (List UInt8)) (o3 : List SType) (kid : Option SType) (r : List UInt8) (hr : Stop r)
    (hk : ∀ x, kid = some x → tShape x = true ∧ tDepth x ≤ L - 1 ∧ (x.Kind = 1 → k = 17)) (hn : kid = none → k ≠ 17) (ho2 : o2.length ≤ 100000000) (ho3 : o3.length ≤ 100000000)
    (hlen : (labE l kid ((kid.map txt).getD []) ++ r).length ≤ 1048576) :
    M.i_typeReader_label rec (L : Int) ⟨labE l kid ((kid.map txt).getD []) ++ r, false⟩ k n o2 o3 = some (⟨r, false⟩, k, n, o2 ++ [l], o3 ++ kid.toList) := by
  have hc2 := cat_le (a := o2.length) (b := 1) (by omega)
  have hc3 := cat_le (a := o3.length) (b := 1) (by omega)
  unfold M.i_typeReader_label
  simp only [word_i ⟨labE l kid ((kid.map txt).getD []) ++ r, false⟩ (by simp only []; omega), take_i, Option.getD_some, Option.isSome_some, Bool.true_and, Bool.and_true, List.length_cons, List.length_nil, Nat.zero_add, hc2, hc3, wrapL L h1 h4, inB_last, Int.toNat_natCast, set_last]
  cases kid with
  | none =>
    simp only [labE, Option.map_none, Option.getD_none] at *
    rw [wordF_app false hl hr.d]
    simp only [take_stop false hr, cond_false, cond_true, kb (hn trivial), Option.toList_none, List.append_nil]
  | some x =>
    obtain ⟨g1, g2, g3⟩ := hk x rfl
    simp only [labE, Option.map_some, Option.getD_some] at *
    by_cases hx : x.Kind = 1
    · rw [if_pos hx, wordF_app false hl hr.d]
      simp only [take_stop false hr, cond_false, g3 hx, beq_self_eq_true, cond_true, Option.toList_some]
      rw [unit_eq g1 hx]
    · rw [if_neg hx] at hlen ⊢
      have e1 : l ++ ([58] ++ txt x) ++ r = l ++ (58 :: (txt x ++ r)) := by simp
      rw [e1] at hlen ⊢
      rw [wordF_app false hl (.inr ⟨58, _, rfl, d58⟩)]
      simp only [take_hit, cond_true]
      have := hrec x r g1 g2 hr (by simp only [List.length_append, List.length_cons] at hlen ⊢; omega)
      simp only [this, tupI, SType.eta, Option.getD_some, Option.isSome_some, Bool.true_and, cond_true, Option.toList_some]
theorem kids_back {rec : RecI} {L : Nat} (h1 : 1 ≤ L) (h4 : L ≤ 4) (hrec : BackI rec (L - 1)) (t4 : Int) (t42 : List UInt8) (t : Int) (t2 : List UInt8) (o7 : List (List UInt8)) (o8 : List SType) (o9 : List (List UInt8)) (r : List UInt8) :
    ∀ (ks : List SType) (f : Nat) (o : List SType), ks.length < f → (∀ x ∈ ks, tShape x = true ∧ tDepth x ≤ L - 1) → o.length + ks.length ≤ 10000000 → (Go.Lib.joinTail [44] (ks.map txt) ++ 62 :: r).length ≤ 1048576 →
      M.i_typeReader_read_l0 rec (L : Int) t4 t42 t t2 o7 o8 o9 f ⟨Go.Lib.joinTail [44] (ks.map txt) ++ 62 :: r, false⟩ o = some (⟨62 :: r, false⟩, t4, t42, t, t2, o7, o8, o9, o ++ ks)
  | ks, 0, o, h, _, _, _ => by omega
  | [], f + 1, o, hf, hx, ho, hl => by
    rw [M.i_typeReader_read_l0]
    simp only [take_i, Option.getD_some, Option.isSome_some, Bool.not_false, Bool.true_and, Bool.and_true, cond_true, beq_self_eq_true, Bool.and_self, List.map_nil, jt_nil, List.nil_append, take_miss (c := 44) (x := 62) r false (by decide), cond_false, List.append_nil]
  | x :: ks, f + 1, o, hf, hx, ho, hl => by
    rw [M.i_typeReader_read_l0]
    have hc := cat_le (a := o.length) (b := 1) (by omega)
    simp only [List.map_cons, jt_cons, List.cons_append, List.append_assoc] at hl ⊢
    have hxx := hx x (by simp)
    have e := hrec x (Go.Lib.joinTail [44] (ks.map txt) ++ 62 :: r) hxx.1 hxx.2 (stop_jt _ _ _ d62 (by decide)) (by simp only [List.length_append, List.length_cons] at hl ⊢; omega)
    simp only [take_i, take_hit, Option.getD_some, Option.isSome_some, Bool.not_false, Bool.true_and, Bool.and_true, cond_true, beq_self_eq_true, Bool.and_self, List.length_cons, List.length_nil, Nat.zero_add, hc, wrapL L h1 h4, inB_last, Int.toNat_natCast, set_last, e, tupI, SType.eta]
    rw [kids_back h1 h4 hrec t4 t42 t t2 o7 o8 o9 r ks f (o ++ [x]) (by simpa using hf) (fun y hy => hx y (by simp [hy])) (by simp at ho ⊢; omega) (by simp only [List.length_append, List.length_cons] at hl ⊢; omega)]
    simp
def LabRel (k : Int) (ls : List (List UInt8)) (ks : List SType) : Prop := (ks.length = ls.length ∧ (k = 17 ∨ ∀ x ∈ ks, x.Kind ≠ 1)) ∨ (ks = [] ∧ k ≠ 17)
theorem labels_back {rec : RecI} {L : Nat} (h1 : 1 ≤ L) (h4 : L ≤ 4) (hrec : BackI rec (L - 1)) (t4 : Int) (t42 : List UInt8) (k : Int) (n : List UInt8) (o7 : List (List UInt8)) (o8 : List SType) (r : List UInt8) :
    ∀ (ls : List (List UInt8)) (ks : List SType) (f : Nat) (o : List (List UInt8)) (p : List SType), ls.length < f → LabRel k ls ks → (∀ l ∈ ls, allW l) → (∀ x ∈ ks, tShape x = true ∧ tDepth x ≤ L - 1) → o.length + ls.length ≤ 10000000 → p.length + ls.length ≤ 10000000 →
      (Go.Lib.joinTail [44] (labs ls (ks.map SType.Kind) (ks.map txt)) ++ 125 :: r).length ≤ 1048576 →
      M.i_typeReader_read_l1 rec (L : Int) t4 t42 o7 o8 f ⟨Go.Lib.joinTail [44] (labs ls (ks.map SType.Kind) (ks.map txt)) ++ 125 :: r, false⟩ k n o p = some (⟨125 :: r, false⟩, t4, t42, k, n, o7, o8, o ++ ls, p ++ ks)
  | ls, ks, 0, o, p, h, _, _, _, _, _, _ => by omega
  | [], ks, f + 1, o, p, hf, hR, hw, hx, ho, hp, hl => by
    have hks : ks = [] := by
      rcases hR with h | h
      · exact List.eq_nil_of_length_eq_zero h.1
      · exact h.1
    subst hks
    rw [M.i_typeReader_read_l1]
    simp only [take_i, Option.getD_some, Option.isSome_some, Bool.not_false, Bool.true_and, Bool.and_true, cond_true, beq_self_eq_true, Bool.and_self, List.map_nil, labs, jt_nil, List.nil_append, take_miss (c := 44) (x := 125) r false (by decide), cond_false, List.append_nil]
  | l :: ls, ks, f + 1, o, p, hf, hR, hw, hx, ho, hp, hl => by
    rw [M.i_typeReader_read_l1]
    obtain ⟨kid, kr, hkid, htx, hR2, hkx, hkn⟩ : ∃ (kid : Option SType) (kr : List SType), ks = kid.toList ++ kr ∧ labs (l :: ls) (ks.map SType.Kind) (ks.map txt) = labE l kid ((kid.map txt).getD []) :: labs ls (kr.map SType.Kind) (kr.map txt) ∧ LabRel k ls kr ∧ (∀ x, kid = some x → x.Kind = 1 → k = 17) ∧ (kid = none → k ≠ 17) := by
      cases ks with
      | nil =>
        have h17 : k ≠ 17 := by
          rcases hR with h | h
          · simp at h
          · exact h.2
        exact ⟨none, [], rfl, rfl, .inr ⟨rfl, h17⟩, (fun x h => by cases h), fun _ => h17⟩
      | cons x kr =>
        rcases hR with ⟨h, h2⟩ | h
        · refine ⟨some x, kr, rfl, rfl, .inl ⟨by simpa using h, ?_⟩, fun y hy hk1 => ?_, (fun h => by cases h)⟩
          · rcases h2 with h2 | h2
            · exact .inl h2
            · exact .inr fun y hy => h2 y (by simp [hy])
          · cases hy
            rcases h2 with h2 | h2
            · exact h2
            · exact absurd hk1 (h2 x (by simp))
        · exact absurd h.1 (by simp)
    subst hkid
    rw [htx] at hl ⊢
    simp only [jt_cons, List.cons_append, List.append_assoc] at hl ⊢
    have e := label_back h1 h4 hrec l (hw l (by simp)) k n o p kid (Go.Lib.joinTail [44] (labs ls (kr.map SType.Kind) (kr.map txt)) ++ 125 :: r) (stop_jt _ _ _ d125 (by decide)) (fun x hxk => by
        have := hx x (by rw [hxk]; simp)
        exact ⟨this.1, this.2, hkx x hxk⟩) hkn (by simp at ho; omega) (by simp at hp; omega) (by simp only [List.length_append, List.length_cons] at hl ⊢; omega)
    simp only [take_i, take_hit, Option.getD_some, Option.isSome_some, Bool.not_false, Bool.true_and, Bool.and_true, cond_true, beq_self_eq_true, Bool.and_self, e]
    have hkl : kid.toList.length ≤ 1 := by cases kid <;> simp
    rw [labels_back h1 h4 hrec t4 t42 k n o7 o8 r ls kr f (o ++ [l]) (p ++ kid.toList) (by simpa using hf) hR2 (fun y hy => hw y (by simp [hy])) (fun y hy => hx y (by simp [hy])) (by simp at ho ⊢; omega) (by simp only [List.length_append, List.length_cons] at hp ⊢; omega) (by simp only [List.length_append, List.length_cons] at hl ⊢; omega)]
    simp
end M
/-
  READING, the program's side: every right type is read back.
-/
set_option linter.unusedVariables false
set_option linter.unusedSimpArgs false
namespace M
open Go.V (inB slB catB bigN bigN_le)

theorem lab_step (k : Int) (l : List UInt8) (ls : List (List UInt8)) (ks : List SType) (hR : LabRel k (l :: ls) ks) :
    ∃ (kid : Option SType) (kr : List SType), ks = kid.toList ++ kr ∧ labs (l :: ls) (ks.map SType.Kind) (ks.map txt) = labE l kid ((kid.map txt).getD []) :: labs ls (kr.map SType.Kind) (kr.map txt) ∧ LabRel k ls kr ∧ (∀ x, kid = some x → x.Kind = 1 → k = 17) ∧ (kid = none → k ≠ 17) := by
  cases ks with
  | nil =>
    have h17 : k ≠ 17 := by
      rcases hR with h | h
      · simp at h
      · exact h.2
    exact ⟨none, [], rfl, rfl, .inr ⟨rfl, h17⟩, (fun x h => by cases h), fun _ => h17⟩
  | cons x kr =>
    rcases hR with ⟨h, h2⟩ | h
    · refine ⟨some x, kr, rfl, rfl, .inl ⟨by simpa using h, ?_⟩, fun y hy hk1 => ?_, (fun h => by cases h)⟩
      · rcases h2 with h2 | h2
        · exact .inl h2
        · exact .inr fun y hy => h2 y (by simp [hy])
      · cases hy
        rcases h2 with h2 | h2
        · exact h2
        · exact absurd hk1 (h2 x (by simp))
    · exact absurd h.1 (by simp)
theorem Shp.labRel {t : SType} (hs : Shp t) (h : 16 ≤ t.Kind ∧ t.Kind ≤ 19) : LabRel t.Kind t.Labels t.Kids := by
  by_cases h16 : t.Kind = 16
  · exact .inl ⟨(hs.recK h16).1, .inr (hs.recK h16).2⟩
  · by_cases h17 : t.Kind = 17
    · exact .inl ⟨hs.varK h17, .inl h17⟩
    · exact .inr ⟨hs.noK (by omega), h17⟩
theorem kid_depth {t x : SType} {L : Nat} (hd : tDepth t ≤ L) (hx : x ∈ t.Kids) : tDepth x ≤ L - 1 := by
  have := kMax_mem t.Kids x hx
  rw [tDepth_eq] at hd; omega
theorem read_back : ∀ (m L : Nat), L < m → L ≤ 4 → BackI (M.i_typeReader_read_n m) L
  | 0, L, h, _ => by omega
  | m + 1, L, h, h4 => fun t r ht hd hr hlen => by
    have hs := shp ht
    have hdp := tDepth_pos t
    have h1 : 1 ≤ L := by omega
    have hbig := bigN_le
    have hrec := read_back m (L - 1) (by omega) (by omega)
    have hkx := kindI_kword hs.lo hs.hi
    have hlo := hs.lo
    have hhi := hs.hi
    have hkids : ∀ x ∈ t.Kids, tShape x = true ∧ tDepth x ≤ L - 1 := fun x hx => ⟨hs.all x hx, kid_depth hd hx⟩
    have hb0 : (decide (t.Kind ≤ 0) || ((L : Int) == 0)) = false := by rw [decide_eq_false (by omega), kb (by omega)]; rfl
    show M.i_typeReader_read_b (M.i_typeReader_read_n m) (L : Int) _ = _
    unfold M.i_typeReader_read_b
    rw [txt_eq] at hlen ⊢
    by_cases c2 : t.Kind = 20 ∨ t.Kind = 21
    · rw [if_pos c2] at hlen ⊢
      have e0 : kword t.Kind ++ [60] ++ t.Name ++ [62] ++ r = kword t.Kind ++ (60 :: (t.Name ++ (62 :: r))) := by simp
      rw [e0] at hlen ⊢
      have hN : t.Name ≠ [] := hs.name.1 c2
      have hL : t.Labels = [] := Decidable.byContradiction fun e => by have := hs.lab.2 e; omega
      have hK : t.Kids = [] := hs.noK (by omega)
      have hc11 : decide (t.Kind ≤ 11) = false := by rw [decide_eq_false_iff_not]; omega
      have hc20 : ((t.Kind == 20) || (t.Kind == 21)) = true := by rcases c2 with h | h <;> rw [h] <;> rfl
      have w1 := wordF_app (w := kword t.Kind) (r := 60 :: (t.Name ++ (62 :: r))) false (kword_w _) (.inr ⟨60, _, rfl, d60⟩)
      have w2 := wordF_app (w := t.Name) (r := 62 :: r) false (name_w (hs.nam hN)) (.inr ⟨62, _, rfl, d62⟩)
      simp only [word_i ⟨kword t.Kind ++ (60 :: (t.Name ++ (62 :: r))), false⟩ (by simp only []; omega), w1, kw_i, Option.getD_some, Option.isSome_some, kindI_eq, need_i, hkx, hb0, hc11, hc20, need_hit, Bool.true_and, Bool.and_true, cond_true, cond_false]
      simp only [word_i ⟨t.Name ++ (62 :: r), false⟩ (by simp only [List.length_append, List.length_cons] at hlen ⊢; omega), w2, need_hit, Option.getD_some, Option.isSome_some, Bool.true_and, cond_true, tupI, hL, hK]
    · rw [if_neg c2] at hlen ⊢
      have hN : t.Name = [] := Decidable.byContradiction fun e => c2 (hs.name.2 e)
      have hc20 : ((t.Kind == 20) || (t.Kind == 21)) = false := by rw [kb (fun e => c2 (.inl e)), kb (fun e => c2 (.inr e))]; rfl
      by_cases c3 : 16 ≤ t.Kind ∧ t.Kind ≤ 19
      · rw [if_pos c3] at hlen ⊢
        have hc11 : decide (t.Kind ≤ 11) = false := by rw [decide_eq_false_iff_not]; omega
        have hc16 : (!(decide ((16 : Int) ≤ t.Kind) && decide (t.Kind ≤ (19 : Int)))) = false := by rw [decide_eq_true c3.1, decide_eq_true c3.2]; rfl
        have hlab := hs.lab.1 c3
        have hlw := labels_w (hs.labs hlab)
        have hll : t.Labels.length ≤ 16 := by
          have := hs.labs hlab
          unfold labOk at this
          simp only [Bool.and_eq_true, decide_eq_true_eq] at this
          exact this.1.2
        have hrel := hs.labRel c3
        cases hl : t.Labels with
        | nil => exact absurd hl hlab
        | cons l ls =>
          rw [hl] at hrel hlw hll
          obtain ⟨kid, kr, hkid, htx, hR2, hkx2, hkn⟩ := lab_step _ _ _ _ hrel
          rw [hl, htx, jn_cons] at hlen
          rw [htx, jn_cons]
          have e0 : kword t.Kind ++ [123] ++ (labE l kid ((kid.map txt).getD []) ++ Go.Lib.joinTail [44] (labs ls (kr.map SType.Kind) (kr.map txt))) ++ [125] ++ r
            = kword t.Kind ++ (123 :: (labE l kid ((kid.map txt).getD []) ++ (Go.Lib.joinTail [44] (labs ls (kr.map SType.Kind) (kr.map txt)) ++ 125 :: r))) := by simp
          rw [e0] at hlen ⊢
          have hlen2 := hlen
          simp only [List.length_append, List.length_cons] at hlen2
          have w1 := wordF_app (w := kword t.Kind) (r := 123 :: (labE l kid ((kid.map txt).getD []) ++ (Go.Lib.joinTail [44] (labs ls (kr.map SType.Kind) (kr.map txt)) ++ 125 :: r))) false (kword_w _) (.inr ⟨123, _, rfl, d123⟩)
          have e1 := label_back h1 h4 hrec l (hlw l (by simp)) t.Kind [] [] [] kid (Go.Lib.joinTail [44] (labs ls (kr.map SType.Kind) (kr.map txt)) ++ 125 :: r) (stop_jt _ _ _ d125 (by decide)) (fun x hxk => by
            have := hkids x (by rw [hkid, hxk]; simp)
            exact ⟨this.1, this.2, hkx2 x hxk⟩) hkn (by simp) (by simp) (by simp only [List.length_append, List.length_cons]; omega)
          have hkl : kid.toList.length ≤ 1 := by cases kid <;> simp
          have e2 := labels_back h1 h4 hrec 0 [] t.Kind [] [] [] r ls kr bigN ([] ++ [l]) ([] ++ kid.toList) (by simp at hll; omega) hR2 (fun y hy => hlw y (by simp [hy])) (fun y hy => hkids y (by rw [hkid]; simp [hy])) (by simp at hll ⊢; omega) (by simp at hll ⊢; omega) (by simp only [List.length_append, List.length_cons]; omega)
          simp only [word_i ⟨kword t.Kind ++ (123 :: (labE l kid ((kid.map txt).getD []) ++ (Go.Lib.joinTail [44] (labs ls (kr.map SType.Kind) (kr.map txt)) ++ 125 :: r))), false⟩ (by simp only []; omega), w1, kw_i, Option.getD_some, Option.isSome_some, kindI_eq, need_i, hkx, hb0, hc11, hc20, hc16, need_hit, Bool.true_and, Bool.and_true, cond_true, cond_false, e1]
          rw [e2]
          simp only [need_hit, Option.getD_some, Option.isSome_some, Bool.true_and, cond_true, tupI, hN, hl, hkid, List.nil_append, List.singleton_append]
      · rw [if_neg c3] at hlen ⊢
        have hL : t.Labels = [] := Decidable.byContradiction fun e => c3 (hs.lab.2 e)
        have hc16 : (!(decide ((16 : Int) ≤ t.Kind) && decide (t.Kind ≤ (19 : Int)))) = true := by
          rw [Bool.not_eq_true', Bool.and_eq_false_iff, decide_eq_false_iff_not, decide_eq_false_iff_not]; omega
        by_cases c4 : t.Kids.length = 0
        · rw [if_pos c4] at hlen ⊢
          have hK : t.Kids = [] := List.eq_nil_of_length_eq_zero c4
          have hk11 : t.Kind ≤ 11 := by
            by_cases h : 11 < t.Kind
            · exact absurd hK (hs.kids (by omega))
            · omega
          have w1 := wordF_app (w := kword t.Kind) (r := r) false (kword_w _) hr.d
          simp only [word_i ⟨kword t.Kind ++ r, false⟩ (by simp only []; omega), w1, kw_i, Option.getD_some, Option.isSome_some, kindI_eq, hkx, hb0, decide_eq_true hk11, Bool.true_and, Bool.and_true, cond_true, cond_false, tupI, hN, hL, hK]
        · rw [if_neg c4] at hlen ⊢
          have hc11 : decide (t.Kind ≤ 11) = false := by
            rw [decide_eq_false_iff_not]; intro e; exact c4 (by rw [hs.flat e]; rfl)
          cases hK : t.Kids with
          | nil => rw [hK] at c4; exact absurd rfl c4
          | cons x ks =>
            rw [hK] at hkids
            rw [hK, List.map_cons, jn_cons] at hlen
            rw [List.map_cons, jn_cons]
            have e0 : kword t.Kind ++ [60] ++ (txt x ++ Go.Lib.joinTail [44] (ks.map txt)) ++ [62] ++ r = kword t.Kind ++ (60 :: (txt x ++ (Go.Lib.joinTail [44] (ks.map txt) ++ 62 :: r))) := by simp
            rw [e0] at hlen ⊢
            have hlen2 := hlen
            simp only [List.length_append, List.length_cons] at hlen2
            have hksl : ks.length ≤ (Go.Lib.joinTail [44] (ks.map txt)).length := by
              have : ∀ l : List (List UInt8), l.length ≤ (Go.Lib.joinTail [44] l).length := fun l => by
                induction l with
                | nil => simp
                | cons y t ih => rw [jt_cons]; simp only [List.length_cons, List.length_append]; omega
              have := this (ks.map txt); rwa [List.length_map] at this
            have w1 := wordF_app (w := kword t.Kind) (r := 60 :: (txt x ++ (Go.Lib.joinTail [44] (ks.map txt) ++ 62 :: r))) false (kword_w _) (.inr ⟨60, _, rfl, d60⟩)
            have hxx := hkids x (by simp)
            have e1 := hrec x (Go.Lib.joinTail [44] (ks.map txt) ++ 62 :: r) hxx.1 hxx.2 (stop_jt _ _ _ d62 (by decide)) (by simp only [List.length_append, List.length_cons]; omega)
            have e2 := kids_back h1 h4 hrec 0 [] t.Kind [] [] [] [] r ks bigN [x] (by omega) (fun y hy => hkids y (by simp [hy])) (by simp; omega) (by simp only [List.length_append, List.length_cons]; omega)
            have hin : inB (0 : Int) (List.length (([] : List SType) ++ [SType.mk 0 [] [] []])) = true := rfl
            have hset : List.set (([] : List SType) ++ [SType.mk 0 [] [] []]) (Int.toNat 0) x = [x] := rfl
            simp only [word_i ⟨kword t.Kind ++ (60 :: (txt x ++ (Go.Lib.joinTail [44] (ks.map txt) ++ 62 :: r))), false⟩ (by simp only []; omega), w1, kw_i, Option.getD_some, Option.isSome_some, kindI_eq, need_i, hkx, hb0, hc11, hc20, hc16, need_hit, wrapL L h1 h4, Bool.true_and, Bool.and_true, cond_true, cond_false, e1, tupI, SType.eta, hin, hset]
            rw [e2]
            simp only [need_hit, Option.getD_some, Option.isSome_some, Bool.true_and, cond_true, hN, hL, hK, List.singleton_append]
theorem read_txt {t : SType} (ht : tShape t = true) (hd : tDepth t ≤ 4) (hl : (txt t).length ≤ 1048576) : M.i_typeReader_read 4 ⟨txt t, false⟩ = some (tupI t ⟨[], false⟩) := by
  have hbig := bigN_le
  have := read_back bigN 4 (by omega) (by omega) t [] ht hd (.inl rfl) (by rwa [List.append_nil])
  rw [List.append_nil] at this
  exact this
theorem kword_ne {k : Int} (h1 : 1 ≤ k) (h2 : k ≤ 23) : kword k ≠ [] := by
  have key : ∀ n : Fin 24, 1 ≤ n.val → kword (n.val : Int) ≠ [] := by decide
  have := key ⟨k.toNat, by omega⟩ (by simp only []; omega)
  simpa [show ((k.toNat : Nat) : Int) = k by omega] using this
theorem txt_ne {t : SType} (ht : tShape t = true) : txt t ≠ [] := by
  have hs := shp ht
  have := kword_ne hs.lo hs.hi
  rw [txt_eq]
  split
  · simp
  · split
    · simp
    · split
      · exact this
      · simp
theorem readType_i {s : List UInt8} (hs : s.length ≤ 1048576) : (∀ t, tOk t = true → txt t = s → M.i_ReadType s = some (t.Kind, t.Name, true, t.Labels, t.Kids)) ∧ ((∀ t, tOk t = true → txt t ≠ s) → M.i_ReadType s = some (0, [], false, [], [])) := by
  have hbig := bigN_le
  refine ⟨fun t ht he => ?_, fun hno => ?_⟩
  · subst he
    have hsh : tShape t = true := by unfold tOk at ht; simp only [Bool.and_eq_true] at ht; exact ht.2
    have hdp : tDepth t ≤ 4 := by unfold tOk at ht; simp only [Bool.and_eq_true, decide_eq_true_eq] at ht; exact ht.1.1
    obtain ⟨t', r', e', -, hz, -⟩ := read_tot bigN 4 (by omega) (by omega) ⟨txt t, false⟩ hs
    have e := read_txt hsh hdp hs
    have e2 : M.i_typeReader_read 4 ⟨txt t, false⟩ = some (tupI t' r') := e'
    rw [e] at e2
    have htt : t = t' := by
      have := Option.some.inj e2
      unfold tupI at this
      simp only [Prod.mk.injEq] at this
      rw [← SType.eta t, ← SType.eta t', this.1, this.2.1, this.2.2.2.1, this.2.2.2.2]
    rw [← htt] at hz
    unfold M.i_ReadType
    have hne : (txt t == []) = false := by rw [beq_eq_false_iff_ne]; exact txt_ne hsh
    simp only [e, tupI, Option.getD_some, Option.isSome_some, SType.eta, typeText_i t (by simp only [] at hz; omega), ht, if_true, hne, Bool.or_false, beq_self_eq_true, Bool.not_true, cond_false, Bool.true_or, Bool.true_and, Bool.and_true, cond_true]
  · obtain ⟨t', r', e', -, hz, -⟩ := read_tot bigN 4 (by omega) (by omega) ⟨s, false⟩ hs
    have e2 : M.i_typeReader_read 4 ⟨s, false⟩ = some (tupI t' r') := e'
    unfold M.i_ReadType
    have hne : (r'.bad || (s == []) || !((if tOk t' = true then txt t' else []) == s)) = true := by
      cases hok : tOk t'
      · cases s with
        | nil => simp
        | cons x y => simp
      · have : (txt t' == s) = false := by rw [beq_eq_false_iff_ne]; exact hno t' hok
        simp [this]
    simp only [e2, tupI, Option.getD_some, Option.isSome_some, SType.eta, typeText_i t' (by simp only [] at hz; omega), hne, Bool.true_or, Bool.true_and, Bool.and_true, cond_true]
end M
/-
  READING, the reference's side: words, signs, one step of its loops.
-/
set_option linter.unusedVariables false
set_option linter.unusedSimpArgs false
namespace M
open Go.V (inB slB catB bigN bigN_le)

abbrev stS (s : List UInt8) (n : Nat) (b : Bool) : M.Sl03Src := M.Sl03Src.mk s (n : Int) b
theorem drop_cons {s : List UInt8} {n : Nat} (h : n < s.length) : s.drop n = s[n] :: s.drop (n + 1) := drop_get h
theorem word_loop (s : List UInt8) (b : Bool) (fr : Int) (hs : s.length ≤ 1048576) : ∀ (f n : Nat), n ≤ s.length → s.length - n < f →
    M.s_l03Src_word_l0 fr f (stS s n b) = some (fr, stS s (n + ((s.drop n).takeWhile wch).length) b)
  | 0, n, _, h => by omega
  | f + 1, n, hn, hf => by
    rw [M.s_l03Src_word_l0]
    by_cases h : n < s.length
    · have hin : inB (n : Int) s.length = true := by rw [inB_nat]; simpa using h
      have hw : (((decide ((97 : Int) ≤ ((s[n].toNat : Nat) : Int)) && decide (((s[n].toNat : Nat) : Int) ≤ 122)) || (decide ((48 : Int) ≤ ((s[n].toNat : Nat) : Int)) && decide (((s[n].toNat : Nat) : Int) ≤ 57))) || (((s[n].toNat : Nat) : Int) == 45)) = wch s[n] := by
        unfold wch lowB digB dashB; rw [Bool.or_assoc]
      simp only [Int.ofNat_lt, h, decide_true, Bool.true_and, Int.toNat_natCast, getD_lt h, hin, Bool.true_or, Bool.and_true, cond_true, hw, drop_cons h, List.takeWhile_cons]
      cases hc : wch s[n]
      · simp
      · simp only [cond_true, if_true, wrapk h (by omega : s.length < 2 ^ 62)]
        rw [show M.s_l03Src_word_l0 fr f (M.Sl03Src.mk s ((n + 1 : Nat) : Int) b) = _ from word_loop s b fr hs f (n + 1) (by omega) (by omega)]
        simp only [List.length_cons]
        rw [show n + 1 + ((s.drop (n + 1)).takeWhile wch).length = n + (((s.drop (n + 1)).takeWhile wch).length + 1) by omega]
    · have e : s.drop n = [] := List.drop_eq_nil_of_le (by omega)
      simp only [Int.ofNat_lt, h, decide_false, Bool.false_and, cond_false, e, List.takeWhile_nil, List.length_nil, Nat.add_zero]
      simp
def wordN (s : List UInt8) (n : Nat) : List UInt8 := (s.drop n).takeWhile wch
theorem wordN_le (s : List UInt8) (n : Nat) (h : n ≤ s.length) : n + (wordN s n).length ≤ s.length := by
  have := while_len (p := wch) (s.drop n)
  rw [List.length_drop] at this
  unfold wordN; omega
theorem word_s (s : List UInt8) (n : Nat) (b : Bool) (hs : s.length ≤ 1048576) (hn : n ≤ s.length) : M.s_l03Src_word (stS s n b) = some (wordN s n, stS s (n + (wordN s n).length) b) := by
  have hbig := bigN_le
  have hle := wordN_le s n hn
  have hl := while_take (p := wch) (s.drop n)
  unfold M.s_l03Src_word
  have e := word_loop s b (n : Int) hs bigN n hn (by omega)
  have e' : M.s_l03Src_word_l0 (M.Sl03Src.at_ (stS s n b)) bigN (stS s n b) = _ := e
  rw [e']
  have e2 : List.drop n (List.take (n + ((s.drop n).takeWhile wch).length) s) = (s.drop n).takeWhile wch := by
    rw [List.drop_take]
    rw [show n + ((s.drop n).takeWhile wch).length - n = ((s.drop n).takeWhile wch).length by omega]
    exact hl
  unfold wordN at hle
  simp only [slB_ok (show n ≤ n + ((s.drop n).takeWhile wch).length by omega) hle, Bool.and_true, cond_true, Int.toNat_natCast, e2, wordN]
noncomputable def kindF (w : List UInt8) : Int × Bool := match (kwL.drop 1).findIdx? (fun x => x == w) with
  | some k => (((k + 1 : Nat) : Int), false)
  | none => (0, true)
theorem kind_s (w s : List UInt8) (n : Nat) (b : Bool) : M.s_l03Src_kind w (stS s n b) = some ((kindF w).1, stS s n (b || (kindF w).2)) := by
  unfold M.s_l03Src_kind
  have hk1 : (kwL.drop 1).length = 23 := rfl
  have e := find_list (p := fun x => x == w) (F := fun f k => M.s_l03Src_kind_l0 w kwL (stS s n b) f (k + 1)) (e := stS s n b) (fun k => (k + 1, s, (n : Int), b)) (kwL.drop 1) (by rw [hk1]; omega) (fun f k hk => by
    show M.s_l03Src_kind_l0 w kwL (stS s n b) (f + 1) ((k : Int) + 1) = _
    rw [M.s_l03Src_kind_l0]
    rw [hk1] at hk
    have hk2 : k + 1 < kwL.length := by rw [kw_len]; omega
    have h1 : decide ((k : Int) + 1 < (kwL.length : Int)) = true := by rw [decide_eq_true_eq]; omega
    have h2 : ((k : Int) + 1).toNat = k + 1 := by omega
    have h3 : inB ((k : Int) + 1) kwL.length = true := by
      rw [show (k : Int) + 1 = ((k + 1 : Nat) : Int) by omega, inB_nat]; simpa using hk2
    have h4 : (kwL.drop 1)[k] = kwL[k + 1] := by simp [List.getElem_drop, Nat.add_comm]
    have h5 : Go.IntKind.wrap .i64 ((k : Int) + 1 + 1) = ((k + 1 : Nat) : Int) + 1 := by rw [wrap_i64 (by omega) (by omega)]; omega
    simp only [h1, h2, h3, h5, getD_lt hk2, cond_true, Bool.and_true]
    rfl) (fun f => by
    show M.s_l03Src_kind_l0 w kwL (stS s n b) (f + 1) (((kwL.drop 1).length : Int) + 1) = _
    rw [M.s_l03Src_kind_l0]
    have h1 : decide ((((kwL.drop 1).length : Nat) : Int) + 1 < (kwL.length : Int)) = false := by rw [decide_eq_false_iff_not, hk1, kw_len]; omega
    simp only [h1, cond_false])
  have e' : M.s_l03Src_kind_l0 w (Option.getD M.s_l03Words default) (stS s n b) bigN 1 = _ := e
  rw [e']
  unfold kindF
  cases (kwL.drop 1).findIdx? fun x => x == w with
  | none => simp
  | some k => simp
theorem kindF_kword {k : Int} (h1 : 1 ≤ k) (h2 : k ≤ 23) : kindF (kword k) = (k, false) := by
  have key : ∀ n : Fin 24, 1 ≤ n.val → kindF (kword (n.val : Int)) = ((n.val : Int), false) := by decide
  have := key ⟨k.toNat, by omega⟩ (by simp only []; omega)
  simpa [show ((k.toNat : Nat) : Int) = k by omega] using this
theorem kindF_nil : kindF [] = (0, true) := by decide
theorem kindF_pos {w : List UInt8} (h : (kindF w).2 = false) : 1 ≤ w.length := by
  cases w with
  | nil => rw [kindF_nil] at h; cases h
  | cons x r => simp
def takeT (c : Int) (s : List UInt8) (n : Nat) : Bool := decide (n < s.length) && ((((s.getD n 0).toNat : Nat) : Int) == c)
def takeN (c : Int) (s : List UInt8) (n : Nat) : Nat := if takeT c s n then n + 1 else n
theorem takeT_lt {c : Int} {s : List UInt8} {n : Nat} (h : takeT c s n = true) : n < s.length := by
  unfold takeT at h; simp only [Bool.and_eq_true, decide_eq_true_eq] at h; exact h.1
theorem takeN_le (c : Int) {s : List UInt8} {n : Nat} (h : n ≤ s.length) : n ≤ takeN c s n ∧ takeN c s n ≤ s.length := by
  unfold takeN; split
  · rename_i hh; have := takeT_lt hh; omega
  · omega
theorem take_s (c : Int) (s : List UInt8) (n : Nat) (b : Bool) (hs : s.length ≤ 1048576) : M.s_l03Src_take c (stS s n b) = some (takeT c s n, stS s (takeN c s n) b) := by
  unfold M.s_l03Src_take takeN takeT
  by_cases h : n < s.length
  · have hin : inB (n : Int) s.length = true := by rw [inB_nat]; simpa using h
    simp only [Int.ofNat_lt, h, decide_true, Bool.true_and, Int.toNat_natCast, hin, Bool.true_or, Bool.and_true, cond_true, wrapk h (by omega : s.length < 2 ^ 62)]
    cases ((((s.getD n 0).toNat : Nat) : Int) == c) <;> simp
  · simp only [Int.ofNat_lt, h, decide_false, Bool.false_and, cond_false]
    simp
theorem must_s (c : Int) (s : List UInt8) (n : Nat) (b : Bool) (hs : s.length ≤ 1048576) : M.s_l03Src_must c (stS s n b) = some (stS s (takeN c s n) (b || !takeT c s n)) := by
  unfold M.s_l03Src_must
  rw [take_s c s n b hs]
  cases h : takeT c s n <;> simp [h]
abbrev RecS := Int → M.Sl03Src → Option (M.SType × M.Sl03Src)
theorem wrapD (D : Nat) (h : D ≤ 4) : Go.IntKind.wrap .i64 ((D : Int) + 1) = ((D + 1 : Nat) : Int) := by rw [wrap_i64 (by omega) (by omega)]; omega
def KidS (rec : RecS) (D : Nat) (kids : Bool) (s : List UInt8) (n1 : Nat) (ks : List SType) (n2 : Nat) (b2 : Bool) : Prop :=
  (kids = false ∧ ks = [] ∧ n2 = n1 ∧ b2 = false) ∨ (kids = true ∧ takeT 58 s n1 = false ∧ ks = [SType.mk 1 [] [] []] ∧ n2 = n1 ∧ b2 = false) ∨
  (kids = true ∧ takeT 58 s n1 = true ∧ ∃ x, ks = [x] ∧ rec ((D + 1 : Nat) : Int) (stS s (n1 + 1) false) = some (x, stS s n2 b2))
theorem labels_step (rec : RecS) (D : Nat) (hD : D ≤ 4) (kids : Bool) (t : Int) (t2 : List UInt8) (t6 : Int) (t62 : List UInt8) (o9 : List (List UInt8)) (o10 : List SType) (f : Nat) (s : List UInt8) (n : Nat) (o : List (List UInt8)) (p : List SType) (ks : List SType) (n2 : Nat) (b2 : Bool)
    (hs : s.length ≤ 1048576) (hn : n ≤ s.length) (ho : o.length ≤ 100000000) (hp : p.length ≤ 100000000) (hk : KidS rec D kids s (n + (wordN s n).length) ks n2 b2) :
    M.s_l03Src_labels_l0 rec (D : Int) kids t t2 t6 t62 o9 o10 (f + 1) (stS s n false) o p =
      (if takeT 125 s n2 then some (.inl (s, ((n2 + 1 : Nat) : Int), b2, t, t2, o ++ [wordN s n], p ++ ks))
      else M.s_l03Src_labels_l0 rec (D : Int) kids t t2 t6 t62 o9 o10 f (stS s (takeN 44 s n2) (b2 || !takeT 44 s n2)) (o ++ [wordN s n]) (p ++ ks)) := by
  have hc2 := cat_le (a := o.length) (b := 1) (by omega)
  have hc3 := cat_le (a := p.length) (b := 1) (by omega)
  rw [M.s_l03Src_labels_l0]
  rcases hk with ⟨h1, h2, h3, h4⟩ | ⟨h1, h2, h3, h4, h5⟩ | ⟨h1, h2, x, h3, h4⟩
  · subst h1; subst h2; subst h3; subst h4
    simp only [Bool.not_false, cond_true, cond_false, word_s s n false hs hn, Option.getD_some, Option.isSome_some, take_s _ _ _ _ hs, must_s _ _ _ _ hs, List.length_cons, List.length_nil, Nat.zero_add, hc2, Bool.true_and, Bool.and_true, List.append_nil]
    cases h : takeT 125 s (n + (wordN s n).length) <;> simp [takeN, h]
  · subst h1; subst h3; subst h4; subst h5
    simp only [Bool.not_false, cond_true, cond_false, word_s s n false hs hn, Option.getD_some, Option.isSome_some, take_s _ _ _ _ hs, must_s _ _ _ _ hs, List.length_cons, List.length_nil, Nat.zero_add, hc2, hc3, h2, Bool.true_and, Bool.and_true]
    have e58 : takeN 58 s (n + (wordN s n).length) = n + (wordN s n).length := by unfold takeN; rw [h2]; rfl
    rw [e58]
    cases h : takeT 125 s (n + (wordN s n).length) <;> simp [takeN, h]
  · subst h1; subst h3
    have e58 : takeN 58 s (n + (wordN s n).length) = n + (wordN s n).length + 1 := by unfold takeN; rw [h2]; rfl
    simp only [Bool.not_false, cond_true, cond_false, word_s s n false hs hn, Option.getD_some, Option.isSome_some, take_s _ _ _ _ hs, must_s _ _ _ _ hs, List.length_cons, List.length_nil, Nat.zero_add, hc2, hc3, h2, e58, wrapD D hD, h4, SType.re_eq, Bool.true_and, Bool.and_true]
    cases h : takeT 125 s n2 <;> simp [takeN, h]
theorem labels_bad (rec : RecS) (D : Int) (kids : Bool) (t : Int) (t2 : List UInt8) (t6 : Int) (t62 : List UInt8) (o9 : List (List UInt8)) (o10 : List SType) (f : Nat) (s : List UInt8) (n : Nat) (o : List (List UInt8)) (p : List SType) :
    M.s_l03Src_labels_l0 rec D kids t t2 t6 t62 o9 o10 (f + 1) (stS s n true) o p = some (.inr (s, (n : Int), true, t, t2, t6, t62, o, p, o9, o10)) := by
  rw [M.s_l03Src_labels_l0]; rfl
theorem kids_step (rec : RecS) (D : Nat) (hD : D ≤ 4) (t4 : Int) (t42 : List UInt8) (t : Int) (t2 : List UInt8) (o7 : List (List UInt8)) (o8 : List SType) (o9 : List (List UInt8)) (f : Nat) (s : List UInt8) (n : Nat) (o : List SType) (x : SType) (n2 : Nat) (b2 : Bool)
    (hs : s.length ≤ 1048576) (ho : o.length ≤ 100000000) (hk : rec ((D + 1 : Nat) : Int) (stS s n false) = some (x, stS s n2 b2)) :
    M.s_l03Src_readType_l0 rec (D : Int) t4 t42 t t2 o7 o8 o9 (f + 1) (stS s n false) o =
      (if takeT 62 s n2 then some (.inl (s, ((n2 + 1 : Nat) : Int), b2, t, t2, o9, o ++ [x]))
      else M.s_l03Src_readType_l0 rec (D : Int) t4 t42 t t2 o7 o8 o9 f (stS s (takeN 44 s n2) (b2 || !takeT 44 s n2)) (o ++ [x])) := by
  have hc := cat_le (a := o.length) (b := 1) (by omega)
  rw [M.s_l03Src_readType_l0]
  simp only [Bool.not_false, cond_true, wrapD D hD, hk, Option.getD_some, Option.isSome_some, take_s _ _ _ _ hs, must_s _ _ _ _ hs, List.length_cons, List.length_nil, Nat.zero_add, hc, SType.re_eq, Bool.true_and, Bool.and_true]
  cases h : takeT 62 s n2 <;> simp [takeN, h]
theorem kids_bad (rec : RecS) (D : Int) (t4 : Int) (t42 : List UInt8) (t : Int) (t2 : List UInt8) (o7 : List (List UInt8)) (o8 : List SType) (o9 : List (List UInt8)) (f : Nat) (s : List UInt8) (n : Nat) (o : List SType) :
    M.s_l03Src_readType_l0 rec D t4 t42 t t2 o7 o8 o9 (f + 1) (stS s n true) o = some (.inr (s, (n : Int), true, t4, t42, t, t2, o7, o8, o9, o)) := by
  rw [M.s_l03Src_readType_l0]; rfl
end M
/-
  READING, the reference's side: every text is read to an end.
-/
set_option linter.unusedVariables false
set_option linter.unusedSimpArgs false
namespace M
open Go.V (inB slB catB bigN bigN_le)

def RdS (rec : RecS) (D : Int) : Prop := ∀ (s : List UInt8) (n : Nat) (b : Bool), s.length ≤ 1048576 → n ≤ s.length → ∃ t n' b', rec D (stS s n b) = some (t, stS s n' b') ∧ n ≤ n' ∧ n' ≤ s.length ∧ t.sz + 2 * n ≤ 2 * n'
theorem kid_tot {rec : RecS} {D : Nat} (hrec : RdS rec ((D + 1 : Nat) : Int)) (kids : Bool) (s : List UInt8) (n1 : Nat) (hs : s.length ≤ 1048576) (hn : n1 ≤ s.length) :
    ∃ ks n2 b2, KidS rec D kids s n1 ks n2 b2 ∧ n1 ≤ n2 ∧ n2 ≤ s.length ∧ ks.length ≤ 1 ∧ szL SType.sz ks + 2 * n1 ≤ 2 * n2 + 1 := by
  cases kids with
  | false => exact ⟨[], n1, false, .inl ⟨rfl, rfl, rfl, rfl⟩, Nat.le_refl _, hn, by simp, by simp [szL]⟩
  | true =>
    cases h : takeT 58 s n1 with
    | false =>
      refine ⟨[SType.mk 1 [] [] []], n1, false, .inr (.inl ⟨rfl, h, rfl, rfl, rfl⟩), Nat.le_refl _, hn, by simp, ?_⟩
      rw [szL_one, show (SType.mk 1 [] [] []).sz = 0 from rfl]; omega
    | true =>
      have hlt := takeT_lt h
      obtain ⟨x, n2, b2, e, g1, g2, g3⟩ := hrec s (n1 + 1) false hs (by omega)
      exact ⟨[x], n2, b2, .inr (.inr ⟨rfl, h, x, rfl, e⟩), by omega, g2, by simp, by rw [szL_one]; omega⟩
theorem labels_tot_s {rec : RecS} {D : Nat} (hD : D ≤ 4) (hrec : RdS rec ((D + 1 : Nat) : Int)) (kids : Bool) (t : Int) (t2 : List UInt8) (t6 : Int) (t62 : List UInt8) (o9 : List (List UInt8)) (o10 : List SType) (s : List UInt8) (hs : s.length ≤ 1048576) :
    ∀ (f n : Nat) (o : List (List UInt8)) (p : List SType), n ≤ s.length → s.length - n + 1 < f → o.length + (s.length - n) ≤ 10000000 → p.length + (s.length - n) ≤ 10000000 →
      ∃ (n' : Nat) (b' : Bool) (ls : List (List UInt8)) (ks : List SType), (M.s_l03Src_labels_l0 rec (D : Int) kids t t2 t6 t62 o9 o10 f (stS s n false) o p = some (.inl (s, (n' : Int), b', t, t2, o ++ ls, p ++ ks)) ∨ M.s_l03Src_labels_l0 rec (D : Int) kids t t2 t6 t62 o9 o10 f (stS s n false) o p = some (.inr (s, (n' : Int), b', t, t2, t6, t62, o ++ ls, p ++ ks, o9, o10))) ∧ n ≤ n' ∧ n' ≤ s.length ∧ szL List.length ls + szL SType.sz ks + 2 * n ≤ 2 * n' + 2
  | 0, n, o, p, _, h, _, _ => by omega
  | f + 1, n, o, p, hn, hf, ho, hp => by
    have hw := wordN_le s n hn
    obtain ⟨ks, n2, b2, hk, g1, g2, g3, g4⟩ := kid_tot hrec kids s (n + (wordN s n).length) hs hw
    rw [labels_step rec D hD kids t t2 t6 t62 o9 o10 f s n o p ks n2 b2 hs hn (by omega) (by omega) hk]
    have hsz : szL List.length [wordN s n] = (wordN s n).length + 1 := szL_one _ _
    cases h : takeT 125 s n2 with
    | true =>
      have hlt := takeT_lt h
      refine ⟨n2 + 1, b2, [wordN s n], ks, .inl rfl, by omega, by omega, by rw [hsz]; omega⟩
    | false =>
      simp only [Bool.false_eq_true, if_false]
      have htk := takeN_le 44 g2
      cases hb : (b2 || !takeT 44 s n2) with
      | true =>
        obtain ⟨f', rfl⟩ : ∃ f', f = f' + 1 := ⟨f - 1, by omega⟩
        rw [labels_bad]
        refine ⟨takeN 44 s n2, true, [wordN s n], ks, .inr rfl, by omega, by omega, by rw [hsz]; omega⟩
      | false =>
        simp only [Bool.or_eq_false_iff, Bool.not_eq_false'] at hb
        have e1 : takeN 44 s n2 = n2 + 1 := by unfold takeN; rw [hb.2]; rfl
        have hlt := takeT_lt hb.2
        rw [e1]
        obtain ⟨n', b', ls, ks', e, k1, k2, k3⟩ := labels_tot_s hD hrec kids t t2 t6 t62 o9 o10 s hs f (n2 + 1) (o ++ [wordN s n]) (p ++ ks) (by omega) (by omega) (by simp; omega) (by simp; omega)
        refine ⟨n', b', wordN s n :: ls, ks ++ ks', ?_, by omega, k2, by rw [szL_app]; simp only [szL]; omega⟩
        simp only [List.append_assoc, List.singleton_append] at e ⊢
        exact e
theorem kids_tot_s {rec : RecS} {D : Nat} (hD : D ≤ 4) (hrec : RdS rec ((D + 1 : Nat) : Int)) (t4 : Int) (t42 : List UInt8) (t : Int) (t2 : List UInt8) (o7 : List (List UInt8)) (o8 : List SType) (o9 : List (List UInt8)) (s : List UInt8) (hs : s.length ≤ 1048576) :
    ∀ (f n : Nat) (o : List SType), n ≤ s.length → s.length - n + 1 < f → o.length + (s.length - n) ≤ 10000000 →
      ∃ (n' : Nat) (b' : Bool) (ks : List SType), (M.s_l03Src_readType_l0 rec (D : Int) t4 t42 t t2 o7 o8 o9 f (stS s n false) o = some (.inl (s, (n' : Int), b', t, t2, o9, o ++ ks)) ∨ M.s_l03Src_readType_l0 rec (D : Int) t4 t42 t t2 o7 o8 o9 f (stS s n false) o = some (.inr (s, (n' : Int), b', t4, t42, t, t2, o7, o8, o9, o ++ ks))) ∧ n ≤ n' ∧ n' ≤ s.length ∧ szL SType.sz ks + 2 * n ≤ 2 * n' + 2
  | 0, n, o, _, h, _ => by omega
  | f + 1, n, o, hn, hf, ho => by
    obtain ⟨x, n2, b2, hk, g1, g2, g3⟩ := hrec s n false hs hn
    rw [kids_step rec D hD t4 t42 t t2 o7 o8 o9 f s n o x n2 b2 hs (by omega) hk]
    have hsz : szL SType.sz [x] = x.sz + 1 := szL_one _ _
    cases h : takeT 62 s n2 with
    | true =>
      have hlt := takeT_lt h
      refine ⟨n2 + 1, b2, [x], .inl rfl, by omega, by omega, by rw [hsz]; omega⟩
    | false =>
      simp only [Bool.false_eq_true, if_false]
      have htk := takeN_le 44 g2
      cases hb : (b2 || !takeT 44 s n2) with
      | true =>
        obtain ⟨f', rfl⟩ : ∃ f', f = f' + 1 := ⟨f - 1, by omega⟩
        rw [kids_bad]
        refine ⟨takeN 44 s n2, true, [x], .inr rfl, by omega, by omega, by rw [hsz]; omega⟩
      | false =>
        simp only [Bool.or_eq_false_iff, Bool.not_eq_false'] at hb
        have e1 : takeN 44 s n2 = n2 + 1 := by unfold takeN; rw [hb.2]; rfl
        have hlt := takeT_lt hb.2
        rw [e1]
        obtain ⟨n', b', ks', e, k1, k2, k3⟩ := kids_tot_s hD hrec t4 t42 t t2 o7 o8 o9 s hs f (n2 + 1) (o ++ [x]) (by omega) (by omega) (by simp; omega)
        refine ⟨n', b', x :: ks', ?_, by omega, k2, by simp only [szL]; omega⟩
        simp only [List.append_assoc, List.singleton_append] at e ⊢
        exact e
theorem labelsT_tot {rec : RecS} {D : Nat} (hD : D ≤ 4) (hrec : RdS rec ((D + 1 : Nat) : Int)) (k : Int) (s : List UInt8) (n : Nat) (hs : s.length ≤ 1048576) (hn : n ≤ s.length) :
    ∃ t n' b', M.s_l03Src_labels rec k [] (D : Int) (stS s n false) [] [] = some (t, stS s n' b') ∧ n ≤ n' ∧ n' ≤ s.length ∧ t.sz + 2 * n ≤ 2 * n' := by
  have hbig := bigN_le
  unfold M.s_l03Src_labels
  rw [must_s _ _ _ _ hs]
  simp only [Option.getD_some, Option.isSome_some, Bool.false_or, Bool.and_true, cond_true]
  cases h : takeT 123 s n with
  | true =>
    have hlt := takeT_lt h
    have e1 : takeN 123 s n = n + 1 := by unfold takeN; rw [h]; rfl
    rw [e1]
    obtain ⟨n', b', ls, ks, e, k1, k2, k3⟩ := labels_tot_s hD hrec ((k == 16) || (k == 17)) k [] 0 [] [] [] s hs bigN (n + 1) [] [] (by omega) (by omega) (by simp; omega) (by simp; omega)
    refine ⟨SType.mk k [] ls ks, n', b', ?_, by omega, k2, ?_⟩
    · simp only [Bool.not_true]
      rcases e with e | e <;> rw [e] <;> rfl
    · rw [SType.sz_eq]
      show 0 + szL List.length ls + szL SType.sz ks + _ ≤ _
      omega
  | false =>
    have e1 : takeN 123 s n = n := by unfold takeN; rw [h]; rfl
    rw [e1]
    obtain ⟨f', hf'⟩ : ∃ f', bigN = f' + 1 := ⟨bigN - 1, by omega⟩
    simp only [Bool.not_false]
    rw [hf', labels_bad]
    refine ⟨SType.mk k [] [] [], n, true, rfl, Nat.le_refl _, hn, ?_⟩
    rw [show (SType.mk k [] [] []).sz = 0 from rfl]; omega
theorem readS_tot : ∀ (m D : Nat), 6 ≤ D + m → D ≤ 5 → RdS (M.s_l03Src_readType_n m) (D : Int)
  | 0, D, h, h5 => by omega
  | m + 1, D, h, h5 => fun s n b hs hn => by
    have hbig := bigN_le
    show ∃ t n' b', M.s_l03Src_readType_b (M.s_l03Src_readType_n m) (D : Int) (stS s n b) = _ ∧ _
    unfold M.s_l03Src_readType_b
    by_cases c : D = 5
    · subst c
      refine ⟨SType.mk 0 [] [] [], n, true, rfl, Nat.le_refl _, hn, ?_⟩
      rw [show (SType.mk 0 [] [] []).sz = 0 from rfl]; omega
    · have hD : D ≤ 4 := by omega
      have hrec := readS_tot m (D + 1) (by omega) (by omega)
      have hw := wordN_le s n hn
      have h4 : decide ((4 : Int) < (D : Int)) = false := by rw [decide_eq_false_iff_not]; omega
      simp only [h4, cond_false, word_s s n b hs hn, kind_s, Option.getD_some, Option.isSome_some, Bool.true_and, Bool.and_true, cond_true]
      cases hb : ((b || (kindF (wordN s n)).2) || decide ((kindF (wordN s n)).1 ≤ 11)) with
      | true =>
        refine ⟨SType.mk (kindF (wordN s n)).1 [] [] [], _, _, rfl, by omega, hw, ?_⟩
        rw [show (SType.mk (kindF (wordN s n)).1 [] [] []).sz = 0 from rfl]; omega
      | false =>
        simp only [Bool.or_eq_false_iff] at hb
        obtain ⟨⟨hb1, hb2⟩, hb3⟩ := hb
        have hwp := kindF_pos hb2
        simp only [hb1, hb2, Bool.or_self, cond_false]
        cases c3 : (decide ((16 : Int) ≤ (kindF (wordN s n)).1) && decide ((kindF (wordN s n)).1 ≤ 19)) with
        | true =>
          obtain ⟨t, n', b', e, g1, g2, g3⟩ := labelsT_tot hD hrec (kindF (wordN s n)).1 s (n + (wordN s n).length) hs hw
          simp only [e, Option.getD_some, Option.isSome_some, cond_true, SType.re_eq]
          exact ⟨t, n', b', rfl, by omega, g2, by omega⟩
        | false =>
          simp only [cond_false]
          cases c2 : (((kindF (wordN s n)).1 == 20) || ((kindF (wordN s n)).1 == 21)) with
          | true =>
            have k1 := takeN_le 60 hw
            have hw2 := wordN_le s (takeN 60 s (n + (wordN s n).length)) k1.2
            have k2 := takeN_le 62 hw2
            simp only [must_s _ _ _ _ hs, word_s s _ _ hs k1.2, Option.getD_some, Option.isSome_some, Bool.true_and, cond_true]
            refine ⟨_, _, _, rfl, by omega, k2.2, ?_⟩
            rw [show (SType.mk (kindF (wordN s n)).1 (wordN s (takeN 60 s (n + (wordN s n).length))) [] []).sz = (wordN s (takeN 60 s (n + (wordN s n).length))).length from rfl]; omega
          | false =>
            simp only [must_s _ _ _ _ hs, Option.getD_some, Option.isSome_some, Bool.true_and, cond_false, cond_true, Bool.false_or]
            cases hh : takeT 60 s (n + (wordN s n).length) with
            | true =>
              have hlt := takeT_lt hh
              have e1 : takeN 60 s (n + (wordN s n).length) = n + (wordN s n).length + 1 := by unfold takeN; rw [hh]; rfl
              rw [e1]
              obtain ⟨n', b', ks, e, k1, k2, k3⟩ := kids_tot_s hD hrec 0 [] (kindF (wordN s n)).1 [] [] [] [] s hs bigN (n + (wordN s n).length + 1) [] (by omega) (by omega) (by simp; omega)
              refine ⟨SType.mk (kindF (wordN s n)).1 [] [] ks, n', b', ?_, by omega, k2, ?_⟩
              · simp only [Bool.not_true]
                rcases e with e | e <;> rw [e] <;> rfl
              · rw [SType.sz_eq]
                show 0 + 0 + szL SType.sz ks + _ ≤ _
                omega
            | false =>
              have e1 : takeN 60 s (n + (wordN s n).length) = n + (wordN s n).length := by unfold takeN; rw [hh]; rfl
              rw [e1]
              obtain ⟨f', hf'⟩ : ∃ f', bigN = f' + 1 := ⟨bigN - 1, by omega⟩
              simp only [Bool.not_false]
              rw [hf', kids_bad]
              refine ⟨SType.mk (kindF (wordN s n)).1 [] [] [], _, true, rfl, by omega, hw, ?_⟩
              rw [show (SType.mk (kindF (wordN s n)).1 [] [] []).sz = 0 from rfl]; omega
end M
/-
  READING, the reference's side: every right type is read back.
-/
set_option linter.unusedVariables false
set_option linter.unusedSimpArgs false
namespace M
open Go.V (inB slB catB bigN bigN_le)

theorem isD_w {x : UInt8} (h : isD x = true) : wch x = false := by
  cases hw : wch x with
  | false => rfl
  | true => rw [wch_isD x hw] at h; cases h
theorem drop_add {α : Type} {s : List α} {n : Nat} {a b : List α} (h : s.drop n = a ++ b) : s.drop (n + a.length) = b := by
  rw [← List.drop_drop, h, List.drop_left]
theorem drop_lt {α : Type} {s : List α} {n : Nat} {x : α} {t : List α} (h : s.drop n = x :: t) : n < s.length := by
  rcases Nat.lt_or_ge n s.length with h1 | h1
  · exact h1
  · rw [List.drop_eq_nil_of_le h1] at h; cases h
theorem drop_one {α : Type} {s : List α} {n : Nat} {x : α} {t : List α} (h : s.drop n = x :: t) : s.drop (n + 1) = t := drop_add (a := [x]) h
theorem takeT_hit {s : List UInt8} {n : Nat} {x : UInt8} {t : List UInt8} (h : s.drop n = x :: t) (c : Int) : takeT c s n = (((x.toNat : Nat) : Int) == c) := by
  have hlt := drop_lt h
  have e := drop_cons hlt
  rw [h] at e
  have : x = s[n] := by injection e
  unfold takeT
  rw [decide_eq_true hlt, getD_lt hlt, this]; rfl
theorem takeT_end {s : List UInt8} {n : Nat} (h : s.drop n = []) (c : Int) : takeT c s n = false := by
  have : s.length ≤ n := by simpa using h
  unfold takeT
  rw [decide_eq_false (by omega)]; rfl
theorem takeT_stop {s : List UInt8} {n : Nat} {r : List UInt8} (h : s.drop n = r) (hr : Stop r) : takeT 58 s n = false := by
  rcases hr with rfl | ⟨x, t, rfl, _, hx⟩
  · exact takeT_end h 58
  · rw [takeT_hit h, beq_eq_false_iff_ne]
    intro e
    apply hx
    have : x.toNat = 58 := by omega
    exact UInt8.toNat_inj.1 this
theorem word_app {s : List UInt8} {n : Nat} {w r : List UInt8} (h : s.drop n = w ++ r) (hw : allW w) (hr : r = [] ∨ ∃ x t, r = x :: t ∧ isD x = true) : wordN s n = w := by
  unfold wordN
  rw [h]
  exact (while_app w r hw (by
    rcases hr with h | ⟨x, t, h, hx⟩
    · exact .inl h
    · exact .inr ⟨x, t, h, isD_w hx⟩)).1
def BackS (rec : RecS) (D : Nat) : Prop := ∀ (t : SType) (s : List UInt8) (n : Nat) (r : List UInt8), s.length ≤ 1048576 → s.drop n = txt t ++ r → tShape t = true → tDepth t + D ≤ 5 → Stop r → rec (D : Int) (stS s n false) = some (t, stS s (n + (txt t).length) false)
theorem kid_back {rec : RecS} {D : Nat} (hrec : BackS rec (D + 1)) (kids : Bool) (s : List UInt8) (n : Nat) (l : List UInt8) (kid : Option SType) (r : List UInt8) (hs : s.length ≤ 1048576) (h : s.drop n = labE l kid ((kid.map txt).getD []) ++ r) (hl : allW l) (hr : Stop r)
    (hk : ∀ x, kid = some x → kids = true ∧ tShape x = true ∧ tDepth x + D ≤ 4) (hn : kid = none → kids = false) :
    wordN s n = l ∧ KidS rec D kids s (n + l.length) kid.toList (n + (labE l kid ((kid.map txt).getD [])).length) false ∧ s.drop (n + (labE l kid ((kid.map txt).getD [])).length) = r := by
  have h3 := drop_add h
  cases kid with
  | none =>
    simp only [labE, Option.map_none, Option.getD_none] at *
    exact ⟨word_app h hl hr.d, .inl ⟨hn trivial, rfl, rfl, rfl⟩, h3⟩
  | some x =>
    obtain ⟨g1, g2, g3⟩ := hk x rfl
    simp only [labE, Option.map_some, Option.getD_some] at *
    by_cases hx : x.Kind = 1
    · rw [if_pos hx] at h h3 ⊢
      refine ⟨word_app h hl hr.d, .inr (.inl ⟨g1, takeT_stop h3 hr, ?_, rfl, rfl⟩), h3⟩
      rw [unit_eq g2 hx]; rfl
    · rw [if_neg hx] at h h3 ⊢
      have e1 : l ++ ([58] ++ txt x) ++ r = l ++ (58 :: (txt x ++ r)) := by simp
      rw [e1] at h
      have h4 := drop_add h
      have h5 := drop_one h4
      have e := hrec x s (n + l.length + 1) r hs h5 g2 (by omega) hr
      refine ⟨word_app h hl (.inr ⟨58, _, rfl, d58⟩), .inr (.inr ⟨g1, by rw [takeT_hit h4]; rfl, x, rfl, ?_⟩), h3⟩
      rw [e]
      simp only [List.length_append, List.length_cons, List.length_nil]
      rw [show n + l.length + 1 + (txt x).length = n + (l.length + (0 + 1 + (txt x).length)) by omega]
def LabS (kids : Bool) (ls : List (List UInt8)) (ks : List SType) : Prop := (kids = true ∧ ks.length = ls.length) ∨ (kids = false ∧ ks = [])
theorem labS_step (kids : Bool) (l : List UInt8) (ls : List (List UInt8)) (ks : List SType) (hR : LabS kids (l :: ls) ks) :
    ∃ (kid : Option SType) (kr : List SType), ks = kid.toList ++ kr ∧ labs (l :: ls) (ks.map SType.Kind) (ks.map txt) = labE l kid ((kid.map txt).getD []) :: labs ls (kr.map SType.Kind) (kr.map txt) ∧ LabS kids ls kr ∧ (∀ x, kid = some x → kids = true) ∧ (kid = none → kids = false) := by
  rcases hR with ⟨h1, h2⟩ | ⟨h1, h2⟩
  · cases ks with
    | nil => simp at h2
    | cons x kr => exact ⟨some x, kr, rfl, rfl, .inl ⟨h1, by simpa using h2⟩, (fun _ _ => h1), (fun h => by cases h)⟩
  · subst h2
    exact ⟨none, [], rfl, rfl, .inr ⟨h1, rfl⟩, (fun x h => by cases h), fun _ => h1⟩
theorem labels_back_s {rec : RecS} {D : Nat} (hD : D ≤ 4) (hrec : BackS rec (D + 1)) (kids : Bool) (t : Int) (t2 : List UInt8) (t6 : Int) (t62 : List UInt8) (o9 : List (List UInt8)) (o10 : List SType) (s : List UInt8) (hs : s.length ≤ 1048576) (r : List UInt8) :
    ∀ (ls : List (List UInt8)) (l : List UInt8) (ks : List SType) (f n : Nat) (o : List (List UInt8)) (p : List SType), ls.length < f → LabS kids (l :: ls) ks → (∀ x ∈ l :: ls, allW x) → (∀ x ∈ ks, tShape x = true ∧ tDepth x + D ≤ 4) → o.length + ls.length ≤ 10000000 → p.length + ls.length ≤ 10000000 →
      s.drop n = jn (labs (l :: ls) (ks.map SType.Kind) (ks.map txt)) ++ 125 :: r →
      M.s_l03Src_labels_l0 rec (D : Int) kids t t2 t6 t62 o9 o10 f (stS s n false) o p = some (.inl (s, ((n + (jn (labs (l :: ls) (ks.map SType.Kind) (ks.map txt))).length + 1 : Nat) : Int), false, t, t2, o ++ l :: ls, p ++ ks))
  | ls, l, ks, 0, n, o, p, h, _, _, _, _, _, _ => by omega
  | [], l, ks, f + 1, n, o, p, hf, hR, hw, hx, ho, hp, h => by
    obtain ⟨kid, kr, hkid, htx, hR2, hk1, hk2⟩ := labS_step _ _ _ _ hR
    have hkr : kr = [] := by
      rcases hR2 with h | h
      · exact List.eq_nil_of_length_eq_zero h.2
      · exact h.2
    subst hkr
    rw [htx] at h ⊢
    simp only [labs, jn_cons, jt_nil, List.append_nil] at h ⊢ hkid
    have hn : n ≤ s.length := by
      rcases Nat.lt_or_ge s.length n with h1 | h1
      · rw [List.drop_eq_nil_of_le (by omega)] at h; simp at h
      · exact h1
    obtain ⟨g1, g2, g3⟩ := kid_back hrec kids s n l kid (125 :: r) hs h (hw l (by simp)) (stop_cons d125 (by decide)) (fun x hxk => by
      have := hx x (by rw [hkid, hxk]; simp)
      exact ⟨hk1 x hxk, this.1, this.2⟩) hk2
    rw [labels_step rec D hD kids t t2 t6 t62 o9 o10 f s n o p kid.toList _ false hs hn (by simp at ho; omega) (by simp at hp; omega) (by rw [g1]; exact g2)]
    have : takeT 125 s (n + (labE l kid ((kid.map txt).getD [])).length) = true := by rw [takeT_hit g3]; rfl
    rw [this, g1, hkid]
    rfl
  | l2 :: ls, l, ks, f + 1, n, o, p, hf, hR, hw, hx, ho, hp, h => by
    obtain ⟨kid, kr, hkid, htx, hR2, hk1, hk2⟩ := labS_step _ _ _ _ hR
    rw [htx] at h ⊢
    have hne : labs (l2 :: ls) (kr.map SType.Kind) (kr.map txt) ≠ [] := by
      intro e
      have := congrArg List.length e
      rw [labs_length] at this; simp at this
    obtain ⟨y, ys, hys⟩ : ∃ y ys, labs (l2 :: ls) (kr.map SType.Kind) (kr.map txt) = y :: ys := by
      cases hq : labs (l2 :: ls) (kr.map SType.Kind) (kr.map txt) with
      | nil => exact absurd hq hne
      | cons y ys => exact ⟨y, ys, rfl⟩
    have ej : jn (labE l kid ((kid.map txt).getD []) :: labs (l2 :: ls) (kr.map SType.Kind) (kr.map txt)) = labE l kid ((kid.map txt).getD []) ++ 44 :: jn (labs (l2 :: ls) (kr.map SType.Kind) (kr.map txt)) := by
      rw [hys, jn_cons, jt_cons, jn_cons]
    rw [ej] at h ⊢
    rw [List.append_assoc, List.cons_append] at h
    have hn : n ≤ s.length := by
      rcases Nat.lt_or_ge s.length n with h1 | h1
      · rw [List.drop_eq_nil_of_le (by omega)] at h; simp at h
      · exact h1
    obtain ⟨g1, g2, g3⟩ := kid_back hrec kids s n l kid _ hs h (hw l (by simp)) (stop_cons d44 (by decide)) (fun x hxk => by
      have := hx x (by rw [hkid, hxk]; simp)
      exact ⟨hk1 x hxk, this.1, this.2⟩) hk2
    rw [labels_step rec D hD kids t t2 t6 t62 o9 o10 f s n o p kid.toList _ false hs hn (by simp at ho; omega) (by simp at hp; omega) (by rw [g1]; exact g2)]
    have t125 : takeT 125 s (n + (labE l kid ((kid.map txt).getD [])).length) = false := by rw [takeT_hit g3]; rfl
    have t44 : takeT 44 s (n + (labE l kid ((kid.map txt).getD [])).length) = true := by rw [takeT_hit g3]; rfl
    have e44 : takeN 44 s (n + (labE l kid ((kid.map txt).getD [])).length) = n + (labE l kid ((kid.map txt).getD [])).length + 1 := by unfold takeN; rw [t44]; rfl
    rw [t125, t44, e44, g1]
    have hkl : kid.toList.length ≤ 1 := by cases kid <;> simp
    have := labels_back_s hD hrec kids t t2 t6 t62 o9 o10 s hs r ls l2 kr f (n + (labE l kid ((kid.map txt).getD [])).length + 1) (o ++ [l]) (p ++ kid.toList) (by simpa using hf) hR2 (fun y hy => hw y (by simp only [List.mem_cons] at hy ⊢; exact .inr hy)) (fun y hy => hx y (by rw [hkid]; simp [hy])) (by simp at ho ⊢; omega) (by simp only [List.length_append, List.length_cons] at hp ⊢; omega) (drop_one g3)
    simp only [Bool.false_eq_true, if_false, Bool.not_true, Bool.or_self]
    rw [this, hkid]
    simp only [List.append_assoc, List.singleton_append, List.length_append, List.length_cons]
    rw [show n + (labE l kid ((kid.map txt).getD [])).length + 1 + (jn (labs (l2 :: ls) (kr.map SType.Kind) (kr.map txt))).length + 1 = n + ((labE l kid ((kid.map txt).getD [])).length + ((jn (labs (l2 :: ls) (kr.map SType.Kind) (kr.map txt))).length + 1)) + 1 by omega]
theorem kids_back_s {rec : RecS} {D : Nat} (hD : D ≤ 4) (hrec : BackS rec (D + 1)) (t4 : Int) (t42 : List UInt8) (t : Int) (t2 : List UInt8) (o7 : List (List UInt8)) (o8 : List SType) (o9 : List (List UInt8)) (s : List UInt8) (hs : s.length ≤ 1048576) (r : List UInt8) :
    ∀ (ks : List SType) (x : SType) (f n : Nat) (o : List SType), ks.length < f → (∀ y ∈ x :: ks, tShape y = true ∧ tDepth y + D ≤ 4) → o.length + ks.length ≤ 10000000 →
      s.drop n = jn ((x :: ks).map txt) ++ 62 :: r →
      M.s_l03Src_readType_l0 rec (D : Int) t4 t42 t t2 o7 o8 o9 f (stS s n false) o = some (.inl (s, ((n + (jn ((x :: ks).map txt)).length + 1 : Nat) : Int), false, t, t2, o9, o ++ x :: ks))
  | ks, x, 0, n, o, h, _, _, _ => by omega
  | [], x, f + 1, n, o, hf, hx, ho, h => by
    simp only [List.map_cons, List.map_nil, jn_cons, jt_nil, List.append_nil] at h ⊢
    have hxx := hx x (by simp)
    have e := hrec x s n (62 :: r) hs h hxx.1 (by omega) (stop_cons d62 (by decide))
    have g3 := drop_add h
    rw [kids_step rec D hD t4 t42 t t2 o7 o8 o9 f s n o x _ false hs (by simp at ho; omega) e]
    have : takeT 62 s (n + (txt x).length) = true := by rw [takeT_hit g3]; rfl
    rw [this]
    rfl
  | y :: ks, x, f + 1, n, o, hf, hx, ho, h => by
    have ej : jn ((x :: y :: ks).map txt) = txt x ++ 44 :: jn ((y :: ks).map txt) := by
      simp only [List.map_cons, jn_cons, jt_cons]
    rw [ej] at h ⊢
    rw [List.append_assoc, List.cons_append] at h
    have hxx := hx x (by simp)
    have e := hrec x s n _ hs h hxx.1 (by omega) (stop_cons d44 (by decide))
    have g3 := drop_add h
    rw [kids_step rec D hD t4 t42 t t2 o7 o8 o9 f s n o x _ false hs (by simp at ho; omega) e]
    have t62 : takeT 62 s (n + (txt x).length) = false := by rw [takeT_hit g3]; rfl
    have t44 : takeT 44 s (n + (txt x).length) = true := by rw [takeT_hit g3]; rfl
    have e44 : takeN 44 s (n + (txt x).length) = n + (txt x).length + 1 := by unfold takeN; rw [t44]; rfl
    rw [t62, t44, e44]
    have := kids_back_s hD hrec t4 t42 t t2 o7 o8 o9 s hs r ks y f (n + (txt x).length + 1) (o ++ [x]) (by simpa using hf) (fun z hz => hx z (by simp only [List.mem_cons] at hz ⊢; exact .inr hz)) (by simp at ho ⊢; omega) (drop_one g3)
    simp only [Bool.false_eq_true, if_false, Bool.not_true, Bool.or_self]
    rw [this]
    simp only [List.append_assoc, List.singleton_append, List.length_append, List.length_cons]
    rw [show n + (txt x).length + 1 + (jn ((y :: ks).map txt)).length + 1 = n + ((txt x).length + ((jn ((y :: ks).map txt)).length + 1)) + 1 by omega]
end M
/-
  READING: both sides read exactly the texts of right types.
-/
set_option linter.unusedVariables false
set_option linter.unusedSimpArgs false
namespace M
open Go.V (inB slB catB bigN bigN_le)

theorem Shp.labS {t : SType} (hs : Shp t) (h : 16 ≤ t.Kind ∧ t.Kind ≤ 19) : LabS ((t.Kind == 16) || (t.Kind == 17)) t.Labels t.Kids := by
  by_cases h16 : t.Kind = 16
  · exact .inl ⟨by rw [h16]; rfl, (hs.recK h16).1⟩
  · by_cases h17 : t.Kind = 17
    · exact .inl ⟨by rw [h17]; rfl, hs.varK h17⟩
    · exact .inr ⟨by rw [kb h16, kb h17]; rfl, hs.noK (by omega)⟩
theorem readS_back : ∀ (m D : Nat), 6 ≤ D + m → 1 ≤ D → BackS (M.s_l03Src_readType_n m) D
  | 0, D, h, _ => fun t s n r _ _ _ hd _ => by have := tDepth_pos t; omega
  | m + 1, D, h, h1 => fun t s n r hlen htx ht hd hr => by
    have hs := shp ht
    have hdp := tDepth_pos t
    have hD : D ≤ 4 := by omega
    have hbig := bigN_le
    have hrec := readS_back m (D + 1) (by omega) (by omega)
    have hkx := kindF_kword hs.lo hs.hi
    have hlo := hs.lo
    have hhi := hs.hi
    have hkids : ∀ x ∈ t.Kids, tShape x = true ∧ tDepth x + D ≤ 4 := fun x hx => ⟨hs.all x hx, by have := kid_depth (L := 5 - D) (by omega) hx; omega⟩
    have h4 : decide ((4 : Int) < (D : Int)) = false := by rw [decide_eq_false_iff_not]; omega
    have hn : n ≤ s.length := by
      rcases Nat.lt_or_ge s.length n with h1 | h1
      · rw [List.drop_eq_nil_of_le (by omega)] at htx
        have := txt_ne ht
        cases hq : txt t with
        | nil => exact absurd hq this
        | cons y z => rw [hq] at htx; simp at htx
      · exact h1
    show M.s_l03Src_readType_b (M.s_l03Src_readType_n m) (D : Int) _ = _
    unfold M.s_l03Src_readType_b
    simp only [h4, cond_false, word_s s n false hlen hn, kind_s, Option.getD_some, Option.isSome_some, Bool.true_and, Bool.and_true, cond_true]
    rw [txt_eq] at htx ⊢
    by_cases c2 : t.Kind = 20 ∨ t.Kind = 21
    · rw [if_pos c2] at htx ⊢
      have e0 : kword t.Kind ++ [60] ++ t.Name ++ [62] ++ r = kword t.Kind ++ (60 :: (t.Name ++ (62 :: r))) := by simp
      rw [e0] at htx
      have hN : t.Name ≠ [] := hs.name.1 c2
      have hL : t.Labels = [] := Decidable.byContradiction fun e => by have := hs.lab.2 e; omega
      have hK : t.Kids = [] := hs.noK (by omega)
      have hc11 : decide (t.Kind ≤ 11) = false := by rw [decide_eq_false_iff_not]; omega
      have hc20 : ((t.Kind == 20) || (t.Kind == 21)) = true := by rcases c2 with h | h <;> rw [h] <;> rfl
      have hc16 : (decide ((16 : Int) ≤ t.Kind) && decide (t.Kind ≤ (19 : Int))) = false := by
        rw [Bool.and_eq_false_iff, decide_eq_false_iff_not, decide_eq_false_iff_not]; omega
      have w1 := word_app htx (kword_w t.Kind) (.inr ⟨60, _, rfl, d60⟩)
      have x1 := drop_add htx
      have x2 := drop_one x1
      have w2 := word_app x2 (name_w (hs.nam hN)) (.inr ⟨62, _, rfl, d62⟩)
      have x3 := drop_add x2
      have x4 := drop_one x3
      have hn2 : n + (kword t.Kind).length + 1 ≤ s.length := by have := drop_lt x1; omega
      have y60 : takeT 60 s (n + (kword t.Kind).length) = true := by rw [takeT_hit x1]; rfl
      have z60 : takeN 60 s (n + (kword t.Kind).length) = n + (kword t.Kind).length + 1 := by unfold takeN; rw [y60]; rfl
      have y62 : takeT 62 s (n + (kword t.Kind).length + 1 + t.Name.length) = true := by rw [takeT_hit x3]; rfl
      have z62 : takeN 62 s (n + (kword t.Kind).length + 1 + t.Name.length) = n + (kword t.Kind).length + 1 + t.Name.length + 1 := by unfold takeN; rw [y62]; rfl
      simp only [w1, hkx, hc11, hc20, hc16, Bool.or_self, Bool.false_or, cond_false, cond_true, must_s _ _ _ _ hlen, y60, z60, Bool.not_true, Option.getD_some, Option.isSome_some, Bool.true_and, word_s s _ _ hlen hn2, w2, y62, z62]
      simp only [List.length_append, List.length_cons, List.length_nil]
      rw [show n + (kword t.Kind).length + 1 + t.Name.length + 1 = n + ((kword t.Kind).length + (0 + 1) + t.Name.length + (0 + 1)) by omega]
      have ht : SType.mk t.Kind t.Name [] [] = t := by
        have := SType.eta t
        rw [hL, hK] at this; exact this
      rw [ht]
    · rw [if_neg c2] at htx ⊢
      have hN : t.Name = [] := Decidable.byContradiction fun e => c2 (hs.name.2 e)
      have hc20 : ((t.Kind == 20) || (t.Kind == 21)) = false := by rw [kb (fun e => c2 (.inl e)), kb (fun e => c2 (.inr e))]; rfl
      by_cases c3 : 16 ≤ t.Kind ∧ t.Kind ≤ 19
      · rw [if_pos c3] at htx ⊢
        have hc11 : decide (t.Kind ≤ 11) = false := by rw [decide_eq_false_iff_not]; omega
        have hc16 : (decide ((16 : Int) ≤ t.Kind) && decide (t.Kind ≤ (19 : Int))) = true := by rw [decide_eq_true c3.1, decide_eq_true c3.2]; rfl
        have hlab := hs.lab.1 c3
        have hlw := labels_w (hs.labs hlab)
        have hll : t.Labels.length ≤ 16 := by
          have := hs.labs hlab
          unfold labOk at this
          simp only [Bool.and_eq_true, decide_eq_true_eq] at this
          exact this.1.2
        have hrel := hs.labS c3
        have e0 : kword t.Kind ++ [123] ++ jn (labs t.Labels (t.Kids.map SType.Kind) (t.Kids.map txt)) ++ [125] ++ r = kword t.Kind ++ (123 :: (jn (labs t.Labels (t.Kids.map SType.Kind) (t.Kids.map txt)) ++ 125 :: r)) := by simp
        rw [e0] at htx
        have w1 := word_app htx (kword_w t.Kind) (.inr ⟨123, _, rfl, d123⟩)
        have x1 := drop_add htx
        have x2 := drop_one x1
        have y1 : takeT 123 s (n + (kword t.Kind).length) = true := by rw [takeT_hit x1]; rfl
        have z1 : takeN 123 s (n + (kword t.Kind).length) = n + (kword t.Kind).length + 1 := by unfold takeN; rw [y1]; rfl
        obtain ⟨l, ls, hl⟩ : ∃ l ls, t.Labels = l :: ls := by
          cases hl : t.Labels with
          | nil => exact absurd hl hlab
          | cons l ls => exact ⟨l, ls, rfl⟩
        rw [hl] at hrel hlw hll x2
        have e2 := labels_back_s hD hrec ((t.Kind == 16) || (t.Kind == 17)) t.Kind [] 0 [] [] [] s hlen r ls l t.Kids bigN (n + (kword t.Kind).length + 1) [] [] (by simp at hll; omega) hrel hlw hkids (by simp at hll ⊢; omega) (by simp at hll ⊢; omega) x2
        have e3 : M.s_l03Src_labels (M.s_l03Src_readType_n m) t.Kind [] (D : Int) (stS s (n + (kword t.Kind).length) false) [] [] = some (t, stS s (n + (kword t.Kind).length + 1 + (jn (labs t.Labels (t.Kids.map SType.Kind) (t.Kids.map txt))).length + 1) false) := by
          unfold M.s_l03Src_labels
          simp only [must_s _ _ _ _ hlen, y1, z1, Bool.not_true, Bool.or_self, Option.getD_some, Option.isSome_some, Bool.and_true, cond_true]
          rw [e2]
          have ht : SType.mk t.Kind [] ([] ++ l :: ls) ([] ++ t.Kids) = t := by rw [List.nil_append, List.nil_append, ← hl, ← hN]; exact SType.eta t
          simp only [ht, hl]
        simp only [w1, hkx, hc11, hc16, Bool.or_self, Bool.false_or, cond_false, cond_true, e3, Option.getD_some, Option.isSome_some, Bool.true_and, SType.re_eq]
        simp only [List.length_append, List.length_cons, List.length_nil]
        rw [show n + (kword t.Kind).length + 1 + (jn (labs t.Labels (t.Kids.map SType.Kind) (t.Kids.map txt))).length + 1 = n + ((kword t.Kind).length + (0 + 1) + (jn (labs t.Labels (t.Kids.map SType.Kind) (t.Kids.map txt))).length + (0 + 1)) by omega]
      · rw [if_neg c3] at htx ⊢
        have hL : t.Labels = [] := Decidable.byContradiction fun e => c3 (hs.lab.2 e)
        have hc16 : (decide ((16 : Int) ≤ t.Kind) && decide (t.Kind ≤ (19 : Int))) = false := by
          rw [Bool.and_eq_false_iff, decide_eq_false_iff_not, decide_eq_false_iff_not]; omega
        by_cases c4 : t.Kids.length = 0
        · rw [if_pos c4] at htx ⊢
          have hK : t.Kids = [] := List.eq_nil_of_length_eq_zero c4
          have hk11 : t.Kind ≤ 11 := by
            by_cases h : 11 < t.Kind
            · exact absurd hK (hs.kids (by omega))
            · omega
          have w1 := word_app htx (kword_w t.Kind) hr.d
          have ht : SType.mk t.Kind [] [] [] = t := by
            have := SType.eta t
            rw [hN, hL, hK] at this; exact this
          simp only [w1, hkx, decide_eq_true hk11, Bool.or_true, cond_true, ht, Bool.or_self]
        · rw [if_neg c4] at htx ⊢
          have hc11 : decide (t.Kind ≤ 11) = false := by
            rw [decide_eq_false_iff_not]; intro e; exact c4 (by rw [hs.flat e]; rfl)
          obtain ⟨x, ks, hK⟩ : ∃ x ks, t.Kids = x :: ks := by
            cases hK : t.Kids with
            | nil => rw [hK] at c4; exact absurd rfl c4
            | cons x ks => exact ⟨x, ks, rfl⟩
          have e0 : kword t.Kind ++ [60] ++ jn (t.Kids.map txt) ++ [62] ++ r = kword t.Kind ++ (60 :: (jn (t.Kids.map txt) ++ 62 :: r)) := by simp
          rw [e0] at htx
          have w1 := word_app htx (kword_w t.Kind) (.inr ⟨60, _, rfl, d60⟩)
          have x1 := drop_add htx
          have x2 := drop_one x1
          have y1 : takeT 60 s (n + (kword t.Kind).length) = true := by rw [takeT_hit x1]; rfl
          have z1 : takeN 60 s (n + (kword t.Kind).length) = n + (kword t.Kind).length + 1 := by unfold takeN; rw [y1]; rfl
          have hksl : ks.length ≤ s.length := by
            have h9 := congrArg List.length x2
            have : ∀ l : List (List UInt8), l.length ≤ (Go.Lib.joinTail [44] l).length := fun l => by
              induction l with
              | nil => simp
              | cons y t ih => rw [jt_cons]; simp only [List.length_cons, List.length_append]; omega
            have := this (ks.map txt)
            rw [List.length_map] at this
            rw [hK, List.map_cons, jn_cons, List.length_drop] at h9
            simp only [List.length_append, List.length_cons] at h9
            omega
          rw [hK] at hkids x2
          have e2 := kids_back_s hD hrec 0 [] t.Kind [] [] [] [] s hlen r ks x bigN (n + (kword t.Kind).length + 1) [] (by omega) hkids (by simp; omega) x2
          have ht : SType.mk t.Kind [] [] ([] ++ t.Kids) = t := by
            have := SType.eta t
            rw [hN, hL] at this; exact this
          simp only [w1, hkx, hc11, hc20, hc16, Bool.or_self, Bool.false_or, cond_false, must_s _ _ _ _ hlen, y1, z1, Bool.not_true, Option.getD_some, Option.isSome_some, Bool.true_and, cond_true]
          rw [e2]
          simp only [← hK, List.length_append, List.length_cons, List.length_nil, ht]
          rw [show n + (kword t.Kind).length + 1 + (jn (t.Kids.map txt)).length + 1 = n + ((kword t.Kind).length + (0 + 1) + (jn (t.Kids.map txt)).length + (0 + 1)) by omega]
theorem readType_s {s : List UInt8} (hs : s.length ≤ 1048576) : (∀ t, tOk t = true → txt t = s → M.s_ReadType s = some (t, true)) ∧ ((∀ t, tOk t = true → txt t ≠ s) → M.s_ReadType s = some (SType.mk 0 [] [] [], false)) := by
  have hbig := bigN_le
  obtain ⟨t', n', b', e', -, g2, hz⟩ := readS_tot bigN 1 (by omega) (by omega) s 0 false hs (Nat.zero_le _)
  have e2 : M.s_l03Src_readType 1 (Sl03Src.mk s 0 false) = some (t', stS s n' b') := e'
  refine ⟨fun t ht he => ?_, fun hno => ?_⟩
  · subst he
    have hsh : tShape t = true := by unfold tOk at ht; simp only [Bool.and_eq_true] at ht; exact ht.2
    have hdp : tDepth t ≤ 4 := by unfold tOk at ht; simp only [Bool.and_eq_true, decide_eq_true_eq] at ht; exact ht.1.1
    have e3 := readS_back bigN 1 (by omega) (by omega) t (txt t) 0 [] hs (by simp) hsh (by omega) (.inl rfl)
    have e4 : M.s_l03Src_readType 1 (Sl03Src.mk (txt t) 0 false) = some (t, stS (txt t) (0 + (txt t).length) false) := e3
    have htt : t = t' := by
      rw [e4] at e2
      exact (Prod.mk.inj (Option.some.inj e2)).1
    rw [← htt] at hz
    unfold M.s_ReadType
    simp only [e4, Nat.zero_add, Option.getD_some, Option.isSome_some, SType.re_eq, ok_s t (by omega), ht, l03Text_s t (by omega) ht]
    simp
  · unfold M.s_ReadType
    simp only [e2, Option.getD_some, Option.isSome_some, SType.re_eq, ok_s t' (by omega)]
    cases hok : tOk t' with
    | false => simp
    | true =>
      have : (txt t' == s) = false := by rw [beq_eq_false_iff_ne]; exact hno t' hok
      simp only [l03Text_s t' (by omega) hok, Option.getD_some, Option.isSome_some, this]
      simp
end M
/-
  READING: the law in plain Lean.
-/
set_option linter.unusedVariables false
set_option linter.unusedSimpArgs false
namespace M
open Go.V (inB slB catB bigN bigN_le)

theorem szL_const {α : Type} (f : α → Nat) (N : Nat) : ∀ (l : List α), (∀ x ∈ l, f x ≤ N) → szL f l ≤ (N + 1) * l.length
  | [], _ => by simp [szL]
  | x :: r, h => by
    have h1 := h x (by simp)
    have h2 := szL_const f N r fun y hy => h y (by simp [hy])
    simp only [szL, List.length_cons, Nat.mul_succ]; omega
theorem name_12 {s : List UInt8} (h : nameOk s = true) : s.length ≤ 12 := by
  unfold nameOk at h
  simp only [Bool.and_eq_true, decide_eq_true_eq] at h
  exact h.2.1.2
theorem sz_parts : ∀ (n : Nat) (t : SType), t.sz < n → tShape t = true → t.sz + 1 ≤ 221 * tParts t
  | 0, t, h, _ => by omega
  | n + 1, t, h, ht => by
    have hs := shp ht
    have hz := SType.sz_eq t
    have h1 : t.Name.length ≤ 12 := by
      by_cases hN : t.Name = []
      · rw [hN]; simp
      · exact name_12 (hs.nam hN)
    have h2 : szL List.length t.Labels ≤ 208 := by
      by_cases hL : t.Labels = []
      · rw [hL]; simp [szL]
      · have := hs.labs hL
        unfold labOk at this
        simp only [Bool.and_eq_true, decide_eq_true_eq] at this
        have h3 := szL_const List.length 12 t.Labels fun x hx => name_12 (List.all_eq_true.1 this.2.2 x hx)
        omega
    have h3 : szL SType.sz t.Kids ≤ 221 * kSum t.Kids := by
      have key : ∀ l : List SType, (∀ x ∈ l, x.sz < n ∧ tShape x = true) → szL SType.sz l ≤ 221 * kSum l := fun l => by
        induction l with
        | nil => intro _; simp [szL, kSum]
        | cons y r ih =>
          intro hl
          have a1 := sz_parts n y (hl y (by simp)).1 (hl y (by simp)).2
          have a2 := ih fun x hx => hl x (by simp [hx])
          simp only [szL, kSum]; omega
      exact key _ fun x hx => ⟨by have := SType.kid_lt hx; omega, hs.all x hx⟩
    rw [tParts_eq]; omega
theorem tOk_small {t : SType} (h : tOk t = true) : t.sz ≤ 6000 := by
  unfold tOk at h
  simp only [Bool.and_eq_true, decide_eq_true_eq] at h
  have := sz_parts _ t (Nat.lt_succ_self _) h.2
  omega
end M
