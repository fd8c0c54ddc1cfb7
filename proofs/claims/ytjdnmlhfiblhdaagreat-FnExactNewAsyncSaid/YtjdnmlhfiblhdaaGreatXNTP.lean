/-
  NAMES AND TYPES: what is right, in plain Lean.
-/
import Derived.Test.YtjdnmlhfiblhdaaGreatXNpl4
import Derived.Test.YtjdnmlhfiblhdaaGreatXNZH
set_option linter.unusedVariables false
namespace M
open Go.V (inB slB bigN bigN_le)

def lowB (c : UInt8) : Bool := decide ((97 : Int) ≤ ((c.toNat : Nat) : Int)) && decide (((c.toNat : Nat) : Int) ≤ 122)
def digB (c : UInt8) : Bool := decide ((48 : Int) ≤ ((c.toNat : Nat) : Int)) && decide (((c.toNat : Nat) : Int) ≤ 57)
def dashB (c : UInt8) : Bool := ((c.toNat : Nat) : Int) == 45
def nameStep (s : List UInt8) (k : Nat) : Bool := lowB (s.getD k 0) || (decide (0 < k) && ((digB (s.getD k 0) || dashB (s.getD k 0)) && !(dashB (s.getD k 0) && dashB (s.getD (k - 1) 0))))
def nameOk (s : List UInt8) : Bool := (List.range s.length).all (nameStep s) && ((decide (1 ≤ s.length) && decide (s.length ≤ 12)) && !dashB (s.getD (s.length - 1) 0))

def labOk (l : List (List UInt8)) : Bool := (decide (1 ≤ l.length) && decide (l.length ≤ 16)) && (nodupB l && l.all nameOk)

mutual
def tParts : SType → Nat
  | .mk _ _ _ kids => 1 + kSum kids
def kSum : List SType → Nat
  | [] => 0
  | x :: r => tParts x + kSum r
end
mutual
def tDepth : SType → Nat
  | .mk _ _ _ kids => 1 + kMax kids
def kMax : List SType → Nat
  | [] => 0
  | x :: r => max (tDepth x) (kMax r)
end
mutual
def tHas (p : Int → Bool) : SType → Bool
  | .mk k _ _ kids => p k || kHas p kids
def kHas (p : Int → Bool) : List SType → Bool
  | [] => false
  | x :: r => tHas p x || kHas p r
end
theorem tParts_eq (t : SType) : tParts t = 1 + kSum t.Kids := by cases t; rfl
theorem tDepth_eq (t : SType) : tDepth t = 1 + kMax t.Kids := by cases t; rfl
theorem tHas_eq (p : Int → Bool) (t : SType) : tHas p t = (p t.Kind || kHas p t.Kids) := by cases t; rfl
theorem kHas_any (p : Int → Bool) : ∀ l, kHas p l = l.any (tHas p)
  | [] => rfl
  | x :: r => by rw [kHas, List.any_cons, kHas_any p r]

def unitB (t : SType) : Bool := t.Kind == 1
def namedB (t : SType) : Bool := (t.Kind == 20) || (t.Kind == 21)
def labB (t : SType) : Bool := decide ((16 : Int) ≤ t.Kind) && decide (t.Kind ≤ 19)
def kidsB (t : SType) : Bool :=
  if t.Kind = 12 ∨ t.Kind = 13 then (t.Kids.length == 1) && !t.Kids.any unitB
  else if t.Kind = 14 then t.Kids.length == 2
  else if t.Kind = 15 then (decide (1 ≤ t.Kids.length) && decide (t.Kids.length ≤ 6)) && !t.Kids.any unitB
  else if t.Kind = 16 then (t.Kids.length == t.Labels.length) && !t.Kids.any unitB
  else if t.Kind = 17 then t.Kids.length == t.Labels.length
  else if t.Kind = 22 ∨ t.Kind = 23 then (t.Kids.length == 1) && !kHas (fun k => k == 21) t.Kids
  else (decide ((1 : Int) ≤ t.Kind) && decide (t.Kind ≤ 23)) && (t.Kids.length == 0)
def shape1 (t : SType) : Bool :=
  ((if labB t then labOk t.Labels else t.Labels.length == 0) && (if namedB t then nameOk t.Name else t.Name == [])) && kidsB t
mutual
def tShape : SType → Bool
  | .mk k n l kids => shape1 (.mk k n l kids) && kShape kids
def kShape : List SType → Bool
  | [] => true
  | x :: r => tShape x && kShape r
end
theorem tShape_eq (t : SType) : tShape t = (shape1 t && kShape t.Kids) := by cases t; rfl
theorem kShape_all : ∀ l, kShape l = l.all tShape
  | [] => rfl
  | x :: r => by rw [kShape, List.all_cons, kShape_all r]
def tOk (t : SType) : Bool := (decide (tDepth t ≤ 4) && decide (tParts t ≤ 24)) && tShape t

theorem kSum_len : ∀ l : List SType, l.length ≤ kSum l
  | [] => Nat.le_refl _
  | x :: r => by have := kSum_len r; simp only [kSum, List.length_cons, tParts_eq x]; omega
theorem kSum_drop {l : List SType} {k : Nat} (h : k < l.length) : kSum (l.drop k) = tParts l[k] + kSum (l.drop (k + 1)) := by rw [drop_get h]; rfl
theorem kMax_drop {l : List SType} {k : Nat} (h : k < l.length) : kMax (l.drop k) = max (tDepth l[k]) (kMax (l.drop (k + 1))) := by rw [drop_get h]; rfl
theorem tDepth_pos (t : SType) : 1 ≤ tDepth t := by rw [tDepth_eq]; omega
end M
/-
  NAMES AND TYPES: what the program and the reference find of them.
-/
set_option linter.unusedVariables false
set_option linter.unusedSimpArgs false
namespace M
open Go.V (inB slB bigN bigN_le)

theorem bigN_gt {n : Nat} (h : n ≤ 1048576) : n < bigN := by have := bigN_le; omega
theorem wrapp {k n : Nat} (h0 : 0 < k) (h : k ≤ n) (hn : n < 2 ^ 62) : Go.IntKind.wrap .i64 ((k : Int) - 1) = ((k - 1 : Nat) : Int) := by
  rw [wrap_i64 (by omega) (by omega)]; omega

theorem nameOk_i (s : List UInt8) (hs : s.length ≤ 1048576) : M.i_NameOk s = some (nameOk s) := by
  unfold M.i_NameOk
  rw [all_loop (p := nameStep s) (F := M.i_NameOk_l0 s (s.length : Int)) (e := s) (b := false) s.length (by omega) (fun f k hk => by
    rw [M.i_NameOk_l0]
    simp only [Int.toNat_natCast, inB_nat, Int.ofNat_lt, hk, decide_true, cond_true, Bool.true_or, Bool.true_and, Bool.and_true, wrapk hk (big_of hs), nameStep, lowB, digB, dashB, bne_not']
    generalize decide ((97 : Int) ≤ (((s.getD k 0).toNat : Nat) : Int)) = a1
    generalize decide ((((s.getD k 0).toNat : Nat) : Int) ≤ 122) = a2
    generalize decide ((48 : Int) ≤ (((s.getD k 0).toNat : Nat) : Int)) = a3
    generalize decide ((((s.getD k 0).toNat : Nat) : Int) ≤ 57) = a4
    generalize ((((s.getD k 0).toNat : Nat) : Int) == 45) = a5
    rcases Nat.eq_zero_or_pos k with h0 | h0
    · subst h0
      cases a1 <;> cases a2 <;> cases a3 <;> cases a4 <;> cases a5 <;> simp
    · have e0 : ((k : Int) == 0) = false := by rw [beq_eq_false_iff_ne]; omega
      have hk1 : k - 1 < s.length := by omega
      simp only [e0, wrapp h0 (Nat.le_of_lt hk) (big_of hs), Int.toNat_natCast, inB_nat, hk1, h0, decide_true]
      generalize ((((s.getD (k - 1) 0).toNat : Nat) : Int) == 45) = a6
      cases a1 <;> cases a2 <;> cases a3 <;> cases a4 <;> cases a5 <;> cases a6 <;> simp) (fun f => by rw [M.i_NameOk_l0]; simp)]
  unfold nameOk
  cases hall : (List.range s.length).all (nameStep s)
  · simp
  · simp only [if_true, bne_not', Bool.true_and]
    rcases Nat.eq_zero_or_pos s.length with h0 | h0
    · simp [h0]
    · have h1 : s.length - 1 < s.length := by omega
      have e1 : decide ((1 : Int) ≤ ((s.length : Nat) : Int)) = decide (1 ≤ s.length) := by simp only [decide_eq_decide]; omega
      have e2 : decide (((s.length : Nat) : Int) ≤ 12) = decide (s.length ≤ 12) := by simp only [decide_eq_decide]; omega
      simp only [wrapp h0 (Nat.le_refl _) (big_of hs), Int.toNat_natCast, inB_nat, h1, decide_true, Bool.true_or, Bool.and_true, cond_true, e1, e2, dashB]

theorem nameOk_s (s : List UInt8) (hs : s.length ≤ 1048576) : M.s_l03Name s = some (nameOk s) := by
  unfold M.s_l03Name
  rcases Nat.eq_zero_or_pos s.length with h0 | h0
  · have : s = [] := List.eq_nil_of_length_eq_zero h0
    subst this; rfl
  have h1 : s.length - 1 < s.length := by omega
  simp only [wrapp h0 (Nat.le_refl _) (big_of hs), Int.toNat_natCast, inB_nat, h1, Int.toNat_zero, decide_true, Bool.true_or, Bool.and_true, cond_true]
  have hz : inB (0 : Int) s.length = true := by
    show inB ((0 : Nat) : Int) s.length = true
    rw [inB_nat]; simpa using h0
  simp only [hz, Bool.true_or, Bool.and_true, cond_true]
  have e1 : decide (((s.length : Nat) : Int) < 1) = !decide (1 ≤ s.length) := by rw [← decide_not]; simp only [decide_eq_decide]; omega
  have e2 : decide ((12 : Int) < ((s.length : Nat) : Int)) = !decide (s.length ≤ 12) := by rw [← decide_not]; simp only [decide_eq_decide]; omega
  have e3 : decide ((((s.getD 0 0).toNat : Nat) : Int) < 97) = !decide ((97 : Int) ≤ (((s.getD 0 0).toNat : Nat) : Int)) := by rw [← decide_not]; simp only [decide_eq_decide]; omega
  have e4 : decide ((122 : Int) < (((s.getD 0 0).toNat : Nat) : Int)) = !decide ((((s.getD 0 0).toNat : Nat) : Int) ≤ 122) := by rw [← decide_not]; simp only [decide_eq_decide]; omega
  rw [e1, e2, e3, e4]
  by_cases hlow : lowB (s.getD 0 0) = true
  · have hl := hlow
    simp only [lowB, Bool.and_eq_true] at hl
    rw [all_loop (p := nameStep s) (F := M.s_l03Name_l0 s) (e := ()) (b := false) s.length (by omega) (fun f k hk => by
      rw [M.s_l03Name_l0]
      have f1 : decide ((((s.getD k 0).toNat : Nat) : Int) < 97) = !decide ((97 : Int) ≤ (((s.getD k 0).toNat : Nat) : Int)) := by rw [← decide_not]; simp only [decide_eq_decide]; omega
      have f2 : decide ((122 : Int) < (((s.getD k 0).toNat : Nat) : Int)) = !decide ((((s.getD k 0).toNat : Nat) : Int) ≤ 122) := by rw [← decide_not]; simp only [decide_eq_decide]; omega
      have f3 : decide ((((s.getD k 0).toNat : Nat) : Int) < 48) = !decide ((48 : Int) ≤ (((s.getD k 0).toNat : Nat) : Int)) := by rw [← decide_not]; simp only [decide_eq_decide]; omega
      have f4 : decide ((57 : Int) < (((s.getD k 0).toNat : Nat) : Int)) = !decide ((((s.getD k 0).toNat : Nat) : Int) ≤ 57) := by rw [← decide_not]; simp only [decide_eq_decide]; omega
      simp only [Int.toNat_natCast, inB_nat, Int.ofNat_lt, hk, decide_true, cond_true, Bool.true_or, Bool.true_and, Bool.and_true, wrapk hk (big_of hs), nameStep, lowB, digB, dashB, bne_not', f1, f2, f3, f4]
      have dash : lowB (s.getD k 0) = true → ((((s.getD k 0).toNat : Nat) : Int) == 45) = false := fun h => by
        simp only [lowB, Bool.and_eq_true, decide_eq_true_eq] at h
        rw [beq_eq_false_iff_ne]; omega
      simp only [lowB] at dash
      rcases Nat.eq_zero_or_pos k with k0 | k0
      · subst k0
        rw [hl.1, hl.2] at *
        simp only [Bool.and_self] at dash
        rw [dash trivial]
        simp
      · have hk1 : k - 1 < s.length := by omega
        simp only [wrapp k0 (Nat.le_of_lt hk) (big_of hs), Int.toNat_natCast, inB_nat, hk1, k0, decide_true]
        generalize ((((s.getD (k - 1) 0).toNat : Nat) : Int) == 45) = a6
        revert dash
        generalize decide ((97 : Int) ≤ (((s.getD k 0).toNat : Nat) : Int)) = a1
        generalize decide ((((s.getD k 0).toNat : Nat) : Int) ≤ 122) = a2
        generalize decide ((48 : Int) ≤ (((s.getD k 0).toNat : Nat) : Int)) = a3
        generalize decide ((((s.getD k 0).toNat : Nat) : Int) ≤ 57) = a4
        generalize ((((s.getD k 0).toNat : Nat) : Int) == 45) = a5
        intro dash
        cases a1 <;> cases a2 <;> cases a3 <;> cases a4 <;> cases a5 <;> cases a6 <;> simp at dash ⊢) (fun f => by rw [M.s_l03Name_l0]; simp)]
    rw [hl.1, hl.2]
    unfold nameOk dashB
    cases (List.range s.length).all (nameStep s) <;> cases decide (1 ≤ s.length) <;> cases decide (s.length ≤ 12) <;> cases ((((s.getD (s.length - 1) 0).toNat : Nat) : Int) == 45) <;> rfl
  · have hno : nameOk s = false := by
      unfold nameOk
      have : (List.range s.length).all (nameStep s) = false := by
        rw [List.all_eq_false]
        refine ⟨0, by simpa using h0, ?_⟩
        simp only [Bool.not_eq_true] at hlow
        simp only [nameStep, hlow]
        intro h; cases h
      rw [this]; rfl
    rw [hno]
    simp only [Bool.not_eq_true] at hlow
    simp only [lowB] at hlow
    cases h3 : decide ((97 : Int) ≤ (((s.getD 0 0).toNat : Nat) : Int)) <;> cases h4 : decide ((((s.getD 0 0).toNat : Nat) : Int) ≤ 122) <;> rw [h3, h4] at hlow <;> simp at hlow ⊢
end M
set_option linter.unusedVariables false
set_option linter.unusedSimpArgs false
namespace M
open Go.V (inB slB bigN bigN_le)

/-! ### labels -/

theorem nodup_range (l : List (List UInt8)) : (List.range l.length).all (fun i => (List.range i).all fun k => !(l.getD k [] == l.getD i [])) = nodupB l := by
  rw [Bool.eq_iff_iff, nodupB_iff, List.Nodup, List.pairwise_iff_getElem]
  simp only [List.all_eq_true, List.mem_range, Bool.not_eq_true', beq_eq_false_iff_ne]
  constructor
  · intro h i j hi hj hij e
    have := h j hj i hij
    rw [getD_lt hi, getD_lt hj] at this
    exact this e
  · intro h i hi k hk e
    rw [getD_lt hi, getD_lt (by omega)] at e
    exact h k i (by omega) hi hk e
theorem all_range {α : Type} (p : α → Bool) (l : List α) (d : α) : (List.range l.length).all (fun i => p (l.getD i d)) = l.all p := by
  rw [Bool.eq_iff_iff]
  simp only [List.all_eq_true, List.mem_range]
  constructor
  · intro h x hx
    obtain ⟨i, hi, rfl⟩ := List.getElem_of_mem hx
    have := h i hi
    rwa [getD_lt hi] at this
  · intro h i hi
    rw [getD_lt hi]
    exact h _ (List.getElem_mem hi)
theorem all_and {α : Type} (p q : α → Bool) (l : List α) : l.all (fun x => p x && q x) = (l.all p && l.all q) := by
  induction l with
  | nil => rfl
  | cons x r ih => simp only [List.all_cons, ih]; cases p x <;> cases q x <;> cases r.all p <;> cases r.all q <;> rfl

theorem labels_s (l : List (List UInt8)) (h : szL List.length l ≤ 1048576) : M.s_l03Labels l = some (labOk l) := by
  have hl := Nat.le_trans (szL_len List.length l) h
  unfold M.s_l03Labels
  have e1 : decide (((l.length : Nat) : Int) < 1) = !decide (1 ≤ l.length) := by rw [← decide_not]; simp only [decide_eq_decide]; omega
  have e2 : decide ((16 : Int) < ((l.length : Nat) : Int)) = !decide (l.length ≤ 16) := by rw [← decide_not]; simp only [decide_eq_decide]; omega
  rw [e1, e2, all_loop (p := fun i => nameOk (l.getD i []) && (List.range i).all fun k => !(l.getD k [] == l.getD i [])) (F := fun f i => M.s_l03Labels_l0 f l i) (e := ()) (b := false) l.length (by omega) (fun f k hk => by
    show M.s_l03Labels_l0 (f + 1) l (k : Int) = _
    rw [M.s_l03Labels_l0]
    have hn : (l.getD k []).length ≤ 1048576 := by rw [getD_lt hk]; exact Nat.le_trans (szL_mem List.length _ _ (List.getElem_mem hk)) h
    have inner : M.s_l03Labels_l0_0 l (k : Int) bigN 0 = some (if (List.range k).all (fun j => !(l.getD j [] == l.getD k [])) then .inr (l, (k : Int)) else .inl false) :=
      all_loop (p := fun j => !(l.getD j [] == l.getD k [])) (F := M.s_l03Labels_l0_0 l (k : Int)) (e := (l, (k : Int))) (b := false) k (by omega) (fun f j hj => by
        rw [M.s_l03Labels_l0_0]
        have hj' : j < l.length := by omega
        simp only [Int.toNat_natCast, inB_nat, Int.ofNat_lt, hj, hk, hj', decide_true, cond_true, Bool.true_or, Bool.true_and, Bool.and_true, wrapk hj (by omega : k < 2 ^ 62)]
        cases l.getD j [] == l.getD k [] <;> rfl) (fun f => by rw [M.s_l03Labels_l0_0]; simp)
    simp only [Int.toNat_natCast, inB_nat, Int.ofNat_lt, hk, decide_true, cond_true, Bool.true_or, Bool.true_and, Bool.and_true, wrapk hk (by omega : l.length < 2 ^ 62), nameOk_s _ hn, inner, Option.getD_some, Option.isSome_some]
    cases nameOk (l.getD k []) <;> cases (List.range k).all (fun j => !(l.getD j [] == l.getD k [])) <;> simp [wrapk hk (by omega : l.length < 2 ^ 62)]) (fun f => by
    show M.s_l03Labels_l0 (f + 1) l (l.length : Int) = _
    rw [M.s_l03Labels_l0]; simp)]
  unfold labOk
  rw [all_and, all_range, nodup_range]
  cases decide (1 ≤ l.length) <;> cases decide (l.length ≤ 16) <;> cases l.all nameOk <;> cases nodupB l <;> rfl

theorem labels_i (l : List (List UInt8)) (h : szL List.length l ≤ 1048576) : M.i_labelsOk l = some (labOk l) := by
  have hl := Nat.le_trans (szL_len List.length l) h
  have c1 : ∀ s : List UInt8, s.length ≤ 1048576 → M.i_labelsOk_c1 s = some (!nameOk s) := fun s hs => by
    unfold M.i_labelsOk_c1
    rw [nameOk_i s hs]; rfl
  have cf : M.slices_ContainsFunc_string_string l = some (l.any fun s => !nameOk s) := by
    have e := find_list (p := fun s => !nameOk s) (F := M.slices_IndexFunc_string_string_l0 l (l.length : Int)) (e := ()) (fun k => k) l (by omega) (fun f k hk => by
      rw [M.slices_IndexFunc_string_string_l0]
      have hn : l[k].length ≤ 1048576 := Nat.le_trans (szL_mem List.length _ _ (List.getElem_mem hk)) h
      simp only [getD_lt hk, Int.toNat_natCast, inB_nat, Int.ofNat_lt, hk, decide_true, cond_true, Bool.true_or, Bool.true_and, Bool.and_true, wrapk hk (by omega : l.length < 2 ^ 62), c1 _ hn, Option.getD_some, Option.isSome_some]) (fun f => by rw [M.slices_IndexFunc_string_string_l0]; simp)
    unfold M.slices_ContainsFunc_string_string M.slices_IndexFunc_string_string
    rw [e, findIdx_any]
    cases l.findIdx? (fun s => !nameOk s) <;> simp
  unfold M.i_labelsOk
  rw [cf, i_distinct_eq l hl]
  have e1 : decide ((1 : Int) ≤ ((l.length : Nat) : Int)) = decide (1 ≤ l.length) := by simp only [decide_eq_decide]; omega
  have e2 : decide (((l.length : Nat) : Int) ≤ 16) = decide (l.length ≤ 16) := by simp only [decide_eq_decide]; omega
  have e3 : (l.any fun s => !nameOk s) = !l.all nameOk := by rw [List.not_all_eq_any_not]
  unfold labOk
  simp only [Option.isSome_some, Bool.true_or, Bool.and_true, cond_true, Option.getD_some, e1, e2, e3, Bool.not_not]
  cases decide (1 ≤ l.length) <;> cases decide (l.length ≤ 16) <;> cases l.all nameOk <;> cases nodupB l <;> rfl
end M
set_option linter.unusedVariables false
set_option linter.unusedSimpArgs false
namespace M
open Go.V (inB slB bigN bigN_le)

theorem SType.labels_le {a : SType} {N : Nat} (h : a.sz ≤ N) : szL List.length a.Labels ≤ N := by rw [SType.sz_eq] at h; omega
theorem SType.name_le {a : SType} {N : Nat} (h : a.sz ≤ N) : a.Name.length ≤ N := by rw [SType.sz_eq] at h; omega
theorem SType.kids_le {a : SType} {N : Nat} (h : a.sz ≤ N) : szL SType.sz a.Kids ≤ N := by rw [SType.sz_eq] at h; omega
theorem SType.kids_len {a : SType} {N : Nat} (h : a.sz ≤ N) : a.Kids.length ≤ N := Nat.le_trans (szL_len _ _) (SType.kids_le h)
theorem SType.labels_len {a : SType} {N : Nat} (h : a.sz ≤ N) : a.Labels.length ≤ N := Nat.le_trans (szL_len _ _) (SType.labels_le h)
theorem SType.kid_lt {a x : SType} (h : x ∈ a.Kids) : x.sz < a.sz := by
  rw [SType.sz_eq a]; have := szL_pos SType.sz _ _ h; omega

/-! ### units, kinds -/

theorem units_s (t : SType) (h : t.sz ≤ 1048576) : M.s_l03Units t = some (t.Kids.any unitB) := by
  have hl := SType.kids_len h
  have e := find_list (p := unitB) (F := fun f i => M.s_l03Units_l0 f i t) (e := ()) (fun _ => true) t.Kids (by omega) (fun f k hk => by
    show M.s_l03Units_l0 (f + 1) (k : Int) t = _
    rw [M.s_l03Units_l0]
    simp only [SType.re_eq, getD_lt hk, Int.toNat_natCast, inB_nat, Int.ofNat_lt, hk, decide_true, cond_true, Bool.true_or, Bool.true_and, Bool.and_true, wrapk hk (by omega : t.Kids.length < 2 ^ 62), unitB]) (fun f => by
    show M.s_l03Units_l0 (f + 1) _ t = _
    rw [M.s_l03Units_l0]; simp)
  unfold M.s_l03Units
  rw [SType.re_eq, findIdx_any]
  have e' : M.s_l03Units_l0 bigN 0 t = _ := e
  rw [e']
  cases t.Kids.findIdx? unitB <;> simp

theorem has_s (lo hi : Int) : ∀ (m : Nat) (t : SType), t.sz < m → t.sz ≤ 1048576 → M.s_l03Has_n m t lo hi = some (tHas (fun k => decide (lo ≤ k) && decide (k ≤ hi)) t)
  | 0, t, h, _ => absurd h (Nat.not_lt_zero _)
  | m + 1, t, h, hN => by
    have hl := SType.kids_len hN
    have e := find_list (p := tHas (fun k => decide (lo ≤ k) && decide (k ≤ hi))) (F := fun f i => M.s_l03Has_l0 (M.s_l03Has_n m) lo hi f i t) (e := ()) (fun _ => true) t.Kids (by omega) (fun f k hk => by
      show M.s_l03Has_l0 (M.s_l03Has_n m) lo hi (f + 1) (k : Int) t = _
      rw [M.s_l03Has_l0]
      have hx := SType.kid_lt (List.getElem_mem hk)
      simp only [SType.re_eq, getD_lt hk, has_s lo hi m t.Kids[k] (by omega) (by omega), Int.toNat_natCast, inB_nat, Int.ofNat_lt, hk, decide_true, cond_true, Bool.true_or, Bool.true_and, Bool.and_true, wrapk hk (by omega : t.Kids.length < 2 ^ 62), Option.getD_some, Option.isSome_some]) (fun f => by
      show M.s_l03Has_l0 (M.s_l03Has_n m) lo hi (f + 1) _ t = _
      rw [M.s_l03Has_l0]; simp)
    show M.s_l03Has_b (M.s_l03Has_n m) t lo hi = _
    unfold M.s_l03Has_b
    have e' : M.s_l03Has_l0 (M.s_l03Has_n m) lo hi bigN 0 t = _ := e
    rw [SType.re_eq, e', tHas_eq, kHas_any, findIdx_any]
    cases (decide (lo ≤ t.Kind) && decide (t.Kind ≤ hi)) <;> cases t.Kids.findIdx? (tHas fun k => decide (lo ≤ k) && decide (k ≤ hi)) <;> simp

theorem contains_i (l : List Int) (v : Int) (hl : l.length < 2 ^ 62) : M.slices_Contains_int64_int64 l v = some (l.any fun x => v == x) := by
  have e := find_list (p := fun x => v == x) (F := M.slices_Index_int64_int64_l0 l v (l.length : Int)) (e := ()) (fun k => k) l hl (fun f k hk => by
    rw [M.slices_Index_int64_int64_l0]
    simp only [getD_lt hk, Int.toNat_natCast, inB_nat, Int.ofNat_lt, hk, decide_true, cond_true, Bool.true_or, Bool.true_and, Bool.and_true, wrapk hk hl]) (fun f => by rw [M.slices_Index_int64_int64_l0]; simp)
  unfold M.slices_Contains_int64_int64 M.slices_Index_int64_int64
  rw [e, findIdx_any]
  cases l.findIdx? (fun x => v == x) <;> simp

theorem has_i (ks : List Int) (hk : ks.length < 2 ^ 62) : ∀ (m : Nat) (t : SType), t.sz < m → t.sz ≤ 1048576 → M.i_hasKind_n m t ks = some (tHas (fun k => ks.any fun x => k == x) t)
  | 0, t, h, _ => absurd h (Nat.not_lt_zero _)
  | m + 1, t, h, hN => by
    have hl := SType.kids_len hN
    have e := find_list (p := tHas (fun k => ks.any fun x => k == x)) (F := M.slices_IndexFunc_Type_Type_3_l0 (M.i_hasKind_n m) t.Kids ks (t.Kids.length : Int)) (e := ()) (fun k => k) t.Kids (by omega) (fun f k hk' => by
      rw [M.slices_IndexFunc_Type_Type_3_l0]
      have hx := SType.kid_lt (List.getElem_mem hk')
      have c : M.i_hasKind_c1 (M.i_hasKind_n m) t.Kids[k] ks = some (tHas (fun k => ks.any fun x => k == x) t.Kids[k]) := by
        unfold M.i_hasKind_c1
        simp only [SType.re_eq, has_i ks hk m t.Kids[k] (by omega) (by omega)]; rfl
      simp only [SType.re_eq, getD_lt hk', c, Int.toNat_natCast, inB_nat, Int.ofNat_lt, hk', decide_true, cond_true, Bool.true_or, Bool.true_and, Bool.and_true, wrapk hk' (by omega : t.Kids.length < 2 ^ 62), Option.getD_some, Option.isSome_some]) (fun f => by
      rw [M.slices_IndexFunc_Type_Type_3_l0]; simp)
    have e2 : M.slices_ContainsFunc_Type_Type_3 (M.i_hasKind_n m) t.Kids ks = some (t.Kids.any (tHas (fun k => ks.any fun x => k == x))) := by
      unfold M.slices_ContainsFunc_Type_Type_3 M.slices_IndexFunc_Type_Type_3
      rw [e, findIdx_any]
      cases t.Kids.findIdx? (tHas (fun k => ks.any fun x => k == x)) <;> simp
    show M.i_hasKind_b (M.i_hasKind_n m) t ks = _
    unfold M.i_hasKind_b
    rw [e2, contains_i ks _ hk, tHas_eq, kHas_any]
    simp

/-! ### depth, parts -/

theorem kSum_le : ∀ (l : List SType), (∀ x ∈ l, tParts x ≤ x.sz + 1) → kSum l ≤ szL SType.sz l
  | [], _ => Nat.le_refl _
  | x :: r, h => by
    have := kSum_le r fun y hy => h y (List.mem_cons_of_mem _ hy)
    have := h x (List.mem_cons_self ..)
    simp only [kSum, szL]; omega
theorem tParts_le' : ∀ (n : Nat) (t : SType), t.sz < n → tParts t ≤ t.sz + 1
  | 0, t, h => absurd h (Nat.not_lt_zero _)
  | n + 1, t, h => by
    have := kSum_le t.Kids fun x hx => tParts_le' n x (by have := SType.kid_lt hx; omega)
    rw [tParts_eq, SType.sz_eq]; omega
theorem tParts_le (t : SType) : tParts t ≤ t.sz + 1 := tParts_le' _ t (Nat.lt_succ_self _)
theorem kSum_sz {l : List SType} {N : Nat} (h : szL SType.sz l ≤ N) : kSum l ≤ N := Nat.le_trans (kSum_le l fun x _ => tParts_le x) h
theorem parts_i : ∀ (m : Nat) (t : SType), t.sz < m → t.sz ≤ 1048576 → M.i_parts_n m t = some ((tParts t : Nat) : Int)
  | 0, t, h, _ => absurd h (Nat.not_lt_zero _)
  | m + 1, t, h, hN => by
    have hl := SType.kids_len hN
    have hs := kSum_sz (SType.kids_le hN)
    have key : ∀ f k (a : Nat), k ≤ t.Kids.length → t.Kids.length - k < f → a + kSum (t.Kids.drop k) ≤ 1048577 → M.i_parts_l0 (M.i_parts_n m) t.Kids (t.Kids.length : Int) f (a : Int) (k : Int) = some (((a + kSum (t.Kids.drop k) : Nat)) : Int) := by
      intro f
      induction f with
      | zero => intro k a h1 h2; omega
      | succ f ih =>
        intro k a h1 h2 h3
        rcases Nat.lt_or_ge k t.Kids.length with hk | hk
        · rw [M.i_parts_l0]
          have hx := SType.kid_lt (List.getElem_mem hk)
          rw [kSum_drop hk] at h3 ⊢
          have hw : Go.IntKind.wrap .i64 ((a : Int) + ((tParts t.Kids[k] : Nat) : Int)) = ((a + tParts t.Kids[k] : Nat) : Int) := by rw [wrap_i64 (by omega) (by omega)]; omega
          simp only [SType.re_eq, getD_lt hk, parts_i m t.Kids[k] (by omega) (by omega), Int.toNat_natCast, inB_nat, Int.ofNat_lt, hk, decide_true, cond_true, Bool.true_and, Bool.and_true, wrapk hk (by omega : t.Kids.length < 2 ^ 62), Option.getD_some, Option.isSome_some, hw]
          rw [ih (k + 1) _ (by omega) (by omega) (by omega)]
          congr 1; omega
        · have : k = t.Kids.length := by omega
          subst this
          rw [M.i_parts_l0]
          simp [List.drop_length, kSum]
    show M.i_parts_b (M.i_parts_n m) t = _
    unfold M.i_parts_b
    have e := key bigN 0 1 (Nat.zero_le _) (by have := bigN_le; omega) (by simp only [List.drop_zero]; omega)
    have e' : M.i_parts_l0 (M.i_parts_n m) t.Kids (t.Kids.length : Int) bigN 1 0 = _ := e
    rw [e', tParts_eq]; rfl

theorem deep_i : ∀ (m : Nat) (t : SType) (L : Nat), L < m → L ≤ 100 → t.sz ≤ 1048576 → M.i_deep_n m t (L : Int) = some ((min (tDepth t) (L + 1) : Nat) : Int)
  | 0, t, L, h, _, _ => absurd h (Nat.not_lt_zero _)
  | m + 1, t, L, h, hL, hN => by
    have hl := SType.kids_len hN
    show M.i_deep_b (M.i_deep_n m) t (L : Int) = _
    unfold M.i_deep_b
    cases L with
    | zero =>
      have := tDepth_pos t
      rw [show min (tDepth t) (0 + 1) = 1 by omega]; rfl
    | succ L =>
      have hw0 : Go.IntKind.wrap .i64 (((L + 1 : Nat) : Int) - 1) = (L : Int) := by rw [wrap_i64 (by omega) (by omega)]; omega
      have key : ∀ f k (a : Nat), k ≤ t.Kids.length → t.Kids.length - k < f → M.i_deep_l0 (M.i_deep_n m) ((L + 1 : Nat) : Int) t.Kids (t.Kids.length : Int) f (a : Int) (k : Int) = some ((max a (min (kMax (t.Kids.drop k)) (L + 1)) : Nat) : Int) := by
        intro f
        induction f with
        | zero => intro k a h1 h2; omega
        | succ f ih =>
          intro k a h1 h2
          rcases Nat.lt_or_ge k t.Kids.length with hk | hk
          · rw [M.i_deep_l0]
            have hx := SType.kid_lt (List.getElem_mem hk)
            simp only [SType.re_eq, getD_lt hk, hw0, deep_i m t.Kids[k] L (by omega) (by omega) (by omega), Int.toNat_natCast, inB_nat, Int.ofNat_lt, hk, decide_true, cond_true, Bool.true_and, Bool.and_true, wrapk hk (by omega : t.Kids.length < 2 ^ 62), Option.getD_some, Option.isSome_some]
            have hm : (bif decide (a < min (tDepth t.Kids[k]) (L + 1)) then ((min (tDepth t.Kids[k]) (L + 1) : Nat) : Int) else (a : Int)) = ((max a (min (tDepth t.Kids[k]) (L + 1)) : Nat) : Int) := by
              by_cases hc : a < min (tDepth t.Kids[k]) (L + 1)
              · simp only [hc, decide_true, cond_true]; omega
              · simp only [hc, decide_false, cond_false]; omega
            rw [hm, ih (k + 1) _ (by omega) (by omega), kMax_drop hk]
            congr 1; omega
          · have : k = t.Kids.length := by omega
            subst this
            rw [M.i_deep_l0]
            simp [List.drop_length, kMax]
      have e := key bigN 0 0 (Nat.zero_le _) (by have := bigN_le; omega)
      have e' : M.i_deep_l0 (M.i_deep_n m) ((L + 1 : Nat) : Int) t.Kids (t.Kids.length : Int) bigN 0 0 = _ := e
      have d : (((L + 1 : Nat) : Int) == 0) = false := by rw [beq_eq_false_iff_ne]; omega
      rw [d, e', tDepth_eq]
      simp only [cond_false, List.drop_zero]
      rw [wrap_i64 (by omega) (by omega)]
      congr 1; omega
end M
set_option linter.unusedVariables false
set_option linter.unusedSimpArgs false
namespace M
open Go.V (inB slB bigN bigN_le)
def sizeR (d : Nat) (t : SType) : Int × Int := if d + tDepth t ≤ 5 ∧ tParts t ≤ 24 then (((tDepth t : Nat) : Int), ((tParts t : Nat) : Int)) else (5, 25)

theorem size_s : ∀ (m d : Nat) (t : SType), d ≤ 5 → 6 ≤ m + d → t.sz ≤ 1048576 → M.s_l03Size_n m t (d : Int) = some (sizeR d t)
  | 0, d, t, h1, h2, _ => by omega
  | m + 1, d, t, h1, h2, hN => by
    have hl := SType.kids_len hN
    have hdp := tDepth_pos t
    show M.s_l03Size_b (M.s_l03Size_n m) t (d : Int) = _
    unfold M.s_l03Size_b
    by_cases h5 : d = 5
    · subst h5
      have : sizeR 5 t = (5, 25) := by unfold sizeR; rw [if_neg (by omega)]
      rw [this]; rfl
    have d4 : decide ((4 : Int) < (d : Int)) = false := by rw [decide_eq_false_iff_not]; omega
    by_cases h24 : 24 < t.Kids.length
    · have : sizeR d t = (5, 25) := by
        unfold sizeR
        have := kSum_len t.Kids
        rw [if_neg (by rw [tParts_eq]; omega)]
      rw [this, d4]
      have : decide ((24 : Int) < ((t.Kids.length : Nat) : Int)) = true := by rw [decide_eq_true_eq]; omega
      rw [this]; rfl
    have d24 : decide ((24 : Int) < ((t.Kids.length : Nat) : Int)) = false := by rw [decide_eq_false_iff_not]; omega
    have hw : Go.IntKind.wrap .i64 ((d : Int) + 1) = ((d + 1 : Nat) : Int) := by rw [wrap_i64 (by omega) (by omega)]; omega
    have mx : ∀ a b : Nat, M.s_l00Max (a : Int) (b : Int) = some ((max a b : Nat) : Int) := fun a b => by
      unfold M.s_l00Max
      by_cases hc : b < a
      · have : decide ((b : Int) < (a : Int)) = true := by rw [decide_eq_true_eq]; omega
        rw [this]; simp only [cond_true]; congr 1; omega
      · have : decide ((b : Int) < (a : Int)) = false := by rw [decide_eq_false_iff_not]; omega
        rw [this]; simp only [cond_false]; congr 1; omega
    have key : ∀ f k (a p : Nat), k ≤ t.Kids.length → t.Kids.length - k < f → p ≤ 24 → M.s_l03Size_l0 (M.s_l03Size_n m) (d : Int) f (a : Int) (p : Int) (k : Int) t =
        some (if d + 1 + kMax (t.Kids.drop k) ≤ 5 ∧ p + kSum (t.Kids.drop k) ≤ 24 then .inr (((max a (kMax (t.Kids.drop k)) : Nat) : Int), ((p + kSum (t.Kids.drop k) : Nat) : Int)) else .inl (5, 25)) := by
      intro f
      induction f with
      | zero => intro k a p h1 h2; omega
      | succ f ih =>
        intro k a p h1 h2 h3
        rcases Nat.lt_or_ge k t.Kids.length with hk | hk
        · rw [M.s_l03Size_l0]
          have hx := SType.kid_lt (List.getElem_mem hk)
          have hc := size_s m (d + 1) t.Kids[k] (by omega) (by omega) (by omega)
          rw [kMax_drop hk, kSum_drop hk]
          simp only [SType.re_eq, getD_lt hk, hw, hc, Int.toNat_natCast, inB_nat, Int.ofNat_lt, hk, decide_true, cond_true, Bool.true_and, Bool.and_true, wrapk hk (by omega : t.Kids.length < 2 ^ 62), Option.getD_some, Option.isSome_some]
          unfold sizeR
          by_cases hv : d + 1 + tDepth t.Kids[k] ≤ 5 ∧ tParts t.Kids[k] ≤ 24
          · rw [if_pos hv]
            have hw2 : Go.IntKind.wrap .i64 ((p : Int) + ((tParts t.Kids[k] : Nat) : Int)) = ((p + tParts t.Kids[k] : Nat) : Int) := by rw [wrap_i64 (by omega) (by omega)]; omega
            dsimp only
            rw [hw2, mx]
            by_cases hp : 24 < p + tParts t.Kids[k]
            · have : decide ((24 : Int) < ((p + tParts t.Kids[k] : Nat) : Int)) = true := by rw [decide_eq_true_eq]; omega
              rw [this, if_neg (by omega)]
              simp
            · have : decide ((24 : Int) < ((p + tParts t.Kids[k] : Nat) : Int)) = false := by rw [decide_eq_false_iff_not]; omega
              rw [this]
              simp only [cond_false, Option.isSome_some, Bool.true_and, cond_true, Option.getD_some]
              rw [ih (k + 1) _ _ (by omega) (by omega) (by omega)]
              have e1 : (d + 1 + kMax (t.Kids.drop (k + 1)) ≤ 5 ∧ p + tParts t.Kids[k] + kSum (t.Kids.drop (k + 1)) ≤ 24) ↔ (d + 1 + max (tDepth t.Kids[k]) (kMax (t.Kids.drop (k + 1))) ≤ 5 ∧ p + (tParts t.Kids[k] + kSum (t.Kids.drop (k + 1))) ≤ 24) := by omega
              by_cases hq : d + 1 + kMax (t.Kids.drop (k + 1)) ≤ 5 ∧ p + tParts t.Kids[k] + kSum (t.Kids.drop (k + 1)) ≤ 24
              · rw [if_pos hq, if_pos (e1.1 hq)]
                congr 3
                · omega
                · omega
              · rw [if_neg hq, if_neg (fun h => hq (e1.2 h))]
          · rw [if_neg hv, if_neg (by omega)]
            have hw2 : Go.IntKind.wrap .i64 ((p : Int) + 25) = (p : Int) + 25 := wrap_i64 (by omega) (by omega)
            have mx5 : M.s_l00Max (a : Int) 5 = some ((max a 5 : Nat) : Int) := mx a 5
            dsimp only
            rw [hw2, mx5]
            have : decide ((24 : Int) < (p : Int) + 25) = true := by rw [decide_eq_true_eq]; omega
            rw [this]; simp
        · have : k = t.Kids.length := by omega
          subst this
          rw [M.s_l03Size_l0, List.drop_length]
          have hq : d + 1 + kMax [] ≤ 5 ∧ p + kSum [] ≤ 24 := ⟨by show d + 1 + 0 ≤ 5; omega, by show p + 0 ≤ 24; omega⟩
          rw [if_pos hq]
          simp [kMax, kSum]
    have e := key bigN 0 0 1 (Nat.zero_le _) (by have := bigN_le; omega) (by omega)
    have e' : M.s_l03Size_l0 (M.s_l03Size_n m) (d : Int) bigN 0 1 0 t = _ := e
    rw [SType.re_eq, d4, d24, e']
    simp only [List.drop_zero, Bool.or_self, cond_false]
    unfold sizeR
    rw [tDepth_eq, tParts_eq]
    by_cases hq : d + 1 + kMax t.Kids ≤ 5 ∧ 1 + kSum t.Kids ≤ 24
    · rw [if_pos hq, if_pos (by omega)]
      simp only
      congr 2
      rw [wrap_i64 (by omega) (by omega)]; omega
    · rw [if_neg hq, if_neg (by omega)]

theorem kHas_first {p : Int → Bool} {l : List SType} (h : l.length = 1) : tHas p (l.getD 0 SType.zero) = kHas p l := by
  match l, h with
  | [x], _ => simp [kHas]
theorem tHas_cong {p q : Int → Bool} (h : ∀ k, p k = q k) : tHas p = tHas q := by
  have : p = q := funext h
  rw [this]
theorem b21 (k : Int) : (decide ((21 : Int) ≤ k) && decide (k ≤ 21)) = (k == 21) := by
  rw [Bool.eq_iff_iff]; simp only [Bool.and_eq_true, decide_eq_true_eq, beq_iff_eq]; omega
theorem len_beq (n m : Nat) : (((n : Nat) : Int) == ((m : Nat) : Int)) = (n == m) := by
  rw [Bool.eq_iff_iff]; simp only [beq_iff_eq]; omega
theorem len_beq1 (n : Nat) : (((n : Nat) : Int) == 1) = (n == 1) := len_beq n 1
theorem len_beq2 (n : Nat) : (((n : Nat) : Int) == 2) = (n == 2) := len_beq n 2
theorem len_beq0 (n : Nat) : (((n : Nat) : Int) == 0) = (n == 0) := len_beq n 0
theorem inB0 (n : Nat) : inB (0 : Int) n = decide (0 < n) := inB_nat 0 n

theorem shape_s (t : SType) (h : t.sz ≤ 1048576) : M.s_l03Shape t = some (shape1 t) := by
  have hn := nameOk_s t.Name (SType.name_le h)
  have hb := labels_s t.Labels (SType.labels_le h)
  have hu := units_s t h
  have hh : t.Kids.length = 1 → M.s_l03Has (M.SType.re (List.getD t.Kids 0 SType.zero)) 21 21 = some (kHas (fun k => k == 21) t.Kids) := fun h1 => by
    have hx : (t.Kids.getD 0 SType.zero).sz < t.sz := by
      rw [getD_lt (by omega)]; exact SType.kid_lt (List.getElem_mem _)
    rw [SType.re_eq, show M.s_l03Has = M.s_l03Has_n bigN from rfl, has_s 21 21 bigN _ (bigN_gt (by omega)) (by omega), tHas_cong b21, kHas_first h1]
  unfold M.s_l03Shape
  simp only [SType.re_eq, hn, hb, hu, Option.getD_some, Option.isSome_some, Bool.true_or, Bool.and_true, Bool.true_and, cond_true, len_beq1, len_beq2, len_beq0, len_beq, inB0, Int.toNat_zero]
  unfold shape1 kidsB
  have e0 : decide ((0 : Int) < ((t.Labels.length : Nat) : Int)) = !(t.Labels.length == 0) := by
    rw [Bool.eq_iff_iff]; simp only [decide_eq_true_eq, Bool.not_eq_true', beq_eq_false_iff_ne]; omega
  have e1 : decide ((1 : Int) ≤ ((t.Kids.length : Nat) : Int)) = decide (1 ≤ t.Kids.length) := by simp only [decide_eq_decide]; omega
  have e2 : decide (((t.Kids.length : Nat) : Int) ≤ 6) = decide (t.Kids.length ≤ 6) := by simp only [decide_eq_decide]; omega
  rw [e0, e1, e2]
  have lab0 : labOk t.Labels = true → (t.Labels.length == 0) = false := fun h => by
    simp only [labOk, Bool.and_eq_true, decide_eq_true_eq] at h
    rw [beq_eq_false_iff_ne]; omega
  have nam0 : nameOk t.Name = true → (t.Name == []) = false := fun h => by
    simp only [nameOk, Bool.and_eq_true, decide_eq_true_eq] at h
    rw [beq_eq_false_iff_ne]; intro e; rw [e] at h; simp at h
  unfold namedB labB
  have hz : t.Kids.length = 1 → decide (0 < t.Kids.length) = true := fun h1 => by rw [h1]; rfl
  have hl1 : (t.Kids.length == 1) = true → t.Kids.length = 1 := fun h1 => by simpa using h1
  have hbr : (t.Kids.length == 1) = true → M.s_l03Has (M.SType.re (List.getD t.Kids 0 SType.zero)) 21 21 = some (kHas (fun k => k == 21) t.Kids) ∧ decide (0 < t.Kids.length) = true := fun h1 => ⟨hh (hl1 h1), hz (hl1 h1)⟩
  clear hn hb hu hh hz hl1
  simp only [SType.re_eq] at hbr ⊢
  generalize hK : t.Kind = K
  generalize (t.Name == []) = nn at nam0 ⊢
  generalize nameOk t.Name = no at nam0 ⊢
  generalize labOk t.Labels = lo at lab0 ⊢
  generalize (t.Labels.length == 0) = ll at lab0 ⊢
  generalize M.s_l03Has (List.getD t.Kids 0 SType.zero) 21 21 = o at hbr ⊢
  generalize decide (0 < t.Kids.length) = z at hbr ⊢
  generalize (t.Kids.length == 1) = l1 at hbr ⊢
  generalize kHas (fun k => k == 21) t.Kids = kh at hbr ⊢
  generalize t.Kids.any unitB = au
  generalize (t.Kids.length == 2) = l2
  generalize (t.Kids.length == 0) = l0
  generalize (t.Kids.length == t.Labels.length) = lk
  generalize decide (1 ≤ t.Kids.length) = ge
  generalize decide (t.Kids.length ≤ 6) = le
  clear hK h e0 e1 e2
  by_cases h12 : K = 12
  · subst h12
    cases l1
    · cases no <;> cases nn <;> simp at nam0 <;> cases lo <;> cases ll <;> simp at lab0 <;> simp
    · obtain ⟨rfl, rfl⟩ := hbr rfl
      cases no <;> cases nn <;> simp at nam0 <;> cases lo <;> cases ll <;> simp at lab0 <;> simp
  by_cases h13 : K = 13
  · subst h13
    cases l1
    · cases no <;> cases nn <;> simp at nam0 <;> cases lo <;> cases ll <;> simp at lab0 <;> simp
    · obtain ⟨rfl, rfl⟩ := hbr rfl
      cases no <;> cases nn <;> simp at nam0 <;> cases lo <;> cases ll <;> simp at lab0 <;> simp
  by_cases h14 : K = 14
  · subst h14
    cases l1
    · cases no <;> cases nn <;> simp at nam0 <;> cases lo <;> cases ll <;> simp at lab0 <;> simp
    · obtain ⟨rfl, rfl⟩ := hbr rfl
      cases no <;> cases nn <;> simp at nam0 <;> cases lo <;> cases ll <;> simp at lab0 <;> simp
  by_cases h15 : K = 15
  · subst h15
    cases l1
    · cases no <;> cases nn <;> simp at nam0 <;> cases lo <;> cases ll <;> simp at lab0 <;> simp
    · obtain ⟨rfl, rfl⟩ := hbr rfl
      cases no <;> cases nn <;> simp at nam0 <;> cases lo <;> cases ll <;> simp at lab0 <;> simp
  by_cases h16 : K = 16
  · subst h16
    cases l1
    · cases no <;> cases nn <;> simp at nam0 <;> cases lo <;> cases ll <;> simp at lab0 <;> simp
    · obtain ⟨rfl, rfl⟩ := hbr rfl
      cases no <;> cases nn <;> simp at nam0 <;> cases lo <;> cases ll <;> simp at lab0 <;> simp
  by_cases h17 : K = 17
  · subst h17
    cases l1
    · cases no <;> cases nn <;> simp at nam0 <;> cases lo <;> cases ll <;> simp at lab0 <;> simp
    · obtain ⟨rfl, rfl⟩ := hbr rfl
      cases no <;> cases nn <;> simp at nam0 <;> cases lo <;> cases ll <;> simp at lab0 <;> simp
  by_cases h18 : K = 18
  · subst h18
    cases l1
    · cases no <;> cases nn <;> simp at nam0 <;> cases lo <;> cases ll <;> simp at lab0 <;> simp
    · obtain ⟨rfl, rfl⟩ := hbr rfl
      cases no <;> cases nn <;> simp at nam0 <;> cases lo <;> cases ll <;> simp at lab0 <;> simp
  by_cases h19 : K = 19
  · subst h19
    cases l1
    · cases no <;> cases nn <;> simp at nam0 <;> cases lo <;> cases ll <;> simp at lab0 <;> simp
    · obtain ⟨rfl, rfl⟩ := hbr rfl
      cases no <;> cases nn <;> simp at nam0 <;> cases lo <;> cases ll <;> simp at lab0 <;> simp
  by_cases h20 : K = 20
  · subst h20
    cases l1
    · cases no <;> cases nn <;> simp at nam0 <;> cases lo <;> cases ll <;> simp at lab0 <;> simp
    · obtain ⟨rfl, rfl⟩ := hbr rfl
      cases no <;> cases nn <;> simp at nam0 <;> cases lo <;> cases ll <;> simp at lab0 <;> simp
  by_cases h21 : K = 21
  · subst h21
    cases l1
    · cases no <;> cases nn <;> simp at nam0 <;> cases lo <;> cases ll <;> simp at lab0 <;> simp
    · obtain ⟨rfl, rfl⟩ := hbr rfl
      cases no <;> cases nn <;> simp at nam0 <;> cases lo <;> cases ll <;> simp at lab0 <;> simp
  by_cases h22 : K = 22
  · subst h22
    cases l1
    · cases no <;> cases nn <;> simp at nam0 <;> cases lo <;> cases ll <;> simp at lab0 <;> simp
    · obtain ⟨rfl, rfl⟩ := hbr rfl
      cases no <;> cases nn <;> simp at nam0 <;> cases lo <;> cases ll <;> simp at lab0 <;> simp
  by_cases h23 : K = 23
  · subst h23
    cases l1
    · cases no <;> cases nn <;> simp at nam0 <;> cases lo <;> cases ll <;> simp at lab0 <;> simp
    · obtain ⟨rfl, rfl⟩ := hbr rfl
      cases no <;> cases nn <;> simp at nam0 <;> cases lo <;> cases ll <;> simp at lab0 <;> simp
  have q1 : (K == 20) = false := by simpa using h20
  have q2 : (K == 21) = false := by simpa using h21
  have q3 : (decide ((16 : Int) ≤ K) && decide (K ≤ 19)) = false := by
    rw [Bool.eq_false_iff]; simp only [ne_eq, Bool.and_eq_true, decide_eq_true_eq]; omega
  have q4 : (K == 12) = false := by simpa using h12
  have q5 : (K == 13) = false := by simpa using h13
  have q6 : (K == 14) = false := by simpa using h14
  have q7 : (K == 15) = false := by simpa using h15
  have q8 : (K == 16) = false := by simpa using h16
  have q9 : (K == 17) = false := by simpa using h17
  have q10 : (K == 22) = false := by simpa using h22
  have q11 : (K == 23) = false := by simpa using h23
  simp only [q1, q2, q3, q4, q5, q6, q7, q8, q9, q10, q11, h12, h13, h14, h15, h16, h17, h22, h23, or_self, if_false]
  cases nn <;> cases ll <;> simp
end M
set_option linter.unusedVariables false
set_option linter.unusedSimpArgs false
namespace M
open Go.V (inB slB bigN bigN_le)

theorem tshape_s : ∀ (m : Nat) (t : SType), t.sz < m → t.sz ≤ 1048576 → M.s_l03Parts_n m t = some (tShape t)
  | 0, t, h, _ => absurd h (Nat.not_lt_zero _)
  | m + 1, t, h, hN => by
    have hl := SType.kids_len hN
    have e := all_list (p := tShape) (F := fun f i => M.s_l03Parts_l0 (M.s_l03Parts_n m) f i t) (e := ()) (b := false) t.Kids (by omega) (fun f k hk => by
      show M.s_l03Parts_l0 (M.s_l03Parts_n m) (f + 1) (k : Int) t = _
      rw [M.s_l03Parts_l0]
      have hx := SType.kid_lt (List.getElem_mem hk)
      simp only [SType.re_eq, getD_lt hk, tshape_s m t.Kids[k] (by omega) (by omega), Int.toNat_natCast, inB_nat, Int.ofNat_lt, hk, decide_true, cond_true, Bool.true_or, Bool.true_and, Bool.and_true, wrapk hk (by omega : t.Kids.length < 2 ^ 62), Option.getD_some, Option.isSome_some]
      cases tShape t.Kids[k] <;> rfl) (fun f => by
      show M.s_l03Parts_l0 (M.s_l03Parts_n m) (f + 1) _ t = _
      rw [M.s_l03Parts_l0]; simp)
    show M.s_l03Parts_b (M.s_l03Parts_n m) t = _
    unfold M.s_l03Parts_b
    have e' : M.s_l03Parts_l0 (M.s_l03Parts_n m) bigN 0 t = _ := e
    rw [SType.re_eq, shape_s t hN, e', tShape_eq, kShape_all]
    cases shape1 t <;> cases t.Kids.all tShape <;> simp

theorem ok_s (t : SType) (h : t.sz ≤ 1048576) : M.s_l03Ok t = some (tOk t) := by
  unfold M.s_l03Ok
  have e1 : M.s_l03Parts t = some (tShape t) := tshape_s bigN t (bigN_gt h) h
  have e2 : M.s_l03Size t 1 = some (sizeR 1 t) := size_s bigN 1 t (by omega) (by have := bigN_le; omega) h
  simp only [SType.re_eq, e1, e2, Option.getD_some, Option.isSome_some, Bool.true_or, Bool.and_true, cond_true]
  unfold tOk sizeR
  by_cases hq : 1 + tDepth t ≤ 5 ∧ tParts t ≤ 24
  · rw [if_pos hq]
    have a1 : decide (((tDepth t : Nat) : Int) ≤ 4) = decide (tDepth t ≤ 4) := by simp only [decide_eq_decide]; omega
    have a2 : decide (((tParts t : Nat) : Int) ≤ 24) = decide (tParts t ≤ 24) := by simp only [decide_eq_decide]; omega
    dsimp only
    rw [a1, a2]
  · rw [if_neg hq]
    have : (decide (tDepth t ≤ 4) && decide (tParts t ≤ 24)) = false := by
      rw [Bool.eq_false_iff]; simp only [ne_eq, Bool.and_eq_true, decide_eq_true_eq]; omega
    rw [this]; rfl
end M
set_option linter.unusedVariables false
set_option linter.unusedSimpArgs false
namespace M
open Go.V (inB slB bigN bigN_le)

theorem units_i (l : List SType) (hl : l.length ≤ 1048576) : M.slices_ContainsFunc_Type_Type_2 l = some (l.any unitB) := by
  have e := find_list (p := unitB) (F := M.slices_IndexFunc_Type_Type_2_l0 l (l.length : Int)) (e := ()) (fun k => k) l (by omega) (fun f k hk => by
    rw [M.slices_IndexFunc_Type_Type_2_l0]
    simp only [getD_lt hk, Int.toNat_natCast, inB_nat, Int.ofNat_lt, hk, decide_true, cond_true, Bool.true_or, Bool.true_and, Bool.and_true, wrapk hk (by omega : l.length < 2 ^ 62)]
    rfl) (fun f => by rw [M.slices_IndexFunc_Type_Type_2_l0]; simp)
  unfold M.slices_ContainsFunc_Type_Type_2 M.slices_IndexFunc_Type_Type_2
  rw [e, findIdx_any]
  cases l.findIdx? unitB <;> simp
theorem kidsOk_i (t : SType) (h : t.sz ≤ 1048576) (n : Nat) : M.i_kidsOk t (n : Int) = some ((t.Kids.length == n) && !t.Kids.any unitB) := by
  unfold M.i_kidsOk
  rw [units_i t.Kids (SType.kids_len h)]
  simp only [Option.isSome_some, Bool.true_or, Bool.and_true, cond_true, Option.getD_some, len_beq]
theorem shape_i (t : SType) (h : t.sz ≤ 1048576) (rec : SType → Option Bool) (b : Bool) (hb : M.slices_ContainsFunc_Type_Type rec t.Kids = some (!b)) : M.i_shapeOk_b rec t = some (b && shape1 t) := by
  have hn := nameOk_i t.Name (SType.name_le h)
  have hlab := labels_i t.Labels (SType.labels_le h)
  have hk := kidsOk_i t h
  have hk1 : M.i_kidsOk t 1 = some ((t.Kids.length == 1) && !t.Kids.any unitB) := hk 1
  have hh : t.Kids.length = 1 → M.i_hasKind (M.SType.re (List.getD t.Kids 0 SType.zero)) [21] = some (kHas (fun k => k == 21) t.Kids) := fun h1 => by
    have hx : (t.Kids.getD 0 SType.zero).sz < t.sz := by
      rw [getD_lt (by omega)]; exact SType.kid_lt (List.getElem_mem _)
    have e : tHas (fun k => [(21 : Int)].any fun x => k == x) = tHas (fun k => k == 21) := tHas_cong fun k => by simp
    rw [SType.re_eq, show M.i_hasKind = M.i_hasKind_n bigN from rfl, has_i [21] (by simp) bigN _ (bigN_gt (by omega)) (by omega), e, kHas_first h1]
  unfold M.i_shapeOk_b
  simp only [SType.re_eq, hb, hn, hlab, hk, hk1, Option.getD_some, Option.isSome_some, Bool.true_or, Bool.and_true, Bool.true_and, cond_true, len_beq1, len_beq2, len_beq0, len_beq, inB0, Int.toNat_zero]
  unfold shape1 kidsB
  have e0 : decide ((0 : Int) < ((t.Labels.length : Nat) : Int)) = !(t.Labels.length == 0) := by
    rw [Bool.eq_iff_iff]; simp only [decide_eq_true_eq, Bool.not_eq_true', beq_eq_false_iff_ne]; omega
  have e1 : decide ((1 : Int) ≤ ((t.Kids.length : Nat) : Int)) = decide (1 ≤ t.Kids.length) := by simp only [decide_eq_decide]; omega
  have e2 : decide (((t.Kids.length : Nat) : Int) ≤ 6) = decide (t.Kids.length ≤ 6) := by simp only [decide_eq_decide]; omega
  rw [e0, e1, e2]
  unfold namedB labB
  have hz : t.Kids.length = 1 → decide (0 < t.Kids.length) = true := fun h1 => by rw [h1]; rfl
  have hl1 : (t.Kids.length == 1) = true → t.Kids.length = 1 := fun h1 => by simpa using h1
  have hbr : (t.Kids.length == 1) = true → M.i_hasKind (M.SType.re (List.getD t.Kids 0 SType.zero)) [21] = some (kHas (fun k => k == 21) t.Kids) ∧ decide (0 < t.Kids.length) = true := fun h1 => ⟨hh (hl1 h1), hz (hl1 h1)⟩
  clear hn hlab hk hk1 hh hz hl1 hb
  simp only [SType.re_eq] at hbr ⊢
  generalize hK : t.Kind = K
  generalize (t.Name == []) = nn
  generalize nameOk t.Name = no
  generalize labOk t.Labels = lo
  generalize (t.Labels.length == 0) = ll
  generalize M.i_hasKind (List.getD t.Kids 0 SType.zero) [21] = o at hbr ⊢
  generalize decide (0 < t.Kids.length) = z at hbr ⊢
  generalize (t.Kids.length == 1) = l1 at hbr ⊢
  generalize kHas (fun k => k == 21) t.Kids = kh at hbr ⊢
  generalize t.Kids.any unitB = au
  generalize (t.Kids.length == 2) = l2
  generalize (t.Kids.length == 0) = l0
  have lself : (t.Kids.length == t.Kids.length) = true := by simp
  rw [lself]
  generalize (t.Kids.length == t.Labels.length) = lk
  generalize decide (1 ≤ t.Kids.length) = ge
  generalize decide (t.Kids.length ≤ 6) = le
  clear hK h e0 e1 e2 lself
  cases b
  · simp
  by_cases h12 : K = 12
  · subst h12
    cases l1
    · cases no <;> cases nn <;> cases lo <;> cases ll <;> simp
    · obtain ⟨rfl, rfl⟩ := hbr rfl
      cases no <;> cases nn <;> cases lo <;> cases ll <;> simp
  by_cases h13 : K = 13
  · subst h13
    cases l1
    · cases no <;> cases nn <;> cases lo <;> cases ll <;> simp
    · obtain ⟨rfl, rfl⟩ := hbr rfl
      cases no <;> cases nn <;> cases lo <;> cases ll <;> simp
  by_cases h14 : K = 14
  · subst h14
    cases l1
    · cases no <;> cases nn <;> cases lo <;> cases ll <;> simp
    · obtain ⟨rfl, rfl⟩ := hbr rfl
      cases no <;> cases nn <;> cases lo <;> cases ll <;> simp
  by_cases h15 : K = 15
  · subst h15
    cases l1
    · cases no <;> cases nn <;> cases lo <;> cases ll <;> simp
    · obtain ⟨rfl, rfl⟩ := hbr rfl
      cases no <;> cases nn <;> cases lo <;> cases ll <;> simp
  by_cases h16 : K = 16
  · subst h16
    cases l1
    · cases no <;> cases nn <;> cases lo <;> cases ll <;> simp
    · obtain ⟨rfl, rfl⟩ := hbr rfl
      cases no <;> cases nn <;> cases lo <;> cases ll <;> simp
  by_cases h17 : K = 17
  · subst h17
    cases l1
    · cases no <;> cases nn <;> cases lo <;> cases ll <;> simp
    · obtain ⟨rfl, rfl⟩ := hbr rfl
      cases no <;> cases nn <;> cases lo <;> cases ll <;> simp
  by_cases h18 : K = 18
  · subst h18
    cases l1
    · cases no <;> cases nn <;> cases lo <;> cases ll <;> simp
    · obtain ⟨rfl, rfl⟩ := hbr rfl
      cases no <;> cases nn <;> cases lo <;> cases ll <;> simp
  by_cases h19 : K = 19
  · subst h19
    cases l1
    · cases no <;> cases nn <;> cases lo <;> cases ll <;> simp
    · obtain ⟨rfl, rfl⟩ := hbr rfl
      cases no <;> cases nn <;> cases lo <;> cases ll <;> simp
  by_cases h20 : K = 20
  · subst h20
    cases l1
    · cases no <;> cases nn <;> cases lo <;> cases ll <;> simp
    · obtain ⟨rfl, rfl⟩ := hbr rfl
      cases no <;> cases nn <;> cases lo <;> cases ll <;> simp
  by_cases h21 : K = 21
  · subst h21
    cases l1
    · cases no <;> cases nn <;> cases lo <;> cases ll <;> simp
    · obtain ⟨rfl, rfl⟩ := hbr rfl
      cases no <;> cases nn <;> cases lo <;> cases ll <;> simp
  by_cases h22 : K = 22
  · subst h22
    cases l1
    · cases no <;> cases nn <;> cases lo <;> cases ll <;> simp
    · obtain ⟨rfl, rfl⟩ := hbr rfl
      cases no <;> cases nn <;> cases lo <;> cases ll <;> simp
  by_cases h23 : K = 23
  · subst h23
    cases l1
    · cases no <;> cases nn <;> cases lo <;> cases ll <;> simp
    · obtain ⟨rfl, rfl⟩ := hbr rfl
      cases no <;> cases nn <;> cases lo <;> cases ll <;> simp
  have q1 : (K == 20) = false := by simpa using h20
  have q2 : (K == 21) = false := by simpa using h21
  have q3 : (decide ((16 : Int) ≤ K) && decide (K ≤ 19)) = false := by
    rw [Bool.eq_false_iff]; simp only [ne_eq, Bool.and_eq_true, decide_eq_true_eq]; omega
  have q4 : (K == 12) = false := by simpa using h12
  have q5 : (K == 13) = false := by simpa using h13
  have q6 : (K == 14) = false := by simpa using h14
  have q7 : (K == 15) = false := by simpa using h15
  have q8 : (K == 16) = false := by simpa using h16
  have q9 : (K == 17) = false := by simpa using h17
  have q10 : (K == 22) = false := by simpa using h22
  have q11 : (K == 23) = false := by simpa using h23
  simp only [q1, q2, q3, q4, q5, q6, q7, q8, q9, q10, q11, h12, h13, h14, h15, h16, h17, h22, h23, or_self, if_false]
  cases nn <;> cases ll <;> simp

theorem tshape_i : ∀ (m : Nat) (t : SType), t.sz < m → t.sz ≤ 1048576 → M.i_shapeOk_n m t = some (tShape t)
  | 0, t, h, _ => absurd h (Nat.not_lt_zero _)
  | m + 1, t, h, hN => by
    have hl := SType.kids_len hN
    have e := find_list (p := fun x => !tShape x) (F := M.slices_IndexFunc_Type_Type_l0 (M.i_shapeOk_n m) t.Kids (t.Kids.length : Int)) (e := ()) (fun k => k) t.Kids (by omega) (fun f k hk => by
      rw [M.slices_IndexFunc_Type_Type_l0]
      have hx := SType.kid_lt (List.getElem_mem hk)
      have c : M.i_shapeOk_c1 (M.i_shapeOk_n m) t.Kids[k] = some (!tShape t.Kids[k]) := by
        unfold M.i_shapeOk_c1
        simp only [SType.re_eq, tshape_i m t.Kids[k] (by omega) (by omega)]; rfl
      simp only [SType.re_eq, getD_lt hk, c, Int.toNat_natCast, inB_nat, Int.ofNat_lt, hk, decide_true, cond_true, Bool.true_or, Bool.true_and, Bool.and_true, wrapk hk (by omega : t.Kids.length < 2 ^ 62), Option.getD_some, Option.isSome_some]) (fun f => by
      rw [M.slices_IndexFunc_Type_Type_l0]; simp)
    have e2 : M.slices_ContainsFunc_Type_Type (M.i_shapeOk_n m) t.Kids = some (!kShape t.Kids) := by
      unfold M.slices_ContainsFunc_Type_Type M.slices_IndexFunc_Type_Type
      have e3 : (!kShape t.Kids) = t.Kids.any fun x => !tShape x := by rw [kShape_all, List.not_all_eq_any_not]
      rw [e, e3, findIdx_any]
      cases t.Kids.findIdx? (fun x => !tShape x) <;> simp
    show M.i_shapeOk_b (M.i_shapeOk_n m) t = _
    rw [shape_i t hN _ _ e2, tShape_eq, Bool.and_comm]

theorem typeOk_i (t : SType) (h : t.sz ≤ 1048576) : M.i_TypeOk t = some (tOk t) := by
  unfold M.i_TypeOk
  have e1 : M.i_shapeOk t = some (tShape t) := tshape_i bigN t (bigN_gt h) h
  have e2 : M.i_deep t 4 = some ((min (tDepth t) 5 : Nat) : Int) := deep_i bigN t 4 (by have := bigN_le; omega) (by omega) h
  have e3 : M.i_parts t = some ((tParts t : Nat) : Int) := parts_i bigN t (bigN_gt h) h
  simp only [SType.re_eq, e1, e2, e3, Option.getD_some, Option.isSome_some, Bool.true_or, Bool.and_true, cond_true]
  have a1 : decide (((min (tDepth t) 5 : Nat) : Int) ≤ 4) = decide (tDepth t ≤ 4) := by simp only [decide_eq_decide]; omega
  have a2 : decide (((tParts t : Nat) : Int) ≤ 24) = decide (tParts t ≤ 24) := by simp only [decide_eq_decide]; omega
  rw [a1, a2]; rfl
end M
/-
  STREAMS: valid; over; can be read; can be written: both sides agree.
-/
set_option linter.unusedVariables false
set_option linter.unusedSimpArgs false
namespace M
open Go.V (inB slB bigN bigN_le)

theorem kb {a b : Int} (h : a ≠ b) : (a == b) = false := by rw [beq_eq_false_iff_ne]; exact h
def strB (k : Int) : Bool := decide ((20 : Int) ≤ k) && decide (k ≤ 23)
def typB (t : SType) : Bool := (tOk t && !unitB t) && !tHas strB t
theorem strB_any (k : Int) : ([(20 : Int), 21, 22, 23].any fun x => k == x) = strB k := by
  unfold strB
  by_cases h : 20 ≤ k ∧ k ≤ 23
  · have : k = 20 ∨ k = 21 ∨ k = 22 ∨ k = 23 := by omega
    rcases this with rfl | rfl | rfl | rfl <;> rfl
  · simp only [List.any_cons, List.any_nil, kb (show k ≠ 20 by omega), kb (show k ≠ 21 by omega), kb (show k ≠ 22 by omega), kb (show k ≠ 23 by omega), Bool.or_self]
    symm; rw [Bool.and_eq_false_iff]
    by_cases h0 : (20 : Int) ≤ k
    · right; exact decide_eq_false (by omega)
    · left; exact decide_eq_false h0
theorem type_s (t : SType) (h : t.sz ≤ 1048576) : M.s_l21Type t = some (typB t) := by
  unfold M.s_l21Type typB
  have e : M.s_l03Has t 20 23 = some (tHas strB t) := has_s 20 23 bigN t (bigN_gt h) h
  simp only [SType.re_eq, ok_s t h, e, Option.getD_some, Option.isSome_some, Bool.true_or, Bool.and_true, cond_true, bne_not', unitB]
theorem type_i (t : SType) (h : t.sz ≤ 1048576) : M.i_streamable t = some (typB t) := by
  unfold M.i_streamable typB
  have e : M.i_hasKind t [20, 21, 22, 23] = some (tHas strB t) := by
    have := has_i [20, 21, 22, 23] (by simp) bigN t (bigN_gt h) h
    rw [tHas_cong strB_any] at this; exact this
  simp only [SType.re_eq, typeOk_i t h, e, Option.getD_some, Option.isSome_some, Bool.true_or, Bool.and_true, cond_true, unitB]

end M
