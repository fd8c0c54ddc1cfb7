/-
  Part of the proof of the claim.
-/
import Derived.Test.YtjpehkgnlgbikaaGreatDoorXApl5
import Derived.Test.YtjpehkgnlgbikaaGreatDoorXAU
namespace M
theorem nodup_len {α : Type} [DecidableEq α] : ∀ (s l : List α), s.Nodup → (∀ x ∈ s, x ∈ l) → s.length ≤ l.length
  | [], l, _, _ => by simp
  | a :: s, l, hs, h => by
    rw [List.nodup_cons] at hs
    have ha := h a (List.mem_cons_self ..)
    have := nodup_len s (l.erase a) hs.2 (fun x hx => by
      have hne : x ≠ a := fun q => hs.1 (q ▸ hx)
      exact (List.mem_erase_of_ne hne).2 (h x (List.mem_cons_of_mem _ hx)))
    rw [List.length_erase_of_mem ha] at this
    have hp := List.length_pos_of_mem ha
    rw [List.length_cons]; omega
/-- each is above the one ahead of it -/
def riseB (l : List Int) : Bool := (List.range l.length).all fun i => i == 0 || decide (l.getD (i - 1) 0 < l.getD i 0)
theorem rise_nodup {l : List Int} (h : riseB l = true) : l.Nodup := by
  have h1 : ∀ i, i + 1 < l.length → l.getD i 0 < l.getD (i + 1) 0 := fun i hi => by
    have := List.all_eq_true.1 h (i + 1) (List.mem_range.2 hi)
    simpa using this
  have h2 : ∀ d i, i + d + 1 < l.length → l.getD i 0 < l.getD (i + d + 1) 0 := fun d => by
    induction d with
    | zero => intro i hi; exact h1 i hi
    | succ d ih =>
      intro i hi
      have a := ih i (by omega)
      have b := h1 (i + d + 1) (by omega)
      have e : i + (d + 1) + 1 = i + d + 1 + 1 := by omega
      rw [e]; omega
  unfold List.Nodup
  rw [List.pairwise_iff_getElem]
  intro i j hi hj hij
  have := h2 (j - i - 1) i (by omega)
  rw [show i + (j - i - 1) + 1 = j by omega, List.getD_eq_getElem?_getD, List.getD_eq_getElem?_getD, List.getElem?_eq_getElem hi, List.getElem?_eq_getElem hj] at this
  simp only [Option.getD_some] at this
  omega
theorem rise_len {l : List Int} (h : riseB l = true) (N : Nat) (hb : ∀ x ∈ l, 1 ≤ x ∧ x ≤ (N : Int)) : l.length ≤ N := by
  have := nodup_len l ((List.range N).map fun i => ((i : Nat) : Int) + 1) (rise_nodup h) (fun x hx => by
    have := hb x hx
    rw [List.mem_map]
    exact ⟨(x - 1).toNat, List.mem_range.2 (by omega), by omega⟩)
  rw [List.length_map, List.length_range] at this
  exact this
end M
/-
  PROGRAMS, NOTES, SETS OF TASKS: both sides agree.
-/
set_option linter.unusedVariables false
set_option linter.unusedSimpArgs false
namespace M
open Go.V (inB slB bigN bigN_le)

theorem aop_same (o : SAop) : M.i_aopOk o = M.s_l22Aop o := by
  unfold M.i_aopOk M.s_l22Aop
  generalize SAop.Kind o = k
  generalize SAop.A o = a
  generalize SAop.B o = b
  by_cases h : 1 ≤ k ∧ k ≤ 12
  · have : k = 1 ∨ k = 2 ∨ k = 3 ∨ k = 4 ∨ k = 5 ∨ k = 6 ∨ k = 7 ∨ k = 8 ∨ k = 9 ∨ k = 10 ∨ k = 11 ∨ k = 12 := by omega
    rcases this with rfl | rfl | rfl | rfl | rfl | rfl | rfl | rfl | rfl | rfl | rfl | rfl <;> simp
    all_goals (try (rw [Bool.cond_eq_ite]))
    all_goals split
    all_goals
      congr 1
      rw [Bool.eq_iff_iff]
      simp only [Bool.and_eq_true, Bool.or_eq_true, Bool.not_eq_true', decide_eq_true_eq, decide_eq_false_iff_not, beq_iff_eq, reduceCtorEq, iff_false, Bool.false_eq_true] at *
      omega
  · have h1 : (decide (1 ≤ k) && decide (k ≤ 12)) = false := by simp; omega
    simp [h1]

theorem aop_some (o : SAop) : ∃ b, M.s_l22Aop o = some b := by
  unfold M.s_l22Aop
  cases (_ || _ : Bool) <;> simp only [cond_true, cond_false] <;> first | exact ⟨_, rfl⟩ | skip
  cases (_ || _ : Bool) <;> exact ⟨_, rfl⟩
noncomputable def aopOk (o : SAop) : Bool := (M.s_l22Aop o).getD false
theorem s_aop (o : SAop) : M.s_l22Aop o = some (aopOk o) := by
  obtain ⟨b, hb⟩ := aop_some o
  unfold aopOk; rw [hb]; rfl
theorem i_aop (o : SAop) : M.i_aopOk o = some (aopOk o) := by rw [aop_same, s_aop]

theorem s_ProgOk_loop (p : SProg) (hp : p.Ops.length < 2 ^ 62) : M.s_ProgOk_l0 p Go.V.bigN 0 = some (if p.Ops.all aopOk then .inr () else .inl false) := by
  have := loop_big (F := M.s_ProgOk_l0 p) (n := p.Ops.length) (res := fun k => some (if (p.Ops.drop k).all aopOk then .inr () else .inl false)) hp
    (fun f k hk ih => by
      rw [M.s_ProgOk_l0, all_drop _ hk]
      simp only [s_aop, getD_lt hk, Int.toNat_natCast, inB_nat, Int.ofNat_lt, hk, wrapk hk hp, ih]
      cases aopOk p.Ops[k] <;> simp)
    (fun f => by rw [M.s_ProgOk_l0]; simp)
  simpa using this
theorem s_ProgOk_some (p : SProg) (hp : p.Ops.length < 2 ^ 62) : M.s_ProgOk p = some ((decide (1 ≤ p.Inst) && decide (p.Inst ≤ 6)) && decide ((p.Ops.length : Int) ≤ 12) && p.Ops.all aopOk) := by
  unfold M.s_ProgOk
  rw [s_ProgOk_loop p hp, show decide (12 < (p.Ops.length : Int)) = !decide ((p.Ops.length : Int) ≤ 12) by rw [Bool.eq_iff_iff]; simp]
  cases decide (1 ≤ p.Inst) <;> cases decide (p.Inst ≤ 6) <;> cases decide ((p.Ops.length : Int) ≤ 12) <;> cases p.Ops.all aopOk <;> rfl

theorem indexFunc_loop (s : List SAop) (hs : s.length < 2 ^ 62) : M.slices_IndexFunc_Aop_Aop_l0 s (s.length : Int) Go.V.bigN 0 = some (match s.findIdx? (fun o => !aopOk o) with
    | some j => .inl (j : Int)
    | none => .inr ()) := by
  have := loop_big (F := M.slices_IndexFunc_Aop_Aop_l0 s (s.length : Int)) (n := s.length) (res := fun k => some (match (s.drop k).findIdx? (fun o => !aopOk o) with
    | some j => .inl ((j + k : Nat) : Int)
    | none => .inr ())) hs
    (fun f k hk ih => by
      rw [M.slices_IndexFunc_Aop_Aop_l0, drop_get hk, List.findIdx?_cons]
      simp only [i_aop, getD_lt hk, Int.toNat_natCast, inB_nat, Int.ofNat_lt, hk, wrapk hk hs, ih]
      cases aopOk s[k] <;> simp
      cases h : List.findIdx? (fun o => !aopOk o) (List.drop (k + 1) s) <;> simp
      omega)
    (fun f => by rw [M.slices_IndexFunc_Aop_Aop_l0]; simp)
  simpa using this

theorem containsFunc (s : List SAop) (hs : s.length < 2 ^ 62) : M.slices_ContainsFunc_Aop_Aop s = some (s.any fun o => !aopOk o) := by
  unfold M.slices_ContainsFunc_Aop_Aop M.slices_IndexFunc_Aop_Aop
  rw [indexFunc_loop s hs]
  cases h : s.findIdx? (fun o => !aopOk o) with
  | none =>
    have : s.any (fun o => !aopOk o) = false := by
      rw [List.findIdx?_eq_none_iff] at h
      rw [List.any_eq_false]; intro x hx; have := h x hx; simpa using this
    simp [this]
  | some j =>
    have : s.any (fun o => !aopOk o) = true := by
      rw [List.findIdx?_eq_some_iff_getElem] at h
      obtain ⟨hj, h1, -⟩ := h
      rw [List.any_eq_true]; exact ⟨s[j], List.getElem_mem hj, h1⟩
    simp [this]
theorem i_ProgOk_some (p : SProg) (hp : p.Ops.length < 2 ^ 62) : M.i_ProgOk p = some ((decide (1 ≤ p.Inst) && decide (p.Inst ≤ 6)) && decide ((p.Ops.length : Int) ≤ 12) && p.Ops.all aopOk) := by
  unfold M.i_ProgOk
  rw [containsFunc _ hp]
  have : (p.Ops.any fun o => !aopOk o) = !p.Ops.all aopOk := by rw [List.all_eq_not_any_not]; simp
  simp [this]


noncomputable def progB (p : SProg) : Bool := ((decide (1 ≤ p.Inst) && decide (p.Inst ≤ 6)) && decide ((p.Ops.length : Int) ≤ 12)) && p.Ops.all aopOk
theorem prog_s (p : SProg) (h : p.Ops.length ≤ 1048576) : M.s_ProgOk p = some (progB p) := s_ProgOk_some p (by omega)
theorem prog_i (p : SProg) (h : p.Ops.length ≤ 1048576) : M.i_ProgOk p = some (progB p) := i_ProgOk_some p (by omega)
noncomputable def progsB (l : List SProg) : Bool := (decide ((1 : Int) ≤ (l.length : Int)) && decide ((l.length : Int) ≤ 6)) && l.all progB
theorem progs_s (l : List SProg) (hl : l.length ≤ 1048576) (h : ∀ p ∈ l, p.Ops.length ≤ 1048576) : M.s_l22Progs l = some (progsB l) := by
  have e := all_list (p := progB) (F := M.s_l22Progs_l0 l) (e := ()) (b := false) l (by omega) (fun f k hk => by
    rw [M.s_l22Progs_l0]
    simp only [getD_lt hk, prog_s _ (h _ (List.getElem_mem hk)), Int.toNat_natCast, inB_nat, Int.ofNat_lt, hk, decide_true, cond_true, Bool.true_and, Bool.and_true, wrapk hk (by omega : l.length < 2 ^ 62), Option.getD_some, Option.isSome_some]
    cases progB l[k] <;> rfl) (fun f => by rw [M.s_l22Progs_l0]; simp)
  have e1 : decide ((l.length : Int) < 1) = !decide ((1 : Int) ≤ (l.length : Int)) := by rw [← decide_not]; simp only [decide_eq_decide]; omega
  have e2 : decide ((6 : Int) < (l.length : Int)) = !decide ((l.length : Int) ≤ 6) := by rw [← decide_not]; simp only [decide_eq_decide]; omega
  unfold M.s_l22Progs progsB
  rw [e, e1, e2]
  cases decide ((1 : Int) ≤ (l.length : Int)) <;> cases decide ((l.length : Int) ≤ 6) <;> cases l.all progB <;> rfl
theorem progs_i (l : List SProg) (hl : l.length ≤ 1048576) (h : ∀ p ∈ l, p.Ops.length ≤ 1048576) : M.i_progsOk l = some (progsB l) := by
  have e := find_list (p := fun p => !progB p) (F := M.slices_IndexFunc_Prog_Prog_l0 l (l.length : Int)) (e := ()) (fun k => k) l (by omega) (fun f k hk => by
    rw [M.slices_IndexFunc_Prog_Prog_l0]
    have ec : M.i_progsOk_c1 l[k] = some (!progB l[k]) := by unfold M.i_progsOk_c1; rw [prog_i _ (h _ (List.getElem_mem hk))]; rfl
    simp only [getD_lt hk, ec, Int.toNat_natCast, inB_nat, Int.ofNat_lt, hk, decide_true, cond_true, Bool.true_and, Bool.and_true, wrapk hk (by omega : l.length < 2 ^ 62), Option.getD_some, Option.isSome_some]) (fun f => by
    rw [M.slices_IndexFunc_Prog_Prog_l0]; simp)
  have e2 : M.slices_ContainsFunc_Prog_Prog l = some (!l.all progB) := by
    unfold M.slices_ContainsFunc_Prog_Prog M.slices_IndexFunc_Prog_Prog
    rw [e, List.not_all_eq_any_not, findIdx_any]
    cases l.findIdx? (fun p => !progB p) <;> simp
  unfold M.i_progsOk progsB
  rw [e2]
  simp only [Option.isSome_some, Option.getD_some, Bool.true_or, Bool.and_self, cond_true, Bool.not_not]
def noteB (n : SNote) : Bool := (decide ((1 : Int) ≤ n.Task) && decide (n.Task ≤ 8)) && (decide ((1 : Int) ≤ n.Kind) && decide (n.Kind ≤ 9))
theorem notes_i (l : List SNote) (hl : l.length ≤ 1048576) : M.i_notesOk l = some (decide ((l.length : Int) ≤ 120) && l.all noteB) := by
  have ec : ∀ n, M.i_notesOk_c1 n = some (!noteB n) := fun n => by unfold M.i_notesOk_c1 noteB; simp only [Bool.not_and]
  have e := find_list (p := fun p => !noteB p) (F := M.slices_IndexFunc_Note_Note_l0 l (l.length : Int)) (e := ()) (fun k => k) l (by omega) (fun f k hk => by
    rw [M.slices_IndexFunc_Note_Note_l0]
    simp only [getD_lt hk, ec, Int.toNat_natCast, inB_nat, Int.ofNat_lt, hk, decide_true, cond_true, Bool.true_and, Bool.and_true, wrapk hk (by omega : l.length < 2 ^ 62), Option.getD_some, Option.isSome_some]) (fun f => by
    rw [M.slices_IndexFunc_Note_Note_l0]; simp)
  have e2 : M.slices_ContainsFunc_Note_Note l = some (!l.all noteB) := by
    unfold M.slices_ContainsFunc_Note_Note M.slices_IndexFunc_Note_Note
    rw [e, List.not_all_eq_any_not, findIdx_any]
    cases l.findIdx? (fun p => !noteB p) <;> simp
  unfold M.i_notesOk
  rw [e2]
  simp only [Option.isSome_some, Option.getD_some, Bool.true_or, Bool.and_self, cond_true, Bool.not_not]

/-! ### loops that end with a tuple -/

theorem all_listY {α E Y : Type} {p : α → Bool} {F : Nat → Int → Option (Y ⊕ E)} {e : E} {b : Y} (a : List α) (ha : a.length < 2 ^ 62)
    (step : ∀ f k, ∀ h : k < a.length, F (f + 1) (k : Int) = bif p a[k] then F f ((k + 1 : Nat) : Int) else some (.inl b)) (stop : ∀ f, F (f + 1) (a.length : Int) = some (.inr e)) :
    F bigN 0 = some (if a.all p then .inr e else .inl b) := by
  have := loop_big (F := F) (n := a.length) (res := fun k => some (if (a.drop k).all p then .inr e else .inl b)) ha (fun f k hk ih => by
    rw [step f k hk, ih, all_drop p hk]
    cases p a[k] <;> simp) (fun f => by rw [stop, List.drop_length]; rfl)
  simpa using this
theorem all_loopY {E Y : Type} {p : Nat → Bool} {F : Nat → Int → Option (Y ⊕ E)} {e : E} {b : Y} (n : Nat) (hn : n < 2 ^ 62)
    (step : ∀ f k, k < n → F (f + 1) (k : Int) = bif p k then F f ((k + 1 : Nat) : Int) else some (.inl b)) (stop : ∀ f, F (f + 1) (n : Int) = some (.inr e)) :
    F bigN 0 = some (if (List.range n).all p then .inr e else .inl b) := by
  have := loop_big (F := F) (n := n) (res := fun k => some (if (List.range' k (n - k)).all p then .inr e else .inl b)) hn (fun f k hk ih => by
    rw [step f k hk, ih]
    have : List.range' k (n - k) = k :: List.range' (k + 1) (n - (k + 1)) := by
      rw [show n - k = (n - (k + 1)) + 1 by omega]; rfl
    rw [this, List.all_cons]
    cases p k
    · simp
    · rw [Bool.true_and]; rfl) (fun f => by rw [stop, Nat.sub_self]; rfl)
  rw [this, List.range_eq_range', Nat.sub_zero]

/-! ### lists that rise -/

def rk (l : List Int) (i : Nat) : Bool := i == 0 || decide (l.getD (i - 1) 0 < l.getD i 0)
theorem riseB_eq (l : List Int) : riseB l = (List.range l.length).all (rk l) := rfl
theorem rises_loop (l : List Int) (hl : l.length ≤ 1048576) : ∀ f k, l.length - k < f → 1 ≤ k → M.s_l22Rises_l0 l f (k : Int) = some (if (List.range' k (l.length - k)).all (rk l) then .inr () else .inl false) := by
  intro f
  induction f with
  | zero => intro k h; omega
  | succ f ih =>
    intro k h1 h2
    rw [M.s_l22Rises_l0]
    rcases Nat.lt_or_ge k l.length with hk | hk
    · have hw : Go.IntKind.wrap .i64 ((k : Int) - 1) = ((k - 1 : Nat) : Int) := by rw [wrap_i64 (by omega) (by omega)]; omega
      have hk1 : k - 1 < l.length := by omega
      have hr : List.range' k (l.length - k) = k :: List.range' (k + 1) (l.length - (k + 1)) := by
        rw [show l.length - k = (l.length - (k + 1)) + 1 by omega]; rfl
      have hrk : rk l k = !decide (l.getD k 0 ≤ l.getD (k - 1) 0) := by
        unfold rk
        rw [show (k == 0) = false by rw [beq_eq_false_iff_ne]; omega, Bool.false_or, ← decide_not]
        simp only [decide_eq_decide]; omega
      simp only [hw, Int.toNat_natCast, inB_nat, Int.ofNat_lt, hk, hk1, decide_true, cond_true, Bool.and_self, wrapk hk (by omega : l.length < 2 ^ 62)]
      rw [ih (k + 1) (by omega) (by omega), hr, List.all_cons, hrk]
      cases decide (l.getD k 0 ≤ l.getD (k - 1) 0)
      · rw [Bool.not_false, Bool.true_and]; rfl
      · rfl
    · rw [decide_eq_false (by omega), cond_false, show l.length - k = 0 by omega]; rfl
theorem rises_s (l : List Int) (hl : l.length ≤ 1048576) : M.s_l22Rises l = some (riseB l) := by
  have e := rises_loop l hl bigN 1 (by have := bigN_le; omega) (Nat.le_refl _)
  have e' : M.s_l22Rises_l0 l bigN 1 = _ := e
  have h : (List.range l.length).all (rk l) = (List.range' 1 (l.length - 1)).all (rk l) := by
    cases hn : l.length with
    | zero => rfl
    | succ n =>
      rw [List.range_eq_range', show List.range' 0 (n + 1) = 0 :: List.range' 1 n from rfl, List.all_cons]
      have : rk l 0 = true := rfl
      rw [this, Bool.true_and, Nat.add_sub_cancel]
  unfold M.s_l22Rises
  rw [e', riseB_eq, h]
  cases (List.range' 1 (l.length - 1)).all (rk l) <;> rfl
/-- what a rising list's loop asks at place k -/
theorem rk_ask (l : List Int) (k : Nat) (hk : k < l.length) (hl : l.length ≤ 1048576) : ((decide ((0 : Int) < (k : Int))) && decide (l.getD k 0 ≤ l.getD (Int.toNat (Go.IntKind.wrap .i64 ((k : Int) - 1))) 0)) = !rk l k := by
  unfold rk
  by_cases h : k = 0
  · subst h; rfl
  · have hw : Go.IntKind.wrap .i64 ((k : Int) - 1) = ((k - 1 : Nat) : Int) := by rw [wrap_i64 (by omega) (by omega)]; omega
    rw [hw, Int.toNat_natCast, decide_eq_true (show (0 : Int) < (k : Int) by omega), Bool.true_and, show (k == 0) = false by rw [beq_eq_false_iff_ne]; exact h, Bool.false_or, ← decide_not]
    simp only [decide_eq_decide]; omega
theorem rk_in (n k : Nat) (b : Bool) (hk : k < n) (hl : n ≤ 1048576) : (inB (Go.IntKind.wrap .i64 ((k : Int) - 1)) n || !((b == false) && (decide ((0 : Int) < (k : Int)) == true))) = true := by
  by_cases h : k = 0
  · subst h; simp
  · have hw : Go.IntKind.wrap .i64 ((k : Int) - 1) = ((k - 1 : Nat) : Int) := by rw [wrap_i64 (by omega) (by omega)]; omega
    rw [hw, inB_nat, decide_eq_true (by omega), Bool.true_or]
end M
/-
  TASKS: both sides agree.
-/
set_option linter.unusedVariables false
set_option linter.unusedSimpArgs false
namespace M
open Go.V (inB slB bigN bigN_le)

theorem inB_in {i : Int} {n : Nat} (h : 0 ≤ i ∧ i < (n : Int)) : inB i n = true := by
  obtain ⟨j, rfl⟩ := Int.eq_ofNat_of_zero_le h.1
  rw [inB_nat, decide_eq_true_eq]; omega
def hasB (l : List Int) (v : Int) : Bool := l.any fun x => v == x
theorem hasI_i (l : List Int) (v : Int) (hl : l.length ≤ 1048576) : M.slices_Contains_int64_int64 l v = some (hasB l v) := contains_i l v (by omega)
theorem has_l00 (l : List Int) (v : Int) (hl : l.length ≤ 1048576) : M.s_l00Has l v = some (hasB l v) := by
  have hc : (fun x : Int => v == x) = fun x => x == v := funext fun x => by rw [Bool.eq_iff_iff, beq_iff_eq, beq_iff_eq]; exact eq_comm
  have e := find_list (p := fun x => x == v) (F := M.s_l00Has_l0 l v) (e := ()) (fun _ => true) l (by omega) (fun f k hk => by
    rw [M.s_l00Has_l0]
    simp only [getD_lt hk, Int.toNat_natCast, inB_nat, Int.ofNat_lt, hk, decide_true, cond_true, Bool.and_true, wrapk hk (by omega : l.length < 2 ^ 62)]) (fun f => by
    rw [M.s_l00Has_l0]; simp)
  unfold M.s_l00Has hasB
  rw [e, hc, findIdx_any]
  cases l.findIdx? (fun x => x == v) <;> rfl
def subB (w : SAsync) (t : STask) (id : Int) : Bool := (decide ((1 : Int) ≤ id) && decide (id ≤ (w.Tasks.length : Int))) && ((w.Tasks.getD (id - 1).toNat STask.zero).Parent == t.Id)
theorem sub_ask (w : SAsync) (t : STask) (id : Int) (hn : w.Tasks.length ≤ 1048576) :
    ((!(decide ((1 : Int) ≤ id) && decide (id ≤ (w.Tasks.length : Int)))) || ((w.Tasks.getD (Int.toNat (Go.IntKind.wrap .i64 (id - 1))) STask.zero).Parent != t.Id)) = !subB w t id ∧
    (inB (Go.IntKind.wrap .i64 (id - 1)) w.Tasks.length || !((!(decide ((1 : Int) ≤ id) && decide (id ≤ (w.Tasks.length : Int)))) == false)) = true := by
  unfold subB
  by_cases h : 1 ≤ id ∧ id ≤ (w.Tasks.length : Int)
  · have hd : (decide ((1 : Int) ≤ id) && decide (id ≤ (w.Tasks.length : Int))) = true := by rw [Bool.and_eq_true, decide_eq_true_eq, decide_eq_true_eq]; exact h
    have hw : Go.IntKind.wrap .i64 (id - 1) = id - 1 := wrap_i64 (by omega) (by omega)
    rw [hd, hw]
    refine ⟨?_, ?_⟩
    · rw [bne_not', Bool.true_and, Bool.not_true, Bool.false_or]
    · rw [inB_in ⟨by omega, by omega⟩, Bool.true_or]
  · have hd : (decide ((1 : Int) ≤ id) && decide (id ≤ (w.Tasks.length : Int))) = false := by rw [Bool.eq_false_iff, ne_eq, Bool.and_eq_true, decide_eq_true_eq, decide_eq_true_eq]; exact h
    rw [hd]
    exact ⟨rfl, by simp⟩
def subsB (w : SAsync) (t : STask) : Bool := (t.Subs.all (subB w t) && riseB t.Subs) && (t.Set.all (hasB t.Subs) && riseB t.Set)
theorem subs_i (w : SAsync) (t : STask) (hn : w.Tasks.length ≤ 1048576) (h1 : t.Subs.length ≤ 1048576) (h2 : t.Set.length ≤ 1048576) : M.i_subsOk w t = some (subsB w t) := by
  have e0 := all_loop (p := fun k => subB w t (t.Subs.getD k 0) && rk t.Subs k) (F := M.i_subsOk_l0 t.Subs (t.Subs.length : Int) w t) (e := t) (b := false) t.Subs.length (by omega) (fun f k hk => by
    rw [M.i_subsOk_l0]
    obtain ⟨a1, a2⟩ := sub_ask w t (t.Subs.getD k 0) hn
    have r1 := rk_ask t.Subs k hk h1
    have r2 := rk_in t.Subs.length k (!subB w t (t.Subs.getD k 0)) hk h1
    simp only [Int.toNat_natCast, a1, a2, r1, r2, inB_nat, Int.ofNat_lt, hk, decide_true, cond_true, Bool.and_self, wrapk hk (by omega : t.Subs.length < 2 ^ 62)]
    cases subB w t (t.Subs.getD k 0) <;> cases rk t.Subs k <;> rfl) (fun f => by rw [M.i_subsOk_l0]; simp)
  have e1 := all_loop (p := fun k => hasB t.Subs (t.Set.getD k 0) && rk t.Set k) (F := M.i_subsOk_l1 t.Set (t.Set.length : Int) t) (e := ()) (b := false) t.Set.length (by omega) (fun f k hk => by
    rw [M.i_subsOk_l1]
    have r1 := rk_ask t.Set k hk h2
    have r2 := rk_in t.Set.length k (!hasB t.Subs (t.Set.getD k 0)) hk h2
    simp only [Int.toNat_natCast, hasI_i _ _ h1, Option.getD_some, Option.isSome_some, r1, r2, inB_nat, Int.ofNat_lt, hk, decide_true, cond_true, Bool.and_self, wrapk hk (by omega : t.Set.length < 2 ^ 62)]
    cases hasB t.Subs (t.Set.getD k 0) <;> cases rk t.Set k <;> rfl) (fun f => by rw [M.i_subsOk_l1]; simp)
  rw [all_and5 (fun k => subB w t (t.Subs.getD k 0)) (rk t.Subs), all_range5 (subB w t), ← riseB_eq] at e0
  rw [all_and5 (fun k => hasB t.Subs (t.Set.getD k 0)) (rk t.Set), all_range5 (hasB t.Subs), ← riseB_eq] at e1
  unfold M.i_subsOk subsB
  rw [e0]
  cases (t.Subs.all (subB w t) && riseB t.Subs)
  · rfl
  · simp only [if_true, e1, Bool.true_and]
    cases (t.Set.all (hasB t.Subs) && riseB t.Set) <;> rfl
theorem subs_s0 (n : Int) (w : SAsync) (t : STask) (hn : w.Tasks.length ≤ 1048576) (h1 : t.Subs.length ≤ 1048576) : M.s_l22Task_l0 n w t bigN 0 = some (if t.Subs.all (subB w t) then .inr (n, w.Progs, w.Streams, w.Tasks, w.Back, w.Notes, t) else .inl (false, w.Progs, w.Streams, w.Tasks, w.Back, w.Notes)) :=
  all_listY (p := subB w t) (F := M.s_l22Task_l0 n w t) t.Subs (by omega) (fun f k hk => by
    rw [M.s_l22Task_l0]
    obtain ⟨a1, a2⟩ := sub_ask w t t.Subs[k] hn
    simp only [Int.toNat_natCast, getD_lt hk, a1, a2, inB_nat, Int.ofNat_lt, hk, decide_true, cond_true, Bool.and_self, Bool.true_or, wrapk hk (by omega : t.Subs.length < 2 ^ 62)]
    cases subB w t t.Subs[k] <;> rfl) (fun f => by rw [M.s_l22Task_l0]; simp)
theorem subs_s1 (n : Int) (t : STask) (h1 : t.Subs.length ≤ 1048576) (h2 : t.Set.length ≤ 1048576) : M.s_l22Task_l1 n t bigN 0 = some (if t.Set.all (hasB t.Subs) then .inr (n, t) else .inl false) :=
  all_list (p := hasB t.Subs) (F := M.s_l22Task_l1 n t) t.Set (by omega) (fun f k hk => by
    rw [M.s_l22Task_l1]
    simp only [Int.toNat_natCast, getD_lt hk, has_l00 _ _ h1, Option.getD_some, Option.isSome_some, inB_nat, Int.ofNat_lt, hk, decide_true, cond_true, Bool.and_self, wrapk hk (by omega : t.Set.length < 2 ^ 62)]
    cases hasB t.Subs t.Set[k] <;> rfl) (fun f => by rw [M.s_l22Task_l1]; simp)
/-- what bounds the lengths -/
theorem subs_len {w : SAsync} {t : STask} (h8 : w.Tasks.length ≤ 8) (h : t.Subs.all (subB w t) = true) (hr : riseB t.Subs = true) : t.Subs.length ≤ 8 := by
  refine rise_len hr 8 fun x hx => ?_
  have := List.all_eq_true.1 h x hx
  unfold subB at this
  simp only [Bool.and_eq_true, decide_eq_true_eq] at this
  omega
theorem set_len {t : STask} (h : t.Set.all (hasB t.Subs) = true) (hr : riseB t.Set = true) : t.Set.length ≤ t.Subs.length := by
  refine nodup_len _ _ (rise_nodup hr) fun x hx => ?_
  have := List.all_eq_true.1 h x hx
  unfold hasB at this
  rw [List.any_eq_true] at this
  obtain ⟨y, hy, e⟩ := this
  rw [beq_iff_eq] at e
  rw [e]; exact hy

theorem wrapL' {n : Nat} (h : n ≤ 1048576) : Go.IntKind.wrap .i64 ((n : Int) - 1) = (n : Int) - 1 := wrap_i64 (by omega) (by omega)
def headN (w : SAsync) (t : STask) (k : Int) : Bool := ((((t.Id != (Go.IntKind.wrap .i64 (k + 1))) || (!(decide ((0 : Int) ≤ t.Prog) && decide (t.Prog ≤ (Go.IntKind.wrap .i64 ((w.Progs.length : Int) - 1)))))) || (!(decide ((0 : Int) ≤ t.Parent) && decide (t.Parent ≤ (Go.IntKind.wrap .i64 (t.Id - 1)))))) || (!(decide ((1 : Int) ≤ t.Status) && decide (t.Status ≤ 5))))
def endB (n : Int) (t : STask) : Bool := (!(t.Told && !((t.Returned || (t.Status == 4)) || (t.Status == 5)))) && (bif t.Status == 1 then (((t.PC == 0) && ((t.Subs.length : Int) == 0)) && !t.Returned) && !t.Asked else bif t.Status == 3 then t.Returned && (t.PC == n) else (!(t.Status == 4)) || !t.Returned)
def opsN (w : SAsync) (t : STask) : Int := ((w.Progs.getD t.Prog.toNat SProg.zero).Ops.length : Int)
def taskT (w : SAsync) (t : STask) (k : Int) : Bool := ((((!headN w t k) && (decide ((0 : Int) ≤ t.Result) && decide (t.Result ≤ 999))) && !((!(t.Result == 0)) && !t.Returned)) && ((decide ((0 : Int) ≤ t.PC) && decide (t.PC ≤ opsN w t)) && subsB w t)) && endB (opsN w t) t
theorem headN_prog {w : SAsync} {t : STask} {k : Int} (hp : w.Progs.length ≤ 1048576) (h : headN w t k = false) : inB t.Prog w.Progs.length = true := by
  unfold headN at h
  rw [wrapL' hp] at h
  simp only [Bool.or_eq_false_iff, Bool.not_eq_false', Bool.and_eq_true, decide_eq_true_eq] at h
  exact inB_in ⟨h.1.1.2.1, by omega⟩
end M
/-
  A TASK: both sides agree.
-/
set_option linter.unusedVariables false
set_option linter.unusedSimpArgs false
namespace M
open Go.V (inB slB bigN bigN_le)

/-- what is at hand of a world -/
structure WOk (w : SAsync) : Prop where
  progs : w.Progs.length ≤ 1048576
  tasks : w.Tasks.length ≤ 1048576
  subs : ∀ t ∈ w.Tasks, t.Subs.length ≤ 1048576 ∧ t.Set.length ≤ 1048576
theorem task_i {w : SAsync} (h : WOk w) {k : Nat} (hk : k < w.Tasks.length) : M.i_taskOk w (k : Int) = some (taskT w w.Tasks[k] (k : Int)) := by
  have hs := h.subs _ (List.getElem_mem hk)
  unfold M.i_taskOk
  simp only [Int.toNat_natCast, getD_lt hk, inB_nat, hk, decide_true]
  generalize w.Tasks[k] = t at hs ⊢
  have hh := headN_prog (w := w) (t := t) (k := (k : Int)) h.progs
  simp only [subs_i w t h.tasks hs.1 hs.2]
  rw [show (((((t.Id != (Go.IntKind.wrap .i64 ((k : Int) + 1))) || (!(decide ((0 : Int) ≤ t.Prog) && decide (t.Prog ≤ (Go.IntKind.wrap .i64 ((w.Progs.length : Int) - 1)))))) || (!(decide ((0 : Int) ≤ t.Parent) && decide (t.Parent ≤ (Go.IntKind.wrap .i64 (t.Id - 1)))))) || (!(decide ((1 : Int) ≤ t.Status) && decide (t.Status ≤ 5))))) = headN w t (k : Int) from rfl]
  unfold taskT
  cases hn : headN w t (k : Int) with
  | true => rfl
  | false =>
    simp only [hh hn, bne_not', Option.isSome_some, Option.getD_some, Bool.true_or, Bool.and_self, cond_false, cond_true, Bool.not_false, Bool.true_and]
    unfold endB opsN
    generalize (decide ((0 : Int) ≤ t.PC) && decide (t.PC ≤ ((w.Progs.getD t.Prog.toNat SProg.zero).Ops.length : Int))) = b1
    generalize (decide ((0 : Int) ≤ t.Result) && decide (t.Result ≤ 999)) = b2
    generalize (t.Result == 0) = b3
    generalize subsB w t = b4
    generalize (t.PC == ((w.Progs.getD t.Prog.toNat SProg.zero).Ops.length : Int)) = b5
    generalize (t.PC == 0) = b6
    generalize ((t.Subs.length : Int) == 0) = b7
    generalize (t.Status == 1) = s1
    generalize (t.Status == 3) = s3
    generalize (t.Status == 4) = s4
    generalize (t.Status == 5) = s5
    cases b1
    · cases b2 <;> cases b3 <;> cases t.Returned <;> rfl
    cases b2
    · cases b3 <;> cases t.Returned <;> rfl
    cases b4
    · cases b3 <;> cases t.Returned <;> rfl
    cases hb : ((!b3) && !t.Returned)
    · simp only [hb, Bool.not_true, Bool.or_self, cond_false, Bool.not_false, Bool.and_self, Bool.true_and, cond_true]
      cases (t.Told && !((t.Returned || s4) || s5))
      · cases s1
        · cases s3 <;> rfl
        · rfl
      · rfl
    · simp only [hb, Bool.not_true, Bool.or_true, Bool.true_or, cond_true, Bool.and_false, Bool.false_and]
theorem task_s {w : SAsync} (h : WOk w) (h8 : w.Tasks.length ≤ 8) {k : Nat} (hk : k < w.Tasks.length) : M.s_l22Task (k : Int) w = some (taskT w w.Tasks[k] (k : Int), w) := by
  have hs := h.subs _ (List.getElem_mem hk)
  unfold M.s_l22Task
  simp only [Int.toNat_natCast, getD_lt hk, inB_nat, hk, decide_true]
  generalize w.Tasks[k] = t at hs ⊢
  have hh := headN_prog (w := w) (t := t) (k := (k : Int)) h.progs
  have hS := subs_len (w := w) (t := t) h8
  have hT := set_len (t := t)
  simp only [subs_s0 _ w t h.tasks hs.1, rises_s t.Subs hs.1, rises_s t.Set hs.2]
  rw [show (((((t.Id != (Go.IntKind.wrap .i64 ((k : Int) + 1))) || (!(decide ((0 : Int) ≤ t.Prog) && decide (t.Prog ≤ (Go.IntKind.wrap .i64 ((w.Progs.length : Int) - 1)))))) || (!(decide ((0 : Int) ≤ t.Parent) && decide (t.Parent ≤ (Go.IntKind.wrap .i64 (t.Id - 1)))))) || (!(decide ((1 : Int) ≤ t.Status) && decide (t.Status ≤ 5))))) = headN w t (k : Int) from rfl]
  unfold taskT
  cases hn : headN w t (k : Int) with
  | true => rfl
  | false =>
    simp only [hh hn, bne_not', Option.isSome_some, Option.getD_some, Bool.true_or, Bool.and_self, cond_false, cond_true, Bool.not_false, Bool.true_and, Bool.false_or]
    unfold endB opsN subsB
    have hL1 : (t.Subs.all (subB w t) && riseB t.Subs) = true → decide ((8 : Int) < (t.Subs.length : Int)) = false := fun q => by
      rw [Bool.and_eq_true] at q
      have := hS q.1 q.2
      rw [decide_eq_false_iff_not]; omega
    have hL2 : (t.Set.all (hasB t.Subs) && riseB t.Set) = true → decide ((t.Subs.length : Int) < (t.Set.length : Int)) = false := fun q => by
      rw [Bool.and_eq_true] at q
      have := hT q.1 q.2
      rw [decide_eq_false_iff_not]; omega
    have hz : decide ((0 : Int) < (t.Subs.length : Int)) = !((t.Subs.length : Int) == 0) := by
      rw [Bool.eq_iff_iff]; simp only [decide_eq_true_eq, Bool.not_eq_true', beq_eq_false_iff_ne]; omega
    have e1 := fun n => subs_s1 n t hs.1 hs.2
    generalize decide ((8 : Int) < (t.Subs.length : Int)) = L1 at hL1 ⊢
    generalize decide ((t.Subs.length : Int) < (t.Set.length : Int)) = L2 at hL2 ⊢
    generalize (decide ((0 : Int) ≤ t.PC) && decide (t.PC ≤ ((w.Progs.getD t.Prog.toNat SProg.zero).Ops.length : Int))) = b1
    generalize (decide ((0 : Int) ≤ t.Result) && decide (t.Result ≤ 999)) = b2
    generalize (t.Result == 0) = b3
    generalize t.Subs.all (subB w t) = A at hL1 ⊢
    generalize riseB t.Subs = R1 at hL1 ⊢
    generalize t.Set.all (hasB t.Subs) = H at hL2 e1 ⊢
    generalize riseB t.Set = R2 at hL2 ⊢
    cases b2
    · cases b3 <;> cases t.Returned <;> cases b1 <;> rfl
    cases hb : ((!t.Returned) && !b3)
    · have hb' : ((!b3) && !t.Returned) = false := by rw [Bool.and_comm]; exact hb
      simp only [hb', Bool.not_true, Bool.or_self, cond_false, Bool.not_false, Bool.and_self, Bool.true_and, Bool.and_true]
      cases b1
      · rfl
      cases hA : (A && R1)
      · cases L1
        · cases L2
          · cases R1
            · rfl
            · cases A
              · cases R2 <;> rfl
              · cases hA
          · simp
        · simp
      · rw [hL1 hA]
        rw [Bool.and_eq_true] at hA
        rw [hA.1, hA.2]
        cases hH : (H && R2)
        · cases L2
          · cases R2
            · rfl
            · cases H
              · simp only [if_true, e1, Bool.not_true, Bool.or_self, cond_false]; rfl
              · cases hH
          · simp
        · rw [hL2 hH]
          rw [Bool.and_eq_true] at hH
          rw [hH.1] at e1
          rw [hH.2]
          simp only [e1, Bool.not_true, Bool.or_self, cond_false, if_true, Bool.true_or, Bool.and_self, cond_true, Bool.true_and, hz]
          generalize ((t.Subs.length : Int) == 0) = b7
          generalize (t.PC == ((w.Progs.getD t.Prog.toNat SProg.zero).Ops.length : Int)) = b5
          generalize (t.PC == 0) = b6
          generalize (t.Status == 1) = s1
          generalize (t.Status == 3) = s3
          generalize (t.Status == 4) = s4
          generalize (t.Status == 5) = s5
          generalize t.Returned = r
          generalize t.Told = td
          generalize t.Asked = ak
          cases s1
          · cases s3
            · cases s4
              · cases r <;> cases td <;> cases s5 <;> rfl
              · cases r <;> cases td <;> rfl
            · cases r <;> cases b5 <;> cases td <;> cases s4 <;> cases s5 <;> rfl
          · cases b6 <;> cases r <;> cases ak <;> cases b7 <;> cases td <;> cases s4 <;> cases s5 <;> rfl
    · have hb' : ((!b3) && !t.Returned) = true := by rw [Bool.and_comm]; exact hb
      simp only [hb', Bool.not_true, Bool.or_true, Bool.true_or, cond_true, Bool.and_false, Bool.false_and]
end M
/-
  A WORLD OF TASKS: both sides agree; the law.
-/
set_option linter.unusedVariables false
set_option linter.unusedSimpArgs false
namespace M
open Go.V (inB slB bigN bigN_le)

theorem wOk_of {w : SAsync} (h : w.sz ≤ 1048576) : WOk w ∧ (∀ p ∈ w.Progs, p.Ops.length ≤ 1048576) ∧ w.Streams.length ≤ 1048576 ∧ (∀ s ∈ w.Streams, s.sz ≤ 1048576) ∧ w.Back.length ≤ 1048576 ∧ w.Notes.length ≤ 1048576 := by
  rw [SAsync.sz_eq] at h
  have h1 := szL_len SProg.sz w.Progs
  have h2 := szL_len SStream.sz w.Streams
  have h3 := szL_len STask.sz w.Tasks
  have h4 := szL_len (fun _ => 0) w.Back
  have h5 := szL_len SNote.sz w.Notes
  refine ⟨⟨by omega, by omega, fun t ht => ?_⟩, fun p hp => ?_, by omega, fun s hs => ?_, by omega, by omega⟩
  · have := szL_mem STask.sz _ _ ht
    rw [STask.sz_eq] at this
    have a := szL_len (fun _ => 0) t.Subs
    have b := szL_len (fun _ => 0) t.Set
    omega
  · have := szL_mem SProg.sz _ _ hp
    rw [SProg.sz_eq] at this
    have a := szL_len SAop.sz p.Ops
    omega
  · have := szL_mem SStream.sz _ _ hs
    omega
def inst (x : Int) : Bool := decide ((1 : Int) ≤ x) && decide (x ≤ 6)
def str9 (s : SStream) : Bool := (stB s && (s.Type_.Kind == 9)) && !s.Future
noncomputable def asyncB (w : SAsync) : Bool :=
  ((((progsB w.Progs && decide ((w.Streams.length : Int) ≤ 4)) && decide ((w.Tasks.length : Int) ≤ 8)) && (decide ((w.Notes.length : Int) ≤ 120) && w.Notes.all noteB)) && w.Streams.all str9) &&
    (((List.range w.Tasks.length).all fun k => taskT w (w.Tasks.getD k STask.zero) (k : Int)) && (w.Back.all inst && riseB w.Back))
theorem neg_le (n k : Int) : decide (k < n) = !decide (n ≤ k) := by rw [← decide_not]; simp only [decide_eq_decide]; omega

theorem streams_i (l : List SStream) (hl : l.length ≤ 1048576) (h : ∀ s ∈ l, s.sz ≤ 1048576) : M.slices_ContainsFunc_Stream_Stream l = some (!l.all str9) := by
  have ec : ∀ s ∈ l, M.i_AsyncOk_c1 s = some (!str9 s) := fun s hs => by
    unfold M.i_AsyncOk_c1 str9
    simp only [SStream.re_eq, stream_i s (h s hs), Option.getD_some, Option.isSome_some, Bool.and_self, cond_true, bne_not']
    cases stB s <;> cases (s.Type_.Kind == 9) <;> cases s.Future <;> rfl
  have e := find_list (p := fun p => !str9 p) (F := M.slices_IndexFunc_Stream_Stream_l0 l (l.length : Int)) (e := ()) (fun k => k) l (by omega) (fun f k hk => by
    rw [M.slices_IndexFunc_Stream_Stream_l0]
    simp only [SStream.re_eq, getD_lt hk, ec _ (List.getElem_mem hk), Int.toNat_natCast, inB_nat, Int.ofNat_lt, hk, decide_true, cond_true, Bool.true_and, Bool.and_true, wrapk hk (by omega : l.length < 2 ^ 62), Option.getD_some, Option.isSome_some]) (fun f => by
    rw [M.slices_IndexFunc_Stream_Stream_l0]; simp)
  unfold M.slices_ContainsFunc_Stream_Stream M.slices_IndexFunc_Stream_Stream
  rw [e, List.not_all_eq_any_not, findIdx_any]
  cases l.findIdx? (fun p => !str9 p) <;> simp
theorem streams_s (w : SAsync) (hl : w.Streams.length ≤ 1048576) (h : ∀ s ∈ w.Streams, s.sz ≤ 1048576) : M.s_l22Ok_l0 w bigN 0 = some (if w.Streams.all str9 then .inr w else .inl (false, w.Progs, w.Streams, w.Tasks, w.Back, w.Notes)) :=
  all_listY (p := str9) (F := M.s_l22Ok_l0 w) w.Streams (by omega) (fun f k hk => by
    rw [M.s_l22Ok_l0]
    simp only [SStream.re_eq, getD_lt hk, stream_s _ (h _ (List.getElem_mem hk)), Int.toNat_natCast, inB_nat, Int.ofNat_lt, hk, decide_true, cond_true, Bool.true_or, Bool.and_self, wrapk hk (by omega : w.Streams.length < 2 ^ 62), Option.getD_some, Option.isSome_some, bne_not']
    unfold str9
    cases stB w.Streams[k] <;> cases (w.Streams[k].Type_.Kind == 9) <;> cases w.Streams[k].Future <;> rfl) (fun f => by rw [M.s_l22Ok_l0]; simp)
theorem tasks_i {w : SAsync} (h : WOk w) : M.i_AsyncOk_l0 (w.Tasks.length : Int) w bigN 0 = some (if ((List.range w.Tasks.length).all fun k => taskT w (w.Tasks.getD k STask.zero) (k : Int)) then .inr w else .inl false) :=
  all_loop (F := M.i_AsyncOk_l0 (w.Tasks.length : Int) w) w.Tasks.length (by have := h.tasks; omega) (fun f k hk => by
    rw [M.i_AsyncOk_l0]
    simp only [getD_lt hk, task_i h hk, Int.ofNat_lt, hk, decide_true, cond_true, Bool.and_self, wrapk hk (by have := h.tasks; omega : w.Tasks.length < 2 ^ 62), Option.getD_some, Option.isSome_some]
    cases taskT w w.Tasks[k] (k : Int) <;> rfl) (fun f => by rw [M.i_AsyncOk_l0]; simp)
theorem tasks_s {w : SAsync} (h : WOk w) (h8 : w.Tasks.length ≤ 8) : M.s_l22Ok_l1 bigN 0 w = some (if ((List.range w.Tasks.length).all fun k => taskT w (w.Tasks.getD k STask.zero) (k : Int)) then .inr w else .inl (false, w.Progs, w.Streams, w.Tasks, w.Back, w.Notes)) :=
  all_loopY (F := fun f i => M.s_l22Ok_l1 f i w) w.Tasks.length (by omega) (fun f k hk => by
    show M.s_l22Ok_l1 (f + 1) (k : Int) w = _
    rw [M.s_l22Ok_l1]
    simp only [getD_lt hk, task_s h h8 hk, Int.ofNat_lt, hk, decide_true, cond_true, Bool.and_self, wrapk hk (by omega : w.Tasks.length < 2 ^ 62), Option.getD_some, Option.isSome_some]
    cases taskT w w.Tasks[k] (k : Int) <;> rfl) (fun f => by
    show M.s_l22Ok_l1 (f + 1) _ w = _
    rw [M.s_l22Ok_l1]; simp)
theorem back_i (w : SAsync) (hl : w.Back.length ≤ 1048576) : M.i_AsyncOk_l1 w.Back (w.Back.length : Int) w bigN 0 = some (if (w.Back.all inst && riseB w.Back) then .inr () else .inl false) := by
  have e := all_loop (p := fun k => inst (w.Back.getD k 0) && rk w.Back k) (F := M.i_AsyncOk_l1 w.Back (w.Back.length : Int) w) (e := ()) (b := false) w.Back.length (by omega) (fun f k hk => by
    rw [M.i_AsyncOk_l1]
    have r1 := rk_ask w.Back k hk hl
    have r2 := rk_in w.Back.length k (!inst (w.Back.getD k 0)) hk hl
    rw [show (decide ((1 : Int) ≤ List.getD w.Back (Int.toNat (k : Int)) 0) && decide (List.getD w.Back (Int.toNat (k : Int)) 0 ≤ 6)) = inst (w.Back.getD k 0) from rfl]
    simp only [Int.toNat_natCast, r1, r2, inB_nat, Int.ofNat_lt, hk, decide_true, cond_true, Bool.and_self, wrapk hk (by omega : w.Back.length < 2 ^ 62)]
    cases inst (w.Back.getD k 0) <;> cases rk w.Back k <;> rfl) (fun f => by rw [M.i_AsyncOk_l1]; simp)
  rw [all_and5 (fun k => inst (w.Back.getD k 0)) (rk w.Back), all_range5 inst, ← riseB_eq] at e
  exact e
theorem back_s (w : SAsync) (hl : w.Back.length ≤ 1048576) : M.s_l22Ok_l2 w bigN 0 = some (if (w.Back.all inst && riseB w.Back) then .inr w else .inl (false, w.Progs, w.Streams, w.Tasks, w.Back, w.Notes)) := by
  have e := all_loopY (p := fun k => inst (w.Back.getD k 0) && rk w.Back k) (F := M.s_l22Ok_l2 w) (e := w) (b := (false, w.Progs, w.Streams, w.Tasks, w.Back, w.Notes)) w.Back.length (by omega) (fun f k hk => by
    rw [M.s_l22Ok_l2]
    have r1 := rk_ask w.Back k hk hl
    have r2 := rk_in w.Back.length k (!inst (w.Back.getD k 0)) hk hl
    rw [show (decide ((1 : Int) ≤ List.getD w.Back (Int.toNat (k : Int)) 0) && decide (List.getD w.Back (Int.toNat (k : Int)) 0 ≤ 6)) = inst (w.Back.getD k 0) from rfl]
    simp only [Int.toNat_natCast, r1, r2, inB_nat, Int.ofNat_lt, hk, decide_true, cond_true, Bool.true_or, Bool.and_self, wrapk hk (by omega : w.Back.length < 2 ^ 62)]
    cases inst (w.Back.getD k 0) <;> cases rk w.Back k <;> rfl) (fun f => by rw [M.s_l22Ok_l2]; simp)
  rw [all_and5 (fun k => inst (w.Back.getD k 0)) (rk w.Back), all_range5 inst, ← riseB_eq] at e
  exact e
theorem notes_s (w : SAsync) (hl : w.Notes.length ≤ 1048576) : M.s_l22Ok_l3 w bigN 0 = some (if w.Notes.all noteB then .inr (w.Progs, w.Streams, w.Tasks, w.Back, w.Notes) else .inl (false, w.Progs, w.Streams, w.Tasks, w.Back, w.Notes)) :=
  all_listY (p := noteB) (F := M.s_l22Ok_l3 w) w.Notes (by omega) (fun f k hk => by
    rw [M.s_l22Ok_l3]
    simp only [getD_lt hk, Int.toNat_natCast, inB_nat, Int.ofNat_lt, hk, decide_true, cond_true, Bool.true_or, Bool.and_self, wrapk hk (by omega : w.Notes.length < 2 ^ 62)]
    unfold noteB
    generalize (decide ((1 : Int) ≤ w.Notes[k].Task) && decide (w.Notes[k].Task ≤ 8)) = b1
    generalize (decide ((1 : Int) ≤ w.Notes[k].Kind) && decide (w.Notes[k].Kind ≤ 9)) = b2
    cases b1 <;> cases b2 <;> rfl) (fun f => by rw [M.s_l22Ok_l3]; simp)

theorem async_i (w : SAsync) (h : w.sz ≤ 1048576) : M.i_AsyncOk w = some (asyncB w) := by
  obtain ⟨hw, hp, hs, hs2, hb, hn⟩ := wOk_of h
  unfold M.i_AsyncOk asyncB
  simp only [progs_i _ hw.progs hp, notes_i _ hn, streams_i _ hs hs2, tasks_i hw, Option.getD_some, Option.isSome_some, Bool.true_or, Bool.and_self, cond_true, neg_le]
  generalize progsB w.Progs = b1
  generalize decide ((w.Streams.length : Int) ≤ 4) = b2
  generalize decide ((w.Tasks.length : Int) ≤ 8) = b3
  generalize (decide ((w.Notes.length : Int) ≤ 120) && w.Notes.all noteB) = b4
  cases b1
  · rfl
  cases b2
  · rfl
  cases b3
  · rfl
  cases b4
  · rfl
  cases w.Streams.all str9
  · rfl
  cases ((List.range w.Tasks.length).all fun k => taskT w (w.Tasks.getD k STask.zero) (k : Int))
  · rfl
  · simp only [if_true, back_i w hb]
    cases (w.Back.all inst && riseB w.Back) <;> rfl
theorem async_s (w : SAsync) (h : w.sz ≤ 1048576) : M.s_AsyncOk w = some (asyncB w) := by
  obtain ⟨hw, hp, hs, hs2, hb, hn⟩ := wOk_of h
  have hB : (w.Back.all inst && riseB w.Back) = true → decide ((w.Back.length : Int) ≤ 6) = true := fun q => by
    rw [Bool.and_eq_true] at q
    have := rise_len q.2 6 (fun x hx => by
      have := List.all_eq_true.1 q.1 x hx
      unfold inst at this
      rw [Bool.and_eq_true, decide_eq_true_eq, decide_eq_true_eq] at this
      exact this)
    rw [decide_eq_true_eq]; omega
  have key : ∃ w', M.s_l22Ok w = some (asyncB w, w') := by
    unfold M.s_l22Ok asyncB
    simp only [progs_s _ hw.progs hp, streams_s w hs hs2, Option.getD_some, Option.isSome_some, Bool.and_self, cond_true, neg_le]
    by_cases h8 : w.Tasks.length ≤ 8
    · have e8 : decide ((w.Tasks.length : Int) ≤ 8) = true := by rw [decide_eq_true_eq]; omega
      have et := tasks_s hw h8
      have eb := back_s w hb
      have en := notes_s w hn
      rw [e8]
      generalize progsB w.Progs = b1
      generalize decide ((w.Streams.length : Int) ≤ 4) = b2
      generalize decide ((w.Notes.length : Int) ≤ 120) = b4
      generalize decide ((w.Back.length : Int) ≤ 6) = b5 at hB ⊢
      generalize (w.Back.all inst && riseB w.Back) = b6 at hB eb ⊢
      generalize w.Notes.all noteB = b7 at en ⊢
      generalize ((List.range w.Tasks.length).all fun k => taskT w (w.Tasks.getD k STask.zero) (k : Int)) = b8 at et ⊢
      cases b1
      · exact ⟨_, rfl⟩
      cases b2
      · exact ⟨_, rfl⟩
      cases b4
      · cases b5 <;> exact ⟨_, rfl⟩
      cases b5
      · have : b6 = false := by
          cases b6
          · rfl
          · exact absurd (hB rfl) (by decide)
        rw [this]
        simp only [Bool.and_false]
        exact ⟨_, rfl⟩
      cases w.Streams.all str9
      · simp only [Bool.and_false, Bool.false_and]
        exact ⟨_, rfl⟩
      simp only [Bool.not_true, Bool.or_self, cond_false, if_true, et]
      cases b8
      · simp only [Bool.and_false, Bool.false_and]
        exact ⟨_, rfl⟩
      simp only [if_true, eb]
      cases b6
      · simp only [Bool.and_false, Bool.false_and]
        exact ⟨_, rfl⟩
      simp only [if_true, en]
      cases b7 <;> exact ⟨_, rfl⟩
    · have e8 : decide ((w.Tasks.length : Int) ≤ 8) = false := by rw [decide_eq_false_iff_not]; omega
      rw [e8]
      simp only [Bool.not_false, Bool.or_true, Bool.true_or, cond_true, Bool.and_false, Bool.false_and]
      exact ⟨_, rfl⟩
  obtain ⟨w', e⟩ := key
  unfold M.s_AsyncOk
  rw [e]; rfl
theorem law_AsyncOk (x : SAsync) (hx : x.Ok) : M.l_FnExactAsyncOk x = some true := by
  unfold M.l_FnExactAsyncOk
  rw [sz_Async x 1048576 hx (by omega) (by omega)]
  by_cases h1 : (x.sz : Int) ≤ 1048576
  · have n1 : ¬ (1048576 - (x.sz : Int) < 0) := by omega
    rw [if_pos h1]
    simp only [to_Async x (by omega), async_i x (by omega), async_s x (by omega), eq_Async x (by omega), Option.getD_some, Option.isSome_some, n1, decide_false, cond_false, Bool.and_true, Bool.and_self, cond_true, beq_self_eq_true, bne_self_eq_false, Bool.not_true, Bool.or_false]
  · rw [if_neg h1]; simp
end M
