import Derived.Test.YtfjgoefnkdcolaaXAM
import Derived.Test.YtfjgoefnkdcolaaXVpl
set_option linter.unusedVariables false
namespace M

theorem aop_same (o : SAop) : M.i_aopOk o = M.s_l22Aop o := by
  unfold M.i_aopOk M.s_l22Aop
  generalize SAop.Kind o = k
  generalize SAop.A o = a
  generalize SAop.B o = b
  by_cases h : 1 ≤ k ∧ k ≤ 12
  · have : k = 1 ∨ k = 2 ∨ k = 3 ∨ k = 4 ∨ k = 5 ∨ k = 6 ∨ k = 7 ∨ k = 8 ∨ k = 9 ∨ k = 10 ∨ k = 11 ∨ k = 12 := by omega
    rcases this with rfl | rfl | rfl | rfl | rfl | rfl | rfl | rfl | rfl | rfl | rfl | rfl <;> simp
    all_goals (try (rw [Bool.cond_eq_ite]))
    all_goals split
    all_goals
      congr 1
      rw [Bool.eq_iff_iff]
      simp only [Bool.and_eq_true, Bool.or_eq_true, Bool.not_eq_true', decide_eq_true_eq, decide_eq_false_iff_not, beq_iff_eq, reduceCtorEq, iff_false, Bool.false_eq_true] at *
      omega
  · have h1 : (decide (1 ≤ k) && decide (k ≤ 12)) = false := by simp; omega
    simp [h1]

theorem aop_some (o : SAop) : ∃ b, M.s_l22Aop o = some b := by
  unfold M.s_l22Aop
  cases (_ || _ : Bool) <;> simp only [cond_true, cond_false] <;> first | exact ⟨_, rfl⟩ | skip
  cases (_ || _ : Bool) <;> exact ⟨_, rfl⟩
noncomputable def aopOk (o : SAop) : Bool := (M.s_l22Aop o).getD false
theorem s_aop (o : SAop) : M.s_l22Aop o = some (aopOk o) := by
  obtain ⟨b, hb⟩ := aop_some o
  unfold aopOk; rw [hb]; rfl
theorem i_aop (o : SAop) : M.i_aopOk o = some (aopOk o) := by rw [aop_same, s_aop]

theorem s_ProgOk_loop (p : SProg) (hp : p.Ops.length < 2 ^ 62) : M.s_ProgOk_l0 p Go.V.bigN 0 = some (if p.Ops.all aopOk then .inr () else .inl false) := by
  have := loop_big (F := M.s_ProgOk_l0 p) (n := p.Ops.length) (res := fun k => some (if (p.Ops.drop k).all aopOk then .inr () else .inl false)) hp
    (fun f k hk ih => by
      rw [M.s_ProgOk_l0, all_drop _ hk]
      simp only [s_aop, getD_lt hk, Int.toNat_natCast, inB_nat, Int.ofNat_lt, hk, wrapk hk hp, ih]
      cases aopOk p.Ops[k] <;> simp)
    (fun f => by rw [M.s_ProgOk_l0]; simp)
  simpa using this
theorem s_ProgOk_some (p : SProg) (hp : p.Ops.length < 2 ^ 62) : M.s_ProgOk p = some ((decide (1 ≤ p.Inst) && decide (p.Inst ≤ 6)) && decide ((p.Ops.length : Int) ≤ 12) && p.Ops.all aopOk) := by
  unfold M.s_ProgOk
  rw [s_ProgOk_loop p hp, show decide (12 < (p.Ops.length : Int)) = !decide ((p.Ops.length : Int) ≤ 12) by rw [Bool.eq_iff_iff]; simp]
  cases decide (1 ≤ p.Inst) <;> cases decide (p.Inst ≤ 6) <;> cases decide ((p.Ops.length : Int) ≤ 12) <;> cases p.Ops.all aopOk <;> rfl

theorem indexFunc_loop (s : List SAop) (hs : s.length < 2 ^ 62) : M.slices_IndexFunc_Aop_Aop_l0 s (s.length : Int) Go.V.bigN 0 = some (match s.findIdx? (fun o => !aopOk o) with
    | some j => .inl (j : Int)
    | none => .inr ()) := by
  have := loop_big (F := M.slices_IndexFunc_Aop_Aop_l0 s (s.length : Int)) (n := s.length) (res := fun k => some (match (s.drop k).findIdx? (fun o => !aopOk o) with
    | some j => .inl ((j + k : Nat) : Int)
    | none => .inr ())) hs
    (fun f k hk ih => by
      rw [M.slices_IndexFunc_Aop_Aop_l0, drop_get hk, List.findIdx?_cons]
      simp only [i_aop, getD_lt hk, Int.toNat_natCast, inB_nat, Int.ofNat_lt, hk, wrapk hk hs, ih]
      cases aopOk s[k] <;> simp
      cases h : List.findIdx? (fun o => !aopOk o) (List.drop (k + 1) s) <;> simp
      omega)
    (fun f => by rw [M.slices_IndexFunc_Aop_Aop_l0]; simp)
  simpa using this

theorem containsFunc (s : List SAop) (hs : s.length < 2 ^ 62) : M.slices_ContainsFunc_Aop_Aop s = some (s.any fun o => !aopOk o) := by
  unfold M.slices_ContainsFunc_Aop_Aop M.slices_IndexFunc_Aop_Aop
  rw [indexFunc_loop s hs]
  cases h : s.findIdx? (fun o => !aopOk o) with
  | none =>
    have : s.any (fun o => !aopOk o) = false := by
      rw [List.findIdx?_eq_none_iff] at h
      rw [List.any_eq_false]; intro x hx; have := h x hx; simpa using this
    simp [this]
  | some j =>
    have : s.any (fun o => !aopOk o) = true := by
      rw [List.findIdx?_eq_some_iff_getElem] at h
      obtain ⟨hj, h1, -⟩ := h
      rw [List.any_eq_true]; exact ⟨s[j], List.getElem_mem hj, h1⟩
    simp [this]
theorem i_ProgOk_some (p : SProg) (hp : p.Ops.length < 2 ^ 62) : M.i_ProgOk p = some ((decide (1 ≤ p.Inst) && decide (p.Inst ≤ 6)) && decide ((p.Ops.length : Int) ≤ 12) && p.Ops.all aopOk) := by
  unfold M.i_ProgOk
  rw [containsFunc _ hp]
  have : (p.Ops.any fun o => !aopOk o) = !p.Ops.all aopOk := by rw [List.all_eq_not_any_not]; simp
  simp [this]

theorem toAopS (a : List SAop) (ha : a.length ≤ 1048576) : M.l_toAopS a = some a := by
  unfold M.l_toAopS
  rw [copy_loop a (by omega) (F := M.l_toAopS_l0 a) (fun f k out h1 h2 hk => by
    rw [M.l_toAopS_l0]
    simp [hk, h2, wrapk hk (big_of ha), getD_lt hk]) (fun f out => by rw [M.l_toAopS_l0]; simp) _ (by simp)]
  have : (a.length : Int) ≤ 1073741824 := by omega
  simp [this]
theorem toProg (a : SProg) (ha : a.Ops.length ≤ 1048576) : M.l_toProg a = some a := by
  unfold M.l_toProg
  rw [toAopS _ ha]; simp
theorem eqAop_self (a : SAop) : M.l_eqAop a a = some true := by unfold M.l_eqAop; simp
theorem eqAopS_self (a : List SAop) (ha : a.length ≤ 1048576) : M.l_eqAopS a a = some true := by
  unfold M.l_eqAopS
  rw [run_loop (F := M.l_eqAopS_l0 a a) (n := a.length) (y := some (.inr ())) (by omega) (fun f k hk => by
    rw [M.l_eqAopS_l0]
    simp [hk, wrapk hk (big_of ha), getD_lt hk, eqAop_self]) (fun f => by rw [M.l_eqAopS_l0]; simp)]
  simp
theorem eqProg_self (a : SProg) (ha : a.Ops.length ≤ 1048576) : M.l_eqProg a a = some true := by
  unfold M.l_eqProg
  rw [eqAopS_self _ ha]; simp

theorem law_ProgOk (x : SProg) (hx : x.Ops.length ≤ 9223372036854775807) : M.l_FnExactProgOk x = some true := by
  have hsz : M.l_szProg x 1048576 = some (if x.Ops.length ≤ 1048576 then 1048576 - (x.Ops.length : Int) else -1) := by
    unfold M.l_szProg M.l_szAopS
    rw [wrap_i64 (by omega) (by omega)]
    by_cases h : x.Ops.length ≤ 1048576
    · have : ¬ (1048576 - (x.Ops.length : Int) < 0) := by omega
      simp [this, h]
    · have : 1048576 - (x.Ops.length : Int) < 0 := by omega
      simp [this, h]
  unfold M.l_FnExactProgOk
  rw [hsz]
  by_cases h : x.Ops.length ≤ 1048576
  · have h1 : ¬ (1048576 - (x.Ops.length : Int) < 0) := by omega
    rw [toProg x h]
    simp [h, h1, i_ProgOk_some x (by omega), s_ProgOk_some x (by omega), eqProg_self x h]
  · simp [h]
end M
