/-
  NewMachine: the loop of codeOf.
-/
import Derived.Test.YtjnemekhocfmlaaGreatXPT
set_option linter.unusedVariables false
set_option linter.unusedSimpArgs false
namespace M
open Go.V (inB slB bigN bigN_le)

noncomputable def plOf (m : SModule) (k : Nat) : List SCodePlace := (coreR m (m.Cores.getD k SCore.zero)).1
noncomputable def badAt (m : SModule) : Bool := m.Cores.all fun c => (coreR m c).2.2 == 0

theorem chk_iff (m : SModule) : ((chkR m).2.2 == 0) = (mOkB m && badAt m) := by
  unfold chkR badAt
  cases hb : mOkB m
  · rfl
  · rw [if_pos rfl, Bool.true_and]
    unfold modR
    cases hf : m.Cores.findIdx? (fun c => (coreR m c).2.2 != 0) with
    | none =>
      rw [List.findIdx?_eq_none_iff] at hf
      symm; rw [show ((0 : Int), (0 : Int), (0 : Int)).2.2 == 0 from rfl]
      rw [List.all_eq_true]; intro c hc
      have := hf c hc
      rw [Bool.eq_false_iff, ne_eq, bne_iff_ne, Decidable.not_not] at this
      rw [this]; rfl
    | some k =>
      rw [List.findIdx?_eq_some_iff_getElem] at hf
      obtain ⟨hk, hp, -⟩ := hf
      show ((coreR m (m.Cores.getD k SCore.zero)).2.2 == 0) = _
      rw [getD_lt hk]
      have hne : ((coreR m m.Cores[k]).2.2 == 0) = false := by rw [beq_eq_false_iff_ne]; exact bne_iff_ne.1 hp
      rw [hne]; symm
      rw [List.all_eq_false]
      exact ⟨m.Cores[k], List.getElem_mem hk, by rw [hne]; simp⟩
theorem code_loop {m : SModule} (hm : MOk m) {F : Nat → Int → List (List SCodePlace) → List (List SCodeBlock) → Option (Bool ⊕ (Int × List SImport × List SCore × List (List SCodePlace) × List (List SCodeBlock)))}
    (step : ∀ f (k : Nat) o4 o5 bl, k < m.Cores.length → o4.length = k → o5.length = k → M.i_checked m (k : Int) = some (plOf m k, bl, (coreR m (m.Cores.getD k SCore.zero)).2) →
      F (f + 1) (k : Int) o4 o5 = bif (coreR m (m.Cores.getD k SCore.zero)).2.2 != 0 then some (.inl false) else F f ((k + 1 : Nat) : Int) (o4 ++ [plOf m k]) (o5 ++ [bl]))
    (stop : ∀ f o4 o5, F (f + 1) (m.Cores.length : Int) o4 o5 = some (.inr (m.Pages, m.Imports, m.Cores, o4, o5))) :
    ∀ n k f o5, k + n = m.Cores.length → n < f → o5.length = k → (∀ j, j < k → (coreR m (m.Cores.getD j SCore.zero)).2.2 = 0) →
      (badAt m = true → ∃ bl, F f (k : Int) ((List.range k).map (plOf m)) o5 = some (.inr (m.Pages, m.Imports, m.Cores, (List.range m.Cores.length).map (plOf m), bl))) ∧
      (badAt m = false → F f (k : Int) ((List.range k).map (plOf m)) o5 = some (.inl false)) := by
  intro n
  induction n with
  | zero =>
    intro k f o5 hk hf ho hgood
    obtain ⟨f, rfl⟩ : ∃ g, f = g + 1 := ⟨f - 1, by omega⟩
    have e : k = m.Cores.length := by omega
    subst e
    refine ⟨fun _ => ⟨o5, stop _ _ _⟩, fun hb => ?_⟩
    exfalso
    unfold badAt at hb
    rw [List.all_eq_false] at hb
    obtain ⟨c, hc, hx⟩ := hb
    obtain ⟨j, hj, rfl⟩ := List.mem_iff_getElem.1 hc
    have := hgood j hj
    rw [getD_lt hj] at this
    rw [this] at hx; exact hx rfl
  | succ n ih =>
    intro k f o5 hk hf ho hgood
    obtain ⟨f, rfl⟩ : ∃ g, f = g + 1 := ⟨f - 1, by omega⟩
    have hkl : k < m.Cores.length := by omega
    obtain ⟨bl, hb⟩ := core_i_eq hm hkl
    have hb' : M.i_checked m (k : Int) = some (plOf m k, bl, (coreR m (m.Cores.getD k SCore.zero)).2) := by rw [hb]; unfold plOf; rw [getD_lt hkl]
    rw [step f k _ o5 bl hkl (by simp) ho hb']
    by_cases hg : (coreR m (m.Cores.getD k SCore.zero)).2.2 = 0
    · rw [show ((coreR m (m.Cores.getD k SCore.zero)).2.2 != 0) = false by rw [hg]; rfl, cond_false]
      have e : (List.range k).map (plOf m) ++ [plOf m k] = (List.range (k + 1)).map (plOf m) := by rw [List.range_succ, List.map_append]; rfl
      rw [e]
      exact ih (k + 1) f _ (by omega) (by omega) (by simp [ho]) (fun j hj => by
        rcases Nat.lt_or_ge j k with h | h
        · exact hgood j h
        · have : j = k := by omega
          rw [this]; exact hg)
    · rw [bne_iff_ne.2 hg, cond_true]
      refine ⟨fun hb => ?_, fun _ => rfl⟩
      exfalso; apply hg
      unfold badAt at hb
      have := List.all_eq_true.1 hb _ (List.getElem_mem hkl)
      rw [getD_lt hkl]; simpa using this
end M
/-
  NewMachine: the check of the module, both sides.
-/
set_option linter.unusedVariables false
set_option linter.unusedSimpArgs false
namespace M
open Go.V (inB slB bigN bigN_le)

theorem loop_a {m : SModule} (hm : MOk m) : (badAt m = true → ∃ bl, M.i_codeOf_a_l0 (m.Cores.length : Int) m m.Pages m.Imports m.Cores bigN 0 [] [] = some (.inr (m.Pages, m.Imports, m.Cores, (List.range m.Cores.length).map (plOf m), bl))) ∧
    (badAt m = false → M.i_codeOf_a_l0 (m.Cores.length : Int) m m.Pages m.Imports m.Cores bigN 0 [] [] = some (.inl false)) := by
  have hc := hm.cores
  refine code_loop hm (F := fun f k o4 o5 => M.i_codeOf_a_l0 (m.Cores.length : Int) m m.Pages m.Imports m.Cores f k o4 o5) (fun f k o4 o5 bl hk h4 h5 hb => ?_) (fun f o4 o5 => ?_) m.Cores.length 0 bigN [] (by omega) (by have := bigN_le; omega) rfl (fun j hj => by omega)
  · show M.i_codeOf_a_l0 (m.Cores.length : Int) m m.Pages m.Imports m.Cores (f + 1) (k : Int) o4 o5 = _
    rw [M.i_codeOf_a_l0]
    have hw : Go.IntKind.wrap .i64 ((k : Int) + 1) = ((k + 1 : Nat) : Int) := by rw [wrap_i64 (by omega) (by omega)]; rfl
    have d1 : decide (k + ([bl] : List (List SCodeBlock)).length ≤ 1073741824) = true := by rw [decide_eq_true_eq]; simp only [List.length_cons, List.length_nil]; omega
    have d2 : decide (k + ([plOf m k] : List (List SCodePlace)).length ≤ 1073741824) = true := by rw [decide_eq_true_eq]; simp only [List.length_cons, List.length_nil]; omega
    simp only [Int.ofNat_lt, hk, decide_true, cond_true, hb, Option.getD_some, Option.isSome_some, Bool.and_self, h4, h5, d1, d2, hw]
  · show M.i_codeOf_a_l0 (m.Cores.length : Int) m m.Pages m.Imports m.Cores (f + 1) (m.Cores.length : Int) o4 o5 = _
    rw [M.i_codeOf_a_l0]; simp
theorem loop_w {m : SModule} (hm : MOk m) : (badAt m = true → ∃ bl, M.i_codeOf_w_l0 (m.Cores.length : Int) m m.Pages m.Imports m.Cores bigN 0 [] [] = some (.inr (m.Pages, m.Imports, m.Cores, (List.range m.Cores.length).map (plOf m), bl))) ∧
    (badAt m = false → M.i_codeOf_w_l0 (m.Cores.length : Int) m m.Pages m.Imports m.Cores bigN 0 [] [] = some (.inl false)) := by
  have hc := hm.cores
  refine code_loop hm (F := fun f k o4 o5 => M.i_codeOf_w_l0 (m.Cores.length : Int) m m.Pages m.Imports m.Cores f k o4 o5) (fun f k o4 o5 bl hk h4 h5 hb => ?_) (fun f o4 o5 => ?_) m.Cores.length 0 bigN [] (by omega) (by have := bigN_le; omega) rfl (fun j hj => by omega)
  · show M.i_codeOf_w_l0 (m.Cores.length : Int) m m.Pages m.Imports m.Cores (f + 1) (k : Int) o4 o5 = _
    rw [M.i_codeOf_w_l0]
    have hw : Go.IntKind.wrap .i64 ((k : Int) + 1) = ((k + 1 : Nat) : Int) := by rw [wrap_i64 (by omega) (by omega)]; rfl
    have d1 : decide (k + ([bl] : List (List SCodeBlock)).length ≤ 1073741824) = true := by rw [decide_eq_true_eq]; simp only [List.length_cons, List.length_nil]; omega
    have d2 : decide (k + ([plOf m k] : List (List SCodePlace)).length ≤ 1073741824) = true := by rw [decide_eq_true_eq]; simp only [List.length_cons, List.length_nil]; omega
    simp only [Int.ofNat_lt, hk, decide_true, cond_true, hb, Option.getD_some, Option.isSome_some, Bool.and_self, h4, h5, d1, d2, hw]
  · show M.i_codeOf_w_l0 (m.Cores.length : Int) m m.Pages m.Imports m.Cores (f + 1) (m.Cores.length : Int) o4 o5 = _
    rw [M.i_codeOf_w_l0]; simp

theorem codeOf_a (m : SModule) (h : m.sz ≤ 1048576) : M.i_codeOf_a m = some (mOkB m && badAt m) := by
  unfold M.i_codeOf_a
  rw [shape_m_i m h]
  cases hb : mOkB m
  · rfl
  · simp only [Option.getD_some, Option.isSome_some, Bool.not_true, cond_false, Bool.and_self, cond_true, Bool.true_and]
    cases hx : badAt m
    · rw [(loop_a (mOk_of hb)).2 hx]
    · obtain ⟨bl, hl⟩ := (loop_a (mOk_of hb)).1 hx
      rw [hl]
theorem codeOf_w {m : SModule} (h : m.sz ≤ 1048576) (hb : mOkB m = true) (hx : badAt m = true) : ∃ bl, M.i_codeOf_w m = some (true, m.Pages, m.Imports, m.Cores, (List.range m.Cores.length).map (plOf m), bl) := by
  unfold M.i_codeOf_w
  rw [shape_m_i m h, hb]
  obtain ⟨bl, hl⟩ := (loop_w (mOk_of hb)).1 hx
  refine ⟨bl, ?_⟩
  simp only [Option.getD_some, Option.isSome_some, Bool.not_true, cond_false, Bool.and_self, cond_true, hl]

theorem right_s (m : SModule) (h : m.sz ≤ 1048576) : M.s_l16Right m = some (mOkB m && badAt m) := by
  unfold M.s_l16Right
  rw [l16_s m h]
  simp only [Option.getD_some, Option.isSome_some, Bool.and_self, cond_true, chk_iff]

end M
