/-
  THE TEXT OF A FUNCTION'S TYPE: both sides write the same.
-/
import Derived.Test.YtmgbhalimhbejaaGreatXRL
import Derived.Test.YtmgbhalimhbejaaGreatXRUP
set_option linter.unusedVariables false
set_option linter.unusedSimpArgs false
namespace M
open Go.V (inB slB catB bigN bigN_le)

noncomputable def fpar (p : SParam) : List UInt8 := (p.Name ++ [58]) ++ txt p.Type_
def fHead (a : Bool) : List UInt8 := bif a then [97, 115, 121, 110, 99, 32, 102, 117, 110, 99, 40] else [102, 117, 110, 99, 40]
noncomputable def fTail (t : SType) : List UInt8 := if t.Kind = 1 then [] else [45, 62] ++ txt t
noncomputable def ftxt (f : SFuncType) : List UInt8 := fHead f.Async ++ (jn (f.Params.map fpar) ++ 41 :: fTail f.Result)
theorem parOk_parts {p : SParam} (h : parOk p = true) : nameOk p.Name = true ∧ tOk p.Type_ = true ∧ p.Type_.Kind ≠ 1 := by
  unfold parOk at h
  simp only [Bool.not_eq_true', Bool.or_eq_false_iff, Bool.not_eq_false'] at h
  refine ⟨h.1.1, h.1.2, fun e => ?_⟩
  have : unitB p.Type_ = true := by unfold unitB; rw [e]; rfl
  rw [this] at h; cases h.2
theorem fOk_parts {f : SFuncType} (h : fOk f = true) : f.Params.length ≤ 6 ∧ (∀ p ∈ f.Params, parOk p = true) ∧ tOk f.Result = true := by
  unfold fOk at h
  simp only [Bool.and_eq_true, decide_eq_true_eq] at h
  exact ⟨h.1.1.1, List.all_eq_true.1 h.1.1.2.1, h.1.2⟩
theorem tOk_shape {t : SType} (h : tOk t = true) : tShape t = true := by unfold tOk at h; simp only [Bool.and_eq_true] at h; exact h.2
theorem txt_small {t : SType} (h : tOk t = true) : (txt t).length ≤ 120019 := txt_le t (tOk_small h)
theorem fpar_small {p : SParam} (h : parOk p = true) : (fpar p).length ≤ 120032 := by
  obtain ⟨h1, h2, -⟩ := parOk_parts h
  have := name_12 h1
  have := txt_small h2
  unfold fpar
  simp only [List.length_append, List.length_cons, List.length_nil]; omega
theorem fpars_small {f : SFuncType} (h : fOk f = true) : szL List.length (f.Params.map fpar) ≤ 720198 := by
  obtain ⟨h1, h2, -⟩ := fOk_parts h
  have := szL_const List.length 120032 (f.Params.map fpar) fun x hx => by
    obtain ⟨p, hp, rfl⟩ := List.mem_map.1 hx
    exact fpar_small (h2 p hp)
  rw [List.length_map] at this; omega
theorem fHead_len (a : Bool) : (fHead a).length ≤ 11 := by cases a <;> decide
theorem fTail_eq (t : SType) (x : List UInt8) : (bif (!(t.Kind == (1 : Int))) then x ++ ([(45 : UInt8), (62 : UInt8)] ++ txt t) else x) = x ++ fTail t := by
  unfold fTail
  by_cases h : t.Kind = 1
  · rw [if_pos h, h]; simp
  · rw [if_neg h, kb h]; simp
theorem typeText_1 {t : SType} (h : tOk t = true) : M.i_typeText t = some (txt t) := text_i bigN t (by have := bigN_le; have := tOk_small h; omega) (by have := tOk_small h; omega) (tOk_shape h)
theorem funcText_i {f : SFuncType} (h : fOk f = true) : M.i_funcText f = some (ftxt f) := by
  obtain ⟨h1, h2, h3⟩ := fOk_parts h
  have hs := fpars_small h
  have hj := jn_len (f.Params.map fpar)
  have hr := txt_small h3
  have hhd := fHead_len f.Async
  have e := push_loop (F := fun g i o => M.i_funcText_l0 [102, 117, 110, 99, 40] f.Params (f.Params.length : Int) g i f o) (h := fun o => some ([102, 117, 110, 99, 40], f, o)) fpar f.Params (by omega) [] (fun g k out hk ho => by
    show M.i_funcText_l0 [102, 117, 110, 99, 40] f.Params (f.Params.length : Int) (g + 1) (k : Int) f out = _
    rw [M.i_funcText_l0]
    have hc := cat_le (a := out.length) (b := 1) (by simp at ho; omega)
    have hp := h2 _ (List.getElem_mem hk)
    obtain ⟨p1, p2, p3⟩ := parOk_parts hp
    have hn := name_12 p1
    have ht := txt_small p2
    have hc1 : catB f.Params[k].Name [58] = true := catOk (by simp only [List.length_cons, List.length_nil]; omega)
    have hc2 : catB (f.Params[k].Name ++ [58]) (txt f.Params[k].Type_) = true := catOk (by simp only [List.length_append, List.length_cons, List.length_nil]; omega)
    simp only [SType.re_eq, SFuncType.re_eq, Int.ofNat_lt, hk, decide_true, cond_true, Int.toNat_natCast, getD_lt hk, typeText_1 p2, inB_nat, Option.isSome_some, Option.getD_some, List.length_cons, List.length_nil, Nat.zero_add, hc, hc1, hc2, Bool.true_and, Bool.and_true, wrapk hk (by omega : f.Params.length < 2 ^ 62)]
    rfl) (fun g out => by
    show M.i_funcText_l0 [102, 117, 110, 99, 40] f.Params (f.Params.length : Int) (g + 1) _ f out = _
    rw [M.i_funcText_l0]; simp [SFuncType.re_eq])
  unfold M.i_funcText
  simp only [List.nil_append] at e
  simp only [SType.re_eq, SFuncType.re_eq]
  rw [e]
  have hh : (bif f.Async then [(97 : UInt8), 115, 121, 110, 99, 32, 102, 117, 110, 99, 40] else [102, 117, 110, 99, 40]) = fHead f.Async := rfl
  have c1 : catB (fHead f.Async) (jn (f.Params.map fpar) ++ [41]) = true := catOk (by simp only [List.length_append, List.length_cons, List.length_nil]; omega)
  have c2 : catB (jn (f.Params.map fpar)) [41] = true := catOk (by simp only [List.length_cons, List.length_nil]; omega)
  have c3 : catB (fHead f.Async ++ (jn (f.Params.map fpar) ++ [41])) ([45, 62] ++ txt f.Result) = true := catOk (by simp only [List.length_append, List.length_cons, List.length_nil]; omega)
  have c4 : catB [45, 62] (txt f.Result) = true := catOk (by simp only [List.length_cons, List.length_nil]; omega)
  simp only [hh, join_ok _ (show szL List.length (f.Params.map fpar) ≤ 1073741824 by omega), typeText_1 h3, Option.getD_some, Option.isSome_some, c1, c2, c3, c4, fTail_eq, Bool.true_and, Bool.and_true, Bool.true_or, cond_true]
  unfold ftxt
  simp
theorem funcText_s {f : SFuncType} (h : fOk f = true) : M.s_l03FuncText f = some (ftxt f) := by
  obtain ⟨h1, h2, h3⟩ := fOk_parts h
  have hs := fpars_small h
  have hj := jn_len (f.Params.map fpar)
  have hr := txt_small h3
  have hhd := fHead_len f.Async
  have e := comma_loop (F := fun g s i => M.s_l03FuncText_l0 g s i f) (h := fun s => some (s, f)) (f.Params.map fpar) (by rw [List.length_map]; omega) (fHead f.Async) (fun g k s hk hls => by
    rw [List.length_map] at hk
    show M.s_l03FuncText_l0 (g + 1) s (k : Int) f = _
    rw [M.s_l03FuncText_l0]
    have hcl := comma_len k s
    have hp := h2 _ (List.getElem_mem hk)
    obtain ⟨p1, p2, p3⟩ := parOk_parts hp
    have hn := name_12 p1
    have ht := txt_small p2
    have hc1 : catB f.Params[k].Name [58] = true := catOk (by simp only [List.length_cons, List.length_nil]; omega)
    have hc2 : catB (f.Params[k].Name ++ [58]) (txt f.Params[k].Type_) = true := catOk (by simp only [List.length_append, List.length_cons, List.length_nil]; omega)
    have hc3 : catB (if 0 < k then s ++ [44] else s) (f.Params[k].Name ++ [58] ++ txt f.Params[k].Type_) = true := catOk (by simp only [List.length_append, List.length_cons, List.length_nil]; omega)
    have es := l03Text_s f.Params[k].Type_ (by have := tOk_small p2; omega) p2
    simp only [SType.re_eq, SFuncType.re_eq, Int.ofNat_lt, hk, decide_true, cond_true, Int.toNat_natCast, inB_nat, ite_comma, comma_ok k (show s.length ≤ 1000000000 by omega), comma_ok2 k (show s.length ≤ 1000000000 by omega), getD_lt hk, es, Option.getD_some, Option.isSome_some, hc1, hc2, hc3, Bool.true_and, Bool.and_true, wrapk hk (by omega : f.Params.length < 2 ^ 62), List.getElem_map]
    rfl) (fun g s => by
    show M.s_l03FuncText_l0 (g + 1) s _ f = _
    rw [List.length_map, M.s_l03FuncText_l0]; simp [SFuncType.re_eq])
  have e' : M.s_l03FuncText_l0 bigN (fHead f.Async) 0 f = _ := e
  have es := l03Text_s f.Result (by have := tOk_small h3; omega) h3
  unfold M.s_l03FuncText
  have hh : (bif f.Async then [(97 : UInt8), 115, 121, 110, 99, 32, 102, 117, 110, 99, 40] else [102, 117, 110, 99, 40]) = fHead f.Async := rfl
  simp only [SType.re_eq, SFuncType.re_eq, hh]
  rw [e']
  have c1 : catB (fHead f.Async ++ jn (f.Params.map fpar)) [41] = true := catOk (by simp only [List.length_append, List.length_cons, List.length_nil]; omega)
  have c3 : catB (fHead f.Async ++ jn (f.Params.map fpar) ++ [41]) ([45, 62] ++ txt f.Result) = true := catOk (by simp only [List.length_append, List.length_cons, List.length_nil]; omega)
  have c4 : catB [45, 62] (txt f.Result) = true := catOk (by simp only [List.length_cons, List.length_nil]; omega)
  simp only [es, Option.getD_some, Option.isSome_some, c1, c3, c4, bne_not', fTail_eq, Bool.true_and, Bool.and_true, Bool.true_or, cond_true]
  unfold ftxt
  simp
end M
/-
  READING A FUNCTION'S TYPE, the program's side.
-/
set_option linter.unusedVariables false
set_option linter.unusedSimpArgs false
namespace M
open Go.V (inB slB catB bigN bigN_le)

def takeP (p : List UInt8) (r : StypeReader) : Bool × StypeReader := if r.rest.take p.length = p then (true, ⟨r.rest.drop p.length, r.bad⟩) else (false, r)
def needP (p : List UInt8) (r : StypeReader) : StypeReader := if (takeP p r).1 then (takeP p r).2 else ⟨r.rest, true⟩
theorem take_p (p : List UInt8) (r : StypeReader) : M.i_typeReader_take p r = some (takeP p r) := by
  unfold M.i_typeReader_take M.strings_CutPrefix M.internal_stringslite_CutPrefix M.internal_stringslite_HasPrefix takeP
  obtain ⟨rest, bad⟩ := r
  by_cases hl : p.length ≤ rest.length
  · have h1 : slB (0 : Int) ((List.length p : Nat) : Int) (List.length rest) = true := slB_ok (a := 0) (by omega) hl
    have h2 : slB ((List.length p : Nat) : Int) ((List.length rest : Nat) : Int) (List.length rest) = true := slB_ok hl (Nat.le_refl _)
    have h3 : decide (((List.length p : Nat) : Int) ≤ ((List.length rest : Nat) : Int)) = true := by rw [decide_eq_true_eq]; omega
    simp only [h1, h2, h3, Int.toNat_natCast, Int.toNat_zero, List.drop_zero, List.take_length, Bool.true_and, Bool.and_true, Bool.true_or, cond_true, Option.getD_some, Option.isSome_some]
    by_cases hx : rest.take p.length = p
    · rw [hx]; simp
    · have : (rest.take p.length == p) = false := by rw [beq_eq_false_iff_ne]; exact hx
      simp [this, hx]
  · have h3 : decide (((List.length p : Nat) : Int) ≤ ((List.length rest : Nat) : Int)) = false := by rw [decide_eq_false_iff_not]; omega
    have hx : rest.take p.length ≠ p := by
      intro e
      have := congrArg List.length e
      rw [List.length_take] at this; omega
    simp only [h3, Bool.false_and, (show (false == true) = false from rfl), Bool.not_false, Bool.or_true, Bool.true_and, Bool.and_true, cond_true, cond_false, Option.getD_some, Option.isSome_some, beq_self_eq_true, if_neg hx]
theorem takeP_hit (p r : List UInt8) (b : Bool) : takeP p ⟨p ++ r, b⟩ = (true, ⟨r, b⟩) := by unfold takeP; simp
theorem needP_hit (p r : List UInt8) (b : Bool) : needP p ⟨p ++ r, b⟩ = ⟨r, b⟩ := by unfold needP; rw [takeP_hit]; rfl
theorem takeP_miss {p : List UInt8} {r : StypeReader} (h : (takeP p r).1 = false) : (takeP p r).2 = r := by
  unfold takeP at h ⊢
  split at h
  · cases h
  · rename_i hh; rw [if_neg hh]
theorem takeP_len {p : List UInt8} {r : StypeReader} (h : (takeP p r).1 = true) : (takeP p r).2.rest.length + p.length = r.rest.length ∧ (takeP p r).2.bad = r.bad := by
  unfold takeP at h ⊢
  split at h
  · rename_i hh
    have := congrArg List.length hh
    rw [List.length_take] at this
    rw [if_pos hh]
    exact ⟨by simp only [List.length_drop]; omega, rfl⟩
  · cases h
theorem takeP_le (p : List UInt8) (r : StypeReader) : (takeP p r).2.rest.length ≤ r.rest.length := by
  cases h : (takeP p r).1
  · rw [takeP_miss h]; exact Nat.le_refl _
  · have := takeP_len h; omega
theorem need_p (p : List UInt8) (r : StypeReader) : M.i_typeReader_need p r = some (needP p r) := by
  unfold M.i_typeReader_need needP
  rw [take_p]
  simp only [Option.getD_some, Option.isSome_some, Bool.and_true, cond_true]
  cases h : (takeP p r).1
  · simp only [Bool.not_false, cond_true, takeP_miss h]; rfl
  · rfl
theorem read4_tot (r : StypeReader) (h : r.rest.length ≤ 1048576) : ∃ t r', M.i_typeReader_read 4 r = some (tupI t r') ∧ r'.rest.length ≤ r.rest.length ∧ t.sz + 2 * r'.rest.length ≤ 2 * r.rest.length ∧ (r.bad = true → r'.bad = true) :=
  read_tot bigN 4 (by have := bigN_le; omega) (by omega) r h
theorem parLoop_bad (s : List UInt8) (as : Bool) (f : Nat) (r : List UInt8) (o : List SParam) :
    M.i_ReadFunc_l0 s 0 [] false 1 [] as [] [] [] [] [] (f + 1) r true o = some (s, 0, [], false, r, true, 1, [], as, [], [], [], o, [], []) := by
  rw [M.i_ReadFunc_l0]; rfl
theorem parLoop_tot (s : List UInt8) (as : Bool) : ∀ (f : Nat) (r : List UInt8) (o : List SParam), r.length + 1 < f → r.length ≤ 1048576 → o.length + r.length ≤ 10000000 →
    ∃ r' b' ps, M.i_ReadFunc_l0 s 0 [] false 1 [] as [] [] [] [] [] f r false o = some (s, 0, [], false, r', b', 1, [], as, [], [], [], o ++ ps, [], []) ∧ r'.length ≤ r.length ∧ szL SParam.sz ps + 2 * r'.length ≤ 2 * r.length + 1
  | 0, r, o, h, _, _ => by omega
  | f + 1, r, o, hf, hr, ho => by
    rw [M.i_ReadFunc_l0]
    have hc := cat_le (a := o.length) (b := 1) (by omega)
    simp only [take_i, Option.getD_some, Option.isSome_some, Bool.not_false, Bool.true_and, Bool.and_true, cond_true, beq_self_eq_true, Bool.and_self]
    cases ht : (takeF 41 ⟨r, false⟩).1
    · have hw := wordF_len (takeF 44 ⟨r, false⟩).2
      have h44 := takeF_le 44 ⟨r, false⟩
      simp only [] at h44
      obtain ⟨t, r1, e, g1, g2, g3⟩ := read4_tot (needF 58 (wordF (takeF 44 ⟨r, false⟩).2).2) (by have := needF_le 58 (wordF (takeF 44 ⟨r, false⟩).2).2; omega)
      have hn := needF_le 58 (wordF (takeF 44 ⟨r, false⟩).2).2
      have hps : ∀ ps : List SParam, szL SParam.sz (SParam.mk (wordF (takeF 44 ⟨r, false⟩).2).1 t :: ps) = (wordF (takeF 44 ⟨r, false⟩).2).1.length + t.sz + 1 + szL SParam.sz ps := fun ps => rfl
      simp only [Bool.not_false, cond_true, takeF_miss ht, take_i, need_i, word_i (takeF 44 ⟨r, false⟩).2 (by omega), e, tupI, SType.eta, Option.getD_some, Option.isSome_some, List.length_cons, List.length_nil, Nat.zero_add, hc, Bool.true_and, Bool.and_true, Bool.and_self]
      cases h58 : (takeF 58 (wordF (takeF 44 ⟨r, false⟩).2).2).1
      · have hbad : r1.bad = true := g3 (by unfold needF; rw [h58]; rfl)
        obtain ⟨f', rfl⟩ : ∃ f', f = f' + 1 := ⟨f - 1, by omega⟩
        rw [hbad, parLoop_bad]
        exact ⟨r1.rest, true, [_], rfl, by omega, by rw [hps]; simp only [szL]; omega⟩
      · have hh := takeF_hit h58
        have e58 : needF 58 (wordF (takeF 44 ⟨r, false⟩).2).2 = (takeF 58 (wordF (takeF 44 ⟨r, false⟩).2).2).2 := by unfold needF; rw [h58]; rfl
        rw [e58] at g1 g2
        cases hb : r1.bad
        · obtain ⟨r', b', ps, e2, k1, k2⟩ := parLoop_tot s as f r1.rest (o ++ [SParam.mk (wordF (takeF 44 ⟨r, false⟩).2).1 t]) (by omega) (by omega) (by simp; omega)
          exact ⟨r', b', SParam.mk (wordF (takeF 44 ⟨r, false⟩).2).1 t :: ps, by rw [e2]; simp, by omega, by rw [hps]; omega⟩
        · obtain ⟨f', rfl⟩ : ∃ f', f = f' + 1 := ⟨f - 1, by omega⟩
          rw [parLoop_bad]
          exact ⟨r1.rest, true, [_], rfl, by omega, by rw [hps]; simp only [szL]; omega⟩
    · have hh := takeF_hit ht
      simp only [] at hh
      simp only [Bool.not_true, cond_false, beq_self_eq_true, Bool.and_self, Bool.and_true, cond_true]
      exact ⟨(takeF 41 ⟨r, false⟩).2.rest, (takeF 41 ⟨r, false⟩).2.bad, [], by simp, by omega, by simp only [szL]; omega⟩
theorem d41 : isD 41 = true := by decide
theorem name_head {s : List UInt8} (h : nameOk s = true) : ∃ x t, s = x :: t ∧ x ≠ 41 ∧ x ≠ 44 := by
  have hw := name_w h
  have hl : 1 ≤ s.length := by
    unfold nameOk at h
    simp only [Bool.and_eq_true, decide_eq_true_eq] at h
    exact h.2.1.1
  cases s with
  | nil => simp at hl
  | cons x t =>
    have := hw x (by simp)
    refine ⟨x, t, rfl, ?_, ?_⟩ <;> (intro e; subst e; revert this; decide)
theorem par_back (s : List UInt8) (as : Bool) (f : Nat) (c r : List UInt8) (o : List SParam) (p : SParam) (hp : parOk p = true) (hc : c = [] ∨ c = [44]) (hr : Stop r) (hl : (c ++ (fpar p ++ r)).length ≤ 1048576) (ho : o.length ≤ 10000000) :
    M.i_ReadFunc_l0 s 0 [] false 1 [] as [] [] [] [] [] (f + 1) (c ++ (fpar p ++ r)) false o = M.i_ReadFunc_l0 s 0 [] false 1 [] as [] [] [] [] [] f r false (o ++ [p]) := by
  obtain ⟨p1, p2, p3⟩ := parOk_parts hp
  obtain ⟨x, tl, hx, h41, h44⟩ := name_head p1
  have hdp : tDepth p.Type_ ≤ 4 := by unfold tOk at p2; simp only [Bool.and_eq_true, decide_eq_true_eq] at p2; exact p2.1.1
  have hc1 := cat_le (a := o.length) (b := 1) (by omega)
  have e0 : fpar p ++ r = p.Name ++ (58 :: (txt p.Type_ ++ r)) := by unfold fpar; simp
  rw [e0] at hl ⊢
  have m41 : takeF 41 ⟨c ++ (p.Name ++ (58 :: (txt p.Type_ ++ r))), false⟩ = (false, ⟨c ++ (p.Name ++ (58 :: (txt p.Type_ ++ r))), false⟩) := by
    rcases hc with rfl | rfl
    · rw [hx]; exact take_miss _ _ h41
    · exact take_miss _ _ (by decide)
  have m44 : (takeF 44 ⟨c ++ (p.Name ++ (58 :: (txt p.Type_ ++ r))), false⟩).2 = ⟨p.Name ++ (58 :: (txt p.Type_ ++ r)), false⟩ := by
    rcases hc with rfl | rfl
    · rw [hx, List.nil_append, List.cons_append, take_miss _ _ h44]
    · rw [List.singleton_append, take_hit]
  simp only [List.length_append, List.length_cons] at hl
  have w1 := wordF_app (w := p.Name) (r := 58 :: (txt p.Type_ ++ r)) false (name_w p1) (.inr ⟨58, _, rfl, d58⟩)
  have e1 : M.i_typeReader_read 4 ⟨txt p.Type_ ++ r, false⟩ = some (tupI p.Type_ ⟨r, false⟩) := read_back bigN 4 (by have := bigN_le; omega) (by omega) p.Type_ r (tOk_shape p2) hdp hr (by simp only [List.length_append]; omega)
  rw [M.i_ReadFunc_l0]
  simp only [take_i, m41, m44, word_i ⟨p.Name ++ (58 :: (txt p.Type_ ++ r)), false⟩ (by simp only [List.length_append, List.length_cons]; omega), w1, need_i, need_hit, e1, tupI, SType.eta, Option.getD_some, Option.isSome_some, Bool.not_false, Bool.true_and, Bool.and_true, cond_true, beq_self_eq_true, Bool.and_self, List.length_cons, List.length_nil, Nat.zero_add, hc1]
theorem parEnd (s : List UInt8) (as : Bool) (f : Nat) (r : List UInt8) (o : List SParam) :
    M.i_ReadFunc_l0 s 0 [] false 1 [] as [] [] [] [] [] (f + 1) (41 :: r) false o = some (s, 0, [], false, r, false, 1, [], as, [], [], [], o, [], []) := by
  rw [M.i_ReadFunc_l0]
  simp only [take_i, take_hit, Option.getD_some, Option.isSome_some, Bool.not_false, Bool.not_true, Bool.true_and, Bool.and_true, cond_true, cond_false, beq_self_eq_true, Bool.and_self]
theorem parTail_back (s : List UInt8) (as : Bool) (r : List UInt8) : ∀ (ps : List SParam) (f : Nat) (o : List SParam), ps.length < f → (∀ p ∈ ps, parOk p = true) → o.length + ps.length ≤ 1000000 → (Go.Lib.joinTail [44] (ps.map fpar) ++ 41 :: r).length ≤ 1048576 →
    M.i_ReadFunc_l0 s 0 [] false 1 [] as [] [] [] [] [] f (Go.Lib.joinTail [44] (ps.map fpar) ++ 41 :: r) false o = some (s, 0, [], false, r, false, 1, [], as, [], [], [], o ++ ps, [], [])
  | ps, 0, o, h, _, _, _ => by omega
  | [], f + 1, o, hf, hp, ho, hl => by rw [List.map_nil, jt_nil, List.nil_append, parEnd, List.append_nil]
  | p :: ps, f + 1, o, hf, hp, ho, hl => by
    have e0 : Go.Lib.joinTail [44] ((p :: ps).map fpar) ++ 41 :: r = [44] ++ (fpar p ++ (Go.Lib.joinTail [44] (ps.map fpar) ++ 41 :: r)) := by simp [jt_cons]
    rw [e0] at hl ⊢
    rw [par_back s as f [44] _ o p (hp p (by simp)) (.inr rfl) (stop_jt _ _ _ d41 (by decide)) hl (by simp at ho; omega), parTail_back s as r ps f (o ++ [p]) (by simpa using hf) (fun q hq => hp q (by simp [hq])) (by simp at ho ⊢; omega) (by simp only [List.length_append, List.length_cons] at hl ⊢; omega)]
    simp
theorem pars_back (s : List UInt8) (as : Bool) (r : List UInt8) (ps : List SParam) (hp : ∀ p ∈ ps, parOk p = true) (hn : ps.length ≤ 6) (hl : (jn (ps.map fpar) ++ 41 :: r).length ≤ 1048576) :
    M.i_ReadFunc_l0 s 0 [] false 1 [] as [] [] [] [] [] bigN (jn (ps.map fpar) ++ 41 :: r) false [] = some (s, 0, [], false, r, false, 1, [], as, [], [], [], ps, [], []) := by
  have hbig := bigN_le
  obtain ⟨f, hf⟩ : ∃ f, bigN = f + 1 := ⟨bigN - 1, by omega⟩
  rw [hf]
  cases ps with
  | nil => exact parEnd s as f r []
  | cons p ps =>
    have e0 : jn ((p :: ps).map fpar) ++ 41 :: r = [] ++ (fpar p ++ (Go.Lib.joinTail [44] (ps.map fpar) ++ 41 :: r)) := by simp [jn_cons]
    rw [e0] at hl ⊢
    rw [par_back s as f [] _ [] p (hp p (by simp)) (.inl rfl) (stop_jt _ _ _ d41 (by decide)) hl (by simp), parTail_back s as r ps f ([] ++ [p]) (by simp at hn; omega) (fun q hq => hp q (by simp [hq])) (by simp at hn ⊢; omega) (by simp only [List.length_append, List.length_cons] at hl ⊢; omega)]
    simp
end M
/-
  READING A FUNCTION'S TYPE: the program reads exactly the texts of right types.
-/
set_option linter.unusedVariables false
set_option linter.unusedSimpArgs false
namespace M
open Go.V (inB slB catB bigN bigN_le)

theorem fsz_small {f : SFuncType} (h : fOk f = true) : f.sz ≤ 100000 := by
  obtain ⟨h1, h2, h3⟩ := fOk_parts h
  have := szL_const SParam.sz 6012 f.Params fun p hp => by
    obtain ⟨p1, p2, p3⟩ := parOk_parts (h2 p hp)
    have := name_12 p1
    have := tOk_small p2
    rw [SParam.sz_eq]; omega
  have := tOk_small h3
  rw [SFuncType.sz_eq]; omega
theorem funcText_all (f : SFuncType) (h : f.sz ≤ 2097152) : M.i_FuncText f = some (if fOk f = true then ftxt f else []) := by
  unfold M.i_FuncText
  simp only [SFuncType.re_eq, funcOk_i f h, Option.getD_some, Option.isSome_some, Bool.and_true, cond_true]
  cases hf : fOk f with
  | false => simp
  | true => simp [funcText_i hf]
theorem head_i (a : Bool) (X : List UInt8) : takeP [97, 115, 121, 110, 99, 32] ⟨fHead a ++ X, false⟩ = (a, ⟨[102, 117, 110, 99, 40] ++ X, false⟩) := by
  cases a with
  | false =>
    have : ([102, 117, 110, 99, 40] ++ X).take 6 ≠ ([97, 115, 121, 110, 99, 32] : List UInt8) := by
      intro e
      have := congrArg List.head? e
      simp at this
    unfold takeP
    exact if_neg this
  | true => exact takeP_hit [97, 115, 121, 110, 99, 32] ([102, 117, 110, 99, 40] ++ X) false
theorem readFunc_nil : M.i_ReadFunc [] = some (0, [], false, false, [], [], []) := by
  obtain ⟨g, hg⟩ : ∃ g, bigN = g + 1 := ⟨bigN - 1, by have := bigN_le; omega⟩
  unfold M.i_ReadFunc
  have e1 : takeP [97, 115, 121, 110, 99, 32] ⟨[], false⟩ = (false, ⟨[], false⟩) := rfl
  have e2 : needP [102, 117, 110, 99, 40] ⟨[], false⟩ = ⟨[], true⟩ := rfl
  have e3 : takeP [45, 62] ⟨[], true⟩ = (false, ⟨[], true⟩) := rfl
  simp only [take_p, e1, need_p, e2, Option.getD_some, Option.isSome_some, hg, parLoop_bad, e3, cond_false, Bool.true_or, (show (true == false) = false from rfl), Bool.not_false, Bool.or_true, cond_true, Bool.and_true, Bool.true_and]
theorem readFunc_i {s : List UInt8} (hs : s.length ≤ 1048576) : (∀ f, fOk f = true → ftxt f = s → M.i_ReadFunc s = some (f.Result.Kind, f.Result.Name, f.Async, true, f.Params, f.Result.Labels, f.Result.Kids)) ∧ ((∀ f, fOk f = true → ftxt f ≠ s) → M.i_ReadFunc s = some (0, [], false, false, [], [], [])) := by
  have hbig := bigN_le
  refine ⟨fun f hf he => ?_, fun hno => ?_⟩
  · subst he
    obtain ⟨h1, h2, h3⟩ := fOk_parts hf
    have hfz := fsz_small hf
    have hh := head_i f.Async (jn (f.Params.map fpar) ++ 41 :: fTail f.Result)
    have hl2 : (jn (f.Params.map fpar) ++ 41 :: fTail f.Result).length ≤ 1048576 := by
      unfold ftxt at hs
      simp only [List.length_append] at hs ⊢; omega
    have hlt : (fTail f.Result).length ≤ 1048576 := by
      simp only [List.length_append, List.length_cons] at hl2; omega
    have hpb := pars_back (ftxt f) f.Async (fTail f.Result) f.Params h2 h1 hl2
    have hdp : tDepth f.Result ≤ 4 := by unfold tOk at h3; simp only [Bool.and_eq_true, decide_eq_true_eq] at h3; exact h3.1.1
    have e0 : takeP [97, 115, 121, 110, 99, 32] ⟨ftxt f, false⟩ = _ := hh
    have hft := funcText_all f (by omega)
    rw [hf] at hft
    unfold M.i_ReadFunc
    simp only [take_p, e0, need_p, needP_hit, Option.getD_some, Option.isSome_some]
    rw [hpb]
    by_cases hk : f.Result.Kind = 1
    · have hu := unit_eq (tOk_shape h3) hk
      have et : fTail f.Result = [] := by unfold fTail; rw [if_pos hk]
      have e3 : takeP [45, 62] ⟨[], false⟩ = (false, ⟨[], false⟩) := rfl
      have ef : SFuncType.mk f.Params (SType.mk 1 [] [] []) f.Async = f := by rw [← hu]
      simp only [et, e3, cond_false, ef, hft, Option.getD_some, Option.isSome_some, if_true, beq_self_eq_true, Bool.not_true, Bool.or_self, Bool.true_or, Bool.and_true, Bool.true_and, cond_true]
      rw [hu]; rfl
    · have et : fTail f.Result = [45, 62] ++ txt f.Result := by unfold fTail; rw [if_neg hk]
      rw [et] at hlt
      have er := read_txt (tOk_shape h3) hdp (by simp only [List.length_append] at hlt; omega)
      have ef : SFuncType.mk f.Params f.Result f.Async = f := rfl
      simp only [et, takeP_hit, cond_true, er, tupI, SType.eta, ef, hft, Option.getD_some, Option.isSome_some, if_true, beq_self_eq_true, Bool.not_true, Bool.or_self, cond_false, Bool.true_or, Bool.and_true, Bool.true_and]
  · by_cases hz : s = []
    · subst hz; exact readFunc_nil
    have hrej : ∀ (b : Bool) (f : SFuncType), (b || !((if fOk f = true then ftxt f else []) == s)) = true := fun b f => by
      cases hok : fOk f
      · have : (([] : List UInt8) == s) = false := by rw [beq_eq_false_iff_ne]; exact fun e => hz e.symm
        simp [this]
      · have : (ftxt f == s) = false := by rw [beq_eq_false_iff_ne]; exact hno f hok
        simp [this]
    have hloop : ∃ r' b' ps, M.i_ReadFunc_l0 s 0 [] false 1 [] (takeP [97, 115, 121, 110, 99, 32] ⟨s, false⟩).1 [] [] [] [] [] bigN (needP [102, 117, 110, 99, 40] (takeP [97, 115, 121, 110, 99, 32] ⟨s, false⟩).2).rest (needP [102, 117, 110, 99, 40] (takeP [97, 115, 121, 110, 99, 32] ⟨s, false⟩).2).bad [] = some (s, 0, [], false, r', b', 1, [], (takeP [97, 115, 121, 110, 99, 32] ⟨s, false⟩).1, [], [], [], ps, [], []) ∧ r'.length ≤ s.length ∧ szL SParam.sz ps + 2 * r'.length ≤ 2 * s.length := by
      have h1 := takeP_le [97, 115, 121, 110, 99, 32] ⟨s, false⟩
      simp only [] at h1
      cases hb : (takeP [102, 117, 110, 99, 40] (takeP [97, 115, 121, 110, 99, 32] ⟨s, false⟩).2).1 with
      | false =>
        have e : needP [102, 117, 110, 99, 40] (takeP [97, 115, 121, 110, 99, 32] ⟨s, false⟩).2 = ⟨(takeP [97, 115, 121, 110, 99, 32] ⟨s, false⟩).2.rest, true⟩ := by unfold needP; rw [hb]; rfl
        rw [e]
        obtain ⟨g, hg⟩ : ∃ g, bigN = g + 1 := ⟨bigN - 1, by omega⟩
        rw [hg, parLoop_bad]
        exact ⟨_, _, [], rfl, h1, by simp only [szL]; omega⟩
      | true =>
        have e : needP [102, 117, 110, 99, 40] (takeP [97, 115, 121, 110, 99, 32] ⟨s, false⟩).2 = (takeP [102, 117, 110, 99, 40] (takeP [97, 115, 121, 110, 99, 32] ⟨s, false⟩).2).2 := by unfold needP; rw [hb]; rfl
        have h2 := takeP_len hb
        have h3 : (takeP [97, 115, 121, 110, 99, 32] ⟨s, false⟩).2.bad = false := by
          cases hq : (takeP [97, 115, 121, 110, 99, 32] ⟨s, false⟩).1
          · rw [takeP_miss hq]
          · exact (takeP_len hq).2
        rw [e, h2.2, h3]
        simp only [List.length_cons, List.length_nil] at h2
        obtain ⟨r', b', ps, e2, k1, k2⟩ := parLoop_tot s (takeP [97, 115, 121, 110, 99, 32] ⟨s, false⟩).1 bigN (takeP [102, 117, 110, 99, 40] (takeP [97, 115, 121, 110, 99, 32] ⟨s, false⟩).2).2.rest [] (by omega) (by omega) (by simp; omega)
        rw [e2]
        exact ⟨r', b', ps, rfl, by omega, by omega⟩
    obtain ⟨r', b', ps, e, k1, k2⟩ := hloop
    unfold M.i_ReadFunc
    simp only [take_p, need_p, Option.getD_some, Option.isSome_some]
    rw [e]
    simp only []
    cases ht : (takeP [45, 62] ⟨r', b'⟩).1 with
    | false =>
      have hft := funcText_all (SFuncType.mk ps (SType.mk 1 [] [] []) (takeP [97, 115, 121, 110, 99, 32] ⟨s, false⟩).1) (by rw [SFuncType.sz_eq]; show szL SParam.sz ps + (SType.mk 1 [] [] []).sz ≤ _; rw [show (SType.mk 1 [] [] []).sz = 0 from rfl]; omega)
      simp only [cond_false, hft, Option.getD_some, Option.isSome_some, hrej, Bool.true_or, Bool.and_true, Bool.true_and, cond_true]
    | true =>
      have hlen := takeP_len ht
      simp only [List.length_cons, List.length_nil] at hlen
      obtain ⟨t, r2, e2, j1, j2, -⟩ := read4_tot (takeP [45, 62] ⟨r', b'⟩).2 (by omega)
      have hft := funcText_all (SFuncType.mk ps t (takeP [97, 115, 121, 110, 99, 32] ⟨s, false⟩).1) (by rw [SFuncType.sz_eq]; show szL SParam.sz ps + t.sz ≤ _; omega)
      simp only [cond_true, e2, tupI, SType.eta, hft, Option.getD_some, Option.isSome_some, hrej, Bool.true_or, Bool.and_true, Bool.true_and]
end M
/-
  READING A FUNCTION'S TYPE, the reference's side: the parameters.
-/
set_option linter.unusedVariables false
set_option linter.unusedSimpArgs false
namespace M
open Go.V (inB slB catB bigN bigN_le)
abbrev parR (as : Bool) (r : M.Sl03Src) (ps : List SParam) : M.Sl03Src × Int × (List UInt8) × Bool × Int × (List UInt8) × Bool × (List M.SParam) × (List (List UInt8)) × (List M.SType) × (List M.SParam) × (List (List UInt8)) × (List M.SType) :=
  (r, 0, [], false, 1, [], as, [], [], [], ps, [], [])
theorem par_step (as : Bool) (s : List UInt8) (f n : Nat) (o : List SParam) (x : SType) (n3 : Nat) (b3 : Bool) (hs : s.length ≤ 1048576) (hn : n ≤ s.length) (ho : o.length ≤ 100000000)
    (hx : M.s_l03Src_readType 1 (stS s (takeN 58 s (n + (wordN s n).length)) (!takeT 58 s (n + (wordN s n).length))) = some (x, stS s n3 b3)) :
    M.s_l03Src_readFunc_l0 0 [] false 1 [] as [] [] [] [] [] (f + 1) (stS s n false) o =
      (if takeT 41 s n3 then some (parR as (stS s (n3 + 1) b3) (o ++ [SParam.mk (wordN s n) x]))
      else M.s_l03Src_readFunc_l0 0 [] false 1 [] as [] [] [] [] [] f (stS s (takeN 44 s n3) (b3 || !takeT 44 s n3)) (o ++ [SParam.mk (wordN s n) x])) := by
  have hc := cat_le (a := o.length) (b := 1) (by omega)
  rw [M.s_l03Src_readFunc_l0]
  simp only [Bool.not_false, cond_true, word_s s n false hs hn, must_s _ _ _ _ hs, take_s _ _ _ _ hs, Option.getD_some, Option.isSome_some, Bool.false_or, hx, SType.re_eq, List.length_cons, List.length_nil, Nat.zero_add, hc, Bool.true_and, Bool.and_true]
  cases h : takeT 41 s n3 <;> simp [takeN, h]
theorem par_bad (as : Bool) (f : Nat) (s : List UInt8) (n : Nat) (o : List SParam) :
    M.s_l03Src_readFunc_l0 0 [] false 1 [] as [] [] [] [] [] (f + 1) (stS s n true) o = some (parR as (stS s n true) o) := by
  rw [M.s_l03Src_readFunc_l0]; rfl
theorem read1_tot (s : List UInt8) (n : Nat) (b : Bool) (hs : s.length ≤ 1048576) (hn : n ≤ s.length) : ∃ t n' b', M.s_l03Src_readType 1 (stS s n b) = some (t, stS s n' b') ∧ n ≤ n' ∧ n' ≤ s.length ∧ t.sz + 2 * n ≤ 2 * n' :=
  readS_tot bigN 1 (by have := bigN_le; omega) (by omega) s n b hs hn
theorem par_tot (as : Bool) (s : List UInt8) (hs : s.length ≤ 1048576) : ∀ (f n : Nat) (o : List SParam), n ≤ s.length → s.length - n + 1 < f → o.length + (s.length - n) ≤ 10000000 →
    ∃ (n' : Nat) (b' : Bool) (ps : List SParam), M.s_l03Src_readFunc_l0 0 [] false 1 [] as [] [] [] [] [] f (stS s n false) o = some (parR as (stS s n' b') (o ++ ps)) ∧ n ≤ n' ∧ n' ≤ s.length ∧ szL SParam.sz ps + 2 * n ≤ 2 * n' + 1
  | 0, n, o, _, h, _ => by omega
  | f + 1, n, o, hn, hf, ho => by
    have hw := wordN_le s n hn
    have h58 := takeN_le 58 hw
    obtain ⟨x, n3, b3, e, g1, g2, g3⟩ := read1_tot s (takeN 58 s (n + (wordN s n).length)) (!takeT 58 s (n + (wordN s n).length)) hs h58.2
    rw [par_step as s f n o x n3 b3 hs hn (by omega) e]
    have hps : ∀ ps : List SParam, szL SParam.sz (SParam.mk (wordN s n) x :: ps) = (wordN s n).length + x.sz + 1 + szL SParam.sz ps := fun ps => rfl
    have h44 := takeN_le 44 g2
    cases h : takeT 41 s n3 with
    | true =>
      have hlt := takeT_lt h
      exact ⟨n3 + 1, b3, [SParam.mk (wordN s n) x], rfl, by omega, by omega, by rw [hps]; simp only [szL]; omega⟩
    | false =>
      simp only [Bool.false_eq_true, if_false]
      cases hb : (b3 || !takeT 44 s n3) with
      | true =>
        obtain ⟨f', rfl⟩ : ∃ f', f = f' + 1 := ⟨f - 1, by omega⟩
        rw [par_bad]
        exact ⟨takeN 44 s n3, true, [SParam.mk (wordN s n) x], rfl, by omega, by omega, by rw [hps]; simp only [szL]; omega⟩
      | false =>
        simp only [Bool.or_eq_false_iff, Bool.not_eq_false'] at hb
        have e1 : takeN 44 s n3 = n3 + 1 := by unfold takeN; rw [hb.2]; rfl
        have hlt := takeT_lt hb.2
        rw [e1]
        obtain ⟨n', b', ps, e2, k1, k2, k3⟩ := par_tot as s hs f (n3 + 1) (o ++ [SParam.mk (wordN s n) x]) (by omega) (by omega) (by simp; omega)
        exact ⟨n', b', SParam.mk (wordN s n) x :: ps, by rw [e2]; simp, by omega, k2, by rw [hps]; omega⟩
theorem word_app2 {s : List UInt8} {n : Nat} {w r : List UInt8} {x : UInt8} (h : s.drop n = w ++ x :: r) (hw : allW w) (hx : wch x = false) : wordN s n = w := by
  unfold wordN
  rw [h]
  exact (while_app w (x :: r) hw (.inr ⟨x, r, rfl, hx⟩)).1
theorem parS_back (as : Bool) (s : List UInt8) (f n : Nat) (o : List SParam) (p : SParam) (y : UInt8) (r : List UInt8) (hs : s.length ≤ 1048576) (ho : o.length ≤ 10000000) (hp : parOk p = true) (hy : isD y = true) (hy2 : y ≠ 58) (h : s.drop n = fpar p ++ y :: r) :
    M.s_l03Src_readFunc_l0 0 [] false 1 [] as [] [] [] [] [] (f + 1) (stS s n false) o =
      (if takeT 41 s (n + (fpar p).length) then some (parR as (stS s (n + (fpar p).length + 1) false) (o ++ [p]))
      else M.s_l03Src_readFunc_l0 0 [] false 1 [] as [] [] [] [] [] f (stS s (takeN 44 s (n + (fpar p).length)) (!takeT 44 s (n + (fpar p).length))) (o ++ [p])) := by
  obtain ⟨p1, p2, p3⟩ := parOk_parts hp
  have hdp : tDepth p.Type_ ≤ 4 := by unfold tOk at p2; simp only [Bool.and_eq_true, decide_eq_true_eq] at p2; exact p2.1.1
  have hn : n ≤ s.length := by
    rcases Nat.lt_or_ge s.length n with h1 | h1
    · rw [List.drop_eq_nil_of_le (by omega)] at h; simp at h
    · exact h1
  have e0 : fpar p ++ y :: r = p.Name ++ (58 :: (txt p.Type_ ++ y :: r)) := by unfold fpar; simp
  have el : (fpar p).length = p.Name.length + 1 + (txt p.Type_).length := by unfold fpar; simp only [List.length_append, List.length_cons, List.length_nil]
  rw [e0] at h
  have w1 := word_app h (name_w p1) (.inr ⟨58, _, rfl, d58⟩)
  have x1 := drop_add h
  have x2 := drop_one x1
  have t58 : takeT 58 s (n + (wordN s n).length) = true := by rw [w1, takeT_hit x1]; rfl
  have n58 : takeN 58 s (n + (wordN s n).length) = n + p.Name.length + 1 := by unfold takeN; rw [t58, w1]; rfl
  have e1 : M.s_l03Src_readType 1 (stS s (takeN 58 s (n + (wordN s n).length)) (!takeT 58 s (n + (wordN s n).length))) = some (p.Type_, stS s (n + (fpar p).length) false) := by
    rw [n58, t58, el]
    have := readS_back bigN 1 (by have := bigN_le; omega) (by omega) p.Type_ s (n + p.Name.length + 1) (y :: r) hs x2 (tOk_shape p2) (by omega) (stop_cons hy hy2)
    rw [show n + (p.Name.length + 1 + (txt p.Type_).length) = n + p.Name.length + 1 + (txt p.Type_).length by omega]
    exact this
  rw [par_step as s f n o p.Type_ _ false hs hn (by omega) e1, w1]
  rfl
theorem parsS_back (as : Bool) (s : List UInt8) (hs : s.length ≤ 1048576) (r : List UInt8) : ∀ (ps : List SParam) (p : SParam) (f n : Nat) (o : List SParam), ps.length < f → (∀ q ∈ p :: ps, parOk q = true) → o.length + ps.length ≤ 1000000 → s.drop n = jn ((p :: ps).map fpar) ++ 41 :: r →
    M.s_l03Src_readFunc_l0 0 [] false 1 [] as [] [] [] [] [] f (stS s n false) o = some (parR as (stS s (n + (jn ((p :: ps).map fpar)).length + 1) false) (o ++ p :: ps))
  | ps, p, 0, n, o, h, _, _, _ => by omega
  | [], p, f + 1, n, o, hf, hp, ho, h => by
    simp only [List.map_cons, List.map_nil, jn_cons, jt_nil, List.append_nil] at h ⊢
    have g3 := drop_add h
    rw [parS_back as s f n o p 41 r hs (by simp at ho; omega) (hp p (by simp)) d41 (by decide) h]
    have : takeT 41 s (n + (fpar p).length) = true := by rw [takeT_hit g3]; rfl
    rw [this]; rfl
  | q :: ps, p, f + 1, n, o, hf, hp, ho, h => by
    have ej : jn ((p :: q :: ps).map fpar) = fpar p ++ 44 :: jn ((q :: ps).map fpar) := by
      simp only [List.map_cons, jn_cons, jt_cons]
    rw [ej] at h ⊢
    rw [List.append_assoc, List.cons_append] at h
    have g3 := drop_add h
    rw [parS_back as s f n o p 44 _ hs (by simp at ho; omega) (hp p (by simp)) d44 (by decide) h]
    have t41 : takeT 41 s (n + (fpar p).length) = false := by rw [takeT_hit g3]; rfl
    have t44 : takeT 44 s (n + (fpar p).length) = true := by rw [takeT_hit g3]; rfl
    have e44 : takeN 44 s (n + (fpar p).length) = n + (fpar p).length + 1 := by unfold takeN; rw [t44]; rfl
    rw [t41, t44, e44]
    have := parsS_back as s hs r ps q f (n + (fpar p).length + 1) (o ++ [p]) (by simpa using hf) (fun z hz => hp z (by simp only [List.mem_cons] at hz ⊢; exact .inr hz)) (by simp at ho ⊢; omega) (drop_one g3)
    simp only [Bool.false_eq_true, if_false, Bool.not_true]
    rw [this]
    simp only [List.append_assoc, List.singleton_append, List.length_append, List.length_cons]
    rw [show n + (fpar p).length + 1 + (jn ((q :: ps).map fpar)).length + 1 = n + ((fpar p).length + ((jn ((q :: ps).map fpar)).length + 1)) + 1 by omega]
end M
/-
  READING A FUNCTION'S TYPE: the reference reads exactly the texts of right types.
-/
set_option linter.unusedVariables false
set_option linter.unusedSimpArgs false
namespace M
open Go.V (inB slB catB bigN bigN_le)

theorem w_async : allW [97, 115, 121, 110, 99] := by intro c hc; revert c; decide
theorem w_func : allW [102, 117, 110, 99] := by intro c hc; revert c; decide
theorem takeN_hit {c : Int} {s : List UInt8} {n : Nat} (h : takeT c s n = true) : takeN c s n = n + 1 := by unfold takeN; rw [h]; rfl
theorem d40 : isD 40 = true := by decide
theorem tailS_tot (as : Bool) (s : List UInt8) (hs : s.length ≤ 1048576) (N : Nat) (hN : N ≤ s.length) (B : Bool) (hB : B = false → 1 ≤ N) : takeT 41 s N = false →
    ∃ (n' : Nat) (b' : Bool) (ps : List SParam), M.s_l03Src_readFunc_l0 0 [] false 1 [] as [] [] [] [] [] bigN (stS s (takeN 41 s N) B) [] = some (parR as (stS s n' b') ps) ∧ n' ≤ s.length ∧ szL SParam.sz ps ≤ 2 * n' := by
  intro h
  have hbig := bigN_le
  have e : takeN 41 s N = N := by unfold takeN; rw [h]; rfl
  rw [e]
  cases B with
  | true =>
    obtain ⟨g, hg⟩ : ∃ g, bigN = g + 1 := ⟨bigN - 1, by omega⟩
    rw [hg, par_bad]
    exact ⟨N, true, [], rfl, hN, by simp [szL]⟩
  | false =>
    have := hB rfl
    obtain ⟨n', b', ps, e2, k1, k2, k3⟩ := par_tot as s hs bigN N [] hN (by omega) (by simp; omega)
    rw [e2]
    exact ⟨n', b', ps, rfl, k2, by omega⟩
theorem readFuncS_tot (s : List UInt8) (hs : s.length ≤ 1048576) : ∃ f n' b', M.s_l03Src_readFunc (stS s 0 false) = some (f, stS s n' b') ∧ f.sz ≤ 2097152 := by
  have hw := wordN_le s 0 (Nat.zero_le _)
  unfold M.s_l03Src_readFunc
  simp only [word_s s 0 false hs (Nat.zero_le _), Option.getD_some, Option.isSome_some]
  cases hA : (wordN s 0 == [97, 115, 121, 110, 99]) with
  | true =>
    have g32 := takeN_le 32 hw
    have hw2 := wordN_le s (takeN 32 s (0 + (wordN s 0).length)) g32.2
    have g40 := takeN_le 40 hw2
    simp only [cond_true, must_s _ _ _ _ hs, word_s s (takeN 32 s (0 + (wordN s 0).length)) _ hs g32.2, take_s _ _ _ _ hs, Option.getD_some, Option.isSome_some, Bool.true_and, Bool.and_true, Bool.and_self]
    cases h41 : takeT 41 s (takeN 40 s (takeN 32 s (0 + (wordN s 0).length) + (wordN s (takeN 32 s (0 + (wordN s 0).length))).length)) with
    | false =>
      obtain ⟨n', b', ps, e, k1, k2⟩ := tailS_tot true s hs (takeN 40 s (takeN 32 s (0 + (wordN s 0).length) + (wordN s (takeN 32 s (0 + (wordN s 0).length))).length)) (by omega) ((false || !takeT 32 s (0 + (wordN s 0).length) || !(wordN s (takeN 32 s (0 + (wordN s 0).length)) == [102, 117, 110, 99])) || !takeT 40 s (takeN 32 s (0 + (wordN s 0).length) + (wordN s (takeN 32 s (0 + (wordN s 0).length))).length)) (fun hh => by
        simp only [Bool.or_eq_false_iff, Bool.not_eq_false'] at hh
        have : takeN 40 s (takeN 32 s (0 + (wordN s 0).length) + (wordN s (takeN 32 s (0 + (wordN s 0).length))).length) = takeN 32 s (0 + (wordN s 0).length) + (wordN s (takeN 32 s (0 + (wordN s 0).length))).length + 1 := takeN_hit hh.2
        omega) h41
      simp only [Bool.not_false, cond_true]
      rw [e]
      simp only []
      cases b' with
      | true =>
        simp only [Bool.not_true, cond_false, (show (false == false) = true from rfl), Bool.true_and, Bool.and_true, Bool.and_self, cond_true]
        exact ⟨_, n', true, rfl, by rw [SFuncType.sz_eq]; show szL SParam.sz ps + (SType.mk 1 [] [] []).sz ≤ _; rw [show (SType.mk 1 [] [] []).sz = 0 from rfl]; omega⟩
      | false =>
        simp only [Bool.not_false, cond_true, take_s _ _ _ _ hs, Option.getD_some, Option.isSome_some]
        cases h45 : takeT 45 s n' with
        | false =>
          simp only [cond_false, (show (true == true) = true from rfl), Bool.true_and, Bool.and_true, Bool.and_self, cond_true]
          exact ⟨_, _, _, rfl, by rw [SFuncType.sz_eq]; show szL SParam.sz ps + (SType.mk 1 [] [] []).sz ≤ _; rw [show (SType.mk 1 [] [] []).sz = 0 from rfl]; omega⟩
        | true =>
          have g45 := takeN_le 45 k1
          have g62 := takeN_le 62 g45.2
          obtain ⟨t, n2, b2, e2, j1, j2, j3⟩ := read1_tot s (takeN 62 s (takeN 45 s n')) (false || !takeT 62 s (takeN 45 s n')) hs g62.2
          simp only [cond_true, must_s _ _ _ _ hs, Option.getD_some, Option.isSome_some, e2, SType.re_eq, (show (true == true) = true from rfl), Bool.true_and, Bool.and_true, Bool.and_self]
          exact ⟨_, n2, b2, rfl, by rw [SFuncType.sz_eq]; show szL SParam.sz ps + t.sz ≤ _; omega⟩
    | true =>
      have g41 := takeN_le 41 (show takeN 40 s (takeN 32 s (0 + (wordN s 0).length) + (wordN s (takeN 32 s (0 + (wordN s 0).length))).length) ≤ s.length by omega)
      simp only [Bool.not_true, cond_false]
      cases hb : ((false || !takeT 32 s (0 + (wordN s 0).length) || !(wordN s (takeN 32 s (0 + (wordN s 0).length)) == [102, 117, 110, 99])) || !takeT 40 s (takeN 32 s (0 + (wordN s 0).length) + (wordN s (takeN 32 s (0 + (wordN s 0).length))).length) : Bool) with
      | true =>
        simp only [hb, Bool.not_true, cond_false, (show (false == false) = true from rfl), Bool.true_and, Bool.and_true, Bool.and_self, cond_true]
        exact ⟨_, _, _, rfl, by rw [SFuncType.sz_eq]; show 0 + (SType.mk 1 [] [] []).sz ≤ _; rw [show (SType.mk 1 [] [] []).sz = 0 from rfl]; omega⟩
      | false =>
        simp only [hb, Bool.not_false, cond_true, take_s _ _ _ _ hs, Option.getD_some, Option.isSome_some]
        cases h45 : takeT 45 s (takeN 41 s (takeN 40 s (takeN 32 s (0 + (wordN s 0).length) + (wordN s (takeN 32 s (0 + (wordN s 0).length))).length))) with
        | false =>
          simp only [cond_false, (show (true == true) = true from rfl), Bool.true_and, Bool.and_true, Bool.and_self, cond_true]
          exact ⟨_, _, _, rfl, by rw [SFuncType.sz_eq]; show 0 + (SType.mk 1 [] [] []).sz ≤ _; rw [show (SType.mk 1 [] [] []).sz = 0 from rfl]; omega⟩
        | true =>
          have g45 := takeN_le 45 g41.2
          have g62 := takeN_le 62 g45.2
          obtain ⟨t, n2, b2, e2, j1, j2, j3⟩ := read1_tot s (takeN 62 s (takeN 45 s (takeN 41 s (takeN 40 s (takeN 32 s (0 + (wordN s 0).length) + (wordN s (takeN 32 s (0 + (wordN s 0).length))).length))))) (false || !takeT 62 s (takeN 45 s (takeN 41 s (takeN 40 s (takeN 32 s (0 + (wordN s 0).length) + (wordN s (takeN 32 s (0 + (wordN s 0).length))).length))))) hs g62.2
          simp only [cond_true, must_s _ _ _ _ hs, Option.getD_some, Option.isSome_some, e2, SType.re_eq, (show (true == true) = true from rfl), Bool.true_and, Bool.and_true, Bool.and_self]
          exact ⟨_, n2, b2, rfl, by rw [SFuncType.sz_eq]; show 0 + t.sz ≤ _; omega⟩
  | false =>
    have g40 := takeN_le 40 hw
    simp only [cond_false, must_s _ _ _ _ hs, take_s _ _ _ _ hs, Option.getD_some, Option.isSome_some, Bool.true_and, Bool.and_true, Bool.and_self]
    cases h41 : takeT 41 s (takeN 40 s (0 + (wordN s 0).length)) with
    | false =>
      obtain ⟨n', b', ps, e, k1, k2⟩ := tailS_tot false s hs (takeN 40 s (0 + (wordN s 0).length)) (by omega) ((false || !(wordN s 0 == [102, 117, 110, 99])) || !takeT 40 s (0 + (wordN s 0).length)) (fun hh => by
        simp only [Bool.or_eq_false_iff, Bool.not_eq_false'] at hh
        have : takeN 40 s (0 + (wordN s 0).length) = 0 + (wordN s 0).length + 1 := by unfold takeN; rw [hh.2]; rfl
        omega) h41
      simp only [Bool.not_false, cond_true]
      rw [e]
      simp only []
      cases b' with
      | true =>
        simp only [Bool.not_true, cond_false, (show (false == false) = true from rfl), Bool.true_and, Bool.and_true, Bool.and_self, cond_true]
        exact ⟨_, n', true, rfl, by rw [SFuncType.sz_eq]; show szL SParam.sz ps + (SType.mk 1 [] [] []).sz ≤ _; rw [show (SType.mk 1 [] [] []).sz = 0 from rfl]; omega⟩
      | false =>
        simp only [Bool.not_false, cond_true, take_s _ _ _ _ hs, Option.getD_some, Option.isSome_some]
        cases h45 : takeT 45 s n' with
        | false =>
          simp only [cond_false, (show (true == true) = true from rfl), Bool.true_and, Bool.and_true, Bool.and_self, cond_true]
          exact ⟨_, _, _, rfl, by rw [SFuncType.sz_eq]; show szL SParam.sz ps + (SType.mk 1 [] [] []).sz ≤ _; rw [show (SType.mk 1 [] [] []).sz = 0 from rfl]; omega⟩
        | true =>
          have g45 := takeN_le 45 k1
          have g62 := takeN_le 62 g45.2
          obtain ⟨t, n2, b2, e2, j1, j2, j3⟩ := read1_tot s (takeN 62 s (takeN 45 s n')) (false || !takeT 62 s (takeN 45 s n')) hs g62.2
          simp only [cond_true, must_s _ _ _ _ hs, Option.getD_some, Option.isSome_some, e2, SType.re_eq, (show (true == true) = true from rfl), Bool.true_and, Bool.and_true, Bool.and_self]
          exact ⟨_, n2, b2, rfl, by rw [SFuncType.sz_eq]; show szL SParam.sz ps + t.sz ≤ _; omega⟩
    | true =>
      have g41 := takeN_le 41 (show takeN 40 s (0 + (wordN s 0).length) ≤ s.length by omega)
      simp only [Bool.not_true, cond_false]
      cases hb : ((false || !(wordN s 0 == [102, 117, 110, 99])) || !takeT 40 s (0 + (wordN s 0).length) : Bool) with
      | true =>
        simp only [hb, Bool.not_true, cond_false, (show (false == false) = true from rfl), Bool.true_and, Bool.and_true, Bool.and_self, cond_true]
        exact ⟨_, _, _, rfl, by rw [SFuncType.sz_eq]; show 0 + (SType.mk 1 [] [] []).sz ≤ _; rw [show (SType.mk 1 [] [] []).sz = 0 from rfl]; omega⟩
      | false =>
        simp only [hb, Bool.not_false, cond_true, take_s _ _ _ _ hs, Option.getD_some, Option.isSome_some]
        cases h45 : takeT 45 s (takeN 41 s (takeN 40 s (0 + (wordN s 0).length))) with
        | false =>
          simp only [cond_false, (show (true == true) = true from rfl), Bool.true_and, Bool.and_true, Bool.and_self, cond_true]
          exact ⟨_, _, _, rfl, by rw [SFuncType.sz_eq]; show 0 + (SType.mk 1 [] [] []).sz ≤ _; rw [show (SType.mk 1 [] [] []).sz = 0 from rfl]; omega⟩
        | true =>
          have g45 := takeN_le 45 g41.2
          have g62 := takeN_le 62 g45.2
          obtain ⟨t, n2, b2, e2, j1, j2, j3⟩ := read1_tot s (takeN 62 s (takeN 45 s (takeN 41 s (takeN 40 s (0 + (wordN s 0).length))))) (false || !takeT 62 s (takeN 45 s (takeN 41 s (takeN 40 s (0 + (wordN s 0).length))))) hs g62.2
          simp only [cond_true, must_s _ _ _ _ hs, Option.getD_some, Option.isSome_some, e2, SType.re_eq, (show (true == true) = true from rfl), Bool.true_and, Bool.and_true, Bool.and_self]
          exact ⟨_, n2, b2, rfl, by rw [SFuncType.sz_eq]; show 0 + t.sz ≤ _; omega⟩
end M
/-
  READING A FUNCTION'S TYPE, the reference's side: every right type is read back.
-/
set_option linter.unusedVariables false
set_option linter.unusedSimpArgs false
namespace M
open Go.V (inB slB catB bigN bigN_le)

theorem takeN_miss {c : Int} {s : List UInt8} {n : Nat} (h : takeT c s n = false) : takeN c s n = n := by unfold takeN; rw [h]; rfl
theorem fpar_head {p : SParam} (h : parOk p = true) : ∃ x t, fpar p = x :: t ∧ x ≠ 41 := by
  obtain ⟨x, t, e, h1, -⟩ := name_head (parOk_parts h).1
  exact ⟨x, t ++ [58] ++ txt p.Type_, by unfold fpar; rw [e]; simp, h1⟩
theorem jn_head {ps : List SParam} (h : ∀ q ∈ ps, parOk q = true) (hne : ps ≠ []) : ∃ x t, jn (ps.map fpar) = x :: t ∧ x ≠ 41 := by
  cases ps with
  | nil => exact absurd rfl hne
  | cons p ps =>
    obtain ⟨x, t, e, h1⟩ := fpar_head (h p (by simp))
    exact ⟨x, t ++ Go.Lib.joinTail [44] (ps.map fpar), by rw [List.map_cons, jn_cons, e]; rfl, h1⟩
theorem u8_ne {x : UInt8} {c : Nat} (h : x ≠ UInt8.ofNat c) (hc : c < 256) : (((x.toNat : Nat) : Int) == ((c : Nat) : Int)) = false := by
  rw [beq_eq_false_iff_ne]
  intro e
  apply h
  have : x.toNat = c := by omega
  rw [← this]; simp
theorem sp_w : wch 32 = false := by decide
theorem readFuncS_back {f : SFuncType} (hf : fOk f = true) (hs : (ftxt f).length ≤ 1048576) : M.s_l03Src_readFunc (stS (ftxt f) 0 false) = some (f, stS (ftxt f) (ftxt f).length false) := by
  have hbig := bigN_le
  obtain ⟨h1, h2, h3⟩ := fOk_parts hf
  have hdp : tDepth f.Result ≤ 4 := by unfold tOk at h3; simp only [Bool.and_eq_true, decide_eq_true_eq] at h3; exact h3.1.1
  have hd : (ftxt f).drop (fHead f.Async).length = jn (f.Params.map fpar) ++ 41 :: fTail f.Result := by unfold ftxt; exact List.drop_left
  have hlen : (ftxt f).length = (fHead f.Async).length + ((jn (f.Params.map fpar)).length + ((fTail f.Result).length + 1)) := by
    unfold ftxt; simp only [List.length_append, List.length_cons]
  -- what stands behind the parameters
  have hd2 := drop_one (drop_add hd)
  have hw0 : (ftxt f).drop 0 = fHead f.Async ++ (jn (f.Params.map fpar) ++ 41 :: fTail f.Result) := rfl
  generalize hS : ftxt f = S at *
  generalize hH : (fHead f.Async).length = H at *
  have hP : M.s_l03Src_readFunc_l0 0 [] false 1 [] f.Async [] [] [] [] [] bigN (stS S H false) [] = some (parR f.Async (stS S (H + (jn (f.Params.map fpar)).length + 1) false) f.Params) ∧ f.Params ≠ [] ∨ f.Params = [] := by
    cases hp : f.Params with
    | nil => exact .inr rfl
    | cons p ps =>
      rw [hp] at hd h1 h2
      exact .inl ⟨parsS_back f.Async S hs (fTail f.Result) ps p bigN H [] (by simp at h1; omega) h2 (by simp at h1 ⊢; omega) hd, by simp⟩
  have hR : f.Result.Kind = 1 ∨ (takeT 45 S (H + (jn (f.Params.map fpar)).length + 1) = true ∧ takeT 62 S (H + (jn (f.Params.map fpar)).length + 1 + 1) = true ∧ M.s_l03Src_readType 1 (stS S (H + (jn (f.Params.map fpar)).length + 1 + 1 + 1) false) = some (f.Result, stS S S.length false)) := by
    by_cases hk : f.Result.Kind = 1
    · exact .inl hk
    · have et : fTail f.Result = 45 :: 62 :: txt f.Result := by unfold fTail; rw [if_neg hk]; rfl
      rw [et] at hd2 hlen
      have x2 := drop_one hd2
      have x3 := drop_one x2
      refine .inr ⟨by rw [takeT_hit hd2]; rfl, by rw [takeT_hit x2]; rfl, ?_⟩
      have := readS_back bigN 1 (by omega) (by omega) f.Result S (H + (jn (f.Params.map fpar)).length + 1 + 1 + 1) [] hs (by rw [x3]; simp) (tOk_shape h3) (by omega) (.inl rfl)
      rw [show S.length = H + (jn (f.Params.map fpar)).length + 1 + 1 + 1 + (txt f.Result).length by simp only [List.length_cons] at hlen; omega]
      exact this
  have hU : f.Result.Kind = 1 → takeT 45 S (H + (jn (f.Params.map fpar)).length + 1) = false ∧ S.length = H + (jn (f.Params.map fpar)).length + 1 ∧ f.Result = SType.mk 1 [] [] [] := fun hk => by
    have et : fTail f.Result = [] := by unfold fTail; rw [if_pos hk]
    rw [et] at hd2 hlen
    exact ⟨takeT_end hd2 45, by simp at hlen; omega, unit_eq (tOk_shape h3) hk⟩
  unfold M.s_l03Src_readFunc
  cases ha : f.Async with
  | true =>
    rw [ha] at hw0 hH hP
    have eH : H = 11 := hH.symm
    have b1 : S.drop 0 = [97, 115, 121, 110, 99] ++ 32 :: ([102, 117, 110, 99] ++ 40 :: (jn (f.Params.map fpar) ++ 41 :: fTail f.Result)) := hw0
    have w1 := word_app2 b1 w_async sp_w
    have b2 : S.drop 5 = 32 :: ([102, 117, 110, 99] ++ 40 :: (jn (f.Params.map fpar) ++ 41 :: fTail f.Result)) := drop_add b1
    have t32 : takeT 32 S 5 = true := by rw [takeT_hit b2]; rfl
    have b3 : S.drop 6 = [102, 117, 110, 99] ++ 40 :: (jn (f.Params.map fpar) ++ 41 :: fTail f.Result) := drop_one b2
    have w2 := word_app b3 w_func (.inr ⟨40, _, rfl, d40⟩)
    have b4 : S.drop 10 = 40 :: (jn (f.Params.map fpar) ++ 41 :: fTail f.Result) := drop_add b3
    have t40 : takeT 40 S 10 = true := by rw [takeT_hit b4]; rfl
    have hle : 6 ≤ S.length := by have := drop_lt b4; omega
    have k5 : 0 + ([97, 115, 121, 110, 99] : List UInt8).length = 5 := rfl
    have k10 : 6 + ([102, 117, 110, 99] : List UInt8).length = 10 := rfl
    have ew : (([97, 115, 121, 110, 99] : List UInt8) == [97, 115, 121, 110, 99]) = true := by decide
    have ew2 : (([102, 117, 110, 99] : List UInt8) == [102, 117, 110, 99]) = true := by decide
    simp only [word_s S 0 false hs (Nat.zero_le _), w1, ew, cond_true, k5, must_s _ _ _ _ hs, t32, takeN_hit t32, Bool.not_true, Bool.or_self, Option.getD_some, Option.isSome_some, word_s S 6 false hs hle, w2, ew2, k10, t40, takeN_hit t40, take_s _ _ _ _ hs, Bool.true_and, Bool.and_true, Bool.and_self]
    rw [show (10 : Nat) + 1 = H from eH.symm]
    rcases hP with ⟨hP, hne⟩ | hP
    · obtain ⟨x, tl, ex, hx⟩ := jn_head h2 hne
      have t41 : takeT 41 S H = false := by
        rw [ex] at hd
        rw [takeT_hit hd]; exact u8_ne (c := 41) hx (by decide)
      simp only [t41, takeN_miss t41, Bool.not_false, cond_true]
      rw [hP]
      simp only [Bool.not_false, cond_true, take_s _ _ _ _ hs, Option.getD_some, Option.isSome_some]
      rcases hR with hk | ⟨r1, r2, r3⟩
      · obtain ⟨u1, u2, u3⟩ := hU hk
        simp only [u1, takeN_miss u1, cond_false, (show (true == true) = true from rfl), Bool.true_and, Bool.and_true, Bool.and_self, cond_true]
        rw [← u3, ← u2, ← ha]
      · simp only [r1, takeN_hit r1, cond_true, must_s _ _ _ _ hs, r2, takeN_hit r2, Bool.not_true, Bool.or_self, Option.getD_some, Option.isSome_some, r3, SType.re_eq, (show (true == true) = true from rfl), Bool.true_and, Bool.and_true, Bool.and_self]
        rw [← ha]
    · rw [hP] at hd hd2 hR hU
      have t41 : takeT 41 S H = true := by rw [takeT_hit hd]; rfl
      have e0 : H + (jn (([] : List SParam).map fpar)).length + 1 = H + 1 := rfl
      rw [e0] at hR hU
      simp only [t41, takeN_hit t41, Bool.not_true, cond_false, Bool.not_false, cond_true, take_s _ _ _ _ hs, Option.getD_some, Option.isSome_some]
      rcases hR with hk | ⟨r1, r2, r3⟩
      · obtain ⟨u1, u2, u3⟩ := hU hk
        simp only [u1, takeN_miss u1, cond_false, (show (true == true) = true from rfl), Bool.true_and, Bool.and_true, Bool.and_self, cond_true]
        rw [← u3, ← u2, ← ha, ← hP]
      · simp only [r1, takeN_hit r1, cond_true, must_s _ _ _ _ hs, r2, takeN_hit r2, Bool.not_true, Bool.or_self, Option.getD_some, Option.isSome_some, r3, SType.re_eq, (show (true == true) = true from rfl), Bool.true_and, Bool.and_true, Bool.and_self]
        rw [← ha, ← hP]
  | false =>
    rw [ha] at hw0 hH hP
    have eH : H = 5 := hH.symm
    have b3 : S.drop 0 = [102, 117, 110, 99] ++ 40 :: (jn (f.Params.map fpar) ++ 41 :: fTail f.Result) := hw0
    have w2 := word_app b3 w_func (.inr ⟨40, _, rfl, d40⟩)
    have b4 : S.drop 4 = 40 :: (jn (f.Params.map fpar) ++ 41 :: fTail f.Result) := drop_add b3
    have t40 : takeT 40 S 4 = true := by rw [takeT_hit b4]; rfl
    have k4 : 0 + ([102, 117, 110, 99] : List UInt8).length = 4 := rfl
    have ew : (([102, 117, 110, 99] : List UInt8) == [97, 115, 121, 110, 99]) = false := by decide
    have ew2 : (([102, 117, 110, 99] : List UInt8) == [102, 117, 110, 99]) = true := by decide
    simp only [word_s S 0 false hs (Nat.zero_le _), w2, ew, ew2, cond_false, k4, must_s _ _ _ _ hs, Bool.not_true, Bool.or_self, Option.getD_some, Option.isSome_some, t40, takeN_hit t40, take_s _ _ _ _ hs, Bool.true_and, Bool.and_true, Bool.and_self]
    rw [show (4 : Nat) + 1 = H from eH.symm]
    rcases hP with ⟨hP, hne⟩ | hP
    · obtain ⟨x, tl, ex, hx⟩ := jn_head h2 hne
      have t41 : takeT 41 S H = false := by
        rw [ex] at hd
        rw [takeT_hit hd]; exact u8_ne (c := 41) hx (by decide)
      simp only [t41, takeN_miss t41, Bool.not_false, cond_true]
      rw [hP]
      simp only [Bool.not_false, cond_true, take_s _ _ _ _ hs, Option.getD_some, Option.isSome_some]
      rcases hR with hk | ⟨r1, r2, r3⟩
      · obtain ⟨u1, u2, u3⟩ := hU hk
        simp only [u1, takeN_miss u1, cond_false, (show (true == true) = true from rfl), Bool.true_and, Bool.and_true, Bool.and_self, cond_true]
        rw [← u3, ← u2, ← ha]
      · simp only [r1, takeN_hit r1, cond_true, must_s _ _ _ _ hs, r2, takeN_hit r2, Bool.not_true, Bool.or_self, Option.getD_some, Option.isSome_some, r3, SType.re_eq, (show (true == true) = true from rfl), Bool.true_and, Bool.and_true, Bool.and_self]
        rw [← ha]
    · rw [hP] at hd hd2 hR hU
      have t41 : takeT 41 S H = true := by rw [takeT_hit hd]; rfl
      have e0 : H + (jn (([] : List SParam).map fpar)).length + 1 = H + 1 := rfl
      rw [e0] at hR hU
      simp only [t41, takeN_hit t41, Bool.not_true, cond_false, Bool.not_false, cond_true, take_s _ _ _ _ hs, Option.getD_some, Option.isSome_some]
      rcases hR with hk | ⟨r1, r2, r3⟩
      · obtain ⟨u1, u2, u3⟩ := hU hk
        simp only [u1, takeN_miss u1, cond_false, (show (true == true) = true from rfl), Bool.true_and, Bool.and_true, Bool.and_self, cond_true]
        rw [← u3, ← u2, ← ha, ← hP]
      · simp only [r1, takeN_hit r1, cond_true, must_s _ _ _ _ hs, r2, takeN_hit r2, Bool.not_true, Bool.or_self, Option.getD_some, Option.isSome_some, r3, SType.re_eq, (show (true == true) = true from rfl), Bool.true_and, Bool.and_true, Bool.and_self]
        rw [← ha, ← hP]
end M
/-
  READING A FUNCTION'S TYPE: the law in plain Lean.
-/
set_option linter.unusedVariables false
set_option linter.unusedSimpArgs false
namespace M
open Go.V (inB slB catB bigN bigN_le)

theorem readFunc_s {s : List UInt8} (hs : s.length ≤ 1048576) : (∀ f, fOk f = true → ftxt f = s → M.s_ReadFunc s = some (f, true)) ∧ ((∀ f, fOk f = true → ftxt f ≠ s) → M.s_ReadFunc s = some (SFuncType.mk [] (SType.mk 0 [] [] []) false, false)) := by
  refine ⟨fun f hf he => ?_, fun hno => ?_⟩
  · subst he
    have e := readFuncS_back hf hs
    have e' : M.s_l03Src_readFunc (Sl03Src.mk (ftxt f) 0 false) = _ := e
    have hz := fsz_small hf
    unfold M.s_ReadFunc
    simp only [e', Option.getD_some, Option.isSome_some, SFuncType.re_eq, func_s f (by omega), hf, funcText_s hf]
    simp
  · obtain ⟨f, n', b', e, hz⟩ := readFuncS_tot s hs
    have e' : M.s_l03Src_readFunc (Sl03Src.mk s 0 false) = _ := e
    unfold M.s_ReadFunc
    simp only [e', Option.getD_some, Option.isSome_some, SFuncType.re_eq, func_s f hz]
    cases hok : fOk f with
    | false => simp
    | true =>
      have : (ftxt f == s) = false := by rw [beq_eq_false_iff_ne]; exact hno f hok
      simp only [funcText_s hok, Option.getD_some, Option.isSome_some, this]
      simp
noncomputable def mPa (k : Int) (p : SParam) : Int × SParam := ((mTy (k + 1) p.Type_).1, SParam.mk (mT k) (mTy (k + 1) p.Type_).2)
theorem mPa_le (x : SParam) (k : Int) : k ≤ (mPa k x).1 ∧ (mPa k x).1 ≤ k + 3 * ((x.sz + 1 : Nat) : Int) := by
  have h := mTy_le x.Type_ (k + 1)
  have hs := SParam.sz_eq x
  unfold mPa
  simp only []
  omega
theorem mPas_le : ∀ (l : List SParam) (k : Int), k ≤ (markL mPa k l).1 ∧ (markL mPa k l).1 ≤ k + 3 * (szL SParam.sz l : Int)
  | [], k => by simp [markL, szL]
  | x :: r, k => by
    have h1 := mPa_le x k
    have h2 := mPas_le r (mPa k x).1
    simp only [markL, szL]
    omega
theorem markPas_ok (a : List SParam) (k : Int) (hz : szL SParam.sz a ≤ 1048576) (h0 : 0 ≤ k) (h1 : k ≤ 1000000000) : M.l_markParamS k a = some (markL mPa k a) := by
  have hlen := szL_len SParam.sz a
  unfold M.l_markParamS
  rw [mark_loop (F := M.l_markParamS_l0) (mk := mPa) a (by omega) (fun i q => 0 ≤ q ∧ q + 3 * (szL SParam.sz (a.drop i) : Int) ≤ 100000000000) SParam.zero (fun f q i l hi hl hg hI => by
    rw [drop_get hi, szL] at hI
    have hle := mPa_le a[i] q
    have hmem := szL_mem SParam.sz a a[i] (List.getElem_mem hi)
    have hps := SParam.sz_eq a[i]
    have hs := SType.sz_eq a[i].Type_
    have hll := szL_len List.length a[i].Type_.Labels
    have hkk := szL_len SType.sz a[i].Type_.Kids
    have hms := mS_le a[i].Type_.Labels (q + 1 + 1 + 1)
    rw [M.l_markParamS_l0]
    have hlt : decide ((i : Int) < ((l.length : Nat) : Int)) = true := by rw [decide_eq_true_eq]; omega
    have hin : inB (i : Int) l.length = true := by rw [inB_nat]; simpa using hl
    have w1 : Go.IntKind.wrap .i64 (q + 1) = q + 1 := wrap_i64 (by omega) (by omega)
    have w2 : Go.IntKind.wrap .i64 (q + 1 + 1) = q + 1 + 1 := wrap_i64 (by omega) (by omega)
    have w3 : Go.IntKind.wrap .i64 (q + 1 + 1 + 1) = q + 1 + 1 + 1 := wrap_i64 (by omega) (by omega)
    have e0 := mT_eq (k := q) (by omega) (by omega)
    have e1 := mT_eq (k := q + 1 + 1) (by omega) (by omega)
    have e2 := markS_ok a[i].Type_.Labels (by omega) (q + 1 + 1 + 1) (by omega) (by omega)
    have e3 := markTys_n bigN a[i].Type_.Kids (markL mS (q + 1 + 1 + 1) a[i].Type_.Labels).1 (by have := bigN_le; omega) (by omega) (by omega) (by omega)
    have e3' : M.l_markTypeS (markL mS (q + 1 + 1 + 1) a[i].Type_.Labels).1 a[i].Type_.Kids = _ := e3
    refine ⟨?_, by omega, by omega⟩
    simp only [hlt, hin, Int.toNat_natCast, cond_true, Bool.true_and, Bool.and_true, getD_set, hl, List.length_set, hg, w1, w2, w3, SType.re_eq, SType.p1, SType.p2, SType.p3, SType.p4, e0, e1, e2, e3', Option.isSome_some, Option.getD_some, wrapk hi (big_of (show a.length ≤ 1048576 by omega)), List.set_set]
    unfold mPa
    rw [mTy_eq]) (fun f q l hl => by rw [M.l_markParamS_l0]; simp [hl]) k ⟨h0, by simp only [List.drop_zero]; omega⟩]
theorem heldPas_ok (a : List SParam) (k : Int) (hz : szL SParam.sz a ≤ 1048576) (h0 : 0 ≤ k) (h1 : k ≤ 1000000000) : M.l_heldParamS (markL mPa k a).2 k = some (markL mPa k a).1 := by
  have hlen := szL_len SParam.sz a
  unfold M.l_heldParamS
  rw [held_loop (F := M.l_heldParamS_l0 (markL mPa k a).2) (mk := mPa) (fin := id) a (by omega) (fun i q => 0 ≤ q ∧ q + 3 * (szL SParam.sz (a.drop i) : Int) ≤ 100000000000) SParam.zero k ⟨h0, by simp only [List.drop_zero]; omega⟩ (fun f q i y hi e1 e2 hI => by
    subst e2
    rw [drop_get hi, szL] at hI
    have hle := mPa_le a[i] q
    have hmem := szL_mem SParam.sz a a[i] (List.getElem_mem hi)
    have hps := SParam.sz_eq a[i]
    have hs := SType.sz_eq a[i].Type_
    have hll := szL_len List.length a[i].Type_.Labels
    have hkk := szL_len SType.sz a[i].Type_.Kids
    have hms := mS_le a[i].Type_.Labels (q + 1 + 1 + 1)
    rw [M.l_heldParamS_l0]
    have hlt : decide ((i : Int) < (((markL mPa k a).2.length : Nat) : Int)) = true := by rw [decide_eq_true_eq, markL_len]; omega
    have hin : inB (i : Int) (markL mPa k a).2.length = true := by rw [inB_nat, markL_len]; simpa using hi
    have w1 : Go.IntKind.wrap .i64 (q + 1) = q + 1 := wrap_i64 (by omega) (by omega)
    have w2 : Go.IntKind.wrap .i64 (q + 1 + 1) = q + 1 + 1 := wrap_i64 (by omega) (by omega)
    have w3 : Go.IntKind.wrap .i64 (q + 1 + 1 + 1) = q + 1 + 1 + 1 := wrap_i64 (by omega) (by omega)
    have m0 := mT_eq (k := q) (by omega) (by omega)
    have m1 := mT_eq (k := q + 1 + 1) (by omega) (by omega)
    have m2 := heldS_ok a[i].Type_.Labels (by omega) (q + 1 + 1 + 1) (by omega) (by omega)
    have m3 := heldTys_n bigN a[i].Type_.Kids (markL mS (q + 1 + 1 + 1) a[i].Type_.Labels).1 (by have := bigN_le; omega) (by omega) (by omega) (by omega)
    have m3' : M.l_heldTypeS (markL mTy (markL mS (q + 1 + 1 + 1) a[i].Type_.Labels).1 a[i].Type_.Kids).2 (markL mS (q + 1 + 1 + 1) a[i].Type_.Labels).1 = _ := m3
    have n1 := neg_false (n := (markL mS (q + 1 + 1 + 1) a[i].Type_.Labels).1) (by omega)
    have n2 := neg_false (n := (markL mTy (markL mS (q + 1 + 1 + 1) a[i].Type_.Labels).1 a[i].Type_.Kids).1) (by rw [← mTy_1 (q + 1)]; unfold mPa at hle; simp only [] at hle; omega)
    have pN : (mPa q a[i]).2.Name = mT q := rfl
    have pT : (mPa q a[i]).2.Type_ = (mTy (q + 1) a[i].Type_).2 := rfl
    refine ⟨?_, by omega, by omega⟩
    simp only [hlt, hin, e1, pN, pT, Int.toNat_natCast, cond_true, cond_false, Bool.true_and, Bool.and_true, mTy_Kind, mTy_Name, mTy_Labels, mTy_Kids, w1, w2, w3, m0, m1, m2, m3', n1, n2, Option.isSome_some, Option.getD_some, wrapk hi (big_of (show a.length ≤ 1048576 by omega)), beq_self_eq_true, bne_self_eq_false, Bool.not_true, Bool.and_self]
    unfold mPa
    rw [mTy_1]) (fun f q => by rw [M.l_heldParamS_l0]; simp [markL_len])]
  rfl
theorem mark_held_k (t : SType) (h : t.sz ≤ 100000) (k0 : Int) (a0 : 0 ≤ k0) (a1 : k0 ≤ 100000000) : ∃ (k : Int) (ls : List (List UInt8)) (ks : List SType), M.l_markType t.Kind t.Name k0 t.Labels t.Kids = some (k, ls, ks) ∧ M.l_heldType (SType.mk t.Kind t.Name ls ks) k0 = some k ∧ 0 ≤ k := by
  have hs := SType.sz_eq t
  have hll := szL_len List.length t.Labels
  have hkk := szL_len SType.sz t.Kids
  have hms := mS_le t.Labels k0
  have m1 := markS_ok t.Labels (by omega) k0 (by omega) (by omega)
  have m2 := markTys_ok t.Kids (markL mS k0 t.Labels).1 (by omega) (by omega) (by omega)
  have h1 := heldS_ok t.Labels (by omega) k0 (by omega) (by omega)
  have h2 := heldTys_ok t.Kids (markL mS k0 t.Labels).1 (by omega) (by omega) (by omega)
  have hle := markTys_le t.Kids (markL mS k0 t.Labels).1
  refine ⟨(markL mTy (markL mS k0 t.Labels).1 t.Kids).1, (markL mS k0 t.Labels).2, (markL mTy (markL mS k0 t.Labels).1 t.Kids).2, ?_, ?_, by omega⟩
  · unfold M.l_markType
    simp only [m1, m2, Option.getD_some, Option.isSome_some, Bool.and_true, cond_true]
  · unfold M.l_heldType
    simp only [SType.p3, SType.p4, h1, h2, Option.getD_some, Option.isSome_some, Bool.and_true, neg_false (show (0 : Int) ≤ (markL mS k0 t.Labels).1 by omega), neg_false (show (0 : Int) ≤ (markL mTy (markL mS k0 t.Labels).1 t.Kids).1 by omega), cond_true, cond_false]
theorem markF_held (f : SFuncType) (h : f.sz ≤ 100000) : ∃ (k : Int) (ps : List SParam) (ls : List (List UInt8)) (ks : List SType), M.l_markFuncType f.Result.Kind f.Result.Name f.Async 1 f.Params f.Result.Labels f.Result.Kids = some (k, ps, ls, ks) ∧ M.l_heldFuncType (SFuncType.mk ps (SType.mk f.Result.Kind f.Result.Name ls ks) f.Async) 1 = some k ∧ 0 ≤ k := by
  rw [SFuncType.sz_eq] at h
  have hle := mPas_le f.Params 1
  have m1 := markPas_ok f.Params 1 (by omega) (by omega) (by omega)
  have h1 := heldPas_ok f.Params 1 (by omega) (by omega) (by omega)
  obtain ⟨k, ls, ks, a1, a2, a3⟩ := mark_held_k f.Result (by omega) (markL mPa 1 f.Params).1 (by omega) (by omega)
  refine ⟨k, (markL mPa 1 f.Params).2, ls, ks, ?_, ?_, a3⟩
  · unfold M.l_markFuncType
    simp only [m1, a1, Option.getD_some, Option.isSome_some, Bool.and_true, cond_true]
  · unfold M.l_heldFuncType
    simp only [h1, SType.re_eq, a2, Option.getD_some, Option.isSome_some, Bool.and_true, neg_false (show (0 : Int) ≤ (markL mPa 1 f.Params).1 by omega), neg_false a3, cond_true, cond_false]
theorem law_ReadFunc (s : List UInt8) : M.l_FnExactReadFunc s = some true := by
  unfold M.l_FnExactReadFunc
  by_cases hs : s.length ≤ 1048576
  · rw [decide_eq_false (show ¬ (1048576 : Int) < ((s.length : Nat) : Int) by omega), cond_false]
    obtain ⟨a1, a2⟩ := readFunc_i hs
    obtain ⟨b1, b2⟩ := readFunc_s hs
    by_cases hex : ∃ f, fOk f = true ∧ ftxt f = s
    · obtain ⟨f, hf, he⟩ := hex
      have hz := fsz_small hf
      have e3 := eq_FuncType f (by omega)
      obtain ⟨k, ps, ls, ks, m1, m2, m3⟩ := markF_held f hz
      have ef : SFuncType.mk f.Params f.Result f.Async = f := rfl
      simp only [a1 f hf he, b1 f hf he, Option.getD_some, Option.isSome_some, SFuncType.re_eq, SType.eta, ef, e3, m1, m2, neg_false m3, beq_self_eq_true, bne_self_eq_false, Bool.not_true, Bool.or_self, Bool.and_true, Bool.and_self, cond_true, cond_false]
    · have hno : ∀ f, fOk f = true → ftxt f ≠ s := fun f hf he => hex ⟨f, hf, he⟩
      have hz0 : (SFuncType.mk [] (SType.mk 0 [] [] []) false).sz = 0 := rfl
      have e3 := eq_FuncType (SFuncType.mk [] (SType.mk 0 [] [] []) false) (by rw [hz0]; omega)
      obtain ⟨k, ps, ls, ks, m1, m2, m3⟩ := markF_held (SFuncType.mk [] (SType.mk 0 [] [] []) false) (by rw [hz0]; omega)
      have m1' : M.l_markFuncType 0 [] false 1 [] [] [] = some (k, ps, ls, ks) := m1
      have m2' : M.l_heldFuncType (SFuncType.mk ps (SType.mk 0 [] ls ks) false) 1 = some k := m2
      simp only [a2 hno, b2 hno, Option.getD_some, Option.isSome_some, SFuncType.re_eq, e3, m1', m2', neg_false m3, beq_self_eq_true, bne_self_eq_false, Bool.not_true, Bool.or_self, Bool.and_true, Bool.and_self, cond_true, cond_false]
  · rw [decide_eq_true (show (1048576 : Int) < ((s.length : Nat) : Int) by omega), cond_true]
end M
