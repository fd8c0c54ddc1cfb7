/-
  THE TEXT OF A FUNCTION'S TYPE: both sides write the same.
-/
import Derived.Test.YtmgbhalimhbejaaGreatXSY
import Derived.Test.YtmgbhalimhbejaaGreatXSUP
set_option linter.unusedVariables false
set_option linter.unusedSimpArgs false
namespace M
open Go.V (inB slB catB bigN bigN_le)

noncomputable def fpar (p : SParam) : List UInt8 := (p.Name ++ [58]) ++ txt p.Type_
def fHead (a : Bool) : List UInt8 := bif a then [97, 115, 121, 110, 99, 32, 102, 117, 110, 99, 40] else [102, 117, 110, 99, 40]
noncomputable def fTail (t : SType) : List UInt8 := if t.Kind = 1 then [] else [45, 62] ++ txt t
noncomputable def ftxt (f : SFuncType) : List UInt8 := fHead f.Async ++ (jn (f.Params.map fpar) ++ 41 :: fTail f.Result)
theorem parOk_parts {p : SParam} (h : parOk p = true) : nameOk p.Name = true ∧ tOk p.Type_ = true ∧ p.Type_.Kind ≠ 1 := by
  unfold parOk at h
  simp only [Bool.not_eq_true', Bool.or_eq_false_iff, Bool.not_eq_false'] at h
  refine ⟨h.1.1, h.1.2, fun e => ?_⟩
  have : unitB p.Type_ = true := by unfold unitB; rw [e]; rfl
  rw [this] at h; cases h.2
theorem fOk_parts {f : SFuncType} (h : fOk f = true) : f.Params.length ≤ 6 ∧ (∀ p ∈ f.Params, parOk p = true) ∧ tOk f.Result = true := by
  unfold fOk at h
  simp only [Bool.and_eq_true, decide_eq_true_eq] at h
  exact ⟨h.1.1.1, List.all_eq_true.1 h.1.1.2.1, h.1.2⟩
theorem tOk_shape {t : SType} (h : tOk t = true) : tShape t = true := by unfold tOk at h; simp only [Bool.and_eq_true] at h; exact h.2
theorem txt_small {t : SType} (h : tOk t = true) : (txt t).length ≤ 120019 := txt_le t (tOk_small h)
theorem fpar_small {p : SParam} (h : parOk p = true) : (fpar p).length ≤ 120032 := by
  obtain ⟨h1, h2, -⟩ := parOk_parts h
  have := name_12 h1
  have := txt_small h2
  unfold fpar
  simp only [List.length_append, List.length_cons, List.length_nil]; omega
theorem fpars_small {f : SFuncType} (h : fOk f = true) : szL List.length (f.Params.map fpar) ≤ 720198 := by
  obtain ⟨h1, h2, -⟩ := fOk_parts h
  have := szL_const List.length 120032 (f.Params.map fpar) fun x hx => by
    obtain ⟨p, hp, rfl⟩ := List.mem_map.1 hx
    exact fpar_small (h2 p hp)
  rw [List.length_map] at this; omega
theorem fHead_len (a : Bool) : (fHead a).length ≤ 11 := by cases a <;> decide
theorem fTail_eq (t : SType) (x : List UInt8) : (bif (!(t.Kind == (1 : Int))) then x ++ ([(45 : UInt8), (62 : UInt8)] ++ txt t) else x) = x ++ fTail t := by
  unfold fTail
  by_cases h : t.Kind = 1
  · rw [if_pos h, h]; simp
  · rw [if_neg h, kb h]; simp
theorem typeText_1 {t : SType} (h : tOk t = true) : M.i_typeText t = some (txt t) := text_i bigN t (by have := bigN_le; have := tOk_small h; omega) (by have := tOk_small h; omega) (tOk_shape h)
theorem funcText_i {f : SFuncType} (h : fOk f = true) : M.i_funcText f = some (ftxt f) := by
  obtain ⟨h1, h2, h3⟩ := fOk_parts h
  have hs := fpars_small h
  have hj := jn_len (f.Params.map fpar)
  have hr := txt_small h3
  have hhd := fHead_len f.Async
  have e := push_loop (F := fun g i o => M.i_funcText_l0 [102, 117, 110, 99, 40] f.Params (f.Params.length : Int) g i f o) (h := fun o => some ([102, 117, 110, 99, 40], f, o)) fpar f.Params (by omega) [] (fun g k out hk ho => by
    show M.i_funcText_l0 [102, 117, 110, 99, 40] f.Params (f.Params.length : Int) (g + 1) (k : Int) f out = _
    rw [M.i_funcText_l0]
    have hc := cat_le (a := out.length) (b := 1) (by simp at ho; omega)
    have hp := h2 _ (List.getElem_mem hk)
    obtain ⟨p1, p2, p3⟩ := parOk_parts hp
    have hn := name_12 p1
    have ht := txt_small p2
    have hc1 : catB f.Params[k].Name [58] = true := catOk (by simp only [List.length_cons, List.length_nil]; omega)
    have hc2 : catB (f.Params[k].Name ++ [58]) (txt f.Params[k].Type_) = true := catOk (by simp only [List.length_append, List.length_cons, List.length_nil]; omega)
    simp only [SType.re_eq, SFuncType.re_eq, Int.ofNat_lt, hk, decide_true, cond_true, Int.toNat_natCast, getD_lt hk, typeText_1 p2, inB_nat, Option.isSome_some, Option.getD_some, List.length_cons, List.length_nil, Nat.zero_add, hc, hc1, hc2, Bool.true_and, Bool.and_true, wrapk hk (by omega : f.Params.length < 2 ^ 62)]
    rfl) (fun g out => by
    show M.i_funcText_l0 [102, 117, 110, 99, 40] f.Params (f.Params.length : Int) (g + 1) _ f out = _
    rw [M.i_funcText_l0]; simp [SFuncType.re_eq])
  unfold M.i_funcText
  simp only [List.nil_append] at e
  simp only [SType.re_eq, SFuncType.re_eq]
  rw [e]
  have hh : (bif f.Async then [(97 : UInt8), 115, 121, 110, 99, 32, 102, 117, 110, 99, 40] else [102, 117, 110, 99, 40]) = fHead f.Async := rfl
  have c1 : catB (fHead f.Async) (jn (f.Params.map fpar) ++ [41]) = true := catOk (by simp only [List.length_append, List.length_cons, List.length_nil]; omega)
  have c2 : catB (jn (f.Params.map fpar)) [41] = true := catOk (by simp only [List.length_cons, List.length_nil]; omega)
  have c3 : catB (fHead f.Async ++ (jn (f.Params.map fpar) ++ [41])) ([45, 62] ++ txt f.Result) = true := catOk (by simp only [List.length_append, List.length_cons, List.length_nil]; omega)
  have c4 : catB [45, 62] (txt f.Result) = true := catOk (by simp only [List.length_cons, List.length_nil]; omega)
  simp only [hh, join_ok _ (show szL List.length (f.Params.map fpar) ≤ 1073741824 by omega), typeText_1 h3, Option.getD_some, Option.isSome_some, c1, c2, c3, c4, fTail_eq, Bool.true_and, Bool.and_true, Bool.true_or, cond_true]
  unfold ftxt
  simp
end M
/-
  READING A FUNCTION'S TYPE, the program's side.
-/
set_option linter.unusedVariables false
set_option linter.unusedSimpArgs false
namespace M
open Go.V (inB slB catB bigN bigN_le)

def takeP (p : List UInt8) (r : StypeReader) : Bool × StypeReader := if r.rest.take p.length = p then (true, ⟨r.rest.drop p.length, r.bad⟩) else (false, r)
def needP (p : List UInt8) (r : StypeReader) : StypeReader := if (takeP p r).1 then (takeP p r).2 else ⟨r.rest, true⟩
theorem take_p (p : List UInt8) (r : StypeReader) : M.i_typeReader_take p r = some (takeP p r) := by
  unfold M.i_typeReader_take M.strings_CutPrefix M.internal_stringslite_CutPrefix M.internal_stringslite_HasPrefix takeP
  obtain ⟨rest, bad⟩ := r
  by_cases hl : p.length ≤ rest.length
  · have h1 : slB (0 : Int) ((List.length p : Nat) : Int) (List.length rest) = true := slB_ok (a := 0) (by omega) hl
    have h2 : slB ((List.length p : Nat) : Int) ((List.length rest : Nat) : Int) (List.length rest) = true := slB_ok hl (Nat.le_refl _)
    have h3 : decide (((List.length p : Nat) : Int) ≤ ((List.length rest : Nat) : Int)) = true := by rw [decide_eq_true_eq]; omega
    simp only [h1, h2, h3, Int.toNat_natCast, Int.toNat_zero, List.drop_zero, List.take_length, Bool.true_and, Bool.and_true, Bool.true_or, cond_true, Option.getD_some, Option.isSome_some]
    by_cases hx : rest.take p.length = p
    · rw [hx]; simp
    · have : (rest.take p.length == p) = false := by rw [beq_eq_false_iff_ne]; exact hx
      simp [this, hx]
  · have h3 : decide (((List.length p : Nat) : Int) ≤ ((List.length rest : Nat) : Int)) = false := by rw [decide_eq_false_iff_not]; omega
    have hx : rest.take p.length ≠ p := by
      intro e
      have := congrArg List.length e
      rw [List.length_take] at this; omega
    simp only [h3, Bool.false_and, (show (false == true) = false from rfl), Bool.not_false, Bool.or_true, Bool.true_and, Bool.and_true, cond_true, cond_false, Option.getD_some, Option.isSome_some, beq_self_eq_true, if_neg hx]
theorem takeP_hit (p r : List UInt8) (b : Bool) : takeP p ⟨p ++ r, b⟩ = (true, ⟨r, b⟩) := by unfold takeP; simp
theorem needP_hit (p r : List UInt8) (b : Bool) : needP p ⟨p ++ r, b⟩ = ⟨r, b⟩ := by unfold needP; rw [takeP_hit]; rfl
theorem takeP_miss {p : List UInt8} {r : StypeReader} (h : (takeP p r).1 = false) : (takeP p r).2 = r := by
  unfold takeP at h ⊢
  split at h
  · cases h
  · rename_i hh; rw [if_neg hh]
theorem takeP_len {p : List UInt8} {r : StypeReader} (h : (takeP p r).1 = true) : (takeP p r).2.rest.length + p.length = r.rest.length ∧ (takeP p r).2.bad = r.bad := by
  unfold takeP at h ⊢
  split at h
  · rename_i hh
    have := congrArg List.length hh
    rw [List.length_take] at this
    rw [if_pos hh]
    exact ⟨by simp only [List.length_drop]; omega, rfl⟩
  · cases h
theorem takeP_le (p : List UInt8) (r : StypeReader) : (takeP p r).2.rest.length ≤ r.rest.length := by
  cases h : (takeP p r).1
  · rw [takeP_miss h]; exact Nat.le_refl _
  · have := takeP_len h; omega
theorem need_p (p : List UInt8) (r : StypeReader) : M.i_typeReader_need p r = some (needP p r) := by
  unfold M.i_typeReader_need needP
  rw [take_p]
  simp only [Option.getD_some, Option.isSome_some, Bool.and_true, cond_true]
  cases h : (takeP p r).1
  · simp only [Bool.not_false, cond_true, takeP_miss h]; rfl
  · rfl
theorem read4_tot (r : StypeReader) (h : r.rest.length ≤ 1048576) : ∃ t r', M.i_typeReader_read 4 r = some (tupI t r') ∧ r'.rest.length ≤ r.rest.length ∧ t.sz + 2 * r'.rest.length ≤ 2 * r.rest.length ∧ (r.bad = true → r'.bad = true) :=
  read_tot bigN 4 (by have := bigN_le; omega) (by omega) r h
theorem parLoop_bad (s : List UInt8) (as : Bool) (f : Nat) (r : List UInt8) (o : List SParam) :
    M.i_ReadFunc_l0 s 0 [] false 1 [] as [] [] [] [] [] (f + 1) r true o = some (s, 0, [], false, r, true, 1, [], as, [], [], [], o, [], []) := by
  rw [M.i_ReadFunc_l0]; rfl
theorem parLoop_tot (s : List UInt8) (as : Bool) : ∀ (f : Nat) (r : List UInt8) (o : List SParam), r.length + 1 < f → r.length ≤ 1048576 → o.length + r.length ≤ 10000000 →
    ∃ r' b' ps, M.i_ReadFunc_l0 s 0 [] false 1 [] as [] [] [] [] [] f r false o = some (s, 0, [], false, r', b', 1, [], as, [], [], [], o ++ ps, [], []) ∧ r'.length ≤ r.length ∧ szL SParam.sz ps + 2 * r'.length ≤ 2 * r.length + 1
  | 0, r, o, h, _, _ => by omega
  | f + 1, r, o, hf, hr, ho => by
    rw [M.i_ReadFunc_l0]
    have hc := cat_le (a := o.length) (b := 1) (by omega)
    simp only [take_i, Option.getD_some, Option.isSome_some, Bool.not_false, Bool.true_and, Bool.and_true, cond_true, beq_self_eq_true, Bool.and_self]
    cases ht : (takeF 41 ⟨r, false⟩).1
    · have hw := wordF_len (takeF 44 ⟨r, false⟩).2
      have h44 := takeF_le 44 ⟨r, false⟩
      simp only [] at h44
      obtain ⟨t, r1, e, g1, g2, g3⟩ := read4_tot (needF 58 (wordF (takeF 44 ⟨r, false⟩).2).2) (by have := needF_le 58 (wordF (takeF 44 ⟨r, false⟩).2).2; omega)
      have hn := needF_le 58 (wordF (takeF 44 ⟨r, false⟩).2).2
      have hps : ∀ ps : List SParam, szL SParam.sz (SParam.mk (wordF (takeF 44 ⟨r, false⟩).2).1 t :: ps) = (wordF (takeF 44 ⟨r, false⟩).2).1.length + t.sz + 1 + szL SParam.sz ps := fun ps => rfl
      simp only [Bool.not_false, cond_true, takeF_miss ht, take_i, need_i, word_i (takeF 44 ⟨r, false⟩).2 (by omega), e, tupI, SType.eta, Option.getD_some, Option.isSome_some, List.length_cons, List.length_nil, Nat.zero_add, hc, Bool.true_and, Bool.and_true, Bool.and_self]
      cases h58 : (takeF 58 (wordF (takeF 44 ⟨r, false⟩).2).2).1
      · have hbad : r1.bad = true := g3 (by unfold needF; rw [h58]; rfl)
        obtain ⟨f', rfl⟩ : ∃ f', f = f' + 1 := ⟨f - 1, by omega⟩
        rw [hbad, parLoop_bad]
        exact ⟨r1.rest, true, [_], rfl, by omega, by rw [hps]; simp only [szL]; omega⟩
      · have hh := takeF_hit h58
        have e58 : needF 58 (wordF (takeF 44 ⟨r, false⟩).2).2 = (takeF 58 (wordF (takeF 44 ⟨r, false⟩).2).2).2 := by unfold needF; rw [h58]; rfl
        rw [e58] at g1 g2
        cases hb : r1.bad
        · obtain ⟨r', b', ps, e2, k1, k2⟩ := parLoop_tot s as f r1.rest (o ++ [SParam.mk (wordF (takeF 44 ⟨r, false⟩).2).1 t]) (by omega) (by omega) (by simp; omega)
          exact ⟨r', b', SParam.mk (wordF (takeF 44 ⟨r, false⟩).2).1 t :: ps, by rw [e2]; simp, by omega, by rw [hps]; omega⟩
        · obtain ⟨f', rfl⟩ : ∃ f', f = f' + 1 := ⟨f - 1, by omega⟩
          rw [parLoop_bad]
          exact ⟨r1.rest, true, [_], rfl, by omega, by rw [hps]; simp only [szL]; omega⟩
    · have hh := takeF_hit ht
      simp only [] at hh
      simp only [Bool.not_true, cond_false, beq_self_eq_true, Bool.and_self, Bool.and_true, cond_true]
      exact ⟨(takeF 41 ⟨r, false⟩).2.rest, (takeF 41 ⟨r, false⟩).2.bad, [], by simp, by omega, by simp only [szL]; omega⟩
theorem d41 : isD 41 = true := by decide
theorem name_head {s : List UInt8} (h : nameOk s = true) : ∃ x t, s = x :: t ∧ x ≠ 41 ∧ x ≠ 44 := by
  have hw := name_w h
  have hl : 1 ≤ s.length := by
    unfold nameOk at h
    simp only [Bool.and_eq_true, decide_eq_true_eq] at h
    exact h.2.1.1
  cases s with
  | nil => simp at hl
  | cons x t =>
    have := hw x (by simp)
    refine ⟨x, t, rfl, ?_, ?_⟩ <;> (intro e; subst e; revert this; decide)
theorem par_back (s : List UInt8) (as : Bool) (f : Nat) (c r : List UInt8) (o : List SParam) (p : SParam) (hp : parOk p = true) (hc : c = [] ∨ c = [44]) (hr : Stop r) (hl : (c ++ (fpar p ++ r)).length ≤ 1048576) (ho : o.length ≤ 10000000) :
    M.i_ReadFunc_l0 s 0 [] false 1 [] as [] [] [] [] [] (f + 1) (c ++ (fpar p ++ r)) false o = M.i_ReadFunc_l0 s 0 [] false 1 [] as [] [] [] [] [] f r false (o ++ [p]) := by
  obtain ⟨p1, p2, p3⟩ := parOk_parts hp
  obtain ⟨x, tl, hx, h41, h44⟩ := name_head p1
  have hdp : tDepth p.Type_ ≤ 4 := by unfold tOk at p2; simp only [Bool.and_eq_true, decide_eq_true_eq] at p2; exact p2.1.1
  have hc1 := cat_le (a := o.length) (b := 1) (by omega)
  have e0 : fpar p ++ r = p.Name ++ (58 :: (txt p.Type_ ++ r)) := by unfold fpar; simp
  rw [e0] at hl ⊢
  have m41 : takeF 41 ⟨c ++ (p.Name ++ (58 :: (txt p.Type_ ++ r))), false⟩ = (false, ⟨c ++ (p.Name ++ (58 :: (txt p.Type_ ++ r))), false⟩) := by
    rcases hc with rfl | rfl
    · rw [hx]; exact take_miss _ _ h41
    · exact take_miss _ _ (by decide)
  have m44 : (takeF 44 ⟨c ++ (p.Name ++ (58 :: (txt p.Type_ ++ r))), false⟩).2 = ⟨p.Name ++ (58 :: (txt p.Type_ ++ r)), false⟩ := by
    rcases hc with rfl | rfl
    · rw [hx, List.nil_append, List.cons_append, take_miss _ _ h44]
    · rw [List.singleton_append, take_hit]
  simp only [List.length_append, List.length_cons] at hl
  have w1 := wordF_app (w := p.Name) (r := 58 :: (txt p.Type_ ++ r)) false (name_w p1) (.inr ⟨58, _, rfl, d58⟩)
  have e1 : M.i_typeReader_read 4 ⟨txt p.Type_ ++ r, false⟩ = some (tupI p.Type_ ⟨r, false⟩) := read_back bigN 4 (by have := bigN_le; omega) (by omega) p.Type_ r (tOk_shape p2) hdp hr (by simp only [List.length_append]; omega)
  rw [M.i_ReadFunc_l0]
  simp only [take_i, m41, m44, word_i ⟨p.Name ++ (58 :: (txt p.Type_ ++ r)), false⟩ (by simp only [List.length_append, List.length_cons]; omega), w1, need_i, need_hit, e1, tupI, SType.eta, Option.getD_some, Option.isSome_some, Bool.not_false, Bool.true_and, Bool.and_true, cond_true, beq_self_eq_true, Bool.and_self, List.length_cons, List.length_nil, Nat.zero_add, hc1]
theorem parEnd (s : List UInt8) (as : Bool) (f : Nat) (r : List UInt8) (o : List SParam) :
    M.i_ReadFunc_l0 s 0 [] false 1 [] as [] [] [] [] [] (f + 1) (41 :: r) false o = some (s, 0, [], false, r, false, 1, [], as, [], [], [], o, [], []) := by
  rw [M.i_ReadFunc_l0]
  simp only [take_i, take_hit, Option.getD_some, Option.isSome_some, Bool.not_false, Bool.not_true, Bool.true_and, Bool.and_true, cond_true, cond_false, beq_self_eq_true, Bool.and_self]
theorem parTail_back (s : List UInt8) (as : Bool) (r : List UInt8) : ∀ (ps : List SParam) (f : Nat) (o : List SParam), ps.length < f → (∀ p ∈ ps, parOk p = true) → o.length + ps.length ≤ 1000000 → (Go.Lib.joinTail [44] (ps.map fpar) ++ 41 :: r).length ≤ 1048576 →
    M.i_ReadFunc_l0 s 0 [] false 1 [] as [] [] [] [] [] f (Go.Lib.joinTail [44] (ps.map fpar) ++ 41 :: r) false o = some (s, 0, [], false, r, false, 1, [], as, [], [], [], o ++ ps, [], [])
  | ps, 0, o, h, _, _, _ => by omega
  | [], f + 1, o, hf, hp, ho, hl => by rw [List.map_nil, jt_nil, List.nil_append, parEnd, List.append_nil]
  | p :: ps, f + 1, o, hf, hp, ho, hl => by
    have e0 : Go.Lib.joinTail [44] ((p :: ps).map fpar) ++ 41 :: r = [44] ++ (fpar p ++ (Go.Lib.joinTail [44] (ps.map fpar) ++ 41 :: r)) := by simp [jt_cons]
    rw [e0] at hl ⊢
    rw [par_back s as f [44] _ o p (hp p (by simp)) (.inr rfl) (stop_jt _ _ _ d41 (by decide)) hl (by simp at ho; omega), parTail_back s as r ps f (o ++ [p]) (by simpa using hf) (fun q hq => hp q (by simp [hq])) (by simp at ho ⊢; omega) (by simp only [List.length_append, List.length_cons] at hl ⊢; omega)]
    simp
theorem pars_back (s : List UInt8) (as : Bool) (r : List UInt8) (ps : List SParam) (hp : ∀ p ∈ ps, parOk p = true) (hn : ps.length ≤ 6) (hl : (jn (ps.map fpar) ++ 41 :: r).length ≤ 1048576) :
    M.i_ReadFunc_l0 s 0 [] false 1 [] as [] [] [] [] [] bigN (jn (ps.map fpar) ++ 41 :: r) false [] = some (s, 0, [], false, r, false, 1, [], as, [], [], [], ps, [], []) := by
  have hbig := bigN_le
  obtain ⟨f, hf⟩ : ∃ f, bigN = f + 1 := ⟨bigN - 1, by omega⟩
  rw [hf]
  cases ps with
  | nil => exact parEnd s as f r []
  | cons p ps =>
    have e0 : jn ((p :: ps).map fpar) ++ 41 :: r = [] ++ (fpar p ++ (Go.Lib.joinTail [44] (ps.map fpar) ++ 41 :: r)) := by simp [jn_cons]
    rw [e0] at hl ⊢
    rw [par_back s as f [] _ [] p (hp p (by simp)) (.inl rfl) (stop_jt _ _ _ d41 (by decide)) hl (by simp), parTail_back s as r ps f ([] ++ [p]) (by simp at hn; omega) (fun q hq => hp q (by simp [hq])) (by simp at hn ⊢; omega) (by simp only [List.length_append, List.length_cons] at hl ⊢; omega)]
    simp
end M
/-
  READING A FUNCTION'S TYPE: the program reads exactly the texts of right types.
-/
set_option linter.unusedVariables false
set_option linter.unusedSimpArgs false
namespace M
open Go.V (inB slB catB bigN bigN_le)

theorem fsz_small {f : SFuncType} (h : fOk f = true) : f.sz ≤ 100000 := by
  obtain ⟨h1, h2, h3⟩ := fOk_parts h
  have := szL_const SParam.sz 6012 f.Params fun p hp => by
    obtain ⟨p1, p2, p3⟩ := parOk_parts (h2 p hp)
    have := name_12 p1
    have := tOk_small p2
    rw [SParam.sz_eq]; omega
  have := tOk_small h3
  rw [SFuncType.sz_eq]; omega
theorem funcText_all (f : SFuncType) (h : f.sz ≤ 2097152) : M.i_FuncText f = some (if fOk f = true then ftxt f else []) := by
  unfold M.i_FuncText
  simp only [SFuncType.re_eq, funcOk_i f h, Option.getD_some, Option.isSome_some, Bool.and_true, cond_true]
  cases hf : fOk f with
  | false => simp
  | true => simp [funcText_i hf]
theorem head_i (a : Bool) (X : List UInt8) : takeP [97, 115, 121, 110, 99, 32] ⟨fHead a ++ X, false⟩ = (a, ⟨[102, 117, 110, 99, 40] ++ X, false⟩) := by
  cases a with
  | false =>
    have : ([102, 117, 110, 99, 40] ++ X).take 6 ≠ ([97, 115, 121, 110, 99, 32] : List UInt8) := by
      intro e
      have := congrArg List.head? e
      simp at this
    unfold takeP
    exact if_neg this
  | true => exact takeP_hit [97, 115, 121, 110, 99, 32] ([102, 117, 110, 99, 40] ++ X) false
theorem readFunc_nil : M.i_ReadFunc [] = some (0, [], false, false, [], [], []) := by
  obtain ⟨g, hg⟩ : ∃ g, bigN = g + 1 := ⟨bigN - 1, by have := bigN_le; omega⟩
  unfold M.i_ReadFunc
  have e1 : takeP [97, 115, 121, 110, 99, 32] ⟨[], false⟩ = (false, ⟨[], false⟩) := rfl
  have e2 : needP [102, 117, 110, 99, 40] ⟨[], false⟩ = ⟨[], true⟩ := rfl
  have e3 : takeP [45, 62] ⟨[], true⟩ = (false, ⟨[], true⟩) := rfl
  simp only [take_p, e1, need_p, e2, Option.getD_some, Option.isSome_some, hg, parLoop_bad, e3, cond_false, Bool.true_or, (show (true == false) = false from rfl), Bool.not_false, Bool.or_true, cond_true, Bool.and_true, Bool.true_and]
theorem readFunc_i {s : List UInt8} (hs : s.length ≤ 1048576) : (∀ f, fOk f = true → ftxt f = s → M.i_ReadFunc s = some (f.Result.Kind, f.Result.Name, f.Async, true, f.Params, f.Result.Labels, f.Result.Kids)) ∧ ((∀ f, fOk f = true → ftxt f ≠ s) → M.i_ReadFunc s = some (0, [], false, false, [], [], [])) := by
  have hbig := bigN_le
  refine ⟨fun f hf he => ?_, fun hno => ?_⟩
  · subst he
    obtain ⟨h1, h2, h3⟩ := fOk_parts hf
    have hfz := fsz_small hf
    have hh := head_i f.Async (jn (f.Params.map fpar) ++ 41 :: fTail f.Result)
    have hl2 : (jn (f.Params.map fpar) ++ 41 :: fTail f.Result).length ≤ 1048576 := by
      unfold ftxt at hs
      simp only [List.length_append] at hs ⊢; omega
    have hlt : (fTail f.Result).length ≤ 1048576 := by
      simp only [List.length_append, List.length_cons] at hl2; omega
    have hpb := pars_back (ftxt f) f.Async (fTail f.Result) f.Params h2 h1 hl2
    have hdp : tDepth f.Result ≤ 4 := by unfold tOk at h3; simp only [Bool.and_eq_true, decide_eq_true_eq] at h3; exact h3.1.1
    have e0 : takeP [97, 115, 121, 110, 99, 32] ⟨ftxt f, false⟩ = _ := hh
    have hft := funcText_all f (by omega)
    rw [hf] at hft
    unfold M.i_ReadFunc
    simp only [take_p, e0, need_p, needP_hit, Option.getD_some, Option.isSome_some]
    rw [hpb]
    by_cases hk : f.Result.Kind = 1
    · have hu := unit_eq (tOk_shape h3) hk
      have et : fTail f.Result = [] := by unfold fTail; rw [if_pos hk]
      have e3 : takeP [45, 62] ⟨[], false⟩ = (false, ⟨[], false⟩) := rfl
      have ef : SFuncType.mk f.Params (SType.mk 1 [] [] []) f.Async = f := by rw [← hu]
      simp only [et, e3, cond_false, ef, hft, Option.getD_some, Option.isSome_some, if_true, beq_self_eq_true, Bool.not_true, Bool.or_self, Bool.true_or, Bool.and_true, Bool.true_and, cond_true]
      rw [hu]; rfl
    · have et : fTail f.Result = [45, 62] ++ txt f.Result := by unfold fTail; rw [if_neg hk]
      rw [et] at hlt
      have er := read_txt (tOk_shape h3) hdp (by simp only [List.length_append] at hlt; omega)
      have ef : SFuncType.mk f.Params f.Result f.Async = f := rfl
      simp only [et, takeP_hit, cond_true, er, tupI, SType.eta, ef, hft, Option.getD_some, Option.isSome_some, if_true, beq_self_eq_true, Bool.not_true, Bool.or_self, cond_false, Bool.true_or, Bool.and_true, Bool.true_and]
  · by_cases hz : s = []
    · subst hz; exact readFunc_nil
    have hrej : ∀ (b : Bool) (f : SFuncType), (b || !((if fOk f = true then ftxt f else []) == s)) = true := fun b f => by
      cases hok : fOk f
      · have : (([] : List UInt8) == s) = false := by rw [beq_eq_false_iff_ne]; exact fun e => hz e.symm
        simp [this]
      · have : (ftxt f == s) = false := by rw [beq_eq_false_iff_ne]; exact hno f hok
        simp [this]
    have hloop : ∃ r' b' ps, M.i_ReadFunc_l0 s 0 [] false 1 [] (takeP [97, 115, 121, 110, 99, 32] ⟨s, false⟩).1 [] [] [] [] [] bigN (needP [102, 117, 110, 99, 40] (takeP [97, 115, 121, 110, 99, 32] ⟨s, false⟩).2).rest (needP [102, 117, 110, 99, 40] (takeP [97, 115, 121, 110, 99, 32] ⟨s, false⟩).2).bad [] = some (s, 0, [], false, r', b', 1, [], (takeP [97, 115, 121, 110, 99, 32] ⟨s, false⟩).1, [], [], [], ps, [], []) ∧ r'.length ≤ s.length ∧ szL SParam.sz ps + 2 * r'.length ≤ 2 * s.length := by
      have h1 := takeP_le [97, 115, 121, 110, 99, 32] ⟨s, false⟩
      simp only [] at h1
      cases hb : (takeP [102, 117, 110, 99, 40] (takeP [97, 115, 121, 110, 99, 32] ⟨s, false⟩).2).1 with
      | false =>
        have e : needP [102, 117, 110, 99, 40] (takeP [97, 115, 121, 110, 99, 32] ⟨s, false⟩).2 = ⟨(takeP [97, 115, 121, 110, 99, 32] ⟨s, false⟩).2.rest, true⟩ := by unfold needP; rw [hb]; rfl
        rw [e]
        obtain ⟨g, hg⟩ : ∃ g, bigN = g + 1 := ⟨bigN - 1, by omega⟩
        rw [hg, parLoop_bad]
        exact ⟨_, _, [], rfl, h1, by simp only [szL]; omega⟩
      | true =>
        have e : needP [102, 117, 110, 99, 40] (takeP [97, 115, 121, 110, 99, 32] ⟨s, false⟩).2 = (takeP [102, 117, 110, 99, 40] (takeP [97, 115, 121, 110, 99, 32] ⟨s, false⟩).2).2 := by unfold needP; rw [hb]; rfl
        have h2 := takeP_len hb
        have h3 : (takeP [97, 115, 121, 110, 99, 32] ⟨s, false⟩).2.bad = false := by
          cases hq : (takeP [97, 115, 121, 110, 99, 32] ⟨s, false⟩).1
          · rw [takeP_miss hq]
          · exact (takeP_len hq).2
        rw [e, h2.2, h3]
        simp only [List.length_cons, List.length_nil] at h2
        obtain ⟨r', b', ps, e2, k1, k2⟩ := parLoop_tot s (takeP [97, 115, 121, 110, 99, 32] ⟨s, false⟩).1 bigN (takeP [102, 117, 110, 99, 40] (takeP [97, 115, 121, 110, 99, 32] ⟨s, false⟩).2).2.rest [] (by omega) (by omega) (by simp; omega)
        rw [e2]
        exact ⟨r', b', ps, rfl, by omega, by omega⟩
    obtain ⟨r', b', ps, e, k1, k2⟩ := hloop
    unfold M.i_ReadFunc
    simp only [take_p, need_p, Option.getD_some, Option.isSome_some]
    rw [e]
    simp only []
    cases ht : (takeP [45, 62] ⟨r', b'⟩).1 with
    | false =>
      have hft := funcText_all (SFuncType.mk ps (SType.mk 1 [] [] []) (takeP [97, 115, 121, 110, 99, 32] ⟨s, false⟩).1) (by rw [SFuncType.sz_eq]; show szL SParam.sz ps + (SType.mk 1 [] [] []).sz ≤ _; rw [show (SType.mk 1 [] [] []).sz = 0 from rfl]; omega)
      simp only [cond_false, hft, Option.getD_some, Option.isSome_some, hrej, Bool.true_or, Bool.and_true, Bool.true_and, cond_true]
    | true =>
      have hlen := takeP_len ht
      simp only [List.length_cons, List.length_nil] at hlen
      obtain ⟨t, r2, e2, j1, j2, -⟩ := read4_tot (takeP [45, 62] ⟨r', b'⟩).2 (by omega)
      have hft := funcText_all (SFuncType.mk ps t (takeP [97, 115, 121, 110, 99, 32] ⟨s, false⟩).1) (by rw [SFuncType.sz_eq]; show szL SParam.sz ps + t.sz ≤ _; omega)
      simp only [cond_true, e2, tupI, SType.eta, hft, Option.getD_some, Option.isSome_some, hrej, Bool.true_or, Bool.and_true, Bool.true_and]
end M
