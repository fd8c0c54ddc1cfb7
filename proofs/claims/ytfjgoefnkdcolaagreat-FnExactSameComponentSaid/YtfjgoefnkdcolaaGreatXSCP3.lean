import Derived.Test.YtfjgoefnkdcolaaGreatXSCP2
set_option linter.unusedVariables false
set_option linter.unusedSimpArgs false
namespace M
open Go.V (bigN bigN_le)
theorem code_s {a b : SCore} (ha : a.Code.length ≤ 1048576) (hl : a.Code.length = b.Code.length) : M.s_l15SameCore_l0 a b Go.V.bigN 0 = some (if eqL insEq a.Code b.Code then .inr () else .inl false) := by
  exact cmp_loop (p := insEq) (F := M.s_l15SameCore_l0 a b) (e := ()) a.Code b.Code ha hl (fun f k h1 h2 => by
    rw [M.s_l15SameCore_l0]
    simp only [getD_lt h1, getD_lt h2, Int.toNat_natCast, inB_nat, Int.ofNat_lt, h1, h2, wrapk h1 (big_of ha), insEq_eq, decide_true, Bool.and_true, cond_true, Option.isSome_some, Option.getD_some]
    cases insEq a.Code[k] b.Code[k] <;> rfl) (fun f => by rw [M.s_l15SameCore_l0]; simp)
theorem core_s (a b : SCore) (h : a.sz ≤ 1048576) : M.s_l15SameCore a b = some (coreEq a b) := by
  rw [SCore.sz_eq] at h
  have hk : a.Code.length ≤ 1048576 := len_sz (f := SIns.sz) (by omega)
  unfold M.s_l15SameCore
  simp only [coreEq, bne_not]
  by_cases hl : a.Code.length = b.Code.length
  · rw [code_s hk hl, hl]
    cases a.Name == b.Name <;> cases a.Params == b.Params <;> cases a.Locals == b.Locals <;> cases a.Result == b.Result <;> cases eqL insEq a.Code b.Code <;> simp
  · rw [eqL_len _ _ _ hl]
    have : ((a.Code.length : Int) == (b.Code.length : Int)) = false := by rw [beq_eq_false_iff_ne]; omega
    rw [this]; simp
theorem params_s {a b : SFuncType} (h : szL SParam.sz a.Params ≤ 1048576) (hl : a.Params.length = b.Params.length) : M.s_SameFunc_l0 bigN 0 a b = some (if eqL paramEq a.Params b.Params then .inr () else .inl false) := by
  have ha := len_sz h
  refine cmp_loop (p := paramEq) (F := fun f i => M.s_SameFunc_l0 f i a b) (e := ()) a.Params b.Params ha hl (fun f k h1 h2 => ?_) (fun f => by simp [M.s_SameFunc_l0])
  have hx := szL_mem SParam.sz _ _ (List.getElem_mem h1)
  have hy := SParam.sz_eq a.Params[k]
  simp only [M.s_SameFunc_l0, SFuncType.re_eq, SType.re_eq, getD_lt h1, getD_lt h2, Int.toNat_natCast, inB_nat, Int.ofNat_lt, h1, h2, wrapk h1 (big_of ha), type_s a.Params[k].Type_ b.Params[k].Type_ (by omega), decide_true, Bool.and_true, Bool.true_or, cond_true, Option.isSome_some, Option.getD_some, paramEq]
  cases a.Params[k].Name == b.Params[k].Name <;> cases tEq 100 a.Params[k].Type_ b.Params[k].Type_ <;> rfl
theorem funcT_s (a b : SFuncType) (h : a.sz ≤ 1048576) : M.s_SameFunc a b = some (funcTEq a b) := by
  rw [SFuncType.sz_eq] at h
  unfold M.s_SameFunc
  simp only [SType.re_eq, SFuncType.re_eq, type_s a.Result b.Result (by omega), Option.isSome_some, Option.getD_some, Bool.true_or, Bool.and_true, cond_true, funcTEq]
  by_cases hl : a.Params.length = b.Params.length
  · rw [params_s (by omega) hl, len_eq hl]
    cases a.Async == b.Async <;> cases tEq 100 a.Result b.Result <;> cases eqL paramEq a.Params b.Params <;> simp
  · rw [len_ne hl, eqL_len _ _ _ hl]; simp
theorem funcs_s {a b : SFace} (h : szL SFunc.sz a.Funcs ≤ 1048576) (hl : a.Funcs.length = b.Funcs.length) : M.s_SameFace_l0 a b bigN 0 = some (if eqL funcEq a.Funcs b.Funcs then .inr () else .inl false) := by
  have ha := len_sz h
  refine cmp_loop (p := funcEq) (F := fun f i => M.s_SameFace_l0 a b f i) (e := ()) a.Funcs b.Funcs ha hl (fun f k h1 h2 => ?_) (fun f => by simp [M.s_SameFace_l0])
  have hx := szL_mem SFunc.sz _ _ (List.getElem_mem h1)
  have hy := SFunc.sz_eq a.Funcs[k]
  simp only [M.s_SameFace_l0, SFuncType.re_eq, getD_lt h1, getD_lt h2, Int.toNat_natCast, inB_nat, Int.ofNat_lt, h1, h2, wrapk h1 (big_of ha), funcT_s a.Funcs[k].Type_ b.Funcs[k].Type_ (by omega), decide_true, Bool.and_true, Bool.true_or, cond_true, Option.isSome_some, Option.getD_some, funcEq]
  cases a.Funcs[k].Name == b.Funcs[k].Name <;> cases funcTEq a.Funcs[k].Type_ b.Funcs[k].Type_ <;> rfl
theorem face_s (a b : SFace) (h : a.sz ≤ 1048576) : M.s_SameFace a b = some (faceEq a b) := by
  rw [SFace.sz_eq] at h
  unfold M.s_SameFace
  simp only [texts_s a.Resources b.Resources (len_sz (f := List.length) (by omega)), Option.isSome_some, Option.getD_some, Bool.true_or, Bool.and_true, cond_true, faceEq]
  by_cases hl : a.Funcs.length = b.Funcs.length
  · rw [funcs_s (by omega) hl, len_eq hl]
    cases a.Package == b.Package <;> cases a.Name == b.Name <;> cases a.Version == b.Version <;> cases eqL (· == ·) a.Resources b.Resources <;> cases eqL funcEq a.Funcs b.Funcs <;> simp
  · rw [len_ne hl, eqL_len _ _ _ hl]; simp
theorem faces_s (a b : List SFace) (h : szL SFace.sz a ≤ 1048576) : M.s_l23SameFaces a b = some (eqL faceEq a b) := by
  have ha := len_sz h
  unfold M.s_l23SameFaces
  exact cmp_all (p := faceEq) a b ha (fun f k hl h1 h2 => by
    rw [M.s_l23SameFaces_l0]
    have hx := szL_mem SFace.sz _ _ (List.getElem_mem h1)
    simp only [getD_lt h1, getD_lt h2, Int.toNat_natCast, inB_nat, Int.ofNat_lt, h1, h2, wrapk h1 (big_of ha), face_s a[k] b[k] (by omega), decide_true, Bool.and_true, cond_true, Option.isSome_some, Option.getD_some]
    cases faceEq a[k] b[k] <;> rfl) (fun f => by rw [M.s_l23SameFaces_l0]; simp)
theorem imports_s {a b : SModule} (ha : a.Imports.length ≤ 1048576) (hl : a.Imports.length = b.Imports.length) : M.s_SameModule_l0 a b Go.V.bigN 0 = some (if eqL importEq a.Imports b.Imports then .inr (a, b) else .inl false) := by
  exact cmp_loop (p := importEq) (F := M.s_SameModule_l0 a b) (e := (a, b)) a.Imports b.Imports ha hl (fun f k h1 h2 => by
    rw [M.s_SameModule_l0]
    simp only [getD_lt h1, getD_lt h2, Int.toNat_natCast, inB_nat, Int.ofNat_lt, h1, h2, wrapk h1 (big_of ha), importEq_eq, decide_true, Bool.and_true, cond_true, Option.isSome_some, Option.getD_some]
    cases importEq a.Imports[k] b.Imports[k] <;> rfl) (fun f => by rw [M.s_SameModule_l0]; simp)
theorem cores_s {a b : SModule} (h : szL SCore.sz a.Cores ≤ 1048576) (hl : a.Cores.length = b.Cores.length) : M.s_SameModule_l1 a b Go.V.bigN 0 = some (if eqL coreEq a.Cores b.Cores then .inr () else .inl false) := by
  have ha := len_sz h
  exact cmp_loop (p := coreEq) (F := M.s_SameModule_l1 a b) (e := ()) a.Cores b.Cores ha hl (fun f k h1 h2 => by
    rw [M.s_SameModule_l1]
    have hx := szL_mem SCore.sz _ _ (List.getElem_mem h1)
    simp only [getD_lt h1, getD_lt h2, Int.toNat_natCast, inB_nat, Int.ofNat_lt, h1, h2, wrapk h1 (big_of ha), core_s a.Cores[k] b.Cores[k] (by omega), decide_true, Bool.and_true, cond_true, Option.isSome_some, Option.getD_some]
    cases coreEq a.Cores[k] b.Cores[k] <;> rfl) (fun f => by rw [M.s_SameModule_l1]; simp)
theorem module_s (a b : SModule) (h : a.sz ≤ 1048576) : M.s_SameModule a b = some (moduleEq a b) := by
  rw [SModule.sz_eq] at h
  unfold M.s_SameModule
  simp only [moduleEq, bne_not (a := a.Pages)]
  by_cases h1 : a.Imports.length = b.Imports.length
  · by_cases h2 : a.Cores.length = b.Cores.length
    · simp only [len_eq h1, len_eq h2, imports_s (len_sz (f := SImport.sz) (show szL SImport.sz a.Imports ≤ 1048576 by omega)) h1, Bool.or_false]
      cases eqL importEq a.Imports b.Imports
      · cases a.Pages == b.Pages <;> simp
      · simp only [if_true, cores_s (show szL SCore.sz a.Cores ≤ 1048576 by omega) h2]
        cases a.Pages == b.Pages <;> cases eqL coreEq a.Cores b.Cores <;> simp
    · rw [len_ne h2, eqL_len _ _ _ h2]; simp
  · rw [len_ne h1, eqL_len _ _ _ h1]; simp
theorem lifts_s {a b : SComponent} (ha : a.Lifts.length ≤ 1048576) (hl : a.Lifts.length = b.Lifts.length) : M.s_SameComponent_l0 a b Go.V.bigN 0 = some (if eqL liftEq a.Lifts b.Lifts then .inr (a, b) else .inl false) := by
  exact cmp_loop (p := liftEq) (F := M.s_SameComponent_l0 a b) (e := (a, b)) a.Lifts b.Lifts ha hl (fun f k h1 h2 => by
    rw [M.s_SameComponent_l0]
    simp only [getD_lt h1, getD_lt h2, Int.toNat_natCast, inB_nat, Int.ofNat_lt, h1, h2, wrapk h1 (big_of ha), liftEq_eq, decide_true, Bool.and_true, cond_true, Option.isSome_some, Option.getD_some]
    cases liftEq a.Lifts[k] b.Lifts[k] <;> rfl) (fun f => by rw [M.s_SameComponent_l0]; simp)
theorem lowers_s {a b : SComponent} (ha : a.Lowers.length ≤ 1048576) (hl : a.Lowers.length = b.Lowers.length) : M.s_SameComponent_l1 a b Go.V.bigN 0 = some (if eqL lowerEq a.Lowers b.Lowers then .inr (a, b) else .inl false) := by
  exact cmp_loop (p := lowerEq) (F := M.s_SameComponent_l1 a b) (e := (a, b)) a.Lowers b.Lowers ha hl (fun f k h1 h2 => by
    rw [M.s_SameComponent_l1]
    simp only [getD_lt h1, getD_lt h2, Int.toNat_natCast, inB_nat, Int.ofNat_lt, h1, h2, wrapk h1 (big_of ha), lowerEq_eq, decide_true, Bool.and_true, cond_true, Option.isSome_some, Option.getD_some]
    cases lowerEq a.Lowers[k] b.Lowers[k] <;> rfl) (fun f => by rw [M.s_SameComponent_l1]; simp)
theorem builtins_s {a b : SComponent} (ha : a.Builtins.length ≤ 1048576) (hl : a.Builtins.length = b.Builtins.length) : M.s_SameComponent_l2 a b Go.V.bigN 0 = some (if eqL builtinEq a.Builtins b.Builtins then .inr () else .inl false) := by
  exact cmp_loop (p := builtinEq) (F := M.s_SameComponent_l2 a b) (e := ()) a.Builtins b.Builtins ha hl (fun f k h1 h2 => by
    rw [M.s_SameComponent_l2]
    simp only [getD_lt h1, getD_lt h2, Int.toNat_natCast, inB_nat, Int.ofNat_lt, h1, h2, wrapk h1 (big_of ha), builtinEq_eq, decide_true, Bool.and_true, cond_true, Option.isSome_some, Option.getD_some]
    cases builtinEq a.Builtins[k] b.Builtins[k] <;> rfl) (fun f => by rw [M.s_SameComponent_l2]; simp)
theorem component_s (a b : SComponent) (h : a.sz ≤ 1048576) : M.s_SameComponent a b = some (componentEq a b) := by
  rw [SComponent.sz_eq] at h
  unfold M.s_SameComponent componentEq
  simp only [faces_s a.Imports b.Imports (by omega), faces_s a.Exports b.Exports (by omega), module_s a.Module b.Module (by omega), Option.isSome_some, Bool.true_or, Bool.and_true, Option.getD_some, cond_true, bne_not (a := a.Encoding), bne_not (a := a.Reserve)]
  generalize (a.Name == b.Name) = x1
  generalize (a.Version == b.Version) = x2
  generalize eqL faceEq a.Imports b.Imports = x3
  generalize eqL faceEq a.Exports b.Exports = x4
  generalize (a.Encoding == b.Encoding) = x5
  generalize (a.Reserve == b.Reserve) = x6
  generalize moduleEq a.Module b.Module = x7
  have key : ((((((!x1 || !x2) || !x3) || !x4) || !x5) || !x6) || !x7) = !((((((x1 && x2) && x3) && x4) && x5) && x6) && x7) := by
    cases x1 <;> cases x2 <;> cases x3 <;> cases x4 <;> cases x5 <;> cases x6 <;> cases x7 <;> rfl
  rw [key]
  generalize ((((((x1 && x2) && x3) && x4) && x5) && x6) && x7) = x
  cases x
  · simp
  simp only [Bool.not_true, cond_false, Bool.true_and]
  by_cases h1 : a.Lifts.length = b.Lifts.length
  · by_cases h2 : a.Lowers.length = b.Lowers.length
    · by_cases h3 : a.Builtins.length = b.Builtins.length
      · simp only [len_eq h1, len_eq h2, len_eq h3, lifts_s (len_sz (f := SLift.sz) (show szL SLift.sz a.Lifts ≤ 1048576 by omega)) h1, Bool.or_false, cond_false]
        cases eqL liftEq a.Lifts b.Lifts
        · simp
        · simp only [if_true, lowers_s (len_sz (f := SLower.sz) (show szL SLower.sz a.Lowers ≤ 1048576 by omega)) h2]
          cases eqL lowerEq a.Lowers b.Lowers
          · simp
          · simp only [if_true, builtins_s (len_sz (f := SBuiltin.sz) (show szL SBuiltin.sz a.Builtins ≤ 1048576 by omega)) h3]
            cases eqL builtinEq a.Builtins b.Builtins <;> simp
      · rw [len_ne h3, eqL_len _ _ _ h3]; simp
    · rw [len_ne h2, eqL_len _ _ _ h2]; simp
  · rw [len_ne h1, eqL_len _ _ _ h1]; simp
theorem law_SameComponent (x y : SComponent) (hx : x.Ok) (hy : y.Ok) : M.l_FnExactSameComponent x y = some true := by
  unfold M.l_FnExactSameComponent
  rw [sz_Component x 1048576 hx (by omega) (by omega)]
  by_cases h1 : (x.sz : Int) ≤ 1048576
  · have n1 : ¬ (1048576 - (x.sz : Int) < 0) := by omega
    rw [if_pos h1]
    simp only [Option.getD_some, Option.isSome_some, n1, decide_false, cond_false, sz_Component y (1048576 - (x.sz : Int)) hy (by omega) (by omega)]
    by_cases h2 : (y.sz : Int) ≤ 1048576 - x.sz
    · rw [if_pos h2]
      have n2 : ¬ (1048576 - (x.sz : Int) - y.sz < 0) := by omega
      simp only [to_Component x (by omega), to_Component y (by omega), component_i x y (by omega), component_s x y (by omega), eq_Component x (by omega), eq_Component y (by omega), Option.getD_some, Option.isSome_some, n1, n2, decide_false, cond_false, Bool.and_true, cond_true, beq_self_eq_true, Bool.not_true]
    · rw [if_neg h2]
      simp [n1]
  · rw [if_neg h1]; simp
end M
