import Derived.Test.YtfjgoefnkdcolaaGreatXSCP1
set_option linter.unusedVariables false
set_option linter.unusedSimpArgs false
namespace M
open Go.V (bigN bigN_le)
def liftEq (a b : SLift) : Bool := (a.Face == b.Face) && ((a.Func == b.Func) && ((a.Core == b.Core)))
theorem liftEq_eq (a b : SLift) : ((a.Face == b.Face) && ((a.Func == b.Func) && ((a.Core == b.Core)))) = liftEq a b := rfl
def lowerEq (a b : SLower) : Bool := (a.Face == b.Face) && ((a.Func == b.Func) && ((a.Import == b.Import)))
theorem lowerEq_eq (a b : SLower) : ((a.Face == b.Face) && ((a.Func == b.Func) && ((a.Import == b.Import)))) = lowerEq a b := rfl
def builtinEq (a b : SBuiltin) : Bool := (a.Kind == b.Kind) && ((a.Face == b.Face) && ((a.Resource == b.Resource) && ((a.Import == b.Import))))
theorem builtinEq_eq (a b : SBuiltin) : ((a.Kind == b.Kind) && ((a.Face == b.Face) && ((a.Resource == b.Resource) && ((a.Import == b.Import))))) = builtinEq a b := rfl
def insEq (a b : SIns) : Bool := (a.Op == b.Op) && ((a.A == b.A))
theorem insEq_eq (a b : SIns) : ((a.Op == b.Op) && ((a.A == b.A))) = insEq a b := rfl
def importEq (a b : SImport) : Bool := (a.Name == b.Name) && ((a.Params == b.Params) && ((a.Result == b.Result)))
theorem importEq_eq (a b : SImport) : ((a.Name == b.Name) && ((a.Params == b.Params) && ((a.Result == b.Result)))) = importEq a b := rfl
theorem lifts_i (a b : List SLift) (ha : a.length ≤ 1048576) : M.slices_Equal_Lift_Lift a b = some (eqL liftEq a b) := by
  unfold M.slices_Equal_Lift_Lift
  exact cmp_all (p := liftEq) a b ha (fun f k hl h h' => by
    rw [M.slices_Equal_Lift_Lift_l0]
    simp only [getD_lt h, getD_lt h', Int.toNat_natCast, inB_nat, Int.ofNat_lt, h, h', wrapk h (big_of ha), decide_true, Bool.and_true, cond_true, liftEq_eq]
    cases liftEq a[k] b[k] <;> rfl) (fun f => by rw [M.slices_Equal_Lift_Lift_l0]; simp)
theorem lowers_i (a b : List SLower) (ha : a.length ≤ 1048576) : M.slices_Equal_Lower_Lower a b = some (eqL lowerEq a b) := by
  unfold M.slices_Equal_Lower_Lower
  exact cmp_all (p := lowerEq) a b ha (fun f k hl h h' => by
    rw [M.slices_Equal_Lower_Lower_l0]
    simp only [getD_lt h, getD_lt h', Int.toNat_natCast, inB_nat, Int.ofNat_lt, h, h', wrapk h (big_of ha), decide_true, Bool.and_true, cond_true, lowerEq_eq]
    cases lowerEq a[k] b[k] <;> rfl) (fun f => by rw [M.slices_Equal_Lower_Lower_l0]; simp)
theorem builtins_i (a b : List SBuiltin) (ha : a.length ≤ 1048576) : M.slices_Equal_Builtin_Builtin a b = some (eqL builtinEq a b) := by
  unfold M.slices_Equal_Builtin_Builtin
  exact cmp_all (p := builtinEq) a b ha (fun f k hl h h' => by
    rw [M.slices_Equal_Builtin_Builtin_l0]
    simp only [getD_lt h, getD_lt h', Int.toNat_natCast, inB_nat, Int.ofNat_lt, h, h', wrapk h (big_of ha), decide_true, Bool.and_true, cond_true, builtinEq_eq]
    cases builtinEq a[k] b[k] <;> rfl) (fun f => by rw [M.slices_Equal_Builtin_Builtin_l0]; simp)
theorem inss_i (a b : List SIns) (ha : a.length ≤ 1048576) : M.slices_Equal_Ins_Ins a b = some (eqL insEq a b) := by
  unfold M.slices_Equal_Ins_Ins
  exact cmp_all (p := insEq) a b ha (fun f k hl h h' => by
    rw [M.slices_Equal_Ins_Ins_l0]
    simp only [getD_lt h, getD_lt h', Int.toNat_natCast, inB_nat, Int.ofNat_lt, h, h', wrapk h (big_of ha), decide_true, Bool.and_true, cond_true, insEq_eq]
    cases insEq a[k] b[k] <;> rfl) (fun f => by rw [M.slices_Equal_Ins_Ins_l0]; simp)
theorem imports_i (a b : List SImport) (ha : a.length ≤ 1048576) : M.slices_Equal_Import_Import a b = some (eqL importEq a b) := by
  unfold M.slices_Equal_Import_Import
  exact cmp_all (p := importEq) a b ha (fun f k hl h h' => by
    rw [M.slices_Equal_Import_Import_l0]
    simp only [getD_lt h, getD_lt h', Int.toNat_natCast, inB_nat, Int.ofNat_lt, h, h', wrapk h (big_of ha), decide_true, Bool.and_true, cond_true, importEq_eq]
    cases importEq a[k] b[k] <;> rfl) (fun f => by rw [M.slices_Equal_Import_Import_l0]; simp)

def coreEq (a b : SCore) : Bool := ((((a.Name == b.Name) && (a.Params == b.Params)) && (a.Locals == b.Locals)) && (a.Result == b.Result)) && eqL insEq a.Code b.Code
def moduleEq (a b : SModule) : Bool := ((a.Pages == b.Pages) && eqL importEq a.Imports b.Imports) && eqL coreEq a.Cores b.Cores
def paramEq (a b : SParam) : Bool := (a.Name == b.Name) && tEq 100 a.Type_ b.Type_
def funcTEq (a b : SFuncType) : Bool := ((a.Async == b.Async) && tEq 100 a.Result b.Result) && eqL paramEq a.Params b.Params
def funcEq (a b : SFunc) : Bool := (a.Name == b.Name) && funcTEq a.Type_ b.Type_
def faceEq (a b : SFace) : Bool := ((((a.Package == b.Package) && (a.Name == b.Name)) && (a.Version == b.Version)) && eqL (· == ·) a.Resources b.Resources) && eqL funcEq a.Funcs b.Funcs
def componentEq (a b : SComponent) : Bool := ((((((((((a.Name == b.Name) && (a.Version == b.Version)) && eqL faceEq a.Imports b.Imports) && eqL faceEq a.Exports b.Exports) && (a.Encoding == b.Encoding)) && (a.Reserve == b.Reserve)) && moduleEq a.Module b.Module) && eqL liftEq a.Lifts b.Lifts) && eqL lowerEq a.Lowers b.Lowers)) && eqL builtinEq a.Builtins b.Builtins

theorem core_i (a b : SCore) (h : a.sz ≤ 1048576) : M.i_sameCore a b = some (coreEq a b) := by
  rw [SCore.sz_eq] at h
  unfold M.i_sameCore
  simp only [inss_i a.Code b.Code (len_sz (f := SIns.sz) (by omega))]
  rfl
theorem param_i (a b : SParam) (h : a.sz ≤ 1048576) : M.i_SameFunc_c1 a b = some (paramEq a b) := by
  rw [SParam.sz_eq] at h
  unfold M.i_SameFunc_c1
  simp only [SType.re_eq, type_i a.Type_ b.Type_ (by omega)]
  rfl
theorem params_i (a b : List SParam) (h : szL SParam.sz a ≤ 1048576) : M.slices_EqualFunc_Param_Param_Param_Param a b = some (eqL paramEq a b) := by
  have ha := len_sz h
  unfold M.slices_EqualFunc_Param_Param_Param_Param
  exact cmp_all (p := paramEq) a b ha (fun f k hl h1 h2 => by
    rw [M.slices_EqualFunc_Param_Param_Param_Param_l0]
    have hx := szL_mem SParam.sz _ _ (List.getElem_mem h1)
    simp only [SParam.re_eq, getD_lt h1, getD_lt h2, Int.toNat_natCast, inB_nat, Int.ofNat_lt, h1, h2, wrapk h1 (big_of ha), param_i a[k] b[k] (by omega), decide_true, Bool.and_true, cond_true, Option.isSome_some, Option.getD_some]
    cases paramEq a[k] b[k] <;> rfl) (fun f => by rw [M.slices_EqualFunc_Param_Param_Param_Param_l0]; simp)
theorem cores_i (a b : List SCore) (h : szL SCore.sz a ≤ 1048576) : M.slices_EqualFunc_Core_Core_Core_Core a b = some (eqL coreEq a b) := by
  have ha := len_sz h
  unfold M.slices_EqualFunc_Core_Core_Core_Core
  exact cmp_all (p := coreEq) a b ha (fun f k hl h1 h2 => by
    rw [M.slices_EqualFunc_Core_Core_Core_Core_l0]
    have hx := szL_mem SCore.sz _ _ (List.getElem_mem h1)
    simp only [getD_lt h1, getD_lt h2, Int.toNat_natCast, inB_nat, Int.ofNat_lt, h1, h2, wrapk h1 (big_of ha), core_i a[k] b[k] (by omega), decide_true, Bool.and_true, cond_true, Option.isSome_some, Option.getD_some]
    cases coreEq a[k] b[k] <;> rfl) (fun f => by rw [M.slices_EqualFunc_Core_Core_Core_Core_l0]; simp)
theorem funcT_i (a b : SFuncType) (h : a.sz ≤ 1048576) : M.i_SameFunc a b = some (funcTEq a b) := by
  rw [SFuncType.sz_eq] at h
  unfold M.i_SameFunc
  simp only [SType.re_eq, type_i a.Result b.Result (by omega), params_i a.Params b.Params (by omega)]
  rfl
theorem func_i (a b : SFunc) (h : a.sz ≤ 1048576) : M.i_SameFace_c1 a b = some (funcEq a b) := by
  rw [SFunc.sz_eq] at h
  unfold M.i_SameFace_c1
  simp only [SFuncType.re_eq, funcT_i a.Type_ b.Type_ (by omega)]
  rfl
theorem funcs_i (a b : List SFunc) (h : szL SFunc.sz a ≤ 1048576) : M.slices_EqualFunc_Func_Func_Func_Func a b = some (eqL funcEq a b) := by
  have ha := len_sz h
  unfold M.slices_EqualFunc_Func_Func_Func_Func
  exact cmp_all (p := funcEq) a b ha (fun f k hl h1 h2 => by
    rw [M.slices_EqualFunc_Func_Func_Func_Func_l0]
    have hx := szL_mem SFunc.sz _ _ (List.getElem_mem h1)
    simp only [SFunc.re_eq, getD_lt h1, getD_lt h2, Int.toNat_natCast, inB_nat, Int.ofNat_lt, h1, h2, wrapk h1 (big_of ha), func_i a[k] b[k] (by omega), decide_true, Bool.and_true, cond_true, Option.isSome_some, Option.getD_some]
    cases funcEq a[k] b[k] <;> rfl) (fun f => by rw [M.slices_EqualFunc_Func_Func_Func_Func_l0]; simp)
theorem face_i (a b : SFace) (h : a.sz ≤ 1048576) : M.i_SameFace a b = some (faceEq a b) := by
  rw [SFace.sz_eq] at h
  unfold M.i_SameFace
  simp only [texts_i a.Resources b.Resources (len_sz (f := List.length) (by omega)), funcs_i a.Funcs b.Funcs (by omega)]
  rfl
theorem faces_i (a b : List SFace) (h : szL SFace.sz a ≤ 1048576) : M.slices_EqualFunc_Face_Face_Face_Face a b = some (eqL faceEq a b) := by
  have ha := len_sz h
  unfold M.slices_EqualFunc_Face_Face_Face_Face
  exact cmp_all (p := faceEq) a b ha (fun f k hl h1 h2 => by
    rw [M.slices_EqualFunc_Face_Face_Face_Face_l0]
    have hx := szL_mem SFace.sz _ _ (List.getElem_mem h1)
    simp only [getD_lt h1, getD_lt h2, Int.toNat_natCast, inB_nat, Int.ofNat_lt, h1, h2, wrapk h1 (big_of ha), face_i a[k] b[k] (by omega), decide_true, Bool.and_true, cond_true, Option.isSome_some, Option.getD_some]
    cases faceEq a[k] b[k] <;> rfl) (fun f => by rw [M.slices_EqualFunc_Face_Face_Face_Face_l0]; simp)
theorem module_i (a b : SModule) (h : a.sz ≤ 1048576) : M.i_SameModule a b = some (moduleEq a b) := by
  rw [SModule.sz_eq] at h
  unfold M.i_SameModule
  simp only [imports_i a.Imports b.Imports (len_sz (f := SImport.sz) (by omega)), cores_i a.Cores b.Cores (by omega)]
  rfl
theorem component_i (a b : SComponent) (h : a.sz ≤ 1048576) : M.i_SameComponent a b = some (componentEq a b) := by
  rw [SComponent.sz_eq] at h
  unfold M.i_SameComponent
  simp only [faces_i a.Imports b.Imports (by omega), faces_i a.Exports b.Exports (by omega), module_i a.Module b.Module (by omega), lifts_i a.Lifts b.Lifts (len_sz (f := SLift.sz) (by omega)), lowers_i a.Lowers b.Lowers (len_sz (f := SLower.sz) (by omega)), builtins_i a.Builtins b.Builtins (len_sz (f := SBuiltin.sz) (by omega))]
  rfl
end M
