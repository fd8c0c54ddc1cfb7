import Derived.Test.YtfjgoefnkdcolaaGreatXSCM
import Derived.Test.YtfjgoefnkdcolaaGreatXVlaw
import Derived.Test.YtfjgoefnkdcolaaGreatXVpl

set_option linter.unusedVariables false
set_option linter.unusedSimpArgs false
namespace M
def StrOk (s : List UInt8) : Prop := s.length ≤ 9223372036854775807
def LOk {α : Type} (p : α → Prop) (l : List α) : Prop := l.length ≤ 9223372036854775807 ∧ ∀ x ∈ l, p x
def SBuiltin.sz (a : SBuiltin) : Nat := (a.Face).length + (a.Resource).length + (a.Import).length
theorem SBuiltin.sz_eq (a : SBuiltin) : a.sz = (a.Face).length + (a.Resource).length + (a.Import).length := rfl
def SBuiltin.Ok (a : SBuiltin) : Prop := I64 (a.Kind) ∧ StrOk (a.Face) ∧ StrOk (a.Resource) ∧ StrOk (a.Import) ∧ True
theorem SBuiltin.ok_eq (a : SBuiltin) : a.Ok ↔ (I64 (a.Kind) ∧ StrOk (a.Face) ∧ StrOk (a.Resource) ∧ StrOk (a.Import) ∧ True) := Iff.rfl
mutual
def SType.sz : SType → Nat
  | .mk v0 v1 v2 v3 => (v1).length + szL List.length (v2) + SType.szs v3
def SType.szs : List SType → Nat
  | [] => 0
  | t :: r => SType.sz t + 1 + SType.szs r
end
theorem SType.szs_eq : ∀ l : List SType, SType.szs l = szL SType.sz l
  | [] => rfl
  | t :: r => by simp only [SType.szs, szL, SType.szs_eq r]
theorem SType.sz_eq (a : SType) : a.sz = (a.Name).length + szL List.length (a.Labels) + szL SType.sz (a.Kids) := by cases a; simp only [SType.sz, SType.szs_eq]; rfl
mutual
def SType.Ok : SType → Prop
  | .mk v0 v1 v2 v3 => I64 (v0) ∧ StrOk (v1) ∧ LOk StrOk (v2) ∧ (v3.length ≤ 9223372036854775807 ∧ SType.Oks v3) ∧ True
def SType.Oks : List SType → Prop
  | [] => True
  | t :: r => SType.Ok t ∧ SType.Oks r
end
theorem SType.oks_iff : ∀ l : List SType, SType.Oks l ↔ ∀ x ∈ l, SType.Ok x
  | [] => by simp [SType.Oks]
  | t :: r => by simp [SType.Oks, SType.oks_iff r]
theorem SType.ok_eq (a : SType) : a.Ok ↔ (I64 (a.Kind) ∧ StrOk (a.Name) ∧ LOk StrOk (a.Labels) ∧ LOk SType.Ok (a.Kids) ∧ True) := by
  cases a; simp only [SType.Ok, SType.oks_iff, LOk]; exact Iff.rfl
def SParam.sz (a : SParam) : Nat := (a.Name).length + (a.Type_).sz
theorem SParam.sz_eq (a : SParam) : a.sz = (a.Name).length + (a.Type_).sz := rfl
def SParam.Ok (a : SParam) : Prop := StrOk (a.Name) ∧ SType.Ok (a.Type_) ∧ True
theorem SParam.ok_eq (a : SParam) : a.Ok ↔ (StrOk (a.Name) ∧ SType.Ok (a.Type_) ∧ True) := Iff.rfl
def SFuncType.sz (a : SFuncType) : Nat := szL SParam.sz (a.Params) + (a.Result).sz
theorem SFuncType.sz_eq (a : SFuncType) : a.sz = szL SParam.sz (a.Params) + (a.Result).sz := rfl
def SFuncType.Ok (a : SFuncType) : Prop := LOk SParam.Ok (a.Params) ∧ SType.Ok (a.Result) ∧ True ∧ True
theorem SFuncType.ok_eq (a : SFuncType) : a.Ok ↔ (LOk SParam.Ok (a.Params) ∧ SType.Ok (a.Result) ∧ True ∧ True) := Iff.rfl
def SFunc.sz (a : SFunc) : Nat := (a.Name).length + (a.Type_).sz
theorem SFunc.sz_eq (a : SFunc) : a.sz = (a.Name).length + (a.Type_).sz := rfl
def SFunc.Ok (a : SFunc) : Prop := StrOk (a.Name) ∧ SFuncType.Ok (a.Type_) ∧ True
theorem SFunc.ok_eq (a : SFunc) : a.Ok ↔ (StrOk (a.Name) ∧ SFuncType.Ok (a.Type_) ∧ True) := Iff.rfl
def SFace.sz (a : SFace) : Nat := (a.Package).length + (a.Name).length + (a.Version).length + szL List.length (a.Resources) + szL SFunc.sz (a.Funcs)
theorem SFace.sz_eq (a : SFace) : a.sz = (a.Package).length + (a.Name).length + (a.Version).length + szL List.length (a.Resources) + szL SFunc.sz (a.Funcs) := rfl
def SFace.Ok (a : SFace) : Prop := StrOk (a.Package) ∧ StrOk (a.Name) ∧ StrOk (a.Version) ∧ LOk StrOk (a.Resources) ∧ LOk SFunc.Ok (a.Funcs) ∧ True
theorem SFace.ok_eq (a : SFace) : a.Ok ↔ (StrOk (a.Package) ∧ StrOk (a.Name) ∧ StrOk (a.Version) ∧ LOk StrOk (a.Resources) ∧ LOk SFunc.Ok (a.Funcs) ∧ True) := Iff.rfl
def SLift.sz (a : SLift) : Nat := (a.Face).length + (a.Func).length + (a.Core).length
theorem SLift.sz_eq (a : SLift) : a.sz = (a.Face).length + (a.Func).length + (a.Core).length := rfl
def SLift.Ok (a : SLift) : Prop := StrOk (a.Face) ∧ StrOk (a.Func) ∧ StrOk (a.Core) ∧ True
theorem SLift.ok_eq (a : SLift) : a.Ok ↔ (StrOk (a.Face) ∧ StrOk (a.Func) ∧ StrOk (a.Core) ∧ True) := Iff.rfl
def SLower.sz (a : SLower) : Nat := (a.Face).length + (a.Func).length + (a.Import).length
theorem SLower.sz_eq (a : SLower) : a.sz = (a.Face).length + (a.Func).length + (a.Import).length := rfl
def SLower.Ok (a : SLower) : Prop := StrOk (a.Face) ∧ StrOk (a.Func) ∧ StrOk (a.Import) ∧ True
theorem SLower.ok_eq (a : SLower) : a.Ok ↔ (StrOk (a.Face) ∧ StrOk (a.Func) ∧ StrOk (a.Import) ∧ True) := Iff.rfl
def SIns.sz (a : SIns) : Nat := 0
theorem SIns.sz_eq (a : SIns) : a.sz = 0 := rfl
def SIns.Ok (a : SIns) : Prop := I64 (a.Op) ∧ I64 (a.A) ∧ True
theorem SIns.ok_eq (a : SIns) : a.Ok ↔ (I64 (a.Op) ∧ I64 (a.A) ∧ True) := Iff.rfl
def SCore.sz (a : SCore) : Nat := (a.Name).length + szL SIns.sz (a.Code)
theorem SCore.sz_eq (a : SCore) : a.sz = (a.Name).length + szL SIns.sz (a.Code) := rfl
def SCore.Ok (a : SCore) : Prop := StrOk (a.Name) ∧ I64 (a.Params) ∧ I64 (a.Locals) ∧ True ∧ LOk SIns.Ok (a.Code) ∧ True
theorem SCore.ok_eq (a : SCore) : a.Ok ↔ (StrOk (a.Name) ∧ I64 (a.Params) ∧ I64 (a.Locals) ∧ True ∧ LOk SIns.Ok (a.Code) ∧ True) := Iff.rfl
def SImport.sz (a : SImport) : Nat := (a.Name).length
theorem SImport.sz_eq (a : SImport) : a.sz = (a.Name).length := rfl
def SImport.Ok (a : SImport) : Prop := StrOk (a.Name) ∧ I64 (a.Params) ∧ True ∧ True
theorem SImport.ok_eq (a : SImport) : a.Ok ↔ (StrOk (a.Name) ∧ I64 (a.Params) ∧ True ∧ True) := Iff.rfl
def SModule.sz (a : SModule) : Nat := szL SImport.sz (a.Imports) + szL SCore.sz (a.Cores)
theorem SModule.sz_eq (a : SModule) : a.sz = szL SImport.sz (a.Imports) + szL SCore.sz (a.Cores) := rfl
def SModule.Ok (a : SModule) : Prop := I64 (a.Pages) ∧ LOk SImport.Ok (a.Imports) ∧ LOk SCore.Ok (a.Cores) ∧ True
theorem SModule.ok_eq (a : SModule) : a.Ok ↔ (I64 (a.Pages) ∧ LOk SImport.Ok (a.Imports) ∧ LOk SCore.Ok (a.Cores) ∧ True) := Iff.rfl
def SComponent.sz (a : SComponent) : Nat := (a.Name).length + (a.Version).length + szL SFace.sz (a.Imports) + szL SFace.sz (a.Exports) + (a.Module).sz + szL SLift.sz (a.Lifts) + szL SLower.sz (a.Lowers) + szL SBuiltin.sz (a.Builtins)
theorem SComponent.sz_eq (a : SComponent) : a.sz = (a.Name).length + (a.Version).length + szL SFace.sz (a.Imports) + szL SFace.sz (a.Exports) + (a.Module).sz + szL SLift.sz (a.Lifts) + szL SLower.sz (a.Lowers) + szL SBuiltin.sz (a.Builtins) := rfl
def SComponent.Ok (a : SComponent) : Prop := StrOk (a.Name) ∧ StrOk (a.Version) ∧ LOk SFace.Ok (a.Imports) ∧ LOk SFace.Ok (a.Exports) ∧ I64 (a.Encoding) ∧ I64 (a.Reserve) ∧ SModule.Ok (a.Module) ∧ LOk SLift.Ok (a.Lifts) ∧ LOk SLower.Ok (a.Lowers) ∧ LOk SBuiltin.Ok (a.Builtins) ∧ True
theorem SComponent.ok_eq (a : SComponent) : a.Ok ↔ (StrOk (a.Name) ∧ StrOk (a.Version) ∧ LOk SFace.Ok (a.Imports) ∧ LOk SFace.Ok (a.Exports) ∧ I64 (a.Encoding) ∧ I64 (a.Reserve) ∧ SModule.Ok (a.Module) ∧ LOk SLift.Ok (a.Lifts) ∧ LOk SLower.Ok (a.Lowers) ∧ LOk SBuiltin.Ok (a.Builtins) ∧ True) := Iff.rfl
theorem SBuiltin.ok_of (a : SBuiltin) (h : ∀ m, Go.V.ValE m .Builtin a) : a.Ok := ⟨(h 0).1, (h 0).2.1, (h 0).2.2.1, (h 0).2.2.2.1, trivial⟩
mutual
theorem SType.ok_of : ∀ (a : SType), (∀ m, Go.V.ValE m .Type a) → a.Ok
  | .mk v0 v1 v2 v3, h => by
    simp only [SType.Ok]
    exact ⟨(h 0).1, (h 0).2.1, ⟨((h 0).2.2.1).1, fun y hy => ((fun m => ((h (m + 1)).2.2.1).2 y hy) 0).1⟩, ⟨((h 0).2.2.2.1).1, (SType.oks_of _ fun y hy m => ((h (m + 1)).2.2.2.1).2 y hy)⟩, trivial⟩
theorem SType.oks_of : ∀ (l : List SType), (∀ y ∈ l, ∀ m, Go.V.ValE m .Type y) → SType.Oks l
  | [], _ => by simp only [SType.Oks]
  | t :: r, h => by
    simp only [SType.Oks]
    exact ⟨SType.ok_of t (h t (by simp)), SType.oks_of r fun y hy => h y (by simp [hy])⟩
end
theorem SParam.ok_of (a : SParam) (h : ∀ m, Go.V.ValE m .Param a) : a.Ok := ⟨(h 0).1, (SType.ok_of (a.Type_) (fun m => by cases m with | zero => exact ⟨(h 0).2.1, (h 0).2.2.1, (h 0).2.2.2.1, (h 0).2.2.2.2.1, trivial⟩ | succ m => exact ⟨(h (m + 1)).2.1, (h (m + 1)).2.2.1, (h (m + 1)).2.2.2.1, (h (m + 1)).2.2.2.2.1, trivial⟩)), trivial⟩
theorem SFuncType.ok_of (a : SFuncType) (h : ∀ m, Go.V.ValE m .FuncType a) : a.Ok := ⟨⟨((h 0).1).1, fun y hy => SParam.ok_of y (fun m => ((h (m + 1)).1).2 y hy)⟩, (SType.ok_of (a.Result) (fun m => by cases m with | zero => exact ⟨(h 0).2.1, (h 0).2.2.1, (h 0).2.2.2.1, (h 0).2.2.2.2.1, trivial⟩ | succ m => exact ⟨(h (m + 1)).2.1, (h (m + 1)).2.2.1, (h (m + 1)).2.2.2.1, (h (m + 1)).2.2.2.2.1, trivial⟩)), trivial, trivial⟩
theorem SFunc.ok_of (a : SFunc) (h : ∀ m, Go.V.ValE m .Func a) : a.Ok := ⟨(h 0).1, (SFuncType.ok_of (a.Type_) (fun m => by cases m with | zero => exact ⟨(h 0).2.1, (h 0).2.2.1, (h 0).2.2.2.1, (h 0).2.2.2.2.1, (h 0).2.2.2.2.2.1, (h 0).2.2.2.2.2.2.1, trivial⟩ | succ m => exact ⟨(h (m + 1)).2.1, (h (m + 1)).2.2.1, (h (m + 1)).2.2.2.1, (h (m + 1)).2.2.2.2.1, (h (m + 1)).2.2.2.2.2.1, (h (m + 1)).2.2.2.2.2.2.1, trivial⟩)), trivial⟩
theorem SFace.ok_of (a : SFace) (h : ∀ m, Go.V.ValE m .Face a) : a.Ok := ⟨(h 0).1, (h 0).2.1, (h 0).2.2.1, ⟨((h 0).2.2.2.1).1, fun y hy => ((fun m => ((h (m + 1)).2.2.2.1).2 y hy) 0).1⟩, ⟨((h 0).2.2.2.2.1).1, fun y hy => SFunc.ok_of y (fun m => ((h (m + 1)).2.2.2.2.1).2 y hy)⟩, trivial⟩
theorem SLift.ok_of (a : SLift) (h : ∀ m, Go.V.ValE m .Lift a) : a.Ok := ⟨(h 0).1, (h 0).2.1, (h 0).2.2.1, trivial⟩
theorem SLower.ok_of (a : SLower) (h : ∀ m, Go.V.ValE m .Lower a) : a.Ok := ⟨(h 0).1, (h 0).2.1, (h 0).2.2.1, trivial⟩
theorem SIns.ok_of (a : SIns) (h : ∀ m, Go.V.ValE m .Ins a) : a.Ok := ⟨(h 0).1, (h 0).2.1, trivial⟩
theorem SCore.ok_of (a : SCore) (h : ∀ m, Go.V.ValE m .Core a) : a.Ok := ⟨(h 0).1, (h 0).2.1, (h 0).2.2.1, trivial, ⟨((h 0).2.2.2.2.1).1, fun y hy => SIns.ok_of y (fun m => ((h (m + 1)).2.2.2.2.1).2 y hy)⟩, trivial⟩
theorem SImport.ok_of (a : SImport) (h : ∀ m, Go.V.ValE m .Import a) : a.Ok := ⟨(h 0).1, (h 0).2.1, trivial, trivial⟩
theorem SModule.ok_of (a : SModule) (h : ∀ m, Go.V.ValE m .Module a) : a.Ok := ⟨(h 0).1, ⟨((h 0).2.1).1, fun y hy => SImport.ok_of y (fun m => ((h (m + 1)).2.1).2 y hy)⟩, ⟨((h 0).2.2.1).1, fun y hy => SCore.ok_of y (fun m => ((h (m + 1)).2.2.1).2 y hy)⟩, trivial⟩
theorem SComponent.ok_of (a : SComponent) (h : ∀ m, Go.V.ValE m .Component a) : a.Ok := ⟨(h 0).1, (h 0).2.1, ⟨((h 0).2.2.1).1, fun y hy => SFace.ok_of y (fun m => ((h (m + 1)).2.2.1).2 y hy)⟩, ⟨((h 0).2.2.2.1).1, fun y hy => SFace.ok_of y (fun m => ((h (m + 1)).2.2.2.1).2 y hy)⟩, (h 0).2.2.2.2.1, (h 0).2.2.2.2.2.1, (SModule.ok_of (a.Module) (fun m => by cases m with | zero => exact ⟨(h 0).2.2.2.2.2.2.1, (h 0).2.2.2.2.2.2.2.1, (h 0).2.2.2.2.2.2.2.2.1, trivial⟩ | succ m => exact ⟨(h (m + 1)).2.2.2.2.2.2.1, (h (m + 1)).2.2.2.2.2.2.2.1, (h (m + 1)).2.2.2.2.2.2.2.2.1, trivial⟩)), ⟨((h 0).2.2.2.2.2.2.2.2.2.1).1, fun y hy => SLift.ok_of y (fun m => ((h (m + 1)).2.2.2.2.2.2.2.2.2.1).2 y hy)⟩, ⟨((h 0).2.2.2.2.2.2.2.2.2.2.1).1, fun y hy => SLower.ok_of y (fun m => ((h (m + 1)).2.2.2.2.2.2.2.2.2.2.1).2 y hy)⟩, ⟨((h 0).2.2.2.2.2.2.2.2.2.2.2.1).1, fun y hy => SBuiltin.ok_of y (fun m => ((h (m + 1)).2.2.2.2.2.2.2.2.2.2.2.1).2 y hy)⟩, trivial⟩
theorem szS_String (a : List (List UInt8)) (left : Int) (ok : LOk StrOk a) (h0 : 0 ≤ left) (h1 : left ≤ 1048576) : M.l_szStringS a left = some (if (szL List.length a : Int) ≤ left then left - szL List.length a else -1) := by
  have hl := ok.1
  unfold M.l_szStringS
  rw [wrap_i64 (by omega) (by omega)]
  refine szS_of (f := List.length) (F := M.l_szStringS_l0  a) a left h0 h1 (fun g k l h2 h3 hk => ?_) (fun g l => ?_)
  · have hn : k < 2 ^ 62 := by omega
    rw [M.l_szStringS_l0]
    have w : Go.IntKind.wrap .i64 (l - ((a[k]).length : Int)) = l - (a[k]).length := wrap_i64 (by have := ok.2 a[k] (List.getElem_mem hk); unfold StrOk at this; omega) (by omega)
    by_cases d : ((a[k]).length : Int) ≤ l
    · have n : ¬ (l - ((a[k]).length : Int) < 0) := by omega
      rw [if_pos d]; simp [hk, getD_lt hk, w, n, wrapk hk (show a.length < 2 ^ 62 by omega)]
    · have n : l - ((a[k]).length : Int) < 0 := by omega
      rw [if_neg d]; simp [hk, getD_lt hk, w, n]
  · rw [M.l_szStringS_l0]; simp
theorem toS_String (a : List (List UInt8)) (ha : szL List.length a ≤ 1048576) : M.l_toStringS a = some a := by
  have hl := szL_len List.length a
  have hn : a.length ≤ 1048576 := by omega
  have hi : (a.length : Int) ≤ 1073741824 := by omega
  have q : ∀ z, z.length = a.length → M.l_toStringS_l0  a Go.V.bigN 0 z = some a := copy_loop (F := M.l_toStringS_l0  a) a (by omega) (fun f k out h1 h2 hk => by
    rw [M.l_toStringS_l0]
    simp [hk, h2, getD_lt hk, wrapk hk (big_of hn)]) (fun f out => by rw [M.l_toStringS_l0]; simp)
  unfold M.l_toStringS
  rw [q _ (by simp)]
  simp [hi]
theorem eqS_String (a : List (List UInt8)) (ha : szL List.length a ≤ 1048576) : M.l_eqStringS a a = some true := by
  have hl := szL_len List.length a
  have hn : a.length ≤ 1048576 := by omega
  unfold M.l_eqStringS
  refine eq_all (F := M.l_eqStringS_l0  a a) a hn (fun f k hk => ?_) (fun f => ?_)
  · rw [M.l_eqStringS_l0]
    simp [hk, getD_lt hk, wrapk hk (big_of hn)]
  · rw [M.l_eqStringS_l0]; simp
theorem sz_Builtin (a : SBuiltin) (left : Int) (ok : a.Ok) (h0 : 0 ≤ left) (h1 : left ≤ 1048576) : M.l_szBuiltin a left = some (if (a.sz : Int) ≤ left then left - a.sz else -1) := by
  unfold M.l_szBuiltin
  have hs := SBuiltin.sz_eq a
  have ok1 := (SBuiltin.ok_eq a).1 ok
  try simp only [SType.re_eq, SParam.re_eq, SFuncType.re_eq, SFunc.re_eq]
  have e0 : Go.IntKind.wrap .i64 (left - ((a.Face).length : Int)) = left - ((a.Face).length : Int) := wrap_i64 (by have := ok1.2.1; unfold StrOk at this; omega) (by omega)
  by_cases c0 : (((a.Face).length : Nat) : Int) ≤ left
  · skip
    have n0 : ¬ (left - (((a.Face).length : Nat) : Int) < 0) := by omega
    have e1 : Go.IntKind.wrap .i64 (left - (((a.Face).length : Nat) : Int) - ((a.Resource).length : Int)) = left - (((a.Face).length : Nat) : Int) - ((a.Resource).length : Int) := wrap_i64 (by have := ok1.2.2.1; unfold StrOk at this; omega) (by omega)
    by_cases c1 : (((a.Resource).length : Nat) : Int) ≤ left - (((a.Face).length : Nat) : Int)
    · skip
      have n1 : ¬ (left - (((a.Face).length : Nat) : Int) - (((a.Resource).length : Nat) : Int) < 0) := by omega
      have e2 : Go.IntKind.wrap .i64 (left - (((a.Face).length : Nat) : Int) - (((a.Resource).length : Nat) : Int) - ((a.Import).length : Int)) = left - (((a.Face).length : Nat) : Int) - (((a.Resource).length : Nat) : Int) - ((a.Import).length : Int) := wrap_i64 (by have := ok1.2.2.2.1; unfold StrOk at this; omega) (by omega)
      by_cases c2 : (((a.Import).length : Nat) : Int) ≤ left - (((a.Face).length : Nat) : Int) - (((a.Resource).length : Nat) : Int)
      · skip
        have n2 : ¬ (left - (((a.Face).length : Nat) : Int) - (((a.Resource).length : Nat) : Int) - (((a.Import).length : Nat) : Int) < 0) := by omega
        have q : (a.sz : Int) ≤ left := by rw [hs] <;> push_cast <;> omega
        have q2 : left - (a.sz : Int) = left - (((a.Face).length : Nat) : Int) - (((a.Resource).length : Nat) : Int) - (((a.Import).length : Nat) : Int) := by rw [hs] <;> push_cast <;> omega
        rw [if_pos q, q2]; simp [e0, n0, e1, n1, e2, n2]
      · have n2 : left - (((a.Face).length : Nat) : Int) - (((a.Resource).length : Nat) : Int) - (((a.Import).length : Nat) : Int) < 0 := by omega
        have q : ¬ ((a.sz : Int) ≤ left) := by rw [hs] <;> push_cast <;> omega
        rw [if_neg q]; simp [e0, n0, e1, n1, e2, n2]
    · have n1 : left - (((a.Face).length : Nat) : Int) - (((a.Resource).length : Nat) : Int) < 0 := by omega
      have q : ¬ ((a.sz : Int) ≤ left) := by rw [hs] <;> push_cast <;> omega
      rw [if_neg q]; simp [e0, n0, e1, n1]
  · have n0 : left - (((a.Face).length : Nat) : Int) < 0 := by omega
    have q : ¬ ((a.sz : Int) ≤ left) := by rw [hs] <;> push_cast <;> omega
    rw [if_neg q]; simp [e0, n0]
theorem to_Builtin (a : SBuiltin) (h : a.sz ≤ 1048576) : M.l_toBuiltin a = some a := by
  unfold M.l_toBuiltin
  have hs := SBuiltin.sz_eq a
  try simp only [SType.re_eq, SParam.re_eq, SFuncType.re_eq, SFunc.re_eq]
  try simp []
theorem eq_Builtin (a : SBuiltin) (h : a.sz ≤ 1048576) : M.l_eqBuiltin a a = some true := by
  unfold M.l_eqBuiltin
  have hs := SBuiltin.sz_eq a
  try simp only [SType.re_eq, SParam.re_eq, SFuncType.re_eq, SFunc.re_eq]
  try simp []
theorem szS_Builtin (a : List SBuiltin) (left : Int) (ok : LOk SBuiltin.Ok a) (h0 : 0 ≤ left) (h1 : left ≤ 1048576) : M.l_szBuiltinS a left = some (if (szL SBuiltin.sz a : Int) ≤ left then left - szL SBuiltin.sz a else -1) := by
  have hl := ok.1
  unfold M.l_szBuiltinS
  rw [wrap_i64 (by omega) (by omega)]
  refine szS_of (f := SBuiltin.sz) (F := M.l_szBuiltinS_l0  a) a left h0 h1 (fun g k l h2 h3 hk => ?_) (fun g l => ?_)
  · have hn : k < 2 ^ 62 := by omega
    rw [M.l_szBuiltinS_l0]
    have e := sz_Builtin a[k] l (ok.2 _ (List.getElem_mem hk)) h2 (by omega)
    by_cases d : ((SBuiltin.sz a[k] : Nat) : Int) ≤ l
    · have n : ¬ (l - ((SBuiltin.sz a[k] : Nat) : Int) < 0) := by omega
      rw [if_pos d] at e ⊢; simp [hk, getD_lt hk, e, n, wrapk hk (show a.length < 2 ^ 62 by omega), SType.re_eq, SParam.re_eq, SFuncType.re_eq, SFunc.re_eq]
    · rw [if_neg d] at e ⊢; simp [hk, getD_lt hk, e, SType.re_eq, SParam.re_eq, SFuncType.re_eq, SFunc.re_eq]
  · rw [M.l_szBuiltinS_l0]; simp
theorem toS_Builtin (a : List SBuiltin) (ha : szL SBuiltin.sz a ≤ 1048576) : M.l_toBuiltinS a = some a := by
  have hl := szL_len SBuiltin.sz a
  have hn : a.length ≤ 1048576 := by omega
  have hi : (a.length : Int) ≤ 1073741824 := by omega
  have q : ∀ z, z.length = a.length → M.l_toBuiltinS_l0  a Go.V.bigN 0 z = some a := copy_loop (F := M.l_toBuiltinS_l0  a) a (by omega) (fun f k out h1 h2 hk => by
    rw [M.l_toBuiltinS_l0]
    have e := to_Builtin a[k] (by have := szL_mem SBuiltin.sz a a[k] (List.getElem_mem hk); omega)
    simp [hk, h2, getD_lt hk, e, wrapk hk (big_of hn), SType.re_eq, SParam.re_eq, SFuncType.re_eq, SFunc.re_eq]) (fun f out => by rw [M.l_toBuiltinS_l0]; simp)
  unfold M.l_toBuiltinS
  rw [q _ (by simp)]
  simp [hi]
theorem eqS_Builtin (a : List SBuiltin) (ha : szL SBuiltin.sz a ≤ 1048576) : M.l_eqBuiltinS a a = some true := by
  have hl := szL_len SBuiltin.sz a
  have hn : a.length ≤ 1048576 := by omega
  unfold M.l_eqBuiltinS
  refine eq_all (F := M.l_eqBuiltinS_l0  a a) a hn (fun f k hk => ?_) (fun f => ?_)
  · rw [M.l_eqBuiltinS_l0]
    have e := eq_Builtin a[k] (by have := szL_mem SBuiltin.sz a a[k] (List.getElem_mem hk); omega)
    simp [hk, getD_lt hk, e, wrapk hk (big_of hn), SType.re_eq, SParam.re_eq, SFuncType.re_eq, SFunc.re_eq]
  · rw [M.l_eqBuiltinS_l0]; simp
theorem szS_Type_r (r : SType → Int → Option Int) (a : List SType) (left : Int) (ok : LOk SType.Ok a) (h0 : 0 ≤ left) (h1 : left ≤ 1048576) (hr : ∀ x l, x ∈ a → 0 ≤ l → l < left → r x l = some (if (x.sz : Int) ≤ l then l - x.sz else -1)) : M.l_szTypeS r a left = some (if (szL SType.sz a : Int) ≤ left then left - szL SType.sz a else -1) := by
  have hl := ok.1
  unfold M.l_szTypeS
  rw [wrap_i64 (by omega) (by omega)]
  refine szS_of (f := SType.sz) (F := M.l_szTypeS_l0 r  a) a left h0 h1 (fun g k l h2 h3 hk => ?_) (fun g l => ?_)
  · have hn : k < 2 ^ 62 := by omega
    rw [M.l_szTypeS_l0]
    have e := hr a[k] l (List.getElem_mem hk) h2 (by omega)
    by_cases d : ((SType.sz a[k] : Nat) : Int) ≤ l
    · have n : ¬ (l - ((SType.sz a[k] : Nat) : Int) < 0) := by omega
      rw [if_pos d] at e ⊢; simp [hk, getD_lt hk, e, n, wrapk hk (show a.length < 2 ^ 62 by omega), SType.re_eq, SParam.re_eq, SFuncType.re_eq, SFunc.re_eq]
    · rw [if_neg d] at e ⊢; simp [hk, getD_lt hk, e, SType.re_eq, SParam.re_eq, SFuncType.re_eq, SFunc.re_eq]
  · rw [M.l_szTypeS_l0]; simp
theorem toS_Type_r (r : SType → Option SType) (a : List SType) (ha : a.length ≤ 1048576) (hr : ∀ x ∈ a, r x = some x) : M.l_toTypeS r a = some a := by
  have hn : a.length ≤ 1048576 := by omega
  have hi : (a.length : Int) ≤ 1073741824 := by omega
  have q : ∀ z, z.length = a.length → M.l_toTypeS_l0 r  a Go.V.bigN 0 z = some a := copy_loop (F := M.l_toTypeS_l0 r  a) a (by omega) (fun f k out h1 h2 hk => by
    rw [M.l_toTypeS_l0]
    have e := hr a[k] (List.getElem_mem hk)
    simp [hk, h2, getD_lt hk, e, wrapk hk (big_of hn), SType.re_eq, SParam.re_eq, SFuncType.re_eq, SFunc.re_eq]) (fun f out => by rw [M.l_toTypeS_l0]; simp)
  unfold M.l_toTypeS
  rw [q _ (by simp)]
  simp [hi]
theorem eqS_Type_r (r : SType → SType → Option Bool) (a : List SType) (ha : a.length ≤ 1048576) (hr : ∀ x ∈ a, r x x = some true) : M.l_eqTypeS r a a = some true := by
  have hn : a.length ≤ 1048576 := by omega
  unfold M.l_eqTypeS
  refine eq_all (F := M.l_eqTypeS_l0 r  a a) a hn (fun f k hk => ?_) (fun f => ?_)
  · rw [M.l_eqTypeS_l0]
    have e := hr a[k] (List.getElem_mem hk)
    simp [hk, getD_lt hk, e, wrapk hk (big_of hn), SType.re_eq, SParam.re_eq, SFuncType.re_eq, SFunc.re_eq]
  · rw [M.l_eqTypeS_l0]; simp
theorem sz_Type_n : ∀ (n : Nat) (a : SType) (left : Int), a.Ok → 0 ≤ left → left < n → left ≤ 1048576 → M.l_szType_n n a left = some (if (a.sz : Int) ≤ left then left - a.sz else -1)
  | 0, a, left, ok, h0, h2, h1 => by omega
  | n + 1, a, left, ok, h0, h2, h1 => by
    show M.l_szType_b (M.l_szType_n n) a left = _
    unfold M.l_szType_b
    have hs := SType.sz_eq a
    have ok1 := (SType.ok_eq a).1 ok
    try simp only [SType.re_eq, SParam.re_eq, SFuncType.re_eq, SFunc.re_eq]
    have e0 : Go.IntKind.wrap .i64 (left - ((a.Name).length : Int)) = left - ((a.Name).length : Int) := wrap_i64 (by have := ok1.2.1; unfold StrOk at this; omega) (by omega)
    by_cases c0 : (((a.Name).length : Nat) : Int) ≤ left
    · skip
      have n0 : ¬ (left - (((a.Name).length : Nat) : Int) < 0) := by omega
      have e1 := szS_String (a.Labels) (left - (((a.Name).length : Nat) : Int)) ok1.2.2.1 (by omega) (by omega)
      by_cases c1 : ((szL List.length (a.Labels) : Nat) : Int) ≤ left - (((a.Name).length : Nat) : Int)
      · rw [if_pos c1] at e1
        have n1 : ¬ (left - (((a.Name).length : Nat) : Int) - ((szL List.length (a.Labels) : Nat) : Int) < 0) := by omega
        have e2 := szS_Type_r (M.l_szType_n n) (a.Kids) (left - (((a.Name).length : Nat) : Int) - ((szL List.length (a.Labels) : Nat) : Int)) ok1.2.2.2.1 (by omega) (by omega) (fun x l hx q0 q1 => sz_Type_n n x l ((ok1.2.2.2.1).2 x hx) q0 (by omega) (by omega))
        by_cases c2 : ((szL SType.sz (a.Kids) : Nat) : Int) ≤ left - (((a.Name).length : Nat) : Int) - ((szL List.length (a.Labels) : Nat) : Int)
        · rw [if_pos c2] at e2
          have n2 : ¬ (left - (((a.Name).length : Nat) : Int) - ((szL List.length (a.Labels) : Nat) : Int) - ((szL SType.sz (a.Kids) : Nat) : Int) < 0) := by omega
          have q : (a.sz : Int) ≤ left := by rw [hs] <;> push_cast <;> omega
          have q2 : left - (a.sz : Int) = left - (((a.Name).length : Nat) : Int) - ((szL List.length (a.Labels) : Nat) : Int) - ((szL SType.sz (a.Kids) : Nat) : Int) := by rw [hs] <;> push_cast <;> omega
          rw [if_pos q, q2]; simp [e0, n0, e1, n1, e2, n2]
        · rw [if_neg c2] at e2
          have q : ¬ ((a.sz : Int) ≤ left) := by rw [hs] <;> push_cast <;> omega
          rw [if_neg q]; simp [e0, n0, e1, n1, e2]
      · rw [if_neg c1] at e1
        have q : ¬ ((a.sz : Int) ≤ left) := by rw [hs] <;> push_cast <;> omega
        rw [if_neg q]; simp [e0, n0, e1]
    · have n0 : left - (((a.Name).length : Nat) : Int) < 0 := by omega
      have q : ¬ ((a.sz : Int) ≤ left) := by rw [hs] <;> push_cast <;> omega
      rw [if_neg q]; simp [e0, n0]
theorem sz_Type (a : SType) (left : Int) (ok : a.Ok) (h0 : 0 ≤ left) (h1 : left ≤ 1048576) : M.l_szType a left = some (if (a.sz : Int) ≤ left then left - a.sz else -1) :=
  sz_Type_n _ a left ok h0 (by have := Go.V.bigN_le; omega) h1
theorem szS_Type (a : List SType) (left : Int) (ok : LOk SType.Ok a) (h0 : 0 ≤ left) (h1 : left ≤ 1048576) : M.l_szTypeS M.l_szType a left = some (if (szL SType.sz a : Int) ≤ left then left - szL SType.sz a else -1) :=
  szS_Type_r _ a left ok h0 h1 fun x l hx q0 q1 => sz_Type x l (ok.2 x hx) q0 (by omega)
theorem to_Type_n : ∀ (n : Nat) (a : SType), a.sz < n → a.sz ≤ 1048576 → M.l_toType_n n a = some a
  | 0, a, h2, h => by omega
  | n + 1, a, h2, h => by
    show M.l_toType_b (M.l_toType_n n) a = _
    unfold M.l_toType_b
    have hs := SType.sz_eq a
    try simp only [SType.re_eq, SParam.re_eq, SFuncType.re_eq, SFunc.re_eq]
    have e2 := toS_String (a.Labels) (by omega)
    have hk3 := szL_len SType.sz (a.Kids)
    have e3 := toS_Type_r (M.l_toType_n n) (a.Kids) (by omega) (fun x hx => to_Type_n n x (by have := szL_mem SType.sz (a.Kids) x hx; have := szL_pos SType.sz (a.Kids) x hx; omega) (by have := szL_mem SType.sz (a.Kids) x hx; omega))
    try simp [e2, e3, SType.eta]
theorem to_Type (a : SType) (h : a.sz ≤ 1048576) : M.l_toType a = some a :=
  to_Type_n _ a (by have := Go.V.bigN_le; omega) h
theorem toS_Type (a : List SType) (ha : szL SType.sz a ≤ 1048576) : M.l_toTypeS M.l_toType a = some a :=
  toS_Type_r _ a (by have := szL_len SType.sz a; omega) fun x hx => to_Type x (by have := szL_mem SType.sz a x hx; omega)
theorem eq_Type_n : ∀ (n : Nat) (a : SType), a.sz < n → a.sz ≤ 1048576 → M.l_eqType_n n a a = some true
  | 0, a, h2, h => by omega
  | n + 1, a, h2, h => by
    show M.l_eqType_b (M.l_eqType_n n) a a = _
    unfold M.l_eqType_b
    have hs := SType.sz_eq a
    try simp only [SType.re_eq, SParam.re_eq, SFuncType.re_eq, SFunc.re_eq]
    have e2 := eqS_String (a.Labels) (by omega)
    have hk3 := szL_len SType.sz (a.Kids)
    have e3 := eqS_Type_r (M.l_eqType_n n) (a.Kids) (by omega) (fun x hx => eq_Type_n n x (by have := szL_mem SType.sz (a.Kids) x hx; have := szL_pos SType.sz (a.Kids) x hx; omega) (by have := szL_mem SType.sz (a.Kids) x hx; omega))
    try simp [e2, e3, SType.eta]
theorem eq_Type (a : SType) (h : a.sz ≤ 1048576) : M.l_eqType a a = some true :=
  eq_Type_n _ a (by have := Go.V.bigN_le; omega) h
theorem eqS_Type (a : List SType) (ha : szL SType.sz a ≤ 1048576) : M.l_eqTypeS M.l_eqType a a = some true :=
  eqS_Type_r _ a (by have := szL_len SType.sz a; omega) fun x hx => eq_Type x (by have := szL_mem SType.sz a x hx; omega)
theorem sz_Param (a : SParam) (left : Int) (ok : a.Ok) (h0 : 0 ≤ left) (h1 : left ≤ 1048576) : M.l_szParam a left = some (if (a.sz : Int) ≤ left then left - a.sz else -1) := by
  unfold M.l_szParam
  have hs := SParam.sz_eq a
  have ok1 := (SParam.ok_eq a).1 ok
  try simp only [SType.re_eq, SParam.re_eq, SFuncType.re_eq, SFunc.re_eq]
  have e0 : Go.IntKind.wrap .i64 (left - ((a.Name).length : Int)) = left - ((a.Name).length : Int) := wrap_i64 (by have := ok1.1; unfold StrOk at this; omega) (by omega)
  by_cases c0 : (((a.Name).length : Nat) : Int) ≤ left
  · skip
    have n0 : ¬ (left - (((a.Name).length : Nat) : Int) < 0) := by omega
    have e1 := sz_Type (a.Type_) (left - (((a.Name).length : Nat) : Int)) ok1.2.1 (by omega) (by omega)
    by_cases c1 : (((a.Type_).sz : Nat) : Int) ≤ left - (((a.Name).length : Nat) : Int)
    · rw [if_pos c1] at e1
      have n1 : ¬ (left - (((a.Name).length : Nat) : Int) - (((a.Type_).sz : Nat) : Int) < 0) := by omega
      have q : (a.sz : Int) ≤ left := by rw [hs] <;> push_cast <;> omega
      have q2 : left - (a.sz : Int) = left - (((a.Name).length : Nat) : Int) - (((a.Type_).sz : Nat) : Int) := by rw [hs] <;> push_cast <;> omega
      rw [if_pos q, q2]; simp [e0, n0, e1, n1]
    · rw [if_neg c1] at e1
      have q : ¬ ((a.sz : Int) ≤ left) := by rw [hs] <;> push_cast <;> omega
      rw [if_neg q]; simp [e0, n0, e1]
  · have n0 : left - (((a.Name).length : Nat) : Int) < 0 := by omega
    have q : ¬ ((a.sz : Int) ≤ left) := by rw [hs] <;> push_cast <;> omega
    rw [if_neg q]; simp [e0, n0]
theorem to_Param (a : SParam) (h : a.sz ≤ 1048576) : M.l_toParam a = some a := by
  unfold M.l_toParam
  have hs := SParam.sz_eq a
  try simp only [SType.re_eq, SParam.re_eq, SFuncType.re_eq, SFunc.re_eq]
  have e1 := to_Type (a.Type_) (by omega)
  try simp [e1]
theorem eq_Param (a : SParam) (h : a.sz ≤ 1048576) : M.l_eqParam a a = some true := by
  unfold M.l_eqParam
  have hs := SParam.sz_eq a
  try simp only [SType.re_eq, SParam.re_eq, SFuncType.re_eq, SFunc.re_eq]
  have e1 := eq_Type (a.Type_) (by omega)
  try simp [e1]
theorem szS_Param (a : List SParam) (left : Int) (ok : LOk SParam.Ok a) (h0 : 0 ≤ left) (h1 : left ≤ 1048576) : M.l_szParamS a left = some (if (szL SParam.sz a : Int) ≤ left then left - szL SParam.sz a else -1) := by
  have hl := ok.1
  unfold M.l_szParamS
  rw [wrap_i64 (by omega) (by omega)]
  refine szS_of (f := SParam.sz) (F := M.l_szParamS_l0  a) a left h0 h1 (fun g k l h2 h3 hk => ?_) (fun g l => ?_)
  · have hn : k < 2 ^ 62 := by omega
    rw [M.l_szParamS_l0]
    have e := sz_Param a[k] l (ok.2 _ (List.getElem_mem hk)) h2 (by omega)
    by_cases d : ((SParam.sz a[k] : Nat) : Int) ≤ l
    · have n : ¬ (l - ((SParam.sz a[k] : Nat) : Int) < 0) := by omega
      rw [if_pos d] at e ⊢; simp [hk, getD_lt hk, e, n, wrapk hk (show a.length < 2 ^ 62 by omega), SType.re_eq, SParam.re_eq, SFuncType.re_eq, SFunc.re_eq]
    · rw [if_neg d] at e ⊢; simp [hk, getD_lt hk, e, SType.re_eq, SParam.re_eq, SFuncType.re_eq, SFunc.re_eq]
  · rw [M.l_szParamS_l0]; simp
theorem toS_Param (a : List SParam) (ha : szL SParam.sz a ≤ 1048576) : M.l_toParamS a = some a := by
  have hl := szL_len SParam.sz a
  have hn : a.length ≤ 1048576 := by omega
  have hi : (a.length : Int) ≤ 1073741824 := by omega
  have q : ∀ z, z.length = a.length → M.l_toParamS_l0  a Go.V.bigN 0 z = some a := copy_loop (F := M.l_toParamS_l0  a) a (by omega) (fun f k out h1 h2 hk => by
    rw [M.l_toParamS_l0]
    have e := to_Param a[k] (by have := szL_mem SParam.sz a a[k] (List.getElem_mem hk); omega)
    simp [hk, h2, getD_lt hk, e, wrapk hk (big_of hn), SType.re_eq, SParam.re_eq, SFuncType.re_eq, SFunc.re_eq]) (fun f out => by rw [M.l_toParamS_l0]; simp)
  unfold M.l_toParamS
  rw [q _ (by simp)]
  simp [hi]
theorem eqS_Param (a : List SParam) (ha : szL SParam.sz a ≤ 1048576) : M.l_eqParamS a a = some true := by
  have hl := szL_len SParam.sz a
  have hn : a.length ≤ 1048576 := by omega
  unfold M.l_eqParamS
  refine eq_all (F := M.l_eqParamS_l0  a a) a hn (fun f k hk => ?_) (fun f => ?_)
  · rw [M.l_eqParamS_l0]
    have e := eq_Param a[k] (by have := szL_mem SParam.sz a a[k] (List.getElem_mem hk); omega)
    simp [hk, getD_lt hk, e, wrapk hk (big_of hn), SType.re_eq, SParam.re_eq, SFuncType.re_eq, SFunc.re_eq]
  · rw [M.l_eqParamS_l0]; simp
theorem sz_FuncType (a : SFuncType) (left : Int) (ok : a.Ok) (h0 : 0 ≤ left) (h1 : left ≤ 1048576) : M.l_szFuncType a left = some (if (a.sz : Int) ≤ left then left - a.sz else -1) := by
  unfold M.l_szFuncType
  have hs := SFuncType.sz_eq a
  have ok1 := (SFuncType.ok_eq a).1 ok
  try simp only [SType.re_eq, SParam.re_eq, SFuncType.re_eq, SFunc.re_eq]
  have e0 := szS_Param (a.Params) (left) ok1.1 (by omega) (by omega)
  by_cases c0 : ((szL SParam.sz (a.Params) : Nat) : Int) ≤ left
  · rw [if_pos c0] at e0
    have n0 : ¬ (left - ((szL SParam.sz (a.Params) : Nat) : Int) < 0) := by omega
    have e1 := sz_Type (a.Result) (left - ((szL SParam.sz (a.Params) : Nat) : Int)) ok1.2.1 (by omega) (by omega)
    by_cases c1 : (((a.Result).sz : Nat) : Int) ≤ left - ((szL SParam.sz (a.Params) : Nat) : Int)
    · rw [if_pos c1] at e1
      have n1 : ¬ (left - ((szL SParam.sz (a.Params) : Nat) : Int) - (((a.Result).sz : Nat) : Int) < 0) := by omega
      have q : (a.sz : Int) ≤ left := by rw [hs] <;> push_cast <;> omega
      have q2 : left - (a.sz : Int) = left - ((szL SParam.sz (a.Params) : Nat) : Int) - (((a.Result).sz : Nat) : Int) := by rw [hs] <;> push_cast <;> omega
      rw [if_pos q, q2]; simp [e0, n0, e1, n1]
    · rw [if_neg c1] at e1
      have q : ¬ ((a.sz : Int) ≤ left) := by rw [hs] <;> push_cast <;> omega
      rw [if_neg q]; simp [e0, n0, e1]
  · rw [if_neg c0] at e0
    have q : ¬ ((a.sz : Int) ≤ left) := by rw [hs] <;> push_cast <;> omega
    rw [if_neg q]; simp [e0]
theorem to_FuncType (a : SFuncType) (h : a.sz ≤ 1048576) : M.l_toFuncType a = some a := by
  unfold M.l_toFuncType
  have hs := SFuncType.sz_eq a
  try simp only [SType.re_eq, SParam.re_eq, SFuncType.re_eq, SFunc.re_eq]
  have e0 := toS_Param (a.Params) (by omega)
  have e1 := to_Type (a.Result) (by omega)
  try simp [e0, e1]
theorem eq_FuncType (a : SFuncType) (h : a.sz ≤ 1048576) : M.l_eqFuncType a a = some true := by
  unfold M.l_eqFuncType
  have hs := SFuncType.sz_eq a
  try simp only [SType.re_eq, SParam.re_eq, SFuncType.re_eq, SFunc.re_eq]
  have e0 := eqS_Param (a.Params) (by omega)
  have e1 := eq_Type (a.Result) (by omega)
  try simp [e0, e1]
theorem sz_Func (a : SFunc) (left : Int) (ok : a.Ok) (h0 : 0 ≤ left) (h1 : left ≤ 1048576) : M.l_szFunc a left = some (if (a.sz : Int) ≤ left then left - a.sz else -1) := by
  unfold M.l_szFunc
  have hs := SFunc.sz_eq a
  have ok1 := (SFunc.ok_eq a).1 ok
  try simp only [SType.re_eq, SParam.re_eq, SFuncType.re_eq, SFunc.re_eq]
  have e0 : Go.IntKind.wrap .i64 (left - ((a.Name).length : Int)) = left - ((a.Name).length : Int) := wrap_i64 (by have := ok1.1; unfold StrOk at this; omega) (by omega)
  by_cases c0 : (((a.Name).length : Nat) : Int) ≤ left
  · skip
    have n0 : ¬ (left - (((a.Name).length : Nat) : Int) < 0) := by omega
    have e1 := sz_FuncType (a.Type_) (left - (((a.Name).length : Nat) : Int)) ok1.2.1 (by omega) (by omega)
    by_cases c1 : (((a.Type_).sz : Nat) : Int) ≤ left - (((a.Name).length : Nat) : Int)
    · rw [if_pos c1] at e1
      have n1 : ¬ (left - (((a.Name).length : Nat) : Int) - (((a.Type_).sz : Nat) : Int) < 0) := by omega
      have q : (a.sz : Int) ≤ left := by rw [hs] <;> push_cast <;> omega
      have q2 : left - (a.sz : Int) = left - (((a.Name).length : Nat) : Int) - (((a.Type_).sz : Nat) : Int) := by rw [hs] <;> push_cast <;> omega
      rw [if_pos q, q2]; simp [e0, n0, e1, n1]
    · rw [if_neg c1] at e1
      have q : ¬ ((a.sz : Int) ≤ left) := by rw [hs] <;> push_cast <;> omega
      rw [if_neg q]; simp [e0, n0, e1]
  · have n0 : left - (((a.Name).length : Nat) : Int) < 0 := by omega
    have q : ¬ ((a.sz : Int) ≤ left) := by rw [hs] <;> push_cast <;> omega
    rw [if_neg q]; simp [e0, n0]
theorem to_Func (a : SFunc) (h : a.sz ≤ 1048576) : M.l_toFunc a = some a := by
  unfold M.l_toFunc
  have hs := SFunc.sz_eq a
  try simp only [SType.re_eq, SParam.re_eq, SFuncType.re_eq, SFunc.re_eq]
  have e1 := to_FuncType (a.Type_) (by omega)
  try simp [e1]
theorem eq_Func (a : SFunc) (h : a.sz ≤ 1048576) : M.l_eqFunc a a = some true := by
  unfold M.l_eqFunc
  have hs := SFunc.sz_eq a
  try simp only [SType.re_eq, SParam.re_eq, SFuncType.re_eq, SFunc.re_eq]
  have e1 := eq_FuncType (a.Type_) (by omega)
  try simp [e1]
theorem szS_Func (a : List SFunc) (left : Int) (ok : LOk SFunc.Ok a) (h0 : 0 ≤ left) (h1 : left ≤ 1048576) : M.l_szFuncS a left = some (if (szL SFunc.sz a : Int) ≤ left then left - szL SFunc.sz a else -1) := by
  have hl := ok.1
  unfold M.l_szFuncS
  rw [wrap_i64 (by omega) (by omega)]
  refine szS_of (f := SFunc.sz) (F := M.l_szFuncS_l0  a) a left h0 h1 (fun g k l h2 h3 hk => ?_) (fun g l => ?_)
  · have hn : k < 2 ^ 62 := by omega
    rw [M.l_szFuncS_l0]
    have e := sz_Func a[k] l (ok.2 _ (List.getElem_mem hk)) h2 (by omega)
    by_cases d : ((SFunc.sz a[k] : Nat) : Int) ≤ l
    · have n : ¬ (l - ((SFunc.sz a[k] : Nat) : Int) < 0) := by omega
      rw [if_pos d] at e ⊢; simp [hk, getD_lt hk, e, n, wrapk hk (show a.length < 2 ^ 62 by omega), SType.re_eq, SParam.re_eq, SFuncType.re_eq, SFunc.re_eq]
    · rw [if_neg d] at e ⊢; simp [hk, getD_lt hk, e, SType.re_eq, SParam.re_eq, SFuncType.re_eq, SFunc.re_eq]
  · rw [M.l_szFuncS_l0]; simp
theorem toS_Func (a : List SFunc) (ha : szL SFunc.sz a ≤ 1048576) : M.l_toFuncS a = some a := by
  have hl := szL_len SFunc.sz a
  have hn : a.length ≤ 1048576 := by omega
  have hi : (a.length : Int) ≤ 1073741824 := by omega
  have q : ∀ z, z.length = a.length → M.l_toFuncS_l0  a Go.V.bigN 0 z = some a := copy_loop (F := M.l_toFuncS_l0  a) a (by omega) (fun f k out h1 h2 hk => by
    rw [M.l_toFuncS_l0]
    have e := to_Func a[k] (by have := szL_mem SFunc.sz a a[k] (List.getElem_mem hk); omega)
    simp [hk, h2, getD_lt hk, e, wrapk hk (big_of hn), SType.re_eq, SParam.re_eq, SFuncType.re_eq, SFunc.re_eq]) (fun f out => by rw [M.l_toFuncS_l0]; simp)
  unfold M.l_toFuncS
  rw [q _ (by simp)]
  simp [hi]
theorem eqS_Func (a : List SFunc) (ha : szL SFunc.sz a ≤ 1048576) : M.l_eqFuncS a a = some true := by
  have hl := szL_len SFunc.sz a
  have hn : a.length ≤ 1048576 := by omega
  unfold M.l_eqFuncS
  refine eq_all (F := M.l_eqFuncS_l0  a a) a hn (fun f k hk => ?_) (fun f => ?_)
  · rw [M.l_eqFuncS_l0]
    have e := eq_Func a[k] (by have := szL_mem SFunc.sz a a[k] (List.getElem_mem hk); omega)
    simp [hk, getD_lt hk, e, wrapk hk (big_of hn), SType.re_eq, SParam.re_eq, SFuncType.re_eq, SFunc.re_eq]
  · rw [M.l_eqFuncS_l0]; simp
theorem sz_Face (a : SFace) (left : Int) (ok : a.Ok) (h0 : 0 ≤ left) (h1 : left ≤ 1048576) : M.l_szFace a left = some (if (a.sz : Int) ≤ left then left - a.sz else -1) := by
  unfold M.l_szFace
  have hs := SFace.sz_eq a
  have ok1 := (SFace.ok_eq a).1 ok
  try simp only [SType.re_eq, SParam.re_eq, SFuncType.re_eq, SFunc.re_eq]
  have e0 : Go.IntKind.wrap .i64 (left - ((a.Package).length : Int)) = left - ((a.Package).length : Int) := wrap_i64 (by have := ok1.1; unfold StrOk at this; omega) (by omega)
  by_cases c0 : (((a.Package).length : Nat) : Int) ≤ left
  · skip
    have n0 : ¬ (left - (((a.Package).length : Nat) : Int) < 0) := by omega
    have e1 : Go.IntKind.wrap .i64 (left - (((a.Package).length : Nat) : Int) - ((a.Name).length : Int)) = left - (((a.Package).length : Nat) : Int) - ((a.Name).length : Int) := wrap_i64 (by have := ok1.2.1; unfold StrOk at this; omega) (by omega)
    by_cases c1 : (((a.Name).length : Nat) : Int) ≤ left - (((a.Package).length : Nat) : Int)
    · skip
      have n1 : ¬ (left - (((a.Package).length : Nat) : Int) - (((a.Name).length : Nat) : Int) < 0) := by omega
      have e2 : Go.IntKind.wrap .i64 (left - (((a.Package).length : Nat) : Int) - (((a.Name).length : Nat) : Int) - ((a.Version).length : Int)) = left - (((a.Package).length : Nat) : Int) - (((a.Name).length : Nat) : Int) - ((a.Version).length : Int) := wrap_i64 (by have := ok1.2.2.1; unfold StrOk at this; omega) (by omega)
      by_cases c2 : (((a.Version).length : Nat) : Int) ≤ left - (((a.Package).length : Nat) : Int) - (((a.Name).length : Nat) : Int)
      · skip
        have n2 : ¬ (left - (((a.Package).length : Nat) : Int) - (((a.Name).length : Nat) : Int) - (((a.Version).length : Nat) : Int) < 0) := by omega
        have e3 := szS_String (a.Resources) (left - (((a.Package).length : Nat) : Int) - (((a.Name).length : Nat) : Int) - (((a.Version).length : Nat) : Int)) ok1.2.2.2.1 (by omega) (by omega)
        by_cases c3 : ((szL List.length (a.Resources) : Nat) : Int) ≤ left - (((a.Package).length : Nat) : Int) - (((a.Name).length : Nat) : Int) - (((a.Version).length : Nat) : Int)
        · rw [if_pos c3] at e3
          have n3 : ¬ (left - (((a.Package).length : Nat) : Int) - (((a.Name).length : Nat) : Int) - (((a.Version).length : Nat) : Int) - ((szL List.length (a.Resources) : Nat) : Int) < 0) := by omega
          have e4 := szS_Func (a.Funcs) (left - (((a.Package).length : Nat) : Int) - (((a.Name).length : Nat) : Int) - (((a.Version).length : Nat) : Int) - ((szL List.length (a.Resources) : Nat) : Int)) ok1.2.2.2.2.1 (by omega) (by omega)
          by_cases c4 : ((szL SFunc.sz (a.Funcs) : Nat) : Int) ≤ left - (((a.Package).length : Nat) : Int) - (((a.Name).length : Nat) : Int) - (((a.Version).length : Nat) : Int) - ((szL List.length (a.Resources) : Nat) : Int)
          · rw [if_pos c4] at e4
            have n4 : ¬ (left - (((a.Package).length : Nat) : Int) - (((a.Name).length : Nat) : Int) - (((a.Version).length : Nat) : Int) - ((szL List.length (a.Resources) : Nat) : Int) - ((szL SFunc.sz (a.Funcs) : Nat) : Int) < 0) := by omega
            have q : (a.sz : Int) ≤ left := by rw [hs] <;> push_cast <;> omega
            have q2 : left - (a.sz : Int) = left - (((a.Package).length : Nat) : Int) - (((a.Name).length : Nat) : Int) - (((a.Version).length : Nat) : Int) - ((szL List.length (a.Resources) : Nat) : Int) - ((szL SFunc.sz (a.Funcs) : Nat) : Int) := by rw [hs] <;> push_cast <;> omega
            rw [if_pos q, q2]; simp [e0, n0, e1, n1, e2, n2, e3, n3, e4, n4]
          · rw [if_neg c4] at e4
            have q : ¬ ((a.sz : Int) ≤ left) := by rw [hs] <;> push_cast <;> omega
            rw [if_neg q]; simp [e0, n0, e1, n1, e2, n2, e3, n3, e4]
        · rw [if_neg c3] at e3
          have q : ¬ ((a.sz : Int) ≤ left) := by rw [hs] <;> push_cast <;> omega
          rw [if_neg q]; simp [e0, n0, e1, n1, e2, n2, e3]
      · have n2 : left - (((a.Package).length : Nat) : Int) - (((a.Name).length : Nat) : Int) - (((a.Version).length : Nat) : Int) < 0 := by omega
        have q : ¬ ((a.sz : Int) ≤ left) := by rw [hs] <;> push_cast <;> omega
        rw [if_neg q]; simp [e0, n0, e1, n1, e2, n2]
    · have n1 : left - (((a.Package).length : Nat) : Int) - (((a.Name).length : Nat) : Int) < 0 := by omega
      have q : ¬ ((a.sz : Int) ≤ left) := by rw [hs] <;> push_cast <;> omega
      rw [if_neg q]; simp [e0, n0, e1, n1]
  · have n0 : left - (((a.Package).length : Nat) : Int) < 0 := by omega
    have q : ¬ ((a.sz : Int) ≤ left) := by rw [hs] <;> push_cast <;> omega
    rw [if_neg q]; simp [e0, n0]
theorem to_Face (a : SFace) (h : a.sz ≤ 1048576) : M.l_toFace a = some a := by
  unfold M.l_toFace
  have hs := SFace.sz_eq a
  try simp only [SType.re_eq, SParam.re_eq, SFuncType.re_eq, SFunc.re_eq]
  have e3 := toS_String (a.Resources) (by omega)
  have e4 := toS_Func (a.Funcs) (by omega)
  try simp [e3, e4]
theorem eq_Face (a : SFace) (h : a.sz ≤ 1048576) : M.l_eqFace a a = some true := by
  unfold M.l_eqFace
  have hs := SFace.sz_eq a
  try simp only [SType.re_eq, SParam.re_eq, SFuncType.re_eq, SFunc.re_eq]
  have e3 := eqS_String (a.Resources) (by omega)
  have e4 := eqS_Func (a.Funcs) (by omega)
  try simp [e3, e4]
theorem szS_Face (a : List SFace) (left : Int) (ok : LOk SFace.Ok a) (h0 : 0 ≤ left) (h1 : left ≤ 1048576) : M.l_szFaceS a left = some (if (szL SFace.sz a : Int) ≤ left then left - szL SFace.sz a else -1) := by
  have hl := ok.1
  unfold M.l_szFaceS
  rw [wrap_i64 (by omega) (by omega)]
  refine szS_of (f := SFace.sz) (F := M.l_szFaceS_l0  a) a left h0 h1 (fun g k l h2 h3 hk => ?_) (fun g l => ?_)
  · have hn : k < 2 ^ 62 := by omega
    rw [M.l_szFaceS_l0]
    have e := sz_Face a[k] l (ok.2 _ (List.getElem_mem hk)) h2 (by omega)
    by_cases d : ((SFace.sz a[k] : Nat) : Int) ≤ l
    · have n : ¬ (l - ((SFace.sz a[k] : Nat) : Int) < 0) := by omega
      rw [if_pos d] at e ⊢; simp [hk, getD_lt hk, e, n, wrapk hk (show a.length < 2 ^ 62 by omega), SType.re_eq, SParam.re_eq, SFuncType.re_eq, SFunc.re_eq]
    · rw [if_neg d] at e ⊢; simp [hk, getD_lt hk, e, SType.re_eq, SParam.re_eq, SFuncType.re_eq, SFunc.re_eq]
  · rw [M.l_szFaceS_l0]; simp
theorem toS_Face (a : List SFace) (ha : szL SFace.sz a ≤ 1048576) : M.l_toFaceS a = some a := by
  have hl := szL_len SFace.sz a
  have hn : a.length ≤ 1048576 := by omega
  have hi : (a.length : Int) ≤ 1073741824 := by omega
  have q : ∀ z, z.length = a.length → M.l_toFaceS_l0  a Go.V.bigN 0 z = some a := copy_loop (F := M.l_toFaceS_l0  a) a (by omega) (fun f k out h1 h2 hk => by
    rw [M.l_toFaceS_l0]
    have e := to_Face a[k] (by have := szL_mem SFace.sz a a[k] (List.getElem_mem hk); omega)
    simp [hk, h2, getD_lt hk, e, wrapk hk (big_of hn), SType.re_eq, SParam.re_eq, SFuncType.re_eq, SFunc.re_eq]) (fun f out => by rw [M.l_toFaceS_l0]; simp)
  unfold M.l_toFaceS
  rw [q _ (by simp)]
  simp [hi]
theorem eqS_Face (a : List SFace) (ha : szL SFace.sz a ≤ 1048576) : M.l_eqFaceS a a = some true := by
  have hl := szL_len SFace.sz a
  have hn : a.length ≤ 1048576 := by omega
  unfold M.l_eqFaceS
  refine eq_all (F := M.l_eqFaceS_l0  a a) a hn (fun f k hk => ?_) (fun f => ?_)
  · rw [M.l_eqFaceS_l0]
    have e := eq_Face a[k] (by have := szL_mem SFace.sz a a[k] (List.getElem_mem hk); omega)
    simp [hk, getD_lt hk, e, wrapk hk (big_of hn), SType.re_eq, SParam.re_eq, SFuncType.re_eq, SFunc.re_eq]
  · rw [M.l_eqFaceS_l0]; simp
theorem sz_Lift (a : SLift) (left : Int) (ok : a.Ok) (h0 : 0 ≤ left) (h1 : left ≤ 1048576) : M.l_szLift a left = some (if (a.sz : Int) ≤ left then left - a.sz else -1) := by
  unfold M.l_szLift
  have hs := SLift.sz_eq a
  have ok1 := (SLift.ok_eq a).1 ok
  try simp only [SType.re_eq, SParam.re_eq, SFuncType.re_eq, SFunc.re_eq]
  have e0 : Go.IntKind.wrap .i64 (left - ((a.Face).length : Int)) = left - ((a.Face).length : Int) := wrap_i64 (by have := ok1.1; unfold StrOk at this; omega) (by omega)
  by_cases c0 : (((a.Face).length : Nat) : Int) ≤ left
  · skip
    have n0 : ¬ (left - (((a.Face).length : Nat) : Int) < 0) := by omega
    have e1 : Go.IntKind.wrap .i64 (left - (((a.Face).length : Nat) : Int) - ((a.Func).length : Int)) = left - (((a.Face).length : Nat) : Int) - ((a.Func).length : Int) := wrap_i64 (by have := ok1.2.1; unfold StrOk at this; omega) (by omega)
    by_cases c1 : (((a.Func).length : Nat) : Int) ≤ left - (((a.Face).length : Nat) : Int)
    · skip
      have n1 : ¬ (left - (((a.Face).length : Nat) : Int) - (((a.Func).length : Nat) : Int) < 0) := by omega
      have e2 : Go.IntKind.wrap .i64 (left - (((a.Face).length : Nat) : Int) - (((a.Func).length : Nat) : Int) - ((a.Core).length : Int)) = left - (((a.Face).length : Nat) : Int) - (((a.Func).length : Nat) : Int) - ((a.Core).length : Int) := wrap_i64 (by have := ok1.2.2.1; unfold StrOk at this; omega) (by omega)
      by_cases c2 : (((a.Core).length : Nat) : Int) ≤ left - (((a.Face).length : Nat) : Int) - (((a.Func).length : Nat) : Int)
      · skip
        have n2 : ¬ (left - (((a.Face).length : Nat) : Int) - (((a.Func).length : Nat) : Int) - (((a.Core).length : Nat) : Int) < 0) := by omega
        have q : (a.sz : Int) ≤ left := by rw [hs] <;> push_cast <;> omega
        have q2 : left - (a.sz : Int) = left - (((a.Face).length : Nat) : Int) - (((a.Func).length : Nat) : Int) - (((a.Core).length : Nat) : Int) := by rw [hs] <;> push_cast <;> omega
        rw [if_pos q, q2]; simp [e0, n0, e1, n1, e2, n2]
      · have n2 : left - (((a.Face).length : Nat) : Int) - (((a.Func).length : Nat) : Int) - (((a.Core).length : Nat) : Int) < 0 := by omega
        have q : ¬ ((a.sz : Int) ≤ left) := by rw [hs] <;> push_cast <;> omega
        rw [if_neg q]; simp [e0, n0, e1, n1, e2, n2]
    · have n1 : left - (((a.Face).length : Nat) : Int) - (((a.Func).length : Nat) : Int) < 0 := by omega
      have q : ¬ ((a.sz : Int) ≤ left) := by rw [hs] <;> push_cast <;> omega
      rw [if_neg q]; simp [e0, n0, e1, n1]
  · have n0 : left - (((a.Face).length : Nat) : Int) < 0 := by omega
    have q : ¬ ((a.sz : Int) ≤ left) := by rw [hs] <;> push_cast <;> omega
    rw [if_neg q]; simp [e0, n0]
theorem to_Lift (a : SLift) (h : a.sz ≤ 1048576) : M.l_toLift a = some a := by
  unfold M.l_toLift
  have hs := SLift.sz_eq a
  try simp only [SType.re_eq, SParam.re_eq, SFuncType.re_eq, SFunc.re_eq]
  try simp []
theorem eq_Lift (a : SLift) (h : a.sz ≤ 1048576) : M.l_eqLift a a = some true := by
  unfold M.l_eqLift
  have hs := SLift.sz_eq a
  try simp only [SType.re_eq, SParam.re_eq, SFuncType.re_eq, SFunc.re_eq]
  try simp []
theorem szS_Lift (a : List SLift) (left : Int) (ok : LOk SLift.Ok a) (h0 : 0 ≤ left) (h1 : left ≤ 1048576) : M.l_szLiftS a left = some (if (szL SLift.sz a : Int) ≤ left then left - szL SLift.sz a else -1) := by
  have hl := ok.1
  unfold M.l_szLiftS
  rw [wrap_i64 (by omega) (by omega)]
  refine szS_of (f := SLift.sz) (F := M.l_szLiftS_l0  a) a left h0 h1 (fun g k l h2 h3 hk => ?_) (fun g l => ?_)
  · have hn : k < 2 ^ 62 := by omega
    rw [M.l_szLiftS_l0]
    have e := sz_Lift a[k] l (ok.2 _ (List.getElem_mem hk)) h2 (by omega)
    by_cases d : ((SLift.sz a[k] : Nat) : Int) ≤ l
    · have n : ¬ (l - ((SLift.sz a[k] : Nat) : Int) < 0) := by omega
      rw [if_pos d] at e ⊢; simp [hk, getD_lt hk, e, n, wrapk hk (show a.length < 2 ^ 62 by omega), SType.re_eq, SParam.re_eq, SFuncType.re_eq, SFunc.re_eq]
    · rw [if_neg d] at e ⊢; simp [hk, getD_lt hk, e, SType.re_eq, SParam.re_eq, SFuncType.re_eq, SFunc.re_eq]
  · rw [M.l_szLiftS_l0]; simp
theorem toS_Lift (a : List SLift) (ha : szL SLift.sz a ≤ 1048576) : M.l_toLiftS a = some a := by
  have hl := szL_len SLift.sz a
  have hn : a.length ≤ 1048576 := by omega
  have hi : (a.length : Int) ≤ 1073741824 := by omega
  have q : ∀ z, z.length = a.length → M.l_toLiftS_l0  a Go.V.bigN 0 z = some a := copy_loop (F := M.l_toLiftS_l0  a) a (by omega) (fun f k out h1 h2 hk => by
    rw [M.l_toLiftS_l0]
    have e := to_Lift a[k] (by have := szL_mem SLift.sz a a[k] (List.getElem_mem hk); omega)
    simp [hk, h2, getD_lt hk, e, wrapk hk (big_of hn), SType.re_eq, SParam.re_eq, SFuncType.re_eq, SFunc.re_eq]) (fun f out => by rw [M.l_toLiftS_l0]; simp)
  unfold M.l_toLiftS
  rw [q _ (by simp)]
  simp [hi]
theorem eqS_Lift (a : List SLift) (ha : szL SLift.sz a ≤ 1048576) : M.l_eqLiftS a a = some true := by
  have hl := szL_len SLift.sz a
  have hn : a.length ≤ 1048576 := by omega
  unfold M.l_eqLiftS
  refine eq_all (F := M.l_eqLiftS_l0  a a) a hn (fun f k hk => ?_) (fun f => ?_)
  · rw [M.l_eqLiftS_l0]
    have e := eq_Lift a[k] (by have := szL_mem SLift.sz a a[k] (List.getElem_mem hk); omega)
    simp [hk, getD_lt hk, e, wrapk hk (big_of hn), SType.re_eq, SParam.re_eq, SFuncType.re_eq, SFunc.re_eq]
  · rw [M.l_eqLiftS_l0]; simp
theorem sz_Lower (a : SLower) (left : Int) (ok : a.Ok) (h0 : 0 ≤ left) (h1 : left ≤ 1048576) : M.l_szLower a left = some (if (a.sz : Int) ≤ left then left - a.sz else -1) := by
  unfold M.l_szLower
  have hs := SLower.sz_eq a
  have ok1 := (SLower.ok_eq a).1 ok
  try simp only [SType.re_eq, SParam.re_eq, SFuncType.re_eq, SFunc.re_eq]
  have e0 : Go.IntKind.wrap .i64 (left - ((a.Face).length : Int)) = left - ((a.Face).length : Int) := wrap_i64 (by have := ok1.1; unfold StrOk at this; omega) (by omega)
  by_cases c0 : (((a.Face).length : Nat) : Int) ≤ left
  · skip
    have n0 : ¬ (left - (((a.Face).length : Nat) : Int) < 0) := by omega
    have e1 : Go.IntKind.wrap .i64 (left - (((a.Face).length : Nat) : Int) - ((a.Func).length : Int)) = left - (((a.Face).length : Nat) : Int) - ((a.Func).length : Int) := wrap_i64 (by have := ok1.2.1; unfold StrOk at this; omega) (by omega)
    by_cases c1 : (((a.Func).length : Nat) : Int) ≤ left - (((a.Face).length : Nat) : Int)
    · skip
      have n1 : ¬ (left - (((a.Face).length : Nat) : Int) - (((a.Func).length : Nat) : Int) < 0) := by omega
      have e2 : Go.IntKind.wrap .i64 (left - (((a.Face).length : Nat) : Int) - (((a.Func).length : Nat) : Int) - ((a.Import).length : Int)) = left - (((a.Face).length : Nat) : Int) - (((a.Func).length : Nat) : Int) - ((a.Import).length : Int) := wrap_i64 (by have := ok1.2.2.1; unfold StrOk at this; omega) (by omega)
      by_cases c2 : (((a.Import).length : Nat) : Int) ≤ left - (((a.Face).length : Nat) : Int) - (((a.Func).length : Nat) : Int)
      · skip
        have n2 : ¬ (left - (((a.Face).length : Nat) : Int) - (((a.Func).length : Nat) : Int) - (((a.Import).length : Nat) : Int) < 0) := by omega
        have q : (a.sz : Int) ≤ left := by rw [hs] <;> push_cast <;> omega
        have q2 : left - (a.sz : Int) = left - (((a.Face).length : Nat) : Int) - (((a.Func).length : Nat) : Int) - (((a.Import).length : Nat) : Int) := by rw [hs] <;> push_cast <;> omega
        rw [if_pos q, q2]; simp [e0, n0, e1, n1, e2, n2]
      · have n2 : left - (((a.Face).length : Nat) : Int) - (((a.Func).length : Nat) : Int) - (((a.Import).length : Nat) : Int) < 0 := by omega
        have q : ¬ ((a.sz : Int) ≤ left) := by rw [hs] <;> push_cast <;> omega
        rw [if_neg q]; simp [e0, n0, e1, n1, e2, n2]
    · have n1 : left - (((a.Face).length : Nat) : Int) - (((a.Func).length : Nat) : Int) < 0 := by omega
      have q : ¬ ((a.sz : Int) ≤ left) := by rw [hs] <;> push_cast <;> omega
      rw [if_neg q]; simp [e0, n0, e1, n1]
  · have n0 : left - (((a.Face).length : Nat) : Int) < 0 := by omega
    have q : ¬ ((a.sz : Int) ≤ left) := by rw [hs] <;> push_cast <;> omega
    rw [if_neg q]; simp [e0, n0]
theorem to_Lower (a : SLower) (h : a.sz ≤ 1048576) : M.l_toLower a = some a := by
  unfold M.l_toLower
  have hs := SLower.sz_eq a
  try simp only [SType.re_eq, SParam.re_eq, SFuncType.re_eq, SFunc.re_eq]
  try simp []
theorem eq_Lower (a : SLower) (h : a.sz ≤ 1048576) : M.l_eqLower a a = some true := by
  unfold M.l_eqLower
  have hs := SLower.sz_eq a
  try simp only [SType.re_eq, SParam.re_eq, SFuncType.re_eq, SFunc.re_eq]
  try simp []
theorem szS_Lower (a : List SLower) (left : Int) (ok : LOk SLower.Ok a) (h0 : 0 ≤ left) (h1 : left ≤ 1048576) : M.l_szLowerS a left = some (if (szL SLower.sz a : Int) ≤ left then left - szL SLower.sz a else -1) := by
  have hl := ok.1
  unfold M.l_szLowerS
  rw [wrap_i64 (by omega) (by omega)]
  refine szS_of (f := SLower.sz) (F := M.l_szLowerS_l0  a) a left h0 h1 (fun g k l h2 h3 hk => ?_) (fun g l => ?_)
  · have hn : k < 2 ^ 62 := by omega
    rw [M.l_szLowerS_l0]
    have e := sz_Lower a[k] l (ok.2 _ (List.getElem_mem hk)) h2 (by omega)
    by_cases d : ((SLower.sz a[k] : Nat) : Int) ≤ l
    · have n : ¬ (l - ((SLower.sz a[k] : Nat) : Int) < 0) := by omega
      rw [if_pos d] at e ⊢; simp [hk, getD_lt hk, e, n, wrapk hk (show a.length < 2 ^ 62 by omega), SType.re_eq, SParam.re_eq, SFuncType.re_eq, SFunc.re_eq]
    · rw [if_neg d] at e ⊢; simp [hk, getD_lt hk, e, SType.re_eq, SParam.re_eq, SFuncType.re_eq, SFunc.re_eq]
  · rw [M.l_szLowerS_l0]; simp
theorem toS_Lower (a : List SLower) (ha : szL SLower.sz a ≤ 1048576) : M.l_toLowerS a = some a := by
  have hl := szL_len SLower.sz a
  have hn : a.length ≤ 1048576 := by omega
  have hi : (a.length : Int) ≤ 1073741824 := by omega
  have q : ∀ z, z.length = a.length → M.l_toLowerS_l0  a Go.V.bigN 0 z = some a := copy_loop (F := M.l_toLowerS_l0  a) a (by omega) (fun f k out h1 h2 hk => by
    rw [M.l_toLowerS_l0]
    have e := to_Lower a[k] (by have := szL_mem SLower.sz a a[k] (List.getElem_mem hk); omega)
    simp [hk, h2, getD_lt hk, e, wrapk hk (big_of hn), SType.re_eq, SParam.re_eq, SFuncType.re_eq, SFunc.re_eq]) (fun f out => by rw [M.l_toLowerS_l0]; simp)
  unfold M.l_toLowerS
  rw [q _ (by simp)]
  simp [hi]
theorem eqS_Lower (a : List SLower) (ha : szL SLower.sz a ≤ 1048576) : M.l_eqLowerS a a = some true := by
  have hl := szL_len SLower.sz a
  have hn : a.length ≤ 1048576 := by omega
  unfold M.l_eqLowerS
  refine eq_all (F := M.l_eqLowerS_l0  a a) a hn (fun f k hk => ?_) (fun f => ?_)
  · rw [M.l_eqLowerS_l0]
    have e := eq_Lower a[k] (by have := szL_mem SLower.sz a a[k] (List.getElem_mem hk); omega)
    simp [hk, getD_lt hk, e, wrapk hk (big_of hn), SType.re_eq, SParam.re_eq, SFuncType.re_eq, SFunc.re_eq]
  · rw [M.l_eqLowerS_l0]; simp
theorem to_Ins (a : SIns) (h : a.sz ≤ 1048576) : M.l_toIns a = some a := by
  unfold M.l_toIns
  have hs := SIns.sz_eq a
  try simp only [SType.re_eq, SParam.re_eq, SFuncType.re_eq, SFunc.re_eq]
  try simp []
theorem eq_Ins (a : SIns) (h : a.sz ≤ 1048576) : M.l_eqIns a a = some true := by
  unfold M.l_eqIns
  have hs := SIns.sz_eq a
  try simp only [SType.re_eq, SParam.re_eq, SFuncType.re_eq, SFunc.re_eq]
  try simp []
theorem szS_Ins (a : List SIns) (left : Int) (ok : LOk SIns.Ok a) (h0 : 0 ≤ left) (h1 : left ≤ 1048576) : M.l_szInsS a left = some (if (szL SIns.sz a : Int) ≤ left then left - szL SIns.sz a else -1) := by
  have hl := ok.1
  unfold M.l_szInsS
  rw [wrap_i64 (by omega) (by omega)]
  exact szS_of0 (f := SIns.sz) (fun _ => rfl) a left h0
theorem toS_Ins (a : List SIns) (ha : szL SIns.sz a ≤ 1048576) : M.l_toInsS a = some a := by
  have hl := szL_len SIns.sz a
  have hn : a.length ≤ 1048576 := by omega
  have hi : (a.length : Int) ≤ 1073741824 := by omega
  have q : ∀ z, z.length = a.length → M.l_toInsS_l0  a Go.V.bigN 0 z = some a := copy_loop (F := M.l_toInsS_l0  a) a (by omega) (fun f k out h1 h2 hk => by
    rw [M.l_toInsS_l0]
    have e := to_Ins a[k] (by have := szL_mem SIns.sz a a[k] (List.getElem_mem hk); omega)
    simp [hk, h2, getD_lt hk, e, wrapk hk (big_of hn), SType.re_eq, SParam.re_eq, SFuncType.re_eq, SFunc.re_eq]) (fun f out => by rw [M.l_toInsS_l0]; simp)
  unfold M.l_toInsS
  rw [q _ (by simp)]
  simp [hi]
theorem eqS_Ins (a : List SIns) (ha : szL SIns.sz a ≤ 1048576) : M.l_eqInsS a a = some true := by
  have hl := szL_len SIns.sz a
  have hn : a.length ≤ 1048576 := by omega
  unfold M.l_eqInsS
  refine eq_all (F := M.l_eqInsS_l0  a a) a hn (fun f k hk => ?_) (fun f => ?_)
  · rw [M.l_eqInsS_l0]
    have e := eq_Ins a[k] (by have := szL_mem SIns.sz a a[k] (List.getElem_mem hk); omega)
    simp [hk, getD_lt hk, e, wrapk hk (big_of hn), SType.re_eq, SParam.re_eq, SFuncType.re_eq, SFunc.re_eq]
  · rw [M.l_eqInsS_l0]; simp
theorem sz_Core (a : SCore) (left : Int) (ok : a.Ok) (h0 : 0 ≤ left) (h1 : left ≤ 1048576) : M.l_szCore a left = some (if (a.sz : Int) ≤ left then left - a.sz else -1) := by
  unfold M.l_szCore
  have hs := SCore.sz_eq a
  have ok1 := (SCore.ok_eq a).1 ok
  try simp only [SType.re_eq, SParam.re_eq, SFuncType.re_eq, SFunc.re_eq]
  have e0 : Go.IntKind.wrap .i64 (left - ((a.Name).length : Int)) = left - ((a.Name).length : Int) := wrap_i64 (by have := ok1.1; unfold StrOk at this; omega) (by omega)
  by_cases c0 : (((a.Name).length : Nat) : Int) ≤ left
  · skip
    have n0 : ¬ (left - (((a.Name).length : Nat) : Int) < 0) := by omega
    have e1 := szS_Ins (a.Code) (left - (((a.Name).length : Nat) : Int)) ok1.2.2.2.2.1 (by omega) (by omega)
    by_cases c1 : ((szL SIns.sz (a.Code) : Nat) : Int) ≤ left - (((a.Name).length : Nat) : Int)
    · rw [if_pos c1] at e1
      have n1 : ¬ (left - (((a.Name).length : Nat) : Int) - ((szL SIns.sz (a.Code) : Nat) : Int) < 0) := by omega
      have q : (a.sz : Int) ≤ left := by rw [hs] <;> push_cast <;> omega
      have q2 : left - (a.sz : Int) = left - (((a.Name).length : Nat) : Int) - ((szL SIns.sz (a.Code) : Nat) : Int) := by rw [hs] <;> push_cast <;> omega
      rw [if_pos q, q2]; simp [e0, n0, e1, n1]
    · rw [if_neg c1] at e1
      have q : ¬ ((a.sz : Int) ≤ left) := by rw [hs] <;> push_cast <;> omega
      rw [if_neg q]; simp [e0, n0, e1]
  · have n0 : left - (((a.Name).length : Nat) : Int) < 0 := by omega
    have q : ¬ ((a.sz : Int) ≤ left) := by rw [hs] <;> push_cast <;> omega
    rw [if_neg q]; simp [e0, n0]
theorem to_Core (a : SCore) (h : a.sz ≤ 1048576) : M.l_toCore a = some a := by
  unfold M.l_toCore
  have hs := SCore.sz_eq a
  try simp only [SType.re_eq, SParam.re_eq, SFuncType.re_eq, SFunc.re_eq]
  have e4 := toS_Ins (a.Code) (by omega)
  try simp [e4]
theorem eq_Core (a : SCore) (h : a.sz ≤ 1048576) : M.l_eqCore a a = some true := by
  unfold M.l_eqCore
  have hs := SCore.sz_eq a
  try simp only [SType.re_eq, SParam.re_eq, SFuncType.re_eq, SFunc.re_eq]
  have e4 := eqS_Ins (a.Code) (by omega)
  try simp [e4]
theorem szS_Core (a : List SCore) (left : Int) (ok : LOk SCore.Ok a) (h0 : 0 ≤ left) (h1 : left ≤ 1048576) : M.l_szCoreS a left = some (if (szL SCore.sz a : Int) ≤ left then left - szL SCore.sz a else -1) := by
  have hl := ok.1
  unfold M.l_szCoreS
  rw [wrap_i64 (by omega) (by omega)]
  refine szS_of (f := SCore.sz) (F := M.l_szCoreS_l0  a) a left h0 h1 (fun g k l h2 h3 hk => ?_) (fun g l => ?_)
  · have hn : k < 2 ^ 62 := by omega
    rw [M.l_szCoreS_l0]
    have e := sz_Core a[k] l (ok.2 _ (List.getElem_mem hk)) h2 (by omega)
    by_cases d : ((SCore.sz a[k] : Nat) : Int) ≤ l
    · have n : ¬ (l - ((SCore.sz a[k] : Nat) : Int) < 0) := by omega
      rw [if_pos d] at e ⊢; simp [hk, getD_lt hk, e, n, wrapk hk (show a.length < 2 ^ 62 by omega), SType.re_eq, SParam.re_eq, SFuncType.re_eq, SFunc.re_eq]
    · rw [if_neg d] at e ⊢; simp [hk, getD_lt hk, e, SType.re_eq, SParam.re_eq, SFuncType.re_eq, SFunc.re_eq]
  · rw [M.l_szCoreS_l0]; simp
theorem toS_Core (a : List SCore) (ha : szL SCore.sz a ≤ 1048576) : M.l_toCoreS a = some a := by
  have hl := szL_len SCore.sz a
  have hn : a.length ≤ 1048576 := by omega
  have hi : (a.length : Int) ≤ 1073741824 := by omega
  have q : ∀ z, z.length = a.length → M.l_toCoreS_l0  a Go.V.bigN 0 z = some a := copy_loop (F := M.l_toCoreS_l0  a) a (by omega) (fun f k out h1 h2 hk => by
    rw [M.l_toCoreS_l0]
    have e := to_Core a[k] (by have := szL_mem SCore.sz a a[k] (List.getElem_mem hk); omega)
    simp [hk, h2, getD_lt hk, e, wrapk hk (big_of hn), SType.re_eq, SParam.re_eq, SFuncType.re_eq, SFunc.re_eq]) (fun f out => by rw [M.l_toCoreS_l0]; simp)
  unfold M.l_toCoreS
  rw [q _ (by simp)]
  simp [hi]
theorem eqS_Core (a : List SCore) (ha : szL SCore.sz a ≤ 1048576) : M.l_eqCoreS a a = some true := by
  have hl := szL_len SCore.sz a
  have hn : a.length ≤ 1048576 := by omega
  unfold M.l_eqCoreS
  refine eq_all (F := M.l_eqCoreS_l0  a a) a hn (fun f k hk => ?_) (fun f => ?_)
  · rw [M.l_eqCoreS_l0]
    have e := eq_Core a[k] (by have := szL_mem SCore.sz a a[k] (List.getElem_mem hk); omega)
    simp [hk, getD_lt hk, e, wrapk hk (big_of hn), SType.re_eq, SParam.re_eq, SFuncType.re_eq, SFunc.re_eq]
  · rw [M.l_eqCoreS_l0]; simp
theorem sz_Import (a : SImport) (left : Int) (ok : a.Ok) (h0 : 0 ≤ left) (h1 : left ≤ 1048576) : M.l_szImport a left = some (if (a.sz : Int) ≤ left then left - a.sz else -1) := by
  unfold M.l_szImport
  have hs := SImport.sz_eq a
  have ok1 := (SImport.ok_eq a).1 ok
  try simp only [SType.re_eq, SParam.re_eq, SFuncType.re_eq, SFunc.re_eq]
  have e0 : Go.IntKind.wrap .i64 (left - ((a.Name).length : Int)) = left - ((a.Name).length : Int) := wrap_i64 (by have := ok1.1; unfold StrOk at this; omega) (by omega)
  by_cases c0 : (((a.Name).length : Nat) : Int) ≤ left
  · skip
    have n0 : ¬ (left - (((a.Name).length : Nat) : Int) < 0) := by omega
    have q : (a.sz : Int) ≤ left := by rw [hs] <;> push_cast <;> omega
    have q2 : left - (a.sz : Int) = left - (((a.Name).length : Nat) : Int) := by rw [hs] <;> push_cast <;> omega
    rw [if_pos q, q2]; simp [e0, n0]
  · have n0 : left - (((a.Name).length : Nat) : Int) < 0 := by omega
    have q : ¬ ((a.sz : Int) ≤ left) := by rw [hs] <;> push_cast <;> omega
    rw [if_neg q]; simp [e0, n0]
theorem to_Import (a : SImport) (h : a.sz ≤ 1048576) : M.l_toImport a = some a := by
  unfold M.l_toImport
  have hs := SImport.sz_eq a
  try simp only [SType.re_eq, SParam.re_eq, SFuncType.re_eq, SFunc.re_eq]
  try simp []
theorem eq_Import (a : SImport) (h : a.sz ≤ 1048576) : M.l_eqImport a a = some true := by
  unfold M.l_eqImport
  have hs := SImport.sz_eq a
  try simp only [SType.re_eq, SParam.re_eq, SFuncType.re_eq, SFunc.re_eq]
  try simp []
theorem szS_Import (a : List SImport) (left : Int) (ok : LOk SImport.Ok a) (h0 : 0 ≤ left) (h1 : left ≤ 1048576) : M.l_szImportS a left = some (if (szL SImport.sz a : Int) ≤ left then left - szL SImport.sz a else -1) := by
  have hl := ok.1
  unfold M.l_szImportS
  rw [wrap_i64 (by omega) (by omega)]
  refine szS_of (f := SImport.sz) (F := M.l_szImportS_l0  a) a left h0 h1 (fun g k l h2 h3 hk => ?_) (fun g l => ?_)
  · have hn : k < 2 ^ 62 := by omega
    rw [M.l_szImportS_l0]
    have e := sz_Import a[k] l (ok.2 _ (List.getElem_mem hk)) h2 (by omega)
    by_cases d : ((SImport.sz a[k] : Nat) : Int) ≤ l
    · have n : ¬ (l - ((SImport.sz a[k] : Nat) : Int) < 0) := by omega
      rw [if_pos d] at e ⊢; simp [hk, getD_lt hk, e, n, wrapk hk (show a.length < 2 ^ 62 by omega), SType.re_eq, SParam.re_eq, SFuncType.re_eq, SFunc.re_eq]
    · rw [if_neg d] at e ⊢; simp [hk, getD_lt hk, e, SType.re_eq, SParam.re_eq, SFuncType.re_eq, SFunc.re_eq]
  · rw [M.l_szImportS_l0]; simp
theorem toS_Import (a : List SImport) (ha : szL SImport.sz a ≤ 1048576) : M.l_toImportS a = some a := by
  have hl := szL_len SImport.sz a
  have hn : a.length ≤ 1048576 := by omega
  have hi : (a.length : Int) ≤ 1073741824 := by omega
  have q : ∀ z, z.length = a.length → M.l_toImportS_l0  a Go.V.bigN 0 z = some a := copy_loop (F := M.l_toImportS_l0  a) a (by omega) (fun f k out h1 h2 hk => by
    rw [M.l_toImportS_l0]
    have e := to_Import a[k] (by have := szL_mem SImport.sz a a[k] (List.getElem_mem hk); omega)
    simp [hk, h2, getD_lt hk, e, wrapk hk (big_of hn), SType.re_eq, SParam.re_eq, SFuncType.re_eq, SFunc.re_eq]) (fun f out => by rw [M.l_toImportS_l0]; simp)
  unfold M.l_toImportS
  rw [q _ (by simp)]
  simp [hi]
theorem eqS_Import (a : List SImport) (ha : szL SImport.sz a ≤ 1048576) : M.l_eqImportS a a = some true := by
  have hl := szL_len SImport.sz a
  have hn : a.length ≤ 1048576 := by omega
  unfold M.l_eqImportS
  refine eq_all (F := M.l_eqImportS_l0  a a) a hn (fun f k hk => ?_) (fun f => ?_)
  · rw [M.l_eqImportS_l0]
    have e := eq_Import a[k] (by have := szL_mem SImport.sz a a[k] (List.getElem_mem hk); omega)
    simp [hk, getD_lt hk, e, wrapk hk (big_of hn), SType.re_eq, SParam.re_eq, SFuncType.re_eq, SFunc.re_eq]
  · rw [M.l_eqImportS_l0]; simp
theorem sz_Module (a : SModule) (left : Int) (ok : a.Ok) (h0 : 0 ≤ left) (h1 : left ≤ 1048576) : M.l_szModule a left = some (if (a.sz : Int) ≤ left then left - a.sz else -1) := by
  unfold M.l_szModule
  have hs := SModule.sz_eq a
  have ok1 := (SModule.ok_eq a).1 ok
  try simp only [SType.re_eq, SParam.re_eq, SFuncType.re_eq, SFunc.re_eq]
  have e0 := szS_Import (a.Imports) (left) ok1.2.1 (by omega) (by omega)
  by_cases c0 : ((szL SImport.sz (a.Imports) : Nat) : Int) ≤ left
  · rw [if_pos c0] at e0
    have n0 : ¬ (left - ((szL SImport.sz (a.Imports) : Nat) : Int) < 0) := by omega
    have e1 := szS_Core (a.Cores) (left - ((szL SImport.sz (a.Imports) : Nat) : Int)) ok1.2.2.1 (by omega) (by omega)
    by_cases c1 : ((szL SCore.sz (a.Cores) : Nat) : Int) ≤ left - ((szL SImport.sz (a.Imports) : Nat) : Int)
    · rw [if_pos c1] at e1
      have n1 : ¬ (left - ((szL SImport.sz (a.Imports) : Nat) : Int) - ((szL SCore.sz (a.Cores) : Nat) : Int) < 0) := by omega
      have q : (a.sz : Int) ≤ left := by rw [hs] <;> push_cast <;> omega
      have q2 : left - (a.sz : Int) = left - ((szL SImport.sz (a.Imports) : Nat) : Int) - ((szL SCore.sz (a.Cores) : Nat) : Int) := by rw [hs] <;> push_cast <;> omega
      rw [if_pos q, q2]; simp [e0, n0, e1, n1]
    · rw [if_neg c1] at e1
      have q : ¬ ((a.sz : Int) ≤ left) := by rw [hs] <;> push_cast <;> omega
      rw [if_neg q]; simp [e0, n0, e1]
  · rw [if_neg c0] at e0
    have q : ¬ ((a.sz : Int) ≤ left) := by rw [hs] <;> push_cast <;> omega
    rw [if_neg q]; simp [e0]
theorem to_Module (a : SModule) (h : a.sz ≤ 1048576) : M.l_toModule a = some a := by
  unfold M.l_toModule
  have hs := SModule.sz_eq a
  try simp only [SType.re_eq, SParam.re_eq, SFuncType.re_eq, SFunc.re_eq]
  have e1 := toS_Import (a.Imports) (by omega)
  have e2 := toS_Core (a.Cores) (by omega)
  try simp [e1, e2]
theorem eq_Module (a : SModule) (h : a.sz ≤ 1048576) : M.l_eqModule a a = some true := by
  unfold M.l_eqModule
  have hs := SModule.sz_eq a
  try simp only [SType.re_eq, SParam.re_eq, SFuncType.re_eq, SFunc.re_eq]
  have e1 := eqS_Import (a.Imports) (by omega)
  have e2 := eqS_Core (a.Cores) (by omega)
  try simp [e1, e2]
theorem sz_Component (a : SComponent) (left : Int) (ok : a.Ok) (h0 : 0 ≤ left) (h1 : left ≤ 1048576) : M.l_szComponent a left = some (if (a.sz : Int) ≤ left then left - a.sz else -1) := by
  unfold M.l_szComponent
  have hs := SComponent.sz_eq a
  have ok1 := (SComponent.ok_eq a).1 ok
  try simp only [SType.re_eq, SParam.re_eq, SFuncType.re_eq, SFunc.re_eq]
  have e0 : Go.IntKind.wrap .i64 (left - ((a.Name).length : Int)) = left - ((a.Name).length : Int) := wrap_i64 (by have := ok1.1; unfold StrOk at this; omega) (by omega)
  by_cases c0 : (((a.Name).length : Nat) : Int) ≤ left
  · skip
    have n0 : ¬ (left - (((a.Name).length : Nat) : Int) < 0) := by omega
    have e1 : Go.IntKind.wrap .i64 (left - (((a.Name).length : Nat) : Int) - ((a.Version).length : Int)) = left - (((a.Name).length : Nat) : Int) - ((a.Version).length : Int) := wrap_i64 (by have := ok1.2.1; unfold StrOk at this; omega) (by omega)
    by_cases c1 : (((a.Version).length : Nat) : Int) ≤ left - (((a.Name).length : Nat) : Int)
    · skip
      have n1 : ¬ (left - (((a.Name).length : Nat) : Int) - (((a.Version).length : Nat) : Int) < 0) := by omega
      have e2 := szS_Face (a.Imports) (left - (((a.Name).length : Nat) : Int) - (((a.Version).length : Nat) : Int)) ok1.2.2.1 (by omega) (by omega)
      by_cases c2 : ((szL SFace.sz (a.Imports) : Nat) : Int) ≤ left - (((a.Name).length : Nat) : Int) - (((a.Version).length : Nat) : Int)
      · rw [if_pos c2] at e2
        have n2 : ¬ (left - (((a.Name).length : Nat) : Int) - (((a.Version).length : Nat) : Int) - ((szL SFace.sz (a.Imports) : Nat) : Int) < 0) := by omega
        have e3 := szS_Face (a.Exports) (left - (((a.Name).length : Nat) : Int) - (((a.Version).length : Nat) : Int) - ((szL SFace.sz (a.Imports) : Nat) : Int)) ok1.2.2.2.1 (by omega) (by omega)
        by_cases c3 : ((szL SFace.sz (a.Exports) : Nat) : Int) ≤ left - (((a.Name).length : Nat) : Int) - (((a.Version).length : Nat) : Int) - ((szL SFace.sz (a.Imports) : Nat) : Int)
        · rw [if_pos c3] at e3
          have n3 : ¬ (left - (((a.Name).length : Nat) : Int) - (((a.Version).length : Nat) : Int) - ((szL SFace.sz (a.Imports) : Nat) : Int) - ((szL SFace.sz (a.Exports) : Nat) : Int) < 0) := by omega
          have e4 := sz_Module (a.Module) (left - (((a.Name).length : Nat) : Int) - (((a.Version).length : Nat) : Int) - ((szL SFace.sz (a.Imports) : Nat) : Int) - ((szL SFace.sz (a.Exports) : Nat) : Int)) ok1.2.2.2.2.2.2.1 (by omega) (by omega)
          by_cases c4 : (((a.Module).sz : Nat) : Int) ≤ left - (((a.Name).length : Nat) : Int) - (((a.Version).length : Nat) : Int) - ((szL SFace.sz (a.Imports) : Nat) : Int) - ((szL SFace.sz (a.Exports) : Nat) : Int)
          · rw [if_pos c4] at e4
            have n4 : ¬ (left - (((a.Name).length : Nat) : Int) - (((a.Version).length : Nat) : Int) - ((szL SFace.sz (a.Imports) : Nat) : Int) - ((szL SFace.sz (a.Exports) : Nat) : Int) - (((a.Module).sz : Nat) : Int) < 0) := by omega
            have e5 := szS_Lift (a.Lifts) (left - (((a.Name).length : Nat) : Int) - (((a.Version).length : Nat) : Int) - ((szL SFace.sz (a.Imports) : Nat) : Int) - ((szL SFace.sz (a.Exports) : Nat) : Int) - (((a.Module).sz : Nat) : Int)) ok1.2.2.2.2.2.2.2.1 (by omega) (by omega)
            by_cases c5 : ((szL SLift.sz (a.Lifts) : Nat) : Int) ≤ left - (((a.Name).length : Nat) : Int) - (((a.Version).length : Nat) : Int) - ((szL SFace.sz (a.Imports) : Nat) : Int) - ((szL SFace.sz (a.Exports) : Nat) : Int) - (((a.Module).sz : Nat) : Int)
            · rw [if_pos c5] at e5
              have n5 : ¬ (left - (((a.Name).length : Nat) : Int) - (((a.Version).length : Nat) : Int) - ((szL SFace.sz (a.Imports) : Nat) : Int) - ((szL SFace.sz (a.Exports) : Nat) : Int) - (((a.Module).sz : Nat) : Int) - ((szL SLift.sz (a.Lifts) : Nat) : Int) < 0) := by omega
              have e6 := szS_Lower (a.Lowers) (left - (((a.Name).length : Nat) : Int) - (((a.Version).length : Nat) : Int) - ((szL SFace.sz (a.Imports) : Nat) : Int) - ((szL SFace.sz (a.Exports) : Nat) : Int) - (((a.Module).sz : Nat) : Int) - ((szL SLift.sz (a.Lifts) : Nat) : Int)) ok1.2.2.2.2.2.2.2.2.1 (by omega) (by omega)
              by_cases c6 : ((szL SLower.sz (a.Lowers) : Nat) : Int) ≤ left - (((a.Name).length : Nat) : Int) - (((a.Version).length : Nat) : Int) - ((szL SFace.sz (a.Imports) : Nat) : Int) - ((szL SFace.sz (a.Exports) : Nat) : Int) - (((a.Module).sz : Nat) : Int) - ((szL SLift.sz (a.Lifts) : Nat) : Int)
              · rw [if_pos c6] at e6
                have n6 : ¬ (left - (((a.Name).length : Nat) : Int) - (((a.Version).length : Nat) : Int) - ((szL SFace.sz (a.Imports) : Nat) : Int) - ((szL SFace.sz (a.Exports) : Nat) : Int) - (((a.Module).sz : Nat) : Int) - ((szL SLift.sz (a.Lifts) : Nat) : Int) - ((szL SLower.sz (a.Lowers) : Nat) : Int) < 0) := by omega
                have e7 := szS_Builtin (a.Builtins) (left - (((a.Name).length : Nat) : Int) - (((a.Version).length : Nat) : Int) - ((szL SFace.sz (a.Imports) : Nat) : Int) - ((szL SFace.sz (a.Exports) : Nat) : Int) - (((a.Module).sz : Nat) : Int) - ((szL SLift.sz (a.Lifts) : Nat) : Int) - ((szL SLower.sz (a.Lowers) : Nat) : Int)) ok1.2.2.2.2.2.2.2.2.2.1 (by omega) (by omega)
                by_cases c7 : ((szL SBuiltin.sz (a.Builtins) : Nat) : Int) ≤ left - (((a.Name).length : Nat) : Int) - (((a.Version).length : Nat) : Int) - ((szL SFace.sz (a.Imports) : Nat) : Int) - ((szL SFace.sz (a.Exports) : Nat) : Int) - (((a.Module).sz : Nat) : Int) - ((szL SLift.sz (a.Lifts) : Nat) : Int) - ((szL SLower.sz (a.Lowers) : Nat) : Int)
                · rw [if_pos c7] at e7
                  have n7 : ¬ (left - (((a.Name).length : Nat) : Int) - (((a.Version).length : Nat) : Int) - ((szL SFace.sz (a.Imports) : Nat) : Int) - ((szL SFace.sz (a.Exports) : Nat) : Int) - (((a.Module).sz : Nat) : Int) - ((szL SLift.sz (a.Lifts) : Nat) : Int) - ((szL SLower.sz (a.Lowers) : Nat) : Int) - ((szL SBuiltin.sz (a.Builtins) : Nat) : Int) < 0) := by omega
                  have q : (a.sz : Int) ≤ left := by rw [hs] <;> push_cast <;> omega
                  have q2 : left - (a.sz : Int) = left - (((a.Name).length : Nat) : Int) - (((a.Version).length : Nat) : Int) - ((szL SFace.sz (a.Imports) : Nat) : Int) - ((szL SFace.sz (a.Exports) : Nat) : Int) - (((a.Module).sz : Nat) : Int) - ((szL SLift.sz (a.Lifts) : Nat) : Int) - ((szL SLower.sz (a.Lowers) : Nat) : Int) - ((szL SBuiltin.sz (a.Builtins) : Nat) : Int) := by rw [hs] <;> push_cast <;> omega
                  rw [if_pos q, q2]; simp [e0, n0, e1, n1, e2, n2, e3, n3, e4, n4, e5, n5, e6, n6, e7, n7]
                · rw [if_neg c7] at e7
                  have q : ¬ ((a.sz : Int) ≤ left) := by rw [hs] <;> push_cast <;> omega
                  rw [if_neg q]; simp [e0, n0, e1, n1, e2, n2, e3, n3, e4, n4, e5, n5, e6, n6, e7]
              · rw [if_neg c6] at e6
                have q : ¬ ((a.sz : Int) ≤ left) := by rw [hs] <;> push_cast <;> omega
                rw [if_neg q]; simp [e0, n0, e1, n1, e2, n2, e3, n3, e4, n4, e5, n5, e6]
            · rw [if_neg c5] at e5
              have q : ¬ ((a.sz : Int) ≤ left) := by rw [hs] <;> push_cast <;> omega
              rw [if_neg q]; simp [e0, n0, e1, n1, e2, n2, e3, n3, e4, n4, e5]
          · rw [if_neg c4] at e4
            have q : ¬ ((a.sz : Int) ≤ left) := by rw [hs] <;> push_cast <;> omega
            rw [if_neg q]; simp [e0, n0, e1, n1, e2, n2, e3, n3, e4]
        · rw [if_neg c3] at e3
          have q : ¬ ((a.sz : Int) ≤ left) := by rw [hs] <;> push_cast <;> omega
          rw [if_neg q]; simp [e0, n0, e1, n1, e2, n2, e3]
      · rw [if_neg c2] at e2
        have q : ¬ ((a.sz : Int) ≤ left) := by rw [hs] <;> push_cast <;> omega
        rw [if_neg q]; simp [e0, n0, e1, n1, e2]
    · have n1 : left - (((a.Name).length : Nat) : Int) - (((a.Version).length : Nat) : Int) < 0 := by omega
      have q : ¬ ((a.sz : Int) ≤ left) := by rw [hs] <;> push_cast <;> omega
      rw [if_neg q]; simp [e0, n0, e1, n1]
  · have n0 : left - (((a.Name).length : Nat) : Int) < 0 := by omega
    have q : ¬ ((a.sz : Int) ≤ left) := by rw [hs] <;> push_cast <;> omega
    rw [if_neg q]; simp [e0, n0]
theorem to_Component (a : SComponent) (h : a.sz ≤ 1048576) : M.l_toComponent a = some a := by
  unfold M.l_toComponent
  have hs := SComponent.sz_eq a
  try simp only [SType.re_eq, SParam.re_eq, SFuncType.re_eq, SFunc.re_eq]
  have e2 := toS_Face (a.Imports) (by omega)
  have e3 := toS_Face (a.Exports) (by omega)
  have e6 := to_Module (a.Module) (by omega)
  have e7 := toS_Lift (a.Lifts) (by omega)
  have e8 := toS_Lower (a.Lowers) (by omega)
  have e9 := toS_Builtin (a.Builtins) (by omega)
  try simp [e2, e3, e6, e7, e8, e9]
theorem eq_Component (a : SComponent) (h : a.sz ≤ 1048576) : M.l_eqComponent a a = some true := by
  unfold M.l_eqComponent
  have hs := SComponent.sz_eq a
  try simp only [SType.re_eq, SParam.re_eq, SFuncType.re_eq, SFunc.re_eq]
  have e2 := eqS_Face (a.Imports) (by omega)
  have e3 := eqS_Face (a.Exports) (by omega)
  have e6 := eq_Module (a.Module) (by omega)
  have e7 := eqS_Lift (a.Lifts) (by omega)
  have e8 := eqS_Lower (a.Lowers) (by omega)
  have e9 := eqS_Builtin (a.Builtins) (by omega)
  try simp [e2, e3, e6, e7, e8, e9]
end M
