/-
  Part of the proof of the claim.
-/
import Derived.Test.YtmgbhalimhbejaaGreatXRVM
import Derived.Test.YtmgbhalimhbejaaGreatXRlaw
import Derived.Test.YtmgbhalimhbejaaGreatXRpl

set_option linter.unusedVariables false
set_option linter.unusedSimpArgs false
namespace M
def StrOk (s : List UInt8) : Prop := s.length ≤ 9223372036854775807
def LOk {α : Type} (p : α → Prop) (l : List α) : Prop := l.length ≤ 9223372036854775807 ∧ ∀ x ∈ l, p x
mutual
def SType.sz : SType → Nat
  | .mk v0 v1 v2 v3 => (v1).length + szL List.length (v2) + SType.szs v3
def SType.szs : List SType → Nat
  | [] => 0
  | t :: r => SType.sz t + 1 + SType.szs r
end
theorem SType.szs_eq : ∀ l : List SType, SType.szs l = szL SType.sz l
  | [] => rfl
  | t :: r => by simp only [SType.szs, szL, SType.szs_eq r]
theorem SType.sz_eq (a : SType) : a.sz = (a.Name).length + szL List.length (a.Labels) + szL SType.sz (a.Kids) := by cases a; simp only [SType.sz, SType.szs_eq]; rfl
mutual
def SType.Ok : SType → Prop
  | .mk v0 v1 v2 v3 => I64 (v0) ∧ StrOk (v1) ∧ LOk StrOk (v2) ∧ (v3.length ≤ 9223372036854775807 ∧ SType.Oks v3) ∧ True
def SType.Oks : List SType → Prop
  | [] => True
  | t :: r => SType.Ok t ∧ SType.Oks r
end
def SParam.sz (a : SParam) : Nat := (a.Name).length + (a.Type_).sz
theorem SParam.sz_eq (a : SParam) : a.sz = (a.Name).length + (a.Type_).sz := rfl
def SParam.Ok (a : SParam) : Prop := StrOk (a.Name) ∧ SType.Ok (a.Type_) ∧ True
def SFuncType.sz (a : SFuncType) : Nat := szL SParam.sz (a.Params) + (a.Result).sz
theorem SFuncType.sz_eq (a : SFuncType) : a.sz = szL SParam.sz (a.Params) + (a.Result).sz := rfl
def SFuncType.Ok (a : SFuncType) : Prop := LOk SParam.Ok (a.Params) ∧ SType.Ok (a.Result) ∧ True ∧ True
mutual
theorem SType.ok_of : ∀ (a : SType), (∀ m, Go.V.ValE m .Type a) → a.Ok
  | .mk v0 v1 v2 v3, h => by
    simp only [SType.Ok]
    exact ⟨(h 0).1, (h 0).2.1, ⟨((h 0).2.2.1).1, fun y hy => ((fun m => ((h (m + 1)).2.2.1).2 y hy) 0).1⟩, ⟨((h 0).2.2.2.1).1, (SType.oks_of _ fun y hy m => ((h (m + 1)).2.2.2.1).2 y hy)⟩, trivial⟩
theorem SType.oks_of : ∀ (l : List SType), (∀ y ∈ l, ∀ m, Go.V.ValE m .Type y) → SType.Oks l
  | [], _ => by simp only [SType.Oks]
  | t :: r, h => by
    simp only [SType.Oks]
    exact ⟨SType.ok_of t (h t (by simp)), SType.oks_of r fun y hy => h y (by simp [hy])⟩
end
theorem SParam.ok_of (a : SParam) (h : ∀ m, Go.V.ValE m .Param a) : a.Ok := ⟨(h 0).1, (SType.ok_of (a.Type_) (fun m => by cases m with | zero => exact ⟨(h 0).2.1, (h 0).2.2.1, (h 0).2.2.2.1, (h 0).2.2.2.2.1, trivial⟩ | succ m => exact ⟨(h (m + 1)).2.1, (h (m + 1)).2.2.1, (h (m + 1)).2.2.2.1, (h (m + 1)).2.2.2.2.1, trivial⟩)), trivial⟩
theorem SFuncType.ok_of (a : SFuncType) (h : ∀ m, Go.V.ValE m .FuncType a) : a.Ok := ⟨⟨((h 0).1).1, fun y hy => SParam.ok_of y (fun m => ((h (m + 1)).1).2 y hy)⟩, (SType.ok_of (a.Result) (fun m => by cases m with | zero => exact ⟨(h 0).2.1, (h 0).2.2.1, (h 0).2.2.2.1, (h 0).2.2.2.2.1, trivial⟩ | succ m => exact ⟨(h (m + 1)).2.1, (h (m + 1)).2.2.1, (h (m + 1)).2.2.2.1, (h (m + 1)).2.2.2.2.1, trivial⟩)), trivial, trivial⟩
end M
