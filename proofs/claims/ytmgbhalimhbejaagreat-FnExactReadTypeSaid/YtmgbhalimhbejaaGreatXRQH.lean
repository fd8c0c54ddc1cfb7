/-
  Part of the proof of the claim.
-/
import Derived.Test.YtmgbhalimhbejaaGreatXRQM
import Derived.Test.YtmgbhalimhbejaaGreatXRlaw
import Derived.Test.YtmgbhalimhbejaaGreatXRpl

set_option linter.unusedVariables false
set_option linter.unusedSimpArgs false
namespace M
def StrOk (s : List UInt8) : Prop := s.length ≤ 9223372036854775807
def LOk {α : Type} (p : α → Prop) (l : List α) : Prop := l.length ≤ 9223372036854775807 ∧ ∀ x ∈ l, p x
mutual
def SType.sz : SType → Nat
  | .mk v0 v1 v2 v3 => (v1).length + szL List.length (v2) + SType.szs v3
def SType.szs : List SType → Nat
  | [] => 0
  | t :: r => SType.sz t + 1 + SType.szs r
end
theorem SType.szs_eq : ∀ l : List SType, SType.szs l = szL SType.sz l
  | [] => rfl
  | t :: r => by simp only [SType.szs, szL, SType.szs_eq r]
theorem SType.sz_eq (a : SType) : a.sz = (a.Name).length + szL List.length (a.Labels) + szL SType.sz (a.Kids) := by cases a; simp only [SType.sz, SType.szs_eq]; rfl
mutual
def SType.Ok : SType → Prop
  | .mk v0 v1 v2 v3 => I64 (v0) ∧ StrOk (v1) ∧ LOk StrOk (v2) ∧ (v3.length ≤ 9223372036854775807 ∧ SType.Oks v3) ∧ True
def SType.Oks : List SType → Prop
  | [] => True
  | t :: r => SType.Ok t ∧ SType.Oks r
end
mutual
theorem SType.ok_of : ∀ (a : SType), (∀ m, Go.V.ValE m .Type a) → a.Ok
  | .mk v0 v1 v2 v3, h => by
    simp only [SType.Ok]
    exact ⟨(h 0).1, (h 0).2.1, ⟨((h 0).2.2.1).1, fun y hy => ((fun m => ((h (m + 1)).2.2.1).2 y hy) 0).1⟩, ⟨((h 0).2.2.2.1).1, (SType.oks_of _ fun y hy m => ((h (m + 1)).2.2.2.1).2 y hy)⟩, trivial⟩
theorem SType.oks_of : ∀ (l : List SType), (∀ y ∈ l, ∀ m, Go.V.ValE m .Type y) → SType.Oks l
  | [], _ => by simp only [SType.Oks]
  | t :: r, h => by
    simp only [SType.Oks]
    exact ⟨SType.ok_of t (h t (by simp)), SType.oks_of r fun y hy => h y (by simp [hy])⟩
end
theorem eqS_String (a : List (List UInt8)) (ha : szL List.length a ≤ 1048576) : M.l_eqStringS a a = some true := by
  have hl := szL_len List.length a
  have hn : a.length ≤ 1048576 := by omega
  unfold M.l_eqStringS
  refine eq_all (F := M.l_eqStringS_l0  a a) a hn (fun f k hk => ?_) (fun f => ?_)
  · rw [M.l_eqStringS_l0]
    simp [hk, getD_lt hk, wrapk hk (big_of hn)]
  · rw [M.l_eqStringS_l0]; simp
theorem eqS_Type_r (r : SType → SType → Option Bool) (a : List SType) (ha : a.length ≤ 1048576) (hr : ∀ x ∈ a, r x x = some true) : M.l_eqTypeS r a a = some true := by
  have hn : a.length ≤ 1048576 := by omega
  unfold M.l_eqTypeS
  refine eq_all (F := M.l_eqTypeS_l0 r  a a) a hn (fun f k hk => ?_) (fun f => ?_)
  · rw [M.l_eqTypeS_l0]
    have e := hr a[k] (List.getElem_mem hk)
    simp [hk, getD_lt hk, e, wrapk hk (big_of hn), SType.re_eq]
  · rw [M.l_eqTypeS_l0]; simp
theorem eq_Type_n : ∀ (n : Nat) (a : SType), a.sz < n → a.sz ≤ 1048576 → M.l_eqType_n n a a = some true
  | 0, a, h2, h => by omega
  | n + 1, a, h2, h => by
    show M.l_eqType_b (M.l_eqType_n n) a a = _
    unfold M.l_eqType_b
    have hs := SType.sz_eq a
    try simp only [SType.re_eq]
    have e2 := eqS_String (a.Labels) (by omega)
    have hk3 := szL_len SType.sz (a.Kids)
    have e3 := eqS_Type_r (M.l_eqType_n n) (a.Kids) (by omega) (fun x hx => eq_Type_n n x (by have := szL_mem SType.sz (a.Kids) x hx; have := szL_pos SType.sz (a.Kids) x hx; omega) (by have := szL_mem SType.sz (a.Kids) x hx; omega))
    try simp [e2, e3, SType.eta]
theorem eq_Type (a : SType) (h : a.sz ≤ 1048576) : M.l_eqType a a = some true :=
  eq_Type_n _ a (by have := Go.V.bigN_le; omega) h
end M
