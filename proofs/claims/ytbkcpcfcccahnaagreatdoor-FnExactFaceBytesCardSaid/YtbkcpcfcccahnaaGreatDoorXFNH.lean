/-
  Part of the proof of the claim.
-/
import Derived.Test.YtbkcpcfcccahnaaGreatDoorXFNM
import Derived.Test.YtbkcpcfcccahnaaGreatDoorXFlaw
import Derived.Test.YtbkcpcfcccahnaaGreatDoorXFpl

set_option linter.unusedVariables false
set_option linter.unusedSimpArgs false
namespace M
def StrOk (s : List UInt8) : Prop := s.length ≤ 9223372036854775807
def LOk {α : Type} (p : α → Prop) (l : List α) : Prop := l.length ≤ 9223372036854775807 ∧ ∀ x ∈ l, p x
mutual
def SType.sz : SType → Nat
  | .mk v0 v1 v2 v3 => (v1).length + szL List.length (v2) + SType.szs v3
def SType.szs : List SType → Nat
  | [] => 0
  | t :: r => SType.sz t + 1 + SType.szs r
end
theorem SType.szs_eq : ∀ l : List SType, SType.szs l = szL SType.sz l
  | [] => rfl
  | t :: r => by simp only [SType.szs, szL, SType.szs_eq r]
theorem SType.sz_eq (a : SType) : a.sz = (a.Name).length + szL List.length (a.Labels) + szL SType.sz (a.Kids) := by cases a; simp only [SType.sz, SType.szs_eq]; rfl
mutual
def SType.Ok : SType → Prop
  | .mk v0 v1 v2 v3 => I64 (v0) ∧ StrOk (v1) ∧ LOk StrOk (v2) ∧ (v3.length ≤ 9223372036854775807 ∧ SType.Oks v3) ∧ True
def SType.Oks : List SType → Prop
  | [] => True
  | t :: r => SType.Ok t ∧ SType.Oks r
end
theorem SType.oks_iff : ∀ l : List SType, SType.Oks l ↔ ∀ x ∈ l, SType.Ok x
  | [] => by simp [SType.Oks]
  | t :: r => by simp [SType.Oks, SType.oks_iff r]
theorem SType.ok_eq (a : SType) : a.Ok ↔ (I64 (a.Kind) ∧ StrOk (a.Name) ∧ LOk StrOk (a.Labels) ∧ LOk SType.Ok (a.Kids) ∧ True) := by
  cases a; simp only [SType.Ok, SType.oks_iff, LOk]; exact Iff.rfl
def SParam.sz (a : SParam) : Nat := (a.Name).length + (a.Type_).sz
theorem SParam.sz_eq (a : SParam) : a.sz = (a.Name).length + (a.Type_).sz := rfl
def SParam.Ok (a : SParam) : Prop := StrOk (a.Name) ∧ SType.Ok (a.Type_) ∧ True
theorem SParam.ok_eq (a : SParam) : a.Ok ↔ (StrOk (a.Name) ∧ SType.Ok (a.Type_) ∧ True) := Iff.rfl
def SFuncType.sz (a : SFuncType) : Nat := szL SParam.sz (a.Params) + (a.Result).sz
theorem SFuncType.sz_eq (a : SFuncType) : a.sz = szL SParam.sz (a.Params) + (a.Result).sz := rfl
def SFuncType.Ok (a : SFuncType) : Prop := LOk SParam.Ok (a.Params) ∧ SType.Ok (a.Result) ∧ True ∧ True
theorem SFuncType.ok_eq (a : SFuncType) : a.Ok ↔ (LOk SParam.Ok (a.Params) ∧ SType.Ok (a.Result) ∧ True ∧ True) := Iff.rfl
def SFunc.sz (a : SFunc) : Nat := (a.Name).length + (a.Type_).sz
theorem SFunc.sz_eq (a : SFunc) : a.sz = (a.Name).length + (a.Type_).sz := rfl
def SFunc.Ok (a : SFunc) : Prop := StrOk (a.Name) ∧ SFuncType.Ok (a.Type_) ∧ True
theorem SFunc.ok_eq (a : SFunc) : a.Ok ↔ (StrOk (a.Name) ∧ SFuncType.Ok (a.Type_) ∧ True) := Iff.rfl
def SFace.sz (a : SFace) : Nat := (a.Package).length + (a.Name).length + (a.Version).length + szL List.length (a.Resources) + szL SFunc.sz (a.Funcs)
theorem SFace.sz_eq (a : SFace) : a.sz = (a.Package).length + (a.Name).length + (a.Version).length + szL List.length (a.Resources) + szL SFunc.sz (a.Funcs) := rfl
def SFace.Ok (a : SFace) : Prop := StrOk (a.Package) ∧ StrOk (a.Name) ∧ StrOk (a.Version) ∧ LOk StrOk (a.Resources) ∧ LOk SFunc.Ok (a.Funcs) ∧ True
theorem SFace.ok_eq (a : SFace) : a.Ok ↔ (StrOk (a.Package) ∧ StrOk (a.Name) ∧ StrOk (a.Version) ∧ LOk StrOk (a.Resources) ∧ LOk SFunc.Ok (a.Funcs) ∧ True) := Iff.rfl
mutual
theorem SType.ok_of : ∀ (a : SType), (∀ m, Go.V.ValE m .Type a) → a.Ok
  | .mk v0 v1 v2 v3, h => by
    simp only [SType.Ok]
    exact ⟨(h 0).1, (h 0).2.1, ⟨((h 0).2.2.1).1, fun y hy => ((fun m => ((h (m + 1)).2.2.1).2 y hy) 0).1⟩, ⟨((h 0).2.2.2.1).1, (SType.oks_of _ fun y hy m => ((h (m + 1)).2.2.2.1).2 y hy)⟩, trivial⟩
theorem SType.oks_of : ∀ (l : List SType), (∀ y ∈ l, ∀ m, Go.V.ValE m .Type y) → SType.Oks l
  | [], _ => by simp only [SType.Oks]
  | t :: r, h => by
    simp only [SType.Oks]
    exact ⟨SType.ok_of t (h t (by simp)), SType.oks_of r fun y hy => h y (by simp [hy])⟩
end
theorem SParam.ok_of (a : SParam) (h : ∀ m, Go.V.ValE m .Param a) : a.Ok := ⟨(h 0).1, (SType.ok_of (a.Type_) (fun m => by cases m with | zero => exact ⟨(h 0).2.1, (h 0).2.2.1, (h 0).2.2.2.1, (h 0).2.2.2.2.1, trivial⟩ | succ m => exact ⟨(h (m + 1)).2.1, (h (m + 1)).2.2.1, (h (m + 1)).2.2.2.1, (h (m + 1)).2.2.2.2.1, trivial⟩)), trivial⟩
theorem SFuncType.ok_of (a : SFuncType) (h : ∀ m, Go.V.ValE m .FuncType a) : a.Ok := ⟨⟨((h 0).1).1, fun y hy => SParam.ok_of y (fun m => ((h (m + 1)).1).2 y hy)⟩, (SType.ok_of (a.Result) (fun m => by cases m with | zero => exact ⟨(h 0).2.1, (h 0).2.2.1, (h 0).2.2.2.1, (h 0).2.2.2.2.1, trivial⟩ | succ m => exact ⟨(h (m + 1)).2.1, (h (m + 1)).2.2.1, (h (m + 1)).2.2.2.1, (h (m + 1)).2.2.2.2.1, trivial⟩)), trivial, trivial⟩
theorem SFunc.ok_of (a : SFunc) (h : ∀ m, Go.V.ValE m .Func a) : a.Ok := ⟨(h 0).1, (SFuncType.ok_of (a.Type_) (fun m => by cases m with | zero => exact ⟨(h 0).2.1, (h 0).2.2.1, (h 0).2.2.2.1, (h 0).2.2.2.2.1, (h 0).2.2.2.2.2.1, (h 0).2.2.2.2.2.2.1, trivial⟩ | succ m => exact ⟨(h (m + 1)).2.1, (h (m + 1)).2.2.1, (h (m + 1)).2.2.2.1, (h (m + 1)).2.2.2.2.1, (h (m + 1)).2.2.2.2.2.1, (h (m + 1)).2.2.2.2.2.2.1, trivial⟩)), trivial⟩
theorem SFace.ok_of (a : SFace) (h : ∀ m, Go.V.ValE m .Face a) : a.Ok := ⟨(h 0).1, (h 0).2.1, (h 0).2.2.1, ⟨((h 0).2.2.2.1).1, fun y hy => ((fun m => ((h (m + 1)).2.2.2.1).2 y hy) 0).1⟩, ⟨((h 0).2.2.2.2.1).1, fun y hy => SFunc.ok_of y (fun m => ((h (m + 1)).2.2.2.2.1).2 y hy)⟩, trivial⟩
theorem szS_String (a : List (List UInt8)) (left : Int) (ok : LOk StrOk a) (h0 : 0 ≤ left) (h1 : left ≤ 1048576) : M.l_szStringS a left = some (if (szL List.length a : Int) ≤ left then left - szL List.length a else -1) := by
  have hl := ok.1
  unfold M.l_szStringS
  rw [wrap_i64 (by omega) (by omega)]
  refine szS_of (f := List.length) (F := M.l_szStringS_l0  a) a left h0 h1 (fun g k l h2 h3 hk => ?_) (fun g l => ?_)
  · have hn : k < 2 ^ 62 := by omega
    rw [M.l_szStringS_l0]
    have w : Go.IntKind.wrap .i64 (l - ((a[k]).length : Int)) = l - (a[k]).length := wrap_i64 (by have := ok.2 a[k] (List.getElem_mem hk); unfold StrOk at this; omega) (by omega)
    by_cases d : ((a[k]).length : Int) ≤ l
    · have n : ¬ (l - ((a[k]).length : Int) < 0) := by omega
      rw [if_pos d]; simp [hk, getD_lt hk, w, n, wrapk hk (show a.length < 2 ^ 62 by omega)]
    · have n : l - ((a[k]).length : Int) < 0 := by omega
      rw [if_neg d]; simp [hk, getD_lt hk, w, n]
  · rw [M.l_szStringS_l0]; simp
theorem toS_String (a : List (List UInt8)) (ha : szL List.length a ≤ 1048576) : M.l_toStringS a = some a := by
  have hl := szL_len List.length a
  have hn : a.length ≤ 1048576 := by omega
  have hi : (a.length : Int) ≤ 1073741824 := by omega
  have q : ∀ z, z.length = a.length → M.l_toStringS_l0  a Go.V.bigN 0 z = some a := copy_loop (F := M.l_toStringS_l0  a) a (by omega) (fun f k out h1 h2 hk => by
    rw [M.l_toStringS_l0]
    simp [hk, h2, getD_lt hk, wrapk hk (big_of hn)]) (fun f out => by rw [M.l_toStringS_l0]; simp)
  unfold M.l_toStringS
  rw [q _ (by simp)]
  simp [hi]
theorem eqS_String (a : List (List UInt8)) (ha : szL List.length a ≤ 1048576) : M.l_eqStringS a a = some true := by
  have hl := szL_len List.length a
  have hn : a.length ≤ 1048576 := by omega
  unfold M.l_eqStringS
  refine eq_all (F := M.l_eqStringS_l0  a a) a hn (fun f k hk => ?_) (fun f => ?_)
  · rw [M.l_eqStringS_l0]
    simp [hk, getD_lt hk, wrapk hk (big_of hn)]
  · rw [M.l_eqStringS_l0]; simp
theorem szS_Type_r (r : SType → Int → Option Int) (a : List SType) (left : Int) (ok : LOk SType.Ok a) (h0 : 0 ≤ left) (h1 : left ≤ 1048576) (hr : ∀ x l, x ∈ a → 0 ≤ l → l < left → r x l = some (if (x.sz : Int) ≤ l then l - x.sz else -1)) : M.l_szTypeS r a left = some (if (szL SType.sz a : Int) ≤ left then left - szL SType.sz a else -1) := by
  have hl := ok.1
  unfold M.l_szTypeS
  rw [wrap_i64 (by omega) (by omega)]
  refine szS_of (f := SType.sz) (F := M.l_szTypeS_l0 r  a) a left h0 h1 (fun g k l h2 h3 hk => ?_) (fun g l => ?_)
  · have hn : k < 2 ^ 62 := by omega
    rw [M.l_szTypeS_l0]
    have e := hr a[k] l (List.getElem_mem hk) h2 (by omega)
    by_cases d : ((SType.sz a[k] : Nat) : Int) ≤ l
    · have n : ¬ (l - ((SType.sz a[k] : Nat) : Int) < 0) := by omega
      rw [if_pos d] at e ⊢; simp [hk, getD_lt hk, e, n, wrapk hk (show a.length < 2 ^ 62 by omega), SType.re_eq, SParam.re_eq, SFuncType.re_eq, SFunc.re_eq]
    · rw [if_neg d] at e ⊢; simp [hk, getD_lt hk, e, SType.re_eq, SParam.re_eq, SFuncType.re_eq, SFunc.re_eq]
  · rw [M.l_szTypeS_l0]; simp
theorem toS_Type_r (r : SType → Option SType) (a : List SType) (ha : a.length ≤ 1048576) (hr : ∀ x ∈ a, r x = some x) : M.l_toTypeS r a = some a := by
  have hn : a.length ≤ 1048576 := by omega
  have hi : (a.length : Int) ≤ 1073741824 := by omega
  have q : ∀ z, z.length = a.length → M.l_toTypeS_l0 r  a Go.V.bigN 0 z = some a := copy_loop (F := M.l_toTypeS_l0 r  a) a (by omega) (fun f k out h1 h2 hk => by
    rw [M.l_toTypeS_l0]
    have e := hr a[k] (List.getElem_mem hk)
    simp [hk, h2, getD_lt hk, e, wrapk hk (big_of hn), SType.re_eq, SParam.re_eq, SFuncType.re_eq, SFunc.re_eq]) (fun f out => by rw [M.l_toTypeS_l0]; simp)
  unfold M.l_toTypeS
  rw [q _ (by simp)]
  simp [hi]
theorem eqS_Type_r (r : SType → SType → Option Bool) (a : List SType) (ha : a.length ≤ 1048576) (hr : ∀ x ∈ a, r x x = some true) : M.l_eqTypeS r a a = some true := by
  have hn : a.length ≤ 1048576 := by omega
  unfold M.l_eqTypeS
  refine eq_all (F := M.l_eqTypeS_l0 r  a a) a hn (fun f k hk => ?_) (fun f => ?_)
  · rw [M.l_eqTypeS_l0]
    have e := hr a[k] (List.getElem_mem hk)
    simp [hk, getD_lt hk, e, wrapk hk (big_of hn), SType.re_eq, SParam.re_eq, SFuncType.re_eq, SFunc.re_eq]
  · rw [M.l_eqTypeS_l0]; simp
theorem sz_Type_n : ∀ (n : Nat) (a : SType) (left : Int), a.Ok → 0 ≤ left → left < n → left ≤ 1048576 → M.l_szType_n n a left = some (if (a.sz : Int) ≤ left then left - a.sz else -1)
  | 0, a, left, ok, h0, h2, h1 => by omega
  | n + 1, a, left, ok, h0, h2, h1 => by
    show M.l_szType_b (M.l_szType_n n) a left = _
    unfold M.l_szType_b
    have hs := SType.sz_eq a
    have ok1 := (SType.ok_eq a).1 ok
    try simp only [SType.re_eq, SParam.re_eq, SFuncType.re_eq, SFunc.re_eq]
    have e0 : Go.IntKind.wrap .i64 (left - ((a.Name).length : Int)) = left - ((a.Name).length : Int) := wrap_i64 (by have := ok1.2.1; unfold StrOk at this; omega) (by omega)
    by_cases c0 : (((a.Name).length : Nat) : Int) ≤ left
    · skip
      have n0 : ¬ (left - (((a.Name).length : Nat) : Int) < 0) := by omega
      have e1 := szS_String (a.Labels) (left - (((a.Name).length : Nat) : Int)) ok1.2.2.1 (by omega) (by omega)
      by_cases c1 : ((szL List.length (a.Labels) : Nat) : Int) ≤ left - (((a.Name).length : Nat) : Int)
      · rw [if_pos c1] at e1
        have n1 : ¬ (left - (((a.Name).length : Nat) : Int) - ((szL List.length (a.Labels) : Nat) : Int) < 0) := by omega
        have e2 := szS_Type_r (M.l_szType_n n) (a.Kids) (left - (((a.Name).length : Nat) : Int) - ((szL List.length (a.Labels) : Nat) : Int)) ok1.2.2.2.1 (by omega) (by omega) (fun x l hx q0 q1 => sz_Type_n n x l ((ok1.2.2.2.1).2 x hx) q0 (by omega) (by omega))
        by_cases c2 : ((szL SType.sz (a.Kids) : Nat) : Int) ≤ left - (((a.Name).length : Nat) : Int) - ((szL List.length (a.Labels) : Nat) : Int)
        · rw [if_pos c2] at e2
          have n2 : ¬ (left - (((a.Name).length : Nat) : Int) - ((szL List.length (a.Labels) : Nat) : Int) - ((szL SType.sz (a.Kids) : Nat) : Int) < 0) := by omega
          have q : (a.sz : Int) ≤ left := by rw [hs] <;> push_cast <;> omega
          have q2 : left - (a.sz : Int) = left - (((a.Name).length : Nat) : Int) - ((szL List.length (a.Labels) : Nat) : Int) - ((szL SType.sz (a.Kids) : Nat) : Int) := by rw [hs] <;> push_cast <;> omega
          rw [if_pos q, q2]; simp [e0, n0, e1, n1, e2, n2]
        · rw [if_neg c2] at e2
          have q : ¬ ((a.sz : Int) ≤ left) := by rw [hs] <;> push_cast <;> omega
          rw [if_neg q]; simp [e0, n0, e1, n1, e2]
      · rw [if_neg c1] at e1
        have q : ¬ ((a.sz : Int) ≤ left) := by rw [hs] <;> push_cast <;> omega
        rw [if_neg q]; simp [e0, n0, e1]
    · have n0 : left - (((a.Name).length : Nat) : Int) < 0 := by omega
      have q : ¬ ((a.sz : Int) ≤ left) := by rw [hs] <;> push_cast <;> omega
      rw [if_neg q]; simp [e0, n0]
theorem sz_Type (a : SType) (left : Int) (ok : a.Ok) (h0 : 0 ≤ left) (h1 : left ≤ 1048576) : M.l_szType a left = some (if (a.sz : Int) ≤ left then left - a.sz else -1) :=
  sz_Type_n _ a left ok h0 (by have := Go.V.bigN_le; omega) h1
theorem szS_Type (a : List SType) (left : Int) (ok : LOk SType.Ok a) (h0 : 0 ≤ left) (h1 : left ≤ 1048576) : M.l_szTypeS M.l_szType a left = some (if (szL SType.sz a : Int) ≤ left then left - szL SType.sz a else -1) :=
  szS_Type_r _ a left ok h0 h1 fun x l hx q0 q1 => sz_Type x l (ok.2 x hx) q0 (by omega)
theorem to_Type_n : ∀ (n : Nat) (a : SType), a.sz < n → a.sz ≤ 1048576 → M.l_toType_n n a = some a
  | 0, a, h2, h => by omega
  | n + 1, a, h2, h => by
    show M.l_toType_b (M.l_toType_n n) a = _
    unfold M.l_toType_b
    have hs := SType.sz_eq a
    try simp only [SType.re_eq, SParam.re_eq, SFuncType.re_eq, SFunc.re_eq]
    have e2 := toS_String (a.Labels) (by omega)
    have hk3 := szL_len SType.sz (a.Kids)
    have e3 := toS_Type_r (M.l_toType_n n) (a.Kids) (by omega) (fun x hx => to_Type_n n x (by have := szL_mem SType.sz (a.Kids) x hx; have := szL_pos SType.sz (a.Kids) x hx; omega) (by have := szL_mem SType.sz (a.Kids) x hx; omega))
    try simp [e2, e3, SType.eta]
theorem to_Type (a : SType) (h : a.sz ≤ 1048576) : M.l_toType a = some a :=
  to_Type_n _ a (by have := Go.V.bigN_le; omega) h
theorem toS_Type (a : List SType) (ha : szL SType.sz a ≤ 1048576) : M.l_toTypeS M.l_toType a = some a :=
  toS_Type_r _ a (by have := szL_len SType.sz a; omega) fun x hx => to_Type x (by have := szL_mem SType.sz a x hx; omega)
theorem eq_Type_n : ∀ (n : Nat) (a : SType), a.sz < n → a.sz ≤ 1048576 → M.l_eqType_n n a a = some true
  | 0, a, h2, h => by omega
  | n + 1, a, h2, h => by
    show M.l_eqType_b (M.l_eqType_n n) a a = _
    unfold M.l_eqType_b
    have hs := SType.sz_eq a
    try simp only [SType.re_eq, SParam.re_eq, SFuncType.re_eq, SFunc.re_eq]
    have e2 := eqS_String (a.Labels) (by omega)
    have hk3 := szL_len SType.sz (a.Kids)
    have e3 := eqS_Type_r (M.l_eqType_n n) (a.Kids) (by omega) (fun x hx => eq_Type_n n x (by have := szL_mem SType.sz (a.Kids) x hx; have := szL_pos SType.sz (a.Kids) x hx; omega) (by have := szL_mem SType.sz (a.Kids) x hx; omega))
    try simp [e2, e3, SType.eta]
theorem eq_Type (a : SType) (h : a.sz ≤ 1048576) : M.l_eqType a a = some true :=
  eq_Type_n _ a (by have := Go.V.bigN_le; omega) h
theorem eqS_Type (a : List SType) (ha : szL SType.sz a ≤ 1048576) : M.l_eqTypeS M.l_eqType a a = some true :=
  eqS_Type_r _ a (by have := szL_len SType.sz a; omega) fun x hx => eq_Type x (by have := szL_mem SType.sz a x hx; omega)
theorem sz_Param (a : SParam) (left : Int) (ok : a.Ok) (h0 : 0 ≤ left) (h1 : left ≤ 1048576) : M.l_szParam a left = some (if (a.sz : Int) ≤ left then left - a.sz else -1) := by
  unfold M.l_szParam
  have hs := SParam.sz_eq a
  have ok1 := (SParam.ok_eq a).1 ok
  try simp only [SType.re_eq, SParam.re_eq, SFuncType.re_eq, SFunc.re_eq]
  have e0 : Go.IntKind.wrap .i64 (left - ((a.Name).length : Int)) = left - ((a.Name).length : Int) := wrap_i64 (by have := ok1.1; unfold StrOk at this; omega) (by omega)
  by_cases c0 : (((a.Name).length : Nat) : Int) ≤ left
  · skip
    have n0 : ¬ (left - (((a.Name).length : Nat) : Int) < 0) := by omega
    have e1 := sz_Type (a.Type_) (left - (((a.Name).length : Nat) : Int)) ok1.2.1 (by omega) (by omega)
    by_cases c1 : (((a.Type_).sz : Nat) : Int) ≤ left - (((a.Name).length : Nat) : Int)
    · rw [if_pos c1] at e1
      have n1 : ¬ (left - (((a.Name).length : Nat) : Int) - (((a.Type_).sz : Nat) : Int) < 0) := by omega
      have q : (a.sz : Int) ≤ left := by rw [hs] <;> push_cast <;> omega
      have q2 : left - (a.sz : Int) = left - (((a.Name).length : Nat) : Int) - (((a.Type_).sz : Nat) : Int) := by rw [hs] <;> push_cast <;> omega
      rw [if_pos q, q2]; simp [e0, n0, e1, n1]
    · rw [if_neg c1] at e1
      have q : ¬ ((a.sz : Int) ≤ left) := by rw [hs] <;> push_cast <;> omega
      rw [if_neg q]; simp [e0, n0, e1]
  · have n0 : left - (((a.Name).length : Nat) : Int) < 0 := by omega
    have q : ¬ ((a.sz : Int) ≤ left) := by rw [hs] <;> push_cast <;> omega
    rw [if_neg q]; simp [e0, n0]
theorem to_Param (a : SParam) (h : a.sz ≤ 1048576) : M.l_toParam a = some a := by
  unfold M.l_toParam
  have hs := SParam.sz_eq a
  try simp only [SType.re_eq, SParam.re_eq, SFuncType.re_eq, SFunc.re_eq]
  have e1 := to_Type (a.Type_) (by omega)
  try simp [e1]
theorem eq_Param (a : SParam) (h : a.sz ≤ 1048576) : M.l_eqParam a a = some true := by
  unfold M.l_eqParam
  have hs := SParam.sz_eq a
  try simp only [SType.re_eq, SParam.re_eq, SFuncType.re_eq, SFunc.re_eq]
  have e1 := eq_Type (a.Type_) (by omega)
  try simp [e1]
theorem szS_Param (a : List SParam) (left : Int) (ok : LOk SParam.Ok a) (h0 : 0 ≤ left) (h1 : left ≤ 1048576) : M.l_szParamS a left = some (if (szL SParam.sz a : Int) ≤ left then left - szL SParam.sz a else -1) := by
  have hl := ok.1
  unfold M.l_szParamS
  rw [wrap_i64 (by omega) (by omega)]
  refine szS_of (f := SParam.sz) (F := M.l_szParamS_l0  a) a left h0 h1 (fun g k l h2 h3 hk => ?_) (fun g l => ?_)
  · have hn : k < 2 ^ 62 := by omega
    rw [M.l_szParamS_l0]
    have e := sz_Param a[k] l (ok.2 _ (List.getElem_mem hk)) h2 (by omega)
    by_cases d : ((SParam.sz a[k] : Nat) : Int) ≤ l
    · have n : ¬ (l - ((SParam.sz a[k] : Nat) : Int) < 0) := by omega
      rw [if_pos d] at e ⊢; simp [hk, getD_lt hk, e, n, wrapk hk (show a.length < 2 ^ 62 by omega), SType.re_eq, SParam.re_eq, SFuncType.re_eq, SFunc.re_eq]
    · rw [if_neg d] at e ⊢; simp [hk, getD_lt hk, e, SType.re_eq, SParam.re_eq, SFuncType.re_eq, SFunc.re_eq]
  · rw [M.l_szParamS_l0]; simp
theorem toS_Param (a : List SParam) (ha : szL SParam.sz a ≤ 1048576) : M.l_toParamS a = some a := by
  have hl := szL_len SParam.sz a
  have hn : a.length ≤ 1048576 := by omega
  have hi : (a.length : Int) ≤ 1073741824 := by omega
  have q : ∀ z, z.length = a.length → M.l_toParamS_l0  a Go.V.bigN 0 z = some a := copy_loop (F := M.l_toParamS_l0  a) a (by omega) (fun f k out h1 h2 hk => by
    rw [M.l_toParamS_l0]
    have e := to_Param a[k] (by have := szL_mem SParam.sz a a[k] (List.getElem_mem hk); omega)
    simp [hk, h2, getD_lt hk, e, wrapk hk (big_of hn), SType.re_eq, SParam.re_eq, SFuncType.re_eq, SFunc.re_eq]) (fun f out => by rw [M.l_toParamS_l0]; simp)
  unfold M.l_toParamS
  rw [q _ (by simp)]
  simp [hi]
theorem eqS_Param (a : List SParam) (ha : szL SParam.sz a ≤ 1048576) : M.l_eqParamS a a = some true := by
  have hl := szL_len SParam.sz a
  have hn : a.length ≤ 1048576 := by omega
  unfold M.l_eqParamS
  refine eq_all (F := M.l_eqParamS_l0  a a) a hn (fun f k hk => ?_) (fun f => ?_)
  · rw [M.l_eqParamS_l0]
    have e := eq_Param a[k] (by have := szL_mem SParam.sz a a[k] (List.getElem_mem hk); omega)
    simp [hk, getD_lt hk, e, wrapk hk (big_of hn), SType.re_eq, SParam.re_eq, SFuncType.re_eq, SFunc.re_eq]
  · rw [M.l_eqParamS_l0]; simp
theorem sz_FuncType (a : SFuncType) (left : Int) (ok : a.Ok) (h0 : 0 ≤ left) (h1 : left ≤ 1048576) : M.l_szFuncType a left = some (if (a.sz : Int) ≤ left then left - a.sz else -1) := by
  unfold M.l_szFuncType
  have hs := SFuncType.sz_eq a
  have ok1 := (SFuncType.ok_eq a).1 ok
  try simp only [SType.re_eq, SParam.re_eq, SFuncType.re_eq, SFunc.re_eq]
  have e0 := szS_Param (a.Params) (left) ok1.1 (by omega) (by omega)
  by_cases c0 : ((szL SParam.sz (a.Params) : Nat) : Int) ≤ left
  · rw [if_pos c0] at e0
    have n0 : ¬ (left - ((szL SParam.sz (a.Params) : Nat) : Int) < 0) := by omega
    have e1 := sz_Type (a.Result) (left - ((szL SParam.sz (a.Params) : Nat) : Int)) ok1.2.1 (by omega) (by omega)
    by_cases c1 : (((a.Result).sz : Nat) : Int) ≤ left - ((szL SParam.sz (a.Params) : Nat) : Int)
    · rw [if_pos c1] at e1
      have n1 : ¬ (left - ((szL SParam.sz (a.Params) : Nat) : Int) - (((a.Result).sz : Nat) : Int) < 0) := by omega
      have q : (a.sz : Int) ≤ left := by rw [hs] <;> push_cast <;> omega
      have q2 : left - (a.sz : Int) = left - ((szL SParam.sz (a.Params) : Nat) : Int) - (((a.Result).sz : Nat) : Int) := by rw [hs] <;> push_cast <;> omega
      rw [if_pos q, q2]; simp [e0, n0, e1, n1]
    · rw [if_neg c1] at e1
      have q : ¬ ((a.sz : Int) ≤ left) := by rw [hs] <;> push_cast <;> omega
      rw [if_neg q]; simp [e0, n0, e1]
  · rw [if_neg c0] at e0
    have q : ¬ ((a.sz : Int) ≤ left) := by rw [hs] <;> push_cast <;> omega
    rw [if_neg q]; simp [e0]
theorem to_FuncType (a : SFuncType) (h : a.sz ≤ 1048576) : M.l_toFuncType a = some a := by
  unfold M.l_toFuncType
  have hs := SFuncType.sz_eq a
  try simp only [SType.re_eq, SParam.re_eq, SFuncType.re_eq, SFunc.re_eq]
  have e0 := toS_Param (a.Params) (by omega)
  have e1 := to_Type (a.Result) (by omega)
  try simp [e0, e1]
theorem eq_FuncType (a : SFuncType) (h : a.sz ≤ 1048576) : M.l_eqFuncType a a = some true := by
  unfold M.l_eqFuncType
  have hs := SFuncType.sz_eq a
  try simp only [SType.re_eq, SParam.re_eq, SFuncType.re_eq, SFunc.re_eq]
  have e0 := eqS_Param (a.Params) (by omega)
  have e1 := eq_Type (a.Result) (by omega)
  try simp [e0, e1]
theorem sz_Func (a : SFunc) (left : Int) (ok : a.Ok) (h0 : 0 ≤ left) (h1 : left ≤ 1048576) : M.l_szFunc a left = some (if (a.sz : Int) ≤ left then left - a.sz else -1) := by
  unfold M.l_szFunc
  have hs := SFunc.sz_eq a
  have ok1 := (SFunc.ok_eq a).1 ok
  try simp only [SType.re_eq, SParam.re_eq, SFuncType.re_eq, SFunc.re_eq]
  have e0 : Go.IntKind.wrap .i64 (left - ((a.Name).length : Int)) = left - ((a.Name).length : Int) := wrap_i64 (by have := ok1.1; unfold StrOk at this; omega) (by omega)
  by_cases c0 : (((a.Name).length : Nat) : Int) ≤ left
  · skip
    have n0 : ¬ (left - (((a.Name).length : Nat) : Int) < 0) := by omega
    have e1 := sz_FuncType (a.Type_) (left - (((a.Name).length : Nat) : Int)) ok1.2.1 (by omega) (by omega)
    by_cases c1 : (((a.Type_).sz : Nat) : Int) ≤ left - (((a.Name).length : Nat) : Int)
    · rw [if_pos c1] at e1
      have n1 : ¬ (left - (((a.Name).length : Nat) : Int) - (((a.Type_).sz : Nat) : Int) < 0) := by omega
      have q : (a.sz : Int) ≤ left := by rw [hs] <;> push_cast <;> omega
      have q2 : left - (a.sz : Int) = left - (((a.Name).length : Nat) : Int) - (((a.Type_).sz : Nat) : Int) := by rw [hs] <;> push_cast <;> omega
      rw [if_pos q, q2]; simp [e0, n0, e1, n1]
    · rw [if_neg c1] at e1
      have q : ¬ ((a.sz : Int) ≤ left) := by rw [hs] <;> push_cast <;> omega
      rw [if_neg q]; simp [e0, n0, e1]
  · have n0 : left - (((a.Name).length : Nat) : Int) < 0 := by omega
    have q : ¬ ((a.sz : Int) ≤ left) := by rw [hs] <;> push_cast <;> omega
    rw [if_neg q]; simp [e0, n0]
theorem to_Func (a : SFunc) (h : a.sz ≤ 1048576) : M.l_toFunc a = some a := by
  unfold M.l_toFunc
  have hs := SFunc.sz_eq a
  try simp only [SType.re_eq, SParam.re_eq, SFuncType.re_eq, SFunc.re_eq]
  have e1 := to_FuncType (a.Type_) (by omega)
  try simp [e1]
theorem eq_Func (a : SFunc) (h : a.sz ≤ 1048576) : M.l_eqFunc a a = some true := by
  unfold M.l_eqFunc
  have hs := SFunc.sz_eq a
  try simp only [SType.re_eq, SParam.re_eq, SFuncType.re_eq, SFunc.re_eq]
  have e1 := eq_FuncType (a.Type_) (by omega)
  try simp [e1]
theorem szS_Func (a : List SFunc) (left : Int) (ok : LOk SFunc.Ok a) (h0 : 0 ≤ left) (h1 : left ≤ 1048576) : M.l_szFuncS a left = some (if (szL SFunc.sz a : Int) ≤ left then left - szL SFunc.sz a else -1) := by
  have hl := ok.1
  unfold M.l_szFuncS
  rw [wrap_i64 (by omega) (by omega)]
  refine szS_of (f := SFunc.sz) (F := M.l_szFuncS_l0  a) a left h0 h1 (fun g k l h2 h3 hk => ?_) (fun g l => ?_)
  · have hn : k < 2 ^ 62 := by omega
    rw [M.l_szFuncS_l0]
    have e := sz_Func a[k] l (ok.2 _ (List.getElem_mem hk)) h2 (by omega)
    by_cases d : ((SFunc.sz a[k] : Nat) : Int) ≤ l
    · have n : ¬ (l - ((SFunc.sz a[k] : Nat) : Int) < 0) := by omega
      rw [if_pos d] at e ⊢; simp [hk, getD_lt hk, e, n, wrapk hk (show a.length < 2 ^ 62 by omega), SType.re_eq, SParam.re_eq, SFuncType.re_eq, SFunc.re_eq]
    · rw [if_neg d] at e ⊢; simp [hk, getD_lt hk, e, SType.re_eq, SParam.re_eq, SFuncType.re_eq, SFunc.re_eq]
  · rw [M.l_szFuncS_l0]; simp
theorem toS_Func (a : List SFunc) (ha : szL SFunc.sz a ≤ 1048576) : M.l_toFuncS a = some a := by
  have hl := szL_len SFunc.sz a
  have hn : a.length ≤ 1048576 := by omega
  have hi : (a.length : Int) ≤ 1073741824 := by omega
  have q : ∀ z, z.length = a.length → M.l_toFuncS_l0  a Go.V.bigN 0 z = some a := copy_loop (F := M.l_toFuncS_l0  a) a (by omega) (fun f k out h1 h2 hk => by
    rw [M.l_toFuncS_l0]
    have e := to_Func a[k] (by have := szL_mem SFunc.sz a a[k] (List.getElem_mem hk); omega)
    simp [hk, h2, getD_lt hk, e, wrapk hk (big_of hn), SType.re_eq, SParam.re_eq, SFuncType.re_eq, SFunc.re_eq]) (fun f out => by rw [M.l_toFuncS_l0]; simp)
  unfold M.l_toFuncS
  rw [q _ (by simp)]
  simp [hi]
theorem eqS_Func (a : List SFunc) (ha : szL SFunc.sz a ≤ 1048576) : M.l_eqFuncS a a = some true := by
  have hl := szL_len SFunc.sz a
  have hn : a.length ≤ 1048576 := by omega
  unfold M.l_eqFuncS
  refine eq_all (F := M.l_eqFuncS_l0  a a) a hn (fun f k hk => ?_) (fun f => ?_)
  · rw [M.l_eqFuncS_l0]
    have e := eq_Func a[k] (by have := szL_mem SFunc.sz a a[k] (List.getElem_mem hk); omega)
    simp [hk, getD_lt hk, e, wrapk hk (big_of hn), SType.re_eq, SParam.re_eq, SFuncType.re_eq, SFunc.re_eq]
  · rw [M.l_eqFuncS_l0]; simp
theorem sz_Face (a : SFace) (left : Int) (ok : a.Ok) (h0 : 0 ≤ left) (h1 : left ≤ 1048576) : M.l_szFace a left = some (if (a.sz : Int) ≤ left then left - a.sz else -1) := by
  unfold M.l_szFace
  have hs := SFace.sz_eq a
  have ok1 := (SFace.ok_eq a).1 ok
  try simp only [SType.re_eq, SParam.re_eq, SFuncType.re_eq, SFunc.re_eq]
  have e0 : Go.IntKind.wrap .i64 (left - ((a.Package).length : Int)) = left - ((a.Package).length : Int) := wrap_i64 (by have := ok1.1; unfold StrOk at this; omega) (by omega)
  by_cases c0 : (((a.Package).length : Nat) : Int) ≤ left
  · skip
    have n0 : ¬ (left - (((a.Package).length : Nat) : Int) < 0) := by omega
    have e1 : Go.IntKind.wrap .i64 (left - (((a.Package).length : Nat) : Int) - ((a.Name).length : Int)) = left - (((a.Package).length : Nat) : Int) - ((a.Name).length : Int) := wrap_i64 (by have := ok1.2.1; unfold StrOk at this; omega) (by omega)
    by_cases c1 : (((a.Name).length : Nat) : Int) ≤ left - (((a.Package).length : Nat) : Int)
    · skip
      have n1 : ¬ (left - (((a.Package).length : Nat) : Int) - (((a.Name).length : Nat) : Int) < 0) := by omega
      have e2 : Go.IntKind.wrap .i64 (left - (((a.Package).length : Nat) : Int) - (((a.Name).length : Nat) : Int) - ((a.Version).length : Int)) = left - (((a.Package).length : Nat) : Int) - (((a.Name).length : Nat) : Int) - ((a.Version).length : Int) := wrap_i64 (by have := ok1.2.2.1; unfold StrOk at this; omega) (by omega)
      by_cases c2 : (((a.Version).length : Nat) : Int) ≤ left - (((a.Package).length : Nat) : Int) - (((a.Name).length : Nat) : Int)
      · skip
        have n2 : ¬ (left - (((a.Package).length : Nat) : Int) - (((a.Name).length : Nat) : Int) - (((a.Version).length : Nat) : Int) < 0) := by omega
        have e3 := szS_String (a.Resources) (left - (((a.Package).length : Nat) : Int) - (((a.Name).length : Nat) : Int) - (((a.Version).length : Nat) : Int)) ok1.2.2.2.1 (by omega) (by omega)
        by_cases c3 : ((szL List.length (a.Resources) : Nat) : Int) ≤ left - (((a.Package).length : Nat) : Int) - (((a.Name).length : Nat) : Int) - (((a.Version).length : Nat) : Int)
        · rw [if_pos c3] at e3
          have n3 : ¬ (left - (((a.Package).length : Nat) : Int) - (((a.Name).length : Nat) : Int) - (((a.Version).length : Nat) : Int) - ((szL List.length (a.Resources) : Nat) : Int) < 0) := by omega
          have e4 := szS_Func (a.Funcs) (left - (((a.Package).length : Nat) : Int) - (((a.Name).length : Nat) : Int) - (((a.Version).length : Nat) : Int) - ((szL List.length (a.Resources) : Nat) : Int)) ok1.2.2.2.2.1 (by omega) (by omega)
          by_cases c4 : ((szL SFunc.sz (a.Funcs) : Nat) : Int) ≤ left - (((a.Package).length : Nat) : Int) - (((a.Name).length : Nat) : Int) - (((a.Version).length : Nat) : Int) - ((szL List.length (a.Resources) : Nat) : Int)
          · rw [if_pos c4] at e4
            have n4 : ¬ (left - (((a.Package).length : Nat) : Int) - (((a.Name).length : Nat) : Int) - (((a.Version).length : Nat) : Int) - ((szL List.length (a.Resources) : Nat) : Int) - ((szL SFunc.sz (a.Funcs) : Nat) : Int) < 0) := by omega
            have q : (a.sz : Int) ≤ left := by rw [hs] <;> push_cast <;> omega
            have q2 : left - (a.sz : Int) = left - (((a.Package).length : Nat) : Int) - (((a.Name).length : Nat) : Int) - (((a.Version).length : Nat) : Int) - ((szL List.length (a.Resources) : Nat) : Int) - ((szL SFunc.sz (a.Funcs) : Nat) : Int) := by rw [hs] <;> push_cast <;> omega
            rw [if_pos q, q2]; simp [e0, n0, e1, n1, e2, n2, e3, n3, e4, n4]
          · rw [if_neg c4] at e4
            have q : ¬ ((a.sz : Int) ≤ left) := by rw [hs] <;> push_cast <;> omega
            rw [if_neg q]; simp [e0, n0, e1, n1, e2, n2, e3, n3, e4]
        · rw [if_neg c3] at e3
          have q : ¬ ((a.sz : Int) ≤ left) := by rw [hs] <;> push_cast <;> omega
          rw [if_neg q]; simp [e0, n0, e1, n1, e2, n2, e3]
      · have n2 : left - (((a.Package).length : Nat) : Int) - (((a.Name).length : Nat) : Int) - (((a.Version).length : Nat) : Int) < 0 := by omega
        have q : ¬ ((a.sz : Int) ≤ left) := by rw [hs] <;> push_cast <;> omega
        rw [if_neg q]; simp [e0, n0, e1, n1, e2, n2]
    · have n1 : left - (((a.Package).length : Nat) : Int) - (((a.Name).length : Nat) : Int) < 0 := by omega
      have q : ¬ ((a.sz : Int) ≤ left) := by rw [hs] <;> push_cast <;> omega
      rw [if_neg q]; simp [e0, n0, e1, n1]
  · have n0 : left - (((a.Package).length : Nat) : Int) < 0 := by omega
    have q : ¬ ((a.sz : Int) ≤ left) := by rw [hs] <;> push_cast <;> omega
    rw [if_neg q]; simp [e0, n0]
theorem to_Face (a : SFace) (h : a.sz ≤ 1048576) : M.l_toFace a = some a := by
  unfold M.l_toFace
  have hs := SFace.sz_eq a
  try simp only [SType.re_eq, SParam.re_eq, SFuncType.re_eq, SFunc.re_eq]
  have e3 := toS_String (a.Resources) (by omega)
  have e4 := toS_Func (a.Funcs) (by omega)
  try simp [e3, e4]
theorem eq_Face (a : SFace) (h : a.sz ≤ 1048576) : M.l_eqFace a a = some true := by
  unfold M.l_eqFace
  have hs := SFace.sz_eq a
  try simp only [SType.re_eq, SParam.re_eq, SFuncType.re_eq, SFunc.re_eq]
  have e3 := eqS_String (a.Resources) (by omega)
  have e4 := eqS_Func (a.Funcs) (by omega)
  try simp [e3, e4]
theorem szS_Face (a : List SFace) (left : Int) (ok : LOk SFace.Ok a) (h0 : 0 ≤ left) (h1 : left ≤ 1048576) : M.l_szFaceS a left = some (if (szL SFace.sz a : Int) ≤ left then left - szL SFace.sz a else -1) := by
  have hl := ok.1
  unfold M.l_szFaceS
  rw [wrap_i64 (by omega) (by omega)]
  refine szS_of (f := SFace.sz) (F := M.l_szFaceS_l0  a) a left h0 h1 (fun g k l h2 h3 hk => ?_) (fun g l => ?_)
  · have hn : k < 2 ^ 62 := by omega
    rw [M.l_szFaceS_l0]
    have e := sz_Face a[k] l (ok.2 _ (List.getElem_mem hk)) h2 (by omega)
    by_cases d : ((SFace.sz a[k] : Nat) : Int) ≤ l
    · have n : ¬ (l - ((SFace.sz a[k] : Nat) : Int) < 0) := by omega
      rw [if_pos d] at e ⊢; simp [hk, getD_lt hk, e, n, wrapk hk (show a.length < 2 ^ 62 by omega), SType.re_eq, SParam.re_eq, SFuncType.re_eq, SFunc.re_eq]
    · rw [if_neg d] at e ⊢; simp [hk, getD_lt hk, e, SType.re_eq, SParam.re_eq, SFuncType.re_eq, SFunc.re_eq]
  · rw [M.l_szFaceS_l0]; simp
theorem toS_Face (a : List SFace) (ha : szL SFace.sz a ≤ 1048576) : M.l_toFaceS a = some a := by
  have hl := szL_len SFace.sz a
  have hn : a.length ≤ 1048576 := by omega
  have hi : (a.length : Int) ≤ 1073741824 := by omega
  have q : ∀ z, z.length = a.length → M.l_toFaceS_l0  a Go.V.bigN 0 z = some a := copy_loop (F := M.l_toFaceS_l0  a) a (by omega) (fun f k out h1 h2 hk => by
    rw [M.l_toFaceS_l0]
    have e := to_Face a[k] (by have := szL_mem SFace.sz a a[k] (List.getElem_mem hk); omega)
    simp [hk, h2, getD_lt hk, e, wrapk hk (big_of hn), SType.re_eq, SParam.re_eq, SFuncType.re_eq, SFunc.re_eq]) (fun f out => by rw [M.l_toFaceS_l0]; simp)
  unfold M.l_toFaceS
  rw [q _ (by simp)]
  simp [hi]
end M
