/-
  Part of the proof of the claim.
-/
import Derived.Test.YtjlkjnhhpmoenaaGreatDoorXLSM
import Derived.Test.YtjlkjnhhpmoenaaGreatDoorXQlaw
import Derived.Test.YtjlkjnhhpmoenaaGreatDoorXQpl

set_option linter.unusedVariables false
set_option linter.unusedSimpArgs false
namespace M
def StrOk (s : List UInt8) : Prop := s.length ≤ 9223372036854775807
def LOk {α : Type} (p : α → Prop) (l : List α) : Prop := l.length ≤ 9223372036854775807 ∧ ∀ x ∈ l, p x
mutual
def SType.sz : SType → Nat
  | .mk v0 v1 v2 v3 => (v1).length + szL List.length (v2) + SType.szs v3
def SType.szs : List SType → Nat
  | [] => 0
  | t :: r => SType.sz t + 1 + SType.szs r
end
theorem SType.szs_eq : ∀ l : List SType, SType.szs l = szL SType.sz l
  | [] => rfl
  | t :: r => by simp only [SType.szs, szL, SType.szs_eq r]
theorem SType.sz_eq (a : SType) : a.sz = (a.Name).length + szL List.length (a.Labels) + szL SType.sz (a.Kids) := by cases a; simp only [SType.sz, SType.szs_eq]; rfl
mutual
def SType.Ok : SType → Prop
  | .mk v0 v1 v2 v3 => I64 (v0) ∧ StrOk (v1) ∧ LOk StrOk (v2) ∧ (v3.length ≤ 9223372036854775807 ∧ SType.Oks v3) ∧ True
def SType.Oks : List SType → Prop
  | [] => True
  | t :: r => SType.Ok t ∧ SType.Oks r
end
theorem SType.oks_iff : ∀ l : List SType, SType.Oks l ↔ ∀ x ∈ l, SType.Ok x
  | [] => by simp [SType.Oks]
  | t :: r => by simp [SType.Oks, SType.oks_iff r]
theorem SType.ok_eq (a : SType) : a.Ok ↔ (I64 (a.Kind) ∧ StrOk (a.Name) ∧ LOk StrOk (a.Labels) ∧ LOk SType.Ok (a.Kids) ∧ True) := by
  cases a; simp only [SType.Ok, SType.oks_iff, LOk]; exact Iff.rfl
mutual
def SValue.sz : SValue → Nat
  | .mk v0 v1 v2 v3 => (v2).length + SValue.szs v3
def SValue.szs : List SValue → Nat
  | [] => 0
  | t :: r => SValue.sz t + 1 + SValue.szs r
end
theorem SValue.szs_eq : ∀ l : List SValue, SValue.szs l = szL SValue.sz l
  | [] => rfl
  | t :: r => by simp only [SValue.szs, szL, SValue.szs_eq r]
theorem SValue.sz_eq (a : SValue) : a.sz = (a.Text).length + szL SValue.sz (a.Kids) := by cases a; simp only [SValue.sz, SValue.szs_eq]; rfl
mutual
def SValue.Ok : SValue → Prop
  | .mk v0 v1 v2 v3 => I64 (v0) ∧ I64 (v1) ∧ StrOk (v2) ∧ (v3.length ≤ 9223372036854775807 ∧ SValue.Oks v3) ∧ True
def SValue.Oks : List SValue → Prop
  | [] => True
  | t :: r => SValue.Ok t ∧ SValue.Oks r
end
theorem SValue.oks_iff : ∀ l : List SValue, SValue.Oks l ↔ ∀ x ∈ l, SValue.Ok x
  | [] => by simp [SValue.Oks]
  | t :: r => by simp [SValue.Oks, SValue.oks_iff r]
theorem SValue.ok_eq (a : SValue) : a.Ok ↔ (I64 (a.Kind) ∧ I64 (a.Num) ∧ StrOk (a.Text) ∧ LOk SValue.Ok (a.Kids) ∧ True) := by
  cases a; simp only [SValue.Ok, SValue.oks_iff, LOk]; exact Iff.rfl
def SStream.sz (a : SStream) : Nat := (a.Type_).sz + szL SValue.sz (a.Buffer)
theorem SStream.sz_eq (a : SStream) : a.sz = (a.Type_).sz + szL SValue.sz (a.Buffer) := rfl
def SStream.Ok (a : SStream) : Prop := SType.Ok (a.Type_) ∧ I64 (a.Room) ∧ True ∧ LOk SValue.Ok (a.Buffer) ∧ I64 (a.Put) ∧ I64 (a.Got) ∧ True ∧ True ∧ True
theorem SStream.ok_eq (a : SStream) : a.Ok ↔ (SType.Ok (a.Type_) ∧ I64 (a.Room) ∧ True ∧ LOk SValue.Ok (a.Buffer) ∧ I64 (a.Put) ∧ I64 (a.Got) ∧ True ∧ True ∧ True) := Iff.rfl
def SStreamAct.sz (a : SStreamAct) : Nat := 0
theorem SStreamAct.sz_eq (a : SStreamAct) : a.sz = 0 := rfl
def SStreamAct.Ok (a : SStreamAct) : Prop := True ∧ True ∧ I64 (a.Many) ∧ True
theorem SStreamAct.ok_eq (a : SStreamAct) : a.Ok ↔ (True ∧ True ∧ I64 (a.Many) ∧ True) := Iff.rfl
mutual
theorem SType.ok_of : ∀ (a : SType), (∀ m, Go.V.ValE m .Type a) → a.Ok
  | .mk v0 v1 v2 v3, h => by
    simp only [SType.Ok]
    exact ⟨(h 0).1, (h 0).2.1, ⟨((h 0).2.2.1).1, fun y hy => ((fun m => ((h (m + 1)).2.2.1).2 y hy) 0).1⟩, ⟨((h 0).2.2.2.1).1, (SType.oks_of _ fun y hy m => ((h (m + 1)).2.2.2.1).2 y hy)⟩, trivial⟩
theorem SType.oks_of : ∀ (l : List SType), (∀ y ∈ l, ∀ m, Go.V.ValE m .Type y) → SType.Oks l
  | [], _ => by simp only [SType.Oks]
  | t :: r, h => by
    simp only [SType.Oks]
    exact ⟨SType.ok_of t (h t (by simp)), SType.oks_of r fun y hy => h y (by simp [hy])⟩
end
mutual
theorem SValue.ok_of : ∀ (a : SValue), (∀ m, Go.V.ValE m .Value a) → a.Ok
  | .mk v0 v1 v2 v3, h => by
    simp only [SValue.Ok]
    exact ⟨(h 0).1, (h 0).2.1, (h 0).2.2.1, ⟨((h 0).2.2.2.1).1, (SValue.oks_of _ fun y hy m => ((h (m + 1)).2.2.2.1).2 y hy)⟩, trivial⟩
theorem SValue.oks_of : ∀ (l : List SValue), (∀ y ∈ l, ∀ m, Go.V.ValE m .Value y) → SValue.Oks l
  | [], _ => by simp only [SValue.Oks]
  | t :: r, h => by
    simp only [SValue.Oks]
    exact ⟨SValue.ok_of t (h t (by simp)), SValue.oks_of r fun y hy => h y (by simp [hy])⟩
end
theorem SStream.ok_of (a : SStream) (h : ∀ m, Go.V.ValE m .Stream a) : a.Ok := ⟨(SType.ok_of (a.Type_) (fun m => by cases m with | zero => exact ⟨(h 0).1, (h 0).2.1, (h 0).2.2.1, (h 0).2.2.2.1, trivial⟩ | succ m => exact ⟨(h (m + 1)).1, (h (m + 1)).2.1, (h (m + 1)).2.2.1, (h (m + 1)).2.2.2.1, trivial⟩)), (h 0).2.2.2.2.1, trivial, ⟨((h 0).2.2.2.2.2.2.1).1, fun y hy => SValue.ok_of y (fun m => ((h (m + 1)).2.2.2.2.2.2.1).2 y hy)⟩, (h 0).2.2.2.2.2.2.2.1, (h 0).2.2.2.2.2.2.2.2.1, trivial, trivial, trivial⟩
theorem SStreamAct.ok_of (a : SStreamAct) (h : ∀ m, Go.V.ValE m .StreamAct a) : a.Ok := ⟨trivial, trivial, (h 0).2.2.1, trivial⟩
theorem szS_String (a : List (List UInt8)) (left : Int) (ok : LOk StrOk a) (h0 : 0 ≤ left) (h1 : left ≤ 1048576) : M.l_szStringS a left = some (if (szL List.length a : Int) ≤ left then left - szL List.length a else -1) := by
  have hl := ok.1
  unfold M.l_szStringS
  rw [wrap_i64 (by omega) (by omega)]
  refine szS_of (f := List.length) (F := M.l_szStringS_l0  a) a left h0 h1 (fun g k l h2 h3 hk => ?_) (fun g l => ?_)
  · have hn : k < 2 ^ 62 := by omega
    rw [M.l_szStringS_l0]
    have w : Go.IntKind.wrap .i64 (l - ((a[k]).length : Int)) = l - (a[k]).length := wrap_i64 (by have := ok.2 a[k] (List.getElem_mem hk); unfold StrOk at this; omega) (by omega)
    by_cases d : ((a[k]).length : Int) ≤ l
    · have n : ¬ (l - ((a[k]).length : Int) < 0) := by omega
      rw [if_pos d]; simp [hk, getD_lt hk, w, n, wrapk hk (show a.length < 2 ^ 62 by omega)]
    · have n : l - ((a[k]).length : Int) < 0 := by omega
      rw [if_neg d]; simp [hk, getD_lt hk, w, n]
  · rw [M.l_szStringS_l0]; simp
theorem toS_String (a : List (List UInt8)) (ha : szL List.length a ≤ 1048576) : M.l_toStringS a = some a := by
  have hl := szL_len List.length a
  have hn : a.length ≤ 1048576 := by omega
  have hi : (a.length : Int) ≤ 1073741824 := by omega
  have q : ∀ z, z.length = a.length → M.l_toStringS_l0  a Go.V.bigN 0 z = some a := copy_loop (F := M.l_toStringS_l0  a) a (by omega) (fun f k out h1 h2 hk => by
    rw [M.l_toStringS_l0]
    simp [hk, h2, getD_lt hk, wrapk hk (big_of hn)]) (fun f out => by rw [M.l_toStringS_l0]; simp)
  unfold M.l_toStringS
  rw [q _ (by simp)]
  simp [hi]
theorem eqS_String (a : List (List UInt8)) (ha : szL List.length a ≤ 1048576) : M.l_eqStringS a a = some true := by
  have hl := szL_len List.length a
  have hn : a.length ≤ 1048576 := by omega
  unfold M.l_eqStringS
  refine eq_all (F := M.l_eqStringS_l0  a a) a hn (fun f k hk => ?_) (fun f => ?_)
  · rw [M.l_eqStringS_l0]
    simp [hk, getD_lt hk, wrapk hk (big_of hn)]
  · rw [M.l_eqStringS_l0]; simp
theorem szS_Type_r (r : SType → Int → Option Int) (a : List SType) (left : Int) (ok : LOk SType.Ok a) (h0 : 0 ≤ left) (h1 : left ≤ 1048576) (hr : ∀ x l, x ∈ a → 0 ≤ l → l < left → r x l = some (if (x.sz : Int) ≤ l then l - x.sz else -1)) : M.l_szTypeS r a left = some (if (szL SType.sz a : Int) ≤ left then left - szL SType.sz a else -1) := by
  have hl := ok.1
  unfold M.l_szTypeS
  rw [wrap_i64 (by omega) (by omega)]
  refine szS_of (f := SType.sz) (F := M.l_szTypeS_l0 r  a) a left h0 h1 (fun g k l h2 h3 hk => ?_) (fun g l => ?_)
  · have hn : k < 2 ^ 62 := by omega
    rw [M.l_szTypeS_l0]
    have e := hr a[k] l (List.getElem_mem hk) h2 (by omega)
    by_cases d : ((SType.sz a[k] : Nat) : Int) ≤ l
    · have n : ¬ (l - ((SType.sz a[k] : Nat) : Int) < 0) := by omega
      rw [if_pos d] at e ⊢; simp [hk, getD_lt hk, e, n, wrapk hk (show a.length < 2 ^ 62 by omega), SType.re_eq, SValue.re_eq, SStream.re_eq]
    · rw [if_neg d] at e ⊢; simp [hk, getD_lt hk, e, SType.re_eq, SValue.re_eq, SStream.re_eq]
  · rw [M.l_szTypeS_l0]; simp
theorem toS_Type_r (r : SType → Option (Int × (List UInt8) × (List (List UInt8)) × (List SType))) (a : List SType) (ha : a.length ≤ 1048576) (hr : ∀ x ∈ a, r x = some (x.Kind, x.Name, x.Labels, x.Kids)) : M.l_toTypeS r a = some a := by
  have hn : a.length ≤ 1048576 := by omega
  have hi : (a.length : Int) ≤ 1073741824 := by omega
  have q : ∀ z, z.length = a.length → M.l_toTypeS_l0 r  a Go.V.bigN 0 z = some a := copy_loop (F := M.l_toTypeS_l0 r  a) a (by omega) (fun f k out h1 h2 hk => by
    rw [M.l_toTypeS_l0]
    have e := hr a[k] (List.getElem_mem hk)
    simp [hk, h2, getD_lt hk, e, wrapk hk (big_of hn), SType.re_eq, SValue.re_eq, SStream.re_eq, SType.eta]) (fun f out => by rw [M.l_toTypeS_l0]; simp)
  unfold M.l_toTypeS
  rw [q _ (by simp)]
  simp [hi]
theorem eqS_Type_r (r : SType → SType → Option Bool) (a : List SType) (ha : a.length ≤ 1048576) (hr : ∀ x ∈ a, r x x = some true) : M.l_eqTypeS r a a = some true := by
  have hn : a.length ≤ 1048576 := by omega
  unfold M.l_eqTypeS
  refine eq_all (F := M.l_eqTypeS_l0 r  a a) a hn (fun f k hk => ?_) (fun f => ?_)
  · rw [M.l_eqTypeS_l0]
    have e := hr a[k] (List.getElem_mem hk)
    simp [hk, getD_lt hk, e, wrapk hk (big_of hn), SType.re_eq, SValue.re_eq, SStream.re_eq]
  · rw [M.l_eqTypeS_l0]; simp
theorem sz_Type_n : ∀ (n : Nat) (a : SType) (left : Int), a.Ok → 0 ≤ left → left < n → left ≤ 1048576 → M.l_szType_n n a left = some (if (a.sz : Int) ≤ left then left - a.sz else -1)
  | 0, a, left, ok, h0, h2, h1 => by omega
  | n + 1, a, left, ok, h0, h2, h1 => by
    show M.l_szType_b (M.l_szType_n n) a left = _
    unfold M.l_szType_b
    have hs := SType.sz_eq a
    have ok1 := (SType.ok_eq a).1 ok
    try simp only [SType.re_eq, SValue.re_eq, SStream.re_eq]
    have e0 : Go.IntKind.wrap .i64 (left - ((a.Name).length : Int)) = left - ((a.Name).length : Int) := wrap_i64 (by have := ok1.2.1; unfold StrOk at this; omega) (by omega)
    by_cases c0 : (((a.Name).length : Nat) : Int) ≤ left
    · skip
      have n0 : ¬ (left - (((a.Name).length : Nat) : Int) < 0) := by omega
      have e1 := szS_String (a.Labels) (left - (((a.Name).length : Nat) : Int)) ok1.2.2.1 (by omega) (by omega)
      by_cases c1 : ((szL List.length (a.Labels) : Nat) : Int) ≤ left - (((a.Name).length : Nat) : Int)
      · rw [if_pos c1] at e1
        have n1 : ¬ (left - (((a.Name).length : Nat) : Int) - ((szL List.length (a.Labels) : Nat) : Int) < 0) := by omega
        have e2 := szS_Type_r (M.l_szType_n n) (a.Kids) (left - (((a.Name).length : Nat) : Int) - ((szL List.length (a.Labels) : Nat) : Int)) ok1.2.2.2.1 (by omega) (by omega) (fun x l hx q0 q1 => sz_Type_n n x l ((ok1.2.2.2.1).2 x hx) q0 (by omega) (by omega))
        by_cases c2 : ((szL SType.sz (a.Kids) : Nat) : Int) ≤ left - (((a.Name).length : Nat) : Int) - ((szL List.length (a.Labels) : Nat) : Int)
        · rw [if_pos c2] at e2
          have n2 : ¬ (left - (((a.Name).length : Nat) : Int) - ((szL List.length (a.Labels) : Nat) : Int) - ((szL SType.sz (a.Kids) : Nat) : Int) < 0) := by omega
          have q : (a.sz : Int) ≤ left := by rw [hs] <;> push_cast <;> omega
          have q2 : left - (a.sz : Int) = left - (((a.Name).length : Nat) : Int) - ((szL List.length (a.Labels) : Nat) : Int) - ((szL SType.sz (a.Kids) : Nat) : Int) := by rw [hs] <;> push_cast <;> omega
          rw [if_pos q, q2]; simp [e0, n0, e1, n1, e2, n2]
        · rw [if_neg c2] at e2
          have q : ¬ ((a.sz : Int) ≤ left) := by rw [hs] <;> push_cast <;> omega
          rw [if_neg q]; simp [e0, n0, e1, n1, e2]
      · rw [if_neg c1] at e1
        have q : ¬ ((a.sz : Int) ≤ left) := by rw [hs] <;> push_cast <;> omega
        rw [if_neg q]; simp [e0, n0, e1]
    · have n0 : left - (((a.Name).length : Nat) : Int) < 0 := by omega
      have q : ¬ ((a.sz : Int) ≤ left) := by rw [hs] <;> push_cast <;> omega
      rw [if_neg q]; simp [e0, n0]
theorem sz_Type (a : SType) (left : Int) (ok : a.Ok) (h0 : 0 ≤ left) (h1 : left ≤ 1048576) : M.l_szType a left = some (if (a.sz : Int) ≤ left then left - a.sz else -1) :=
  sz_Type_n _ a left ok h0 (by have := Go.V.bigN_le; omega) h1
theorem to_Type_n : ∀ (n : Nat) (a : SType), a.sz < n → a.sz ≤ 1048576 → M.l_toType_n n a = some (a.Kind, a.Name, a.Labels, a.Kids)
  | 0, a, h2, h => by omega
  | n + 1, a, h2, h => by
    show M.l_toType_b (M.l_toType_n n) a = _
    unfold M.l_toType_b
    have hs := SType.sz_eq a
    try simp only [SType.re_eq, SValue.re_eq, SStream.re_eq]
    have e2 := toS_String (a.Labels) (by omega)
    have hk3 := szL_len SType.sz (a.Kids)
    have e3 := toS_Type_r (M.l_toType_n n) (a.Kids) (by omega) (fun x hx => to_Type_n n x (by have := szL_mem SType.sz (a.Kids) x hx; have := szL_pos SType.sz (a.Kids) x hx; omega) (by have := szL_mem SType.sz (a.Kids) x hx; omega))
    try simp [e2, e3, SType.eta]
theorem to_Type (a : SType) (h : a.sz ≤ 1048576) : M.l_toType a = some (a.Kind, a.Name, a.Labels, a.Kids) :=
  to_Type_n _ a (by have := Go.V.bigN_le; omega) h
theorem eq_Type_n : ∀ (n : Nat) (a : SType), a.sz < n → a.sz ≤ 1048576 → M.l_eqType_n n a a = some true
  | 0, a, h2, h => by omega
  | n + 1, a, h2, h => by
    show M.l_eqType_b (M.l_eqType_n n) a a = _
    unfold M.l_eqType_b
    have hs := SType.sz_eq a
    try simp only [SType.re_eq, SValue.re_eq, SStream.re_eq]
    have e2 := eqS_String (a.Labels) (by omega)
    have hk3 := szL_len SType.sz (a.Kids)
    have e3 := eqS_Type_r (M.l_eqType_n n) (a.Kids) (by omega) (fun x hx => eq_Type_n n x (by have := szL_mem SType.sz (a.Kids) x hx; have := szL_pos SType.sz (a.Kids) x hx; omega) (by have := szL_mem SType.sz (a.Kids) x hx; omega))
    try simp [e2, e3, SType.eta]
theorem eq_Type (a : SType) (h : a.sz ≤ 1048576) : M.l_eqType a a = some true :=
  eq_Type_n _ a (by have := Go.V.bigN_le; omega) h
theorem szS_Value_r (r : SValue → Int → Option Int) (a : List SValue) (left : Int) (ok : LOk SValue.Ok a) (h0 : 0 ≤ left) (h1 : left ≤ 1048576) (hr : ∀ x l, x ∈ a → 0 ≤ l → l < left → r x l = some (if (x.sz : Int) ≤ l then l - x.sz else -1)) : M.l_szValueS r a left = some (if (szL SValue.sz a : Int) ≤ left then left - szL SValue.sz a else -1) := by
  have hl := ok.1
  unfold M.l_szValueS
  rw [wrap_i64 (by omega) (by omega)]
  refine szS_of (f := SValue.sz) (F := M.l_szValueS_l0 r  a) a left h0 h1 (fun g k l h2 h3 hk => ?_) (fun g l => ?_)
  · have hn : k < 2 ^ 62 := by omega
    rw [M.l_szValueS_l0]
    have e := hr a[k] l (List.getElem_mem hk) h2 (by omega)
    by_cases d : ((SValue.sz a[k] : Nat) : Int) ≤ l
    · have n : ¬ (l - ((SValue.sz a[k] : Nat) : Int) < 0) := by omega
      rw [if_pos d] at e ⊢; simp [hk, getD_lt hk, e, n, wrapk hk (show a.length < 2 ^ 62 by omega), SType.re_eq, SValue.re_eq, SStream.re_eq]
    · rw [if_neg d] at e ⊢; simp [hk, getD_lt hk, e, SType.re_eq, SValue.re_eq, SStream.re_eq]
  · rw [M.l_szValueS_l0]; simp
theorem toS_Value_r (r : SValue → Option (Int × Int × (List UInt8) × (List SValue))) (a : List SValue) (ha : a.length ≤ 1048576) (hr : ∀ x ∈ a, r x = some (x.Kind, x.Num, x.Text, x.Kids)) : M.l_toValueS r a = some a := by
  have hn : a.length ≤ 1048576 := by omega
  have hi : (a.length : Int) ≤ 1073741824 := by omega
  have q : ∀ z, z.length = a.length → M.l_toValueS_l0 r  a Go.V.bigN 0 z = some a := copy_loop (F := M.l_toValueS_l0 r  a) a (by omega) (fun f k out h1 h2 hk => by
    rw [M.l_toValueS_l0]
    have e := hr a[k] (List.getElem_mem hk)
    simp [hk, h2, getD_lt hk, e, wrapk hk (big_of hn), SType.re_eq, SValue.re_eq, SStream.re_eq, SValue.eta]) (fun f out => by rw [M.l_toValueS_l0]; simp)
  unfold M.l_toValueS
  rw [q _ (by simp)]
  simp [hi]
theorem eqS_Value_r (r : SValue → SValue → Option Bool) (a : List SValue) (ha : a.length ≤ 1048576) (hr : ∀ x ∈ a, r x x = some true) : M.l_eqValueS r a a = some true := by
  have hn : a.length ≤ 1048576 := by omega
  unfold M.l_eqValueS
  refine eq_all (F := M.l_eqValueS_l0 r  a a) a hn (fun f k hk => ?_) (fun f => ?_)
  · rw [M.l_eqValueS_l0]
    have e := hr a[k] (List.getElem_mem hk)
    simp [hk, getD_lt hk, e, wrapk hk (big_of hn), SType.re_eq, SValue.re_eq, SStream.re_eq]
  · rw [M.l_eqValueS_l0]; simp
theorem sz_Value_n : ∀ (n : Nat) (a : SValue) (left : Int), a.Ok → 0 ≤ left → left < n → left ≤ 1048576 → M.l_szValue_n n a left = some (if (a.sz : Int) ≤ left then left - a.sz else -1)
  | 0, a, left, ok, h0, h2, h1 => by omega
  | n + 1, a, left, ok, h0, h2, h1 => by
    show M.l_szValue_b (M.l_szValue_n n) a left = _
    unfold M.l_szValue_b
    have hs := SValue.sz_eq a
    have ok1 := (SValue.ok_eq a).1 ok
    try simp only [SType.re_eq, SValue.re_eq, SStream.re_eq]
    have e0 : Go.IntKind.wrap .i64 (left - ((a.Text).length : Int)) = left - ((a.Text).length : Int) := wrap_i64 (by have := ok1.2.2.1; unfold StrOk at this; omega) (by omega)
    by_cases c0 : (((a.Text).length : Nat) : Int) ≤ left
    · skip
      have n0 : ¬ (left - (((a.Text).length : Nat) : Int) < 0) := by omega
      have e1 := szS_Value_r (M.l_szValue_n n) (a.Kids) (left - (((a.Text).length : Nat) : Int)) ok1.2.2.2.1 (by omega) (by omega) (fun x l hx q0 q1 => sz_Value_n n x l ((ok1.2.2.2.1).2 x hx) q0 (by omega) (by omega))
      by_cases c1 : ((szL SValue.sz (a.Kids) : Nat) : Int) ≤ left - (((a.Text).length : Nat) : Int)
      · rw [if_pos c1] at e1
        have n1 : ¬ (left - (((a.Text).length : Nat) : Int) - ((szL SValue.sz (a.Kids) : Nat) : Int) < 0) := by omega
        have q : (a.sz : Int) ≤ left := by rw [hs] <;> push_cast <;> omega
        have q2 : left - (a.sz : Int) = left - (((a.Text).length : Nat) : Int) - ((szL SValue.sz (a.Kids) : Nat) : Int) := by rw [hs] <;> push_cast <;> omega
        rw [if_pos q, q2]; simp [e0, n0, e1, n1]
      · rw [if_neg c1] at e1
        have q : ¬ ((a.sz : Int) ≤ left) := by rw [hs] <;> push_cast <;> omega
        rw [if_neg q]; simp [e0, n0, e1]
    · have n0 : left - (((a.Text).length : Nat) : Int) < 0 := by omega
      have q : ¬ ((a.sz : Int) ≤ left) := by rw [hs] <;> push_cast <;> omega
      rw [if_neg q]; simp [e0, n0]
theorem sz_Value (a : SValue) (left : Int) (ok : a.Ok) (h0 : 0 ≤ left) (h1 : left ≤ 1048576) : M.l_szValue a left = some (if (a.sz : Int) ≤ left then left - a.sz else -1) :=
  sz_Value_n _ a left ok h0 (by have := Go.V.bigN_le; omega) h1
theorem szS_Value (a : List SValue) (left : Int) (ok : LOk SValue.Ok a) (h0 : 0 ≤ left) (h1 : left ≤ 1048576) : M.l_szValueS M.l_szValue a left = some (if (szL SValue.sz a : Int) ≤ left then left - szL SValue.sz a else -1) :=
  szS_Value_r _ a left ok h0 h1 fun x l hx q0 q1 => sz_Value x l (ok.2 x hx) q0 (by omega)
theorem to_Value_n : ∀ (n : Nat) (a : SValue), a.sz < n → a.sz ≤ 1048576 → M.l_toValue_n n a = some (a.Kind, a.Num, a.Text, a.Kids)
  | 0, a, h2, h => by omega
  | n + 1, a, h2, h => by
    show M.l_toValue_b (M.l_toValue_n n) a = _
    unfold M.l_toValue_b
    have hs := SValue.sz_eq a
    try simp only [SType.re_eq, SValue.re_eq, SStream.re_eq]
    have hk3 := szL_len SValue.sz (a.Kids)
    have e3 := toS_Value_r (M.l_toValue_n n) (a.Kids) (by omega) (fun x hx => to_Value_n n x (by have := szL_mem SValue.sz (a.Kids) x hx; have := szL_pos SValue.sz (a.Kids) x hx; omega) (by have := szL_mem SValue.sz (a.Kids) x hx; omega))
    try simp [e3, SValue.eta]
theorem to_Value (a : SValue) (h : a.sz ≤ 1048576) : M.l_toValue a = some (a.Kind, a.Num, a.Text, a.Kids) :=
  to_Value_n _ a (by have := Go.V.bigN_le; omega) h
theorem toS_Value (a : List SValue) (ha : szL SValue.sz a ≤ 1048576) : M.l_toValueS M.l_toValue a = some a :=
  toS_Value_r _ a (by have := szL_len SValue.sz a; omega) fun x hx => to_Value x (by have := szL_mem SValue.sz a x hx; omega)
theorem eq_Value_n : ∀ (n : Nat) (a : SValue), a.sz < n → a.sz ≤ 1048576 → M.l_eqValue_n n a a = some true
  | 0, a, h2, h => by omega
  | n + 1, a, h2, h => by
    show M.l_eqValue_b (M.l_eqValue_n n) a a = _
    unfold M.l_eqValue_b
    have hs := SValue.sz_eq a
    try simp only [SType.re_eq, SValue.re_eq, SStream.re_eq]
    have hk3 := szL_len SValue.sz (a.Kids)
    have e3 := eqS_Value_r (M.l_eqValue_n n) (a.Kids) (by omega) (fun x hx => eq_Value_n n x (by have := szL_mem SValue.sz (a.Kids) x hx; have := szL_pos SValue.sz (a.Kids) x hx; omega) (by have := szL_mem SValue.sz (a.Kids) x hx; omega))
    try simp [e3, SValue.eta]
theorem eq_Value (a : SValue) (h : a.sz ≤ 1048576) : M.l_eqValue a a = some true :=
  eq_Value_n _ a (by have := Go.V.bigN_le; omega) h
theorem eqS_Value (a : List SValue) (ha : szL SValue.sz a ≤ 1048576) : M.l_eqValueS M.l_eqValue a a = some true :=
  eqS_Value_r _ a (by have := szL_len SValue.sz a; omega) fun x hx => eq_Value x (by have := szL_mem SValue.sz a x hx; omega)
theorem sz_Stream (a : SStream) (left : Int) (ok : a.Ok) (h0 : 0 ≤ left) (h1 : left ≤ 1048576) : M.l_szStream a left = some (if (a.sz : Int) ≤ left then left - a.sz else -1) := by
  unfold M.l_szStream
  have hs := SStream.sz_eq a
  have ok1 := (SStream.ok_eq a).1 ok
  try simp only [SType.re_eq, SValue.re_eq, SStream.re_eq]
  have e0 := sz_Type (a.Type_) (left) ok1.1 (by omega) (by omega)
  by_cases c0 : (((a.Type_).sz : Nat) : Int) ≤ left
  · rw [if_pos c0] at e0
    have n0 : ¬ (left - (((a.Type_).sz : Nat) : Int) < 0) := by omega
    have e1 := szS_Value (a.Buffer) (left - (((a.Type_).sz : Nat) : Int)) ok1.2.2.2.1 (by omega) (by omega)
    by_cases c1 : ((szL SValue.sz (a.Buffer) : Nat) : Int) ≤ left - (((a.Type_).sz : Nat) : Int)
    · rw [if_pos c1] at e1
      have n1 : ¬ (left - (((a.Type_).sz : Nat) : Int) - ((szL SValue.sz (a.Buffer) : Nat) : Int) < 0) := by omega
      have q : (a.sz : Int) ≤ left := by rw [hs] <;> push_cast <;> omega
      have q2 : left - (a.sz : Int) = left - (((a.Type_).sz : Nat) : Int) - ((szL SValue.sz (a.Buffer) : Nat) : Int) := by rw [hs] <;> push_cast <;> omega
      rw [if_pos q, q2]; simp [e0, n0, e1, n1]
    · rw [if_neg c1] at e1
      have q : ¬ ((a.sz : Int) ≤ left) := by rw [hs] <;> push_cast <;> omega
      rw [if_neg q]; simp [e0, n0, e1]
  · rw [if_neg c0] at e0
    have q : ¬ ((a.sz : Int) ≤ left) := by rw [hs] <;> push_cast <;> omega
    rw [if_neg q]; simp [e0]
theorem to_Stream (a : SStream) (h : a.sz ≤ 1048576) : M.l_toStream a = some (a.Type_.Kind, a.Type_.Name, a.Room, a.Future, a.Put, a.Got, a.Shut, a.Gone, a.Type_.Labels, a.Type_.Kids, a.Buffer) := by
  unfold M.l_toStream
  have hs := SStream.sz_eq a
  try simp only [SType.re_eq, SValue.re_eq, SStream.re_eq]
  have e0 := to_Type (a.Type_) (by omega)
  have e3 := toS_Value (a.Buffer) (by omega)
  try simp [e0, e3]
theorem eq_Stream (a : SStream) (h : a.sz ≤ 1048576) : M.l_eqStream a a = some true := by
  unfold M.l_eqStream
  have hs := SStream.sz_eq a
  try simp only [SType.re_eq, SValue.re_eq, SStream.re_eq]
  have e0 := eq_Type (a.Type_) (by omega)
  have e3 := eqS_Value (a.Buffer) (by omega)
  try simp [e0, e3]
theorem to_StreamAct (a : SStreamAct) (h : a.sz ≤ 1048576) : M.l_toStreamAct a = some a := by
  unfold M.l_toStreamAct
  have hs := SStreamAct.sz_eq a
  try simp only [SType.re_eq, SValue.re_eq, SStream.re_eq]
  try simp []
theorem eq_StreamAct (a : SStreamAct) (h : a.sz ≤ 1048576) : M.l_eqStreamAct a a = some true := by
  unfold M.l_eqStreamAct
  have hs := SStreamAct.sz_eq a
  try simp only [SType.re_eq, SValue.re_eq, SStream.re_eq]
  try simp []
theorem szS_StreamAct (a : List SStreamAct) (left : Int) (ok : LOk SStreamAct.Ok a) (h0 : 0 ≤ left) (h1 : left ≤ 1048576) : M.l_szStreamActS a left = some (if (szL SStreamAct.sz a : Int) ≤ left then left - szL SStreamAct.sz a else -1) := by
  have hl := ok.1
  unfold M.l_szStreamActS
  rw [wrap_i64 (by omega) (by omega)]
  exact szS_of0 (f := SStreamAct.sz) (fun _ => rfl) a left h0
theorem toS_StreamAct (a : List SStreamAct) (ha : szL SStreamAct.sz a ≤ 1048576) : M.l_toStreamActS a = some a := by
  have hl := szL_len SStreamAct.sz a
  have hn : a.length ≤ 1048576 := by omega
  have hi : (a.length : Int) ≤ 1073741824 := by omega
  have q : ∀ z, z.length = a.length → M.l_toStreamActS_l0  a Go.V.bigN 0 z = some a := copy_loop (F := M.l_toStreamActS_l0  a) a (by omega) (fun f k out h1 h2 hk => by
    rw [M.l_toStreamActS_l0]
    have e := to_StreamAct a[k] (by have := szL_mem SStreamAct.sz a a[k] (List.getElem_mem hk); omega)
    simp [hk, h2, getD_lt hk, e, wrapk hk (big_of hn), SType.re_eq, SValue.re_eq, SStream.re_eq]) (fun f out => by rw [M.l_toStreamActS_l0]; simp)
  unfold M.l_toStreamActS
  rw [q _ (by simp)]
  simp [hi]
theorem eqS_StreamAct (a : List SStreamAct) (ha : szL SStreamAct.sz a ≤ 1048576) : M.l_eqStreamActS a a = some true := by
  have hl := szL_len SStreamAct.sz a
  have hn : a.length ≤ 1048576 := by omega
  unfold M.l_eqStreamActS
  refine eq_all (F := M.l_eqStreamActS_l0  a a) a hn (fun f k hk => ?_) (fun f => ?_)
  · rw [M.l_eqStreamActS_l0]
    have e := eq_StreamAct a[k] (by have := szL_mem SStreamAct.sz a a[k] (List.getElem_mem hk); omega)
    simp [hk, getD_lt hk, e, wrapk hk (big_of hn), SType.re_eq, SValue.re_eq, SStream.re_eq]
  · rw [M.l_eqStreamActS_l0]; simp
end M
