/-
  Part of the proof of the claim.
-/
import Derived.Test.YtjdnmlhfiblhdaaGreatXNZM
import Derived.Test.YtjdnmlhfiblhdaaGreatXNlaw
import Derived.Test.YtjdnmlhfiblhdaaGreatXNpl

set_option linter.unusedVariables false
set_option linter.unusedSimpArgs false
namespace M
def StrOk (s : List UInt8) : Prop := s.length ≤ 9223372036854775807
def LOk {α : Type} (p : α → Prop) (l : List α) : Prop := l.length ≤ 9223372036854775807 ∧ ∀ x ∈ l, p x
def SAop.sz (a : SAop) : Nat := 0
theorem SAop.sz_eq (a : SAop) : a.sz = 0 := rfl
def SAop.Ok (a : SAop) : Prop := I64 (a.Kind) ∧ I64 (a.A) ∧ I64 (a.B) ∧ True
theorem SAop.ok_eq (a : SAop) : a.Ok ↔ (I64 (a.Kind) ∧ I64 (a.A) ∧ I64 (a.B) ∧ True) := Iff.rfl
def SNote.sz (a : SNote) : Nat := 0
theorem SNote.sz_eq (a : SNote) : a.sz = 0 := rfl
def SNote.Ok (a : SNote) : Prop := I64 (a.Task) ∧ I64 (a.Kind) ∧ I64 (a.A) ∧ I64 (a.B) ∧ True
theorem SNote.ok_eq (a : SNote) : a.Ok ↔ (I64 (a.Task) ∧ I64 (a.Kind) ∧ I64 (a.A) ∧ I64 (a.B) ∧ True) := Iff.rfl
def SProg.sz (a : SProg) : Nat := szL SAop.sz (a.Ops)
theorem SProg.sz_eq (a : SProg) : a.sz = szL SAop.sz (a.Ops) := rfl
def SProg.Ok (a : SProg) : Prop := I64 (a.Inst) ∧ LOk SAop.Ok (a.Ops) ∧ True
theorem SProg.ok_eq (a : SProg) : a.Ok ↔ (I64 (a.Inst) ∧ LOk SAop.Ok (a.Ops) ∧ True) := Iff.rfl
mutual
def SType.sz : SType → Nat
  | .mk v0 v1 v2 v3 => (v1).length + szL List.length (v2) + SType.szs v3
def SType.szs : List SType → Nat
  | [] => 0
  | t :: r => SType.sz t + 1 + SType.szs r
end
theorem SType.szs_eq : ∀ l : List SType, SType.szs l = szL SType.sz l
  | [] => rfl
  | t :: r => by simp only [SType.szs, szL, SType.szs_eq r]
theorem SType.sz_eq (a : SType) : a.sz = (a.Name).length + szL List.length (a.Labels) + szL SType.sz (a.Kids) := by cases a; simp only [SType.sz, SType.szs_eq]; rfl
mutual
def SType.Ok : SType → Prop
  | .mk v0 v1 v2 v3 => I64 (v0) ∧ StrOk (v1) ∧ LOk StrOk (v2) ∧ (v3.length ≤ 9223372036854775807 ∧ SType.Oks v3) ∧ True
def SType.Oks : List SType → Prop
  | [] => True
  | t :: r => SType.Ok t ∧ SType.Oks r
end
theorem SType.oks_iff : ∀ l : List SType, SType.Oks l ↔ ∀ x ∈ l, SType.Ok x
  | [] => by simp [SType.Oks]
  | t :: r => by simp [SType.Oks, SType.oks_iff r]
theorem SType.ok_eq (a : SType) : a.Ok ↔ (I64 (a.Kind) ∧ StrOk (a.Name) ∧ LOk StrOk (a.Labels) ∧ LOk SType.Ok (a.Kids) ∧ True) := by
  cases a; simp only [SType.Ok, SType.oks_iff, LOk]; exact Iff.rfl
mutual
def SValue.sz : SValue → Nat
  | .mk v0 v1 v2 v3 => (v2).length + SValue.szs v3
def SValue.szs : List SValue → Nat
  | [] => 0
  | t :: r => SValue.sz t + 1 + SValue.szs r
end
theorem SValue.szs_eq : ∀ l : List SValue, SValue.szs l = szL SValue.sz l
  | [] => rfl
  | t :: r => by simp only [SValue.szs, szL, SValue.szs_eq r]
theorem SValue.sz_eq (a : SValue) : a.sz = (a.Text).length + szL SValue.sz (a.Kids) := by cases a; simp only [SValue.sz, SValue.szs_eq]; rfl
mutual
def SValue.Ok : SValue → Prop
  | .mk v0 v1 v2 v3 => I64 (v0) ∧ I64 (v1) ∧ StrOk (v2) ∧ (v3.length ≤ 9223372036854775807 ∧ SValue.Oks v3) ∧ True
def SValue.Oks : List SValue → Prop
  | [] => True
  | t :: r => SValue.Ok t ∧ SValue.Oks r
end
theorem SValue.oks_iff : ∀ l : List SValue, SValue.Oks l ↔ ∀ x ∈ l, SValue.Ok x
  | [] => by simp [SValue.Oks]
  | t :: r => by simp [SValue.Oks, SValue.oks_iff r]
theorem SValue.ok_eq (a : SValue) : a.Ok ↔ (I64 (a.Kind) ∧ I64 (a.Num) ∧ StrOk (a.Text) ∧ LOk SValue.Ok (a.Kids) ∧ True) := by
  cases a; simp only [SValue.Ok, SValue.oks_iff, LOk]; exact Iff.rfl
def SStream.sz (a : SStream) : Nat := (a.Type_).sz + szL SValue.sz (a.Buffer)
theorem SStream.sz_eq (a : SStream) : a.sz = (a.Type_).sz + szL SValue.sz (a.Buffer) := rfl
def SStream.Ok (a : SStream) : Prop := SType.Ok (a.Type_) ∧ I64 (a.Room) ∧ True ∧ LOk SValue.Ok (a.Buffer) ∧ I64 (a.Put) ∧ I64 (a.Got) ∧ True ∧ True ∧ True
theorem SStream.ok_eq (a : SStream) : a.Ok ↔ (SType.Ok (a.Type_) ∧ I64 (a.Room) ∧ True ∧ LOk SValue.Ok (a.Buffer) ∧ I64 (a.Put) ∧ I64 (a.Got) ∧ True ∧ True ∧ True) := Iff.rfl
def STask.sz (a : STask) : Nat := szL (fun _ => 0) (a.Subs) + szL (fun _ => 0) (a.Set)
theorem STask.sz_eq (a : STask) : a.sz = szL (fun _ => 0) (a.Subs) + szL (fun _ => 0) (a.Set) := rfl
def STask.Ok (a : STask) : Prop := I64 (a.Id) ∧ I64 (a.Prog) ∧ I64 (a.PC) ∧ I64 (a.Parent) ∧ I64 (a.Status) ∧ I64 (a.Result) ∧ True ∧ True ∧ True ∧ LOk I64 (a.Subs) ∧ LOk I64 (a.Set) ∧ True
theorem STask.ok_eq (a : STask) : a.Ok ↔ (I64 (a.Id) ∧ I64 (a.Prog) ∧ I64 (a.PC) ∧ I64 (a.Parent) ∧ I64 (a.Status) ∧ I64 (a.Result) ∧ True ∧ True ∧ True ∧ LOk I64 (a.Subs) ∧ LOk I64 (a.Set) ∧ True) := Iff.rfl
def SAsync.sz (a : SAsync) : Nat := szL SProg.sz (a.Progs) + szL SStream.sz (a.Streams) + szL STask.sz (a.Tasks) + szL (fun _ => 0) (a.Back) + szL SNote.sz (a.Notes)
theorem SAsync.sz_eq (a : SAsync) : a.sz = szL SProg.sz (a.Progs) + szL SStream.sz (a.Streams) + szL STask.sz (a.Tasks) + szL (fun _ => 0) (a.Back) + szL SNote.sz (a.Notes) := rfl
def SAsync.Ok (a : SAsync) : Prop := LOk SProg.Ok (a.Progs) ∧ LOk SStream.Ok (a.Streams) ∧ LOk STask.Ok (a.Tasks) ∧ LOk I64 (a.Back) ∧ LOk SNote.Ok (a.Notes) ∧ True
theorem SAsync.ok_eq (a : SAsync) : a.Ok ↔ (LOk SProg.Ok (a.Progs) ∧ LOk SStream.Ok (a.Streams) ∧ LOk STask.Ok (a.Tasks) ∧ LOk I64 (a.Back) ∧ LOk SNote.Ok (a.Notes) ∧ True) := Iff.rfl
theorem SAop.ok_of (a : SAop) (h : ∀ m, Go.V.ValE m .Aop a) : a.Ok := ⟨(h 0).1, (h 0).2.1, (h 0).2.2.1, trivial⟩
theorem SNote.ok_of (a : SNote) (h : ∀ m, Go.V.ValE m .Note a) : a.Ok := ⟨(h 0).1, (h 0).2.1, (h 0).2.2.1, (h 0).2.2.2.1, trivial⟩
theorem SProg.ok_of (a : SProg) (h : ∀ m, Go.V.ValE m .Prog a) : a.Ok := ⟨(h 0).1, ⟨((h 0).2.1).1, fun y hy => SAop.ok_of y (fun m => ((h (m + 1)).2.1).2 y hy)⟩, trivial⟩
mutual
theorem SType.ok_of : ∀ (a : SType), (∀ m, Go.V.ValE m .Type a) → a.Ok
  | .mk v0 v1 v2 v3, h => by
    simp only [SType.Ok]
    exact ⟨(h 0).1, (h 0).2.1, ⟨((h 0).2.2.1).1, fun y hy => ((fun m => ((h (m + 1)).2.2.1).2 y hy) 0).1⟩, ⟨((h 0).2.2.2.1).1, (SType.oks_of _ fun y hy m => ((h (m + 1)).2.2.2.1).2 y hy)⟩, trivial⟩
theorem SType.oks_of : ∀ (l : List SType), (∀ y ∈ l, ∀ m, Go.V.ValE m .Type y) → SType.Oks l
  | [], _ => by simp only [SType.Oks]
  | t :: r, h => by
    simp only [SType.Oks]
    exact ⟨SType.ok_of t (h t (by simp)), SType.oks_of r fun y hy => h y (by simp [hy])⟩
end
mutual
theorem SValue.ok_of : ∀ (a : SValue), (∀ m, Go.V.ValE m .Value a) → a.Ok
  | .mk v0 v1 v2 v3, h => by
    simp only [SValue.Ok]
    exact ⟨(h 0).1, (h 0).2.1, (h 0).2.2.1, ⟨((h 0).2.2.2.1).1, (SValue.oks_of _ fun y hy m => ((h (m + 1)).2.2.2.1).2 y hy)⟩, trivial⟩
theorem SValue.oks_of : ∀ (l : List SValue), (∀ y ∈ l, ∀ m, Go.V.ValE m .Value y) → SValue.Oks l
  | [], _ => by simp only [SValue.Oks]
  | t :: r, h => by
    simp only [SValue.Oks]
    exact ⟨SValue.ok_of t (h t (by simp)), SValue.oks_of r fun y hy => h y (by simp [hy])⟩
end
theorem SStream.ok_of (a : SStream) (h : ∀ m, Go.V.ValE m .Stream a) : a.Ok := ⟨(SType.ok_of (a.Type_) (fun m => by cases m with | zero => exact ⟨(h 0).1, (h 0).2.1, (h 0).2.2.1, (h 0).2.2.2.1, trivial⟩ | succ m => exact ⟨(h (m + 1)).1, (h (m + 1)).2.1, (h (m + 1)).2.2.1, (h (m + 1)).2.2.2.1, trivial⟩)), (h 0).2.2.2.2.1, trivial, ⟨((h 0).2.2.2.2.2.2.1).1, fun y hy => SValue.ok_of y (fun m => ((h (m + 1)).2.2.2.2.2.2.1).2 y hy)⟩, (h 0).2.2.2.2.2.2.2.1, (h 0).2.2.2.2.2.2.2.2.1, trivial, trivial, trivial⟩
theorem STask.ok_of (a : STask) (h : ∀ m, Go.V.ValE m .Task a) : a.Ok := ⟨(h 0).1, (h 0).2.1, (h 0).2.2.1, (h 0).2.2.2.1, (h 0).2.2.2.2.1, (h 0).2.2.2.2.2.1, trivial, trivial, trivial, ⟨((h 0).2.2.2.2.2.2.2.2.2.1).1, fun y hy => ((fun m => ((h (m + 1)).2.2.2.2.2.2.2.2.2.1).2 y hy) 0).1⟩, ⟨((h 0).2.2.2.2.2.2.2.2.2.2.1).1, fun y hy => ((fun m => ((h (m + 1)).2.2.2.2.2.2.2.2.2.2.1).2 y hy) 0).1⟩, trivial⟩
theorem SAsync.ok_of (a : SAsync) (h : ∀ m, Go.V.ValE m .Async a) : a.Ok := ⟨⟨((h 0).1).1, fun y hy => SProg.ok_of y (fun m => ((h (m + 1)).1).2 y hy)⟩, ⟨((h 0).2.1).1, fun y hy => SStream.ok_of y (fun m => ((h (m + 1)).2.1).2 y hy)⟩, ⟨((h 0).2.2.1).1, fun y hy => STask.ok_of y (fun m => ((h (m + 1)).2.2.1).2 y hy)⟩, ⟨((h 0).2.2.2.1).1, fun y hy => ((fun m => ((h (m + 1)).2.2.2.1).2 y hy) 0).1⟩, ⟨((h 0).2.2.2.2.1).1, fun y hy => SNote.ok_of y (fun m => ((h (m + 1)).2.2.2.2.1).2 y hy)⟩, trivial⟩
theorem eqS_String (a : List (List UInt8)) (ha : szL List.length a ≤ 1048576) : M.l_eqStringS a a = some true := by
  have hl := szL_len List.length a
  have hn : a.length ≤ 1048576 := by omega
  unfold M.l_eqStringS
  refine eq_all (F := M.l_eqStringS_l0  a a) a hn (fun f k hk => ?_) (fun f => ?_)
  · rw [M.l_eqStringS_l0]
    simp [hk, getD_lt hk, wrapk hk (big_of hn)]
  · rw [M.l_eqStringS_l0]; simp
theorem toS_Int64 (a : List Int) (ha : szL (fun _ => 0) a ≤ 1048576) : M.l_toInt64S a = some a := by
  have hl := szL_len (fun _ => 0) a
  have hn : a.length ≤ 1048576 := by omega
  have hi : (a.length : Int) ≤ 1073741824 := by omega
  have q : ∀ z, z.length = a.length → M.l_toInt64S_l0  a Go.V.bigN 0 z = some a := copy_loop (F := M.l_toInt64S_l0  a) a (by omega) (fun f k out h1 h2 hk => by
    rw [M.l_toInt64S_l0]
    simp [hk, h2, getD_lt hk, wrapk hk (big_of hn)]) (fun f out => by rw [M.l_toInt64S_l0]; simp)
  unfold M.l_toInt64S
  rw [q _ (by simp)]
  simp [hi]
theorem eqS_Int64 (a : List Int) (ha : szL (fun _ => 0) a ≤ 1048576) : M.l_eqInt64S a a = some true := by
  have hl := szL_len (fun _ => 0) a
  have hn : a.length ≤ 1048576 := by omega
  unfold M.l_eqInt64S
  refine eq_all (F := M.l_eqInt64S_l0  a a) a hn (fun f k hk => ?_) (fun f => ?_)
  · rw [M.l_eqInt64S_l0]
    simp [hk, getD_lt hk, wrapk hk (big_of hn)]
  · rw [M.l_eqInt64S_l0]; simp
theorem to_Aop (a : SAop) (h : a.sz ≤ 1048576) : M.l_toAop a = some a := by
  unfold M.l_toAop
  have hs := SAop.sz_eq a
  try simp only [SType.re_eq, SValue.re_eq, SStream.re_eq]
  try simp []
theorem eq_Aop (a : SAop) (h : a.sz ≤ 1048576) : M.l_eqAop a a = some true := by
  unfold M.l_eqAop
  have hs := SAop.sz_eq a
  try simp only [SType.re_eq, SValue.re_eq, SStream.re_eq]
  try simp []
theorem szS_Aop (a : List SAop) (left : Int) (ok : LOk SAop.Ok a) (h0 : 0 ≤ left) (h1 : left ≤ 1048576) : M.l_szAopS a left = some (if (szL SAop.sz a : Int) ≤ left then left - szL SAop.sz a else -1) := by
  have hl := ok.1
  unfold M.l_szAopS
  rw [wrap_i64 (by omega) (by omega)]
  exact szS_of0 (f := SAop.sz) (fun _ => rfl) a left h0
theorem toS_Aop (a : List SAop) (ha : szL SAop.sz a ≤ 1048576) : M.l_toAopS a = some a := by
  have hl := szL_len SAop.sz a
  have hn : a.length ≤ 1048576 := by omega
  have hi : (a.length : Int) ≤ 1073741824 := by omega
  have q : ∀ z, z.length = a.length → M.l_toAopS_l0  a Go.V.bigN 0 z = some a := copy_loop (F := M.l_toAopS_l0  a) a (by omega) (fun f k out h1 h2 hk => by
    rw [M.l_toAopS_l0]
    have e := to_Aop a[k] (by have := szL_mem SAop.sz a a[k] (List.getElem_mem hk); omega)
    simp [hk, h2, getD_lt hk, e, wrapk hk (big_of hn), SType.re_eq, SValue.re_eq, SStream.re_eq]) (fun f out => by rw [M.l_toAopS_l0]; simp)
  unfold M.l_toAopS
  rw [q _ (by simp)]
  simp [hi]
theorem eqS_Aop (a : List SAop) (ha : szL SAop.sz a ≤ 1048576) : M.l_eqAopS a a = some true := by
  have hl := szL_len SAop.sz a
  have hn : a.length ≤ 1048576 := by omega
  unfold M.l_eqAopS
  refine eq_all (F := M.l_eqAopS_l0  a a) a hn (fun f k hk => ?_) (fun f => ?_)
  · rw [M.l_eqAopS_l0]
    have e := eq_Aop a[k] (by have := szL_mem SAop.sz a a[k] (List.getElem_mem hk); omega)
    simp [hk, getD_lt hk, e, wrapk hk (big_of hn), SType.re_eq, SValue.re_eq, SStream.re_eq]
  · rw [M.l_eqAopS_l0]; simp
theorem eq_Note (a : SNote) (h : a.sz ≤ 1048576) : M.l_eqNote a a = some true := by
  unfold M.l_eqNote
  have hs := SNote.sz_eq a
  try simp only [SType.re_eq, SValue.re_eq, SStream.re_eq]
  try simp []
theorem eqS_Note (a : List SNote) (ha : szL SNote.sz a ≤ 1048576) : M.l_eqNoteS a a = some true := by
  have hl := szL_len SNote.sz a
  have hn : a.length ≤ 1048576 := by omega
  unfold M.l_eqNoteS
  refine eq_all (F := M.l_eqNoteS_l0  a a) a hn (fun f k hk => ?_) (fun f => ?_)
  · rw [M.l_eqNoteS_l0]
    have e := eq_Note a[k] (by have := szL_mem SNote.sz a a[k] (List.getElem_mem hk); omega)
    simp [hk, getD_lt hk, e, wrapk hk (big_of hn), SType.re_eq, SValue.re_eq, SStream.re_eq]
  · rw [M.l_eqNoteS_l0]; simp
theorem sz_Prog (a : SProg) (left : Int) (ok : a.Ok) (h0 : 0 ≤ left) (h1 : left ≤ 1048576) : M.l_szProg a left = some (if (a.sz : Int) ≤ left then left - a.sz else -1) := by
  unfold M.l_szProg
  have hs := SProg.sz_eq a
  have ok1 := (SProg.ok_eq a).1 ok
  try simp only [SType.re_eq, SValue.re_eq, SStream.re_eq]
  have e0 := szS_Aop (a.Ops) (left) ok1.2.1 (by omega) (by omega)
  by_cases c0 : ((szL SAop.sz (a.Ops) : Nat) : Int) ≤ left
  · rw [if_pos c0] at e0
    have n0 : ¬ (left - ((szL SAop.sz (a.Ops) : Nat) : Int) < 0) := by omega
    have q : (a.sz : Int) ≤ left := by rw [hs] <;> push_cast <;> omega
    have q2 : left - (a.sz : Int) = left - ((szL SAop.sz (a.Ops) : Nat) : Int) := by rw [hs] <;> push_cast <;> omega
    rw [if_pos q, q2]; simp [e0, n0]
  · rw [if_neg c0] at e0
    have q : ¬ ((a.sz : Int) ≤ left) := by rw [hs] <;> push_cast <;> omega
    rw [if_neg q]; simp [e0]
theorem to_Prog (a : SProg) (h : a.sz ≤ 1048576) : M.l_toProg a = some (a.Inst, a.Ops) := by
  unfold M.l_toProg
  have hs := SProg.sz_eq a
  try simp only [SType.re_eq, SValue.re_eq, SStream.re_eq]
  have e1 := toS_Aop (a.Ops) (by omega)
  try simp [e1]
theorem eq_Prog (a : SProg) (h : a.sz ≤ 1048576) : M.l_eqProg a a = some true := by
  unfold M.l_eqProg
  have hs := SProg.sz_eq a
  try simp only [SType.re_eq, SValue.re_eq, SStream.re_eq]
  have e1 := eqS_Aop (a.Ops) (by omega)
  try simp [e1]
theorem szS_Prog (a : List SProg) (left : Int) (ok : LOk SProg.Ok a) (h0 : 0 ≤ left) (h1 : left ≤ 1048576) : M.l_szProgS a left = some (if (szL SProg.sz a : Int) ≤ left then left - szL SProg.sz a else -1) := by
  have hl := ok.1
  unfold M.l_szProgS
  rw [wrap_i64 (by omega) (by omega)]
  refine szS_of (f := SProg.sz) (F := M.l_szProgS_l0  a) a left h0 h1 (fun g k l h2 h3 hk => ?_) (fun g l => ?_)
  · have hn : k < 2 ^ 62 := by omega
    rw [M.l_szProgS_l0]
    have e := sz_Prog a[k] l (ok.2 _ (List.getElem_mem hk)) h2 (by omega)
    by_cases d : ((SProg.sz a[k] : Nat) : Int) ≤ l
    · have n : ¬ (l - ((SProg.sz a[k] : Nat) : Int) < 0) := by omega
      rw [if_pos d] at e ⊢; simp [hk, getD_lt hk, e, n, wrapk hk (show a.length < 2 ^ 62 by omega), SType.re_eq, SValue.re_eq, SStream.re_eq]
    · rw [if_neg d] at e ⊢; simp [hk, getD_lt hk, e, SType.re_eq, SValue.re_eq, SStream.re_eq]
  · rw [M.l_szProgS_l0]; simp
theorem toS_Prog (a : List SProg) (ha : szL SProg.sz a ≤ 1048576) : M.l_toProgS a = some a := by
  have hl := szL_len SProg.sz a
  have hn : a.length ≤ 1048576 := by omega
  have hi : (a.length : Int) ≤ 1073741824 := by omega
  have q : ∀ z, z.length = a.length → M.l_toProgS_l0  a Go.V.bigN 0 z = some a := copy_loop (F := M.l_toProgS_l0  a) a (by omega) (fun f k out h1 h2 hk => by
    rw [M.l_toProgS_l0]
    have e := to_Prog a[k] (by have := szL_mem SProg.sz a a[k] (List.getElem_mem hk); omega)
    simp [hk, h2, getD_lt hk, e, wrapk hk (big_of hn), SType.re_eq, SValue.re_eq, SStream.re_eq]) (fun f out => by rw [M.l_toProgS_l0]; simp)
  unfold M.l_toProgS
  rw [q _ (by simp)]
  simp [hi]
theorem eqS_Prog (a : List SProg) (ha : szL SProg.sz a ≤ 1048576) : M.l_eqProgS a a = some true := by
  have hl := szL_len SProg.sz a
  have hn : a.length ≤ 1048576 := by omega
  unfold M.l_eqProgS
  refine eq_all (F := M.l_eqProgS_l0  a a) a hn (fun f k hk => ?_) (fun f => ?_)
  · rw [M.l_eqProgS_l0]
    have e := eq_Prog a[k] (by have := szL_mem SProg.sz a a[k] (List.getElem_mem hk); omega)
    simp [hk, getD_lt hk, e, wrapk hk (big_of hn), SType.re_eq, SValue.re_eq, SStream.re_eq]
  · rw [M.l_eqProgS_l0]; simp
theorem eqS_Type_r (r : SType → SType → Option Bool) (a : List SType) (ha : a.length ≤ 1048576) (hr : ∀ x ∈ a, r x x = some true) : M.l_eqTypeS r a a = some true := by
  have hn : a.length ≤ 1048576 := by omega
  unfold M.l_eqTypeS
  refine eq_all (F := M.l_eqTypeS_l0 r  a a) a hn (fun f k hk => ?_) (fun f => ?_)
  · rw [M.l_eqTypeS_l0]
    have e := hr a[k] (List.getElem_mem hk)
    simp [hk, getD_lt hk, e, wrapk hk (big_of hn), SType.re_eq, SValue.re_eq, SStream.re_eq]
  · rw [M.l_eqTypeS_l0]; simp
theorem eq_Type_n : ∀ (n : Nat) (a : SType), a.sz < n → a.sz ≤ 1048576 → M.l_eqType_n n a a = some true
  | 0, a, h2, h => by omega
  | n + 1, a, h2, h => by
    show M.l_eqType_b (M.l_eqType_n n) a a = _
    unfold M.l_eqType_b
    have hs := SType.sz_eq a
    try simp only [SType.re_eq, SValue.re_eq, SStream.re_eq]
    have e2 := eqS_String (a.Labels) (by omega)
    have hk3 := szL_len SType.sz (a.Kids)
    have e3 := eqS_Type_r (M.l_eqType_n n) (a.Kids) (by omega) (fun x hx => eq_Type_n n x (by have := szL_mem SType.sz (a.Kids) x hx; have := szL_pos SType.sz (a.Kids) x hx; omega) (by have := szL_mem SType.sz (a.Kids) x hx; omega))
    try simp [e2, e3, SType.eta]
theorem eq_Type (a : SType) (h : a.sz ≤ 1048576) : M.l_eqType a a = some true :=
  eq_Type_n _ a (by have := Go.V.bigN_le; omega) h
theorem eqS_Value_r (r : SValue → SValue → Option Bool) (a : List SValue) (ha : a.length ≤ 1048576) (hr : ∀ x ∈ a, r x x = some true) : M.l_eqValueS r a a = some true := by
  have hn : a.length ≤ 1048576 := by omega
  unfold M.l_eqValueS
  refine eq_all (F := M.l_eqValueS_l0 r  a a) a hn (fun f k hk => ?_) (fun f => ?_)
  · rw [M.l_eqValueS_l0]
    have e := hr a[k] (List.getElem_mem hk)
    simp [hk, getD_lt hk, e, wrapk hk (big_of hn), SType.re_eq, SValue.re_eq, SStream.re_eq]
  · rw [M.l_eqValueS_l0]; simp
theorem eq_Value_n : ∀ (n : Nat) (a : SValue), a.sz < n → a.sz ≤ 1048576 → M.l_eqValue_n n a a = some true
  | 0, a, h2, h => by omega
  | n + 1, a, h2, h => by
    show M.l_eqValue_b (M.l_eqValue_n n) a a = _
    unfold M.l_eqValue_b
    have hs := SValue.sz_eq a
    try simp only [SType.re_eq, SValue.re_eq, SStream.re_eq]
    have hk3 := szL_len SValue.sz (a.Kids)
    have e3 := eqS_Value_r (M.l_eqValue_n n) (a.Kids) (by omega) (fun x hx => eq_Value_n n x (by have := szL_mem SValue.sz (a.Kids) x hx; have := szL_pos SValue.sz (a.Kids) x hx; omega) (by have := szL_mem SValue.sz (a.Kids) x hx; omega))
    try simp [e3, SValue.eta]
theorem eq_Value (a : SValue) (h : a.sz ≤ 1048576) : M.l_eqValue a a = some true :=
  eq_Value_n _ a (by have := Go.V.bigN_le; omega) h
theorem eqS_Value (a : List SValue) (ha : szL SValue.sz a ≤ 1048576) : M.l_eqValueS M.l_eqValue a a = some true :=
  eqS_Value_r _ a (by have := szL_len SValue.sz a; omega) fun x hx => eq_Value x (by have := szL_mem SValue.sz a x hx; omega)
theorem eq_Stream (a : SStream) (h : a.sz ≤ 1048576) : M.l_eqStream a a = some true := by
  unfold M.l_eqStream
  have hs := SStream.sz_eq a
  try simp only [SType.re_eq, SValue.re_eq, SStream.re_eq]
  have e0 := eq_Type (a.Type_) (by omega)
  have e3 := eqS_Value (a.Buffer) (by omega)
  try simp [e0, e3]
theorem eqS_Stream (a : List SStream) (ha : szL SStream.sz a ≤ 1048576) : M.l_eqStreamS a a = some true := by
  have hl := szL_len SStream.sz a
  have hn : a.length ≤ 1048576 := by omega
  unfold M.l_eqStreamS
  refine eq_all (F := M.l_eqStreamS_l0  a a) a hn (fun f k hk => ?_) (fun f => ?_)
  · rw [M.l_eqStreamS_l0]
    have e := eq_Stream a[k] (by have := szL_mem SStream.sz a a[k] (List.getElem_mem hk); omega)
    simp [hk, getD_lt hk, e, wrapk hk (big_of hn), SType.re_eq, SValue.re_eq, SStream.re_eq]
  · rw [M.l_eqStreamS_l0]; simp
theorem eq_Task (a : STask) (h : a.sz ≤ 1048576) : M.l_eqTask a a = some true := by
  unfold M.l_eqTask
  have hs := STask.sz_eq a
  try simp only [SType.re_eq, SValue.re_eq, SStream.re_eq]
  have e9 := eqS_Int64 (a.Subs) (by omega)
  have e10 := eqS_Int64 (a.Set) (by omega)
  try simp [e9, e10]
theorem eqS_Task (a : List STask) (ha : szL STask.sz a ≤ 1048576) : M.l_eqTaskS a a = some true := by
  have hl := szL_len STask.sz a
  have hn : a.length ≤ 1048576 := by omega
  unfold M.l_eqTaskS
  refine eq_all (F := M.l_eqTaskS_l0  a a) a hn (fun f k hk => ?_) (fun f => ?_)
  · rw [M.l_eqTaskS_l0]
    have e := eq_Task a[k] (by have := szL_mem STask.sz a a[k] (List.getElem_mem hk); omega)
    simp [hk, getD_lt hk, e, wrapk hk (big_of hn), SType.re_eq, SValue.re_eq, SStream.re_eq]
  · rw [M.l_eqTaskS_l0]; simp
theorem eq_Async (a : SAsync) (h : a.sz ≤ 1048576) : M.l_eqAsync a a = some true := by
  unfold M.l_eqAsync
  have hs := SAsync.sz_eq a
  try simp only [SType.re_eq, SValue.re_eq, SStream.re_eq]
  have e0 := eqS_Prog (a.Progs) (by omega)
  have e1 := eqS_Stream (a.Streams) (by omega)
  have e2 := eqS_Task (a.Tasks) (by omega)
  have e3 := eqS_Int64 (a.Back) (by omega)
  have e4 := eqS_Note (a.Notes) (by omega)
  try simp [e0, e1, e2, e3, e4]
end M
