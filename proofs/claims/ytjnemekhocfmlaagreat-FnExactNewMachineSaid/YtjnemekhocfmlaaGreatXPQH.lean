/-
  Part of the proof of the claim.
-/
import Derived.Test.YtjnemekhocfmlaaGreatXPQM
import Derived.Test.YtjnemekhocfmlaaGreatXPlaw
import Derived.Test.YtjnemekhocfmlaaGreatXPpl

set_option linter.unusedVariables false
set_option linter.unusedSimpArgs false
namespace M
def StrOk (s : List UInt8) : Prop := s.length ≤ 9223372036854775807
def LOk {α : Type} (p : α → Prop) (l : List α) : Prop := l.length ≤ 9223372036854775807 ∧ ∀ x ∈ l, p x
def SIns.sz (a : SIns) : Nat := 0
theorem SIns.sz_eq (a : SIns) : a.sz = 0 := rfl
def SIns.Ok (a : SIns) : Prop := I64 (a.Op) ∧ I64 (a.A) ∧ True
theorem SIns.ok_eq (a : SIns) : a.Ok ↔ (I64 (a.Op) ∧ I64 (a.A) ∧ True) := Iff.rfl
def SCore.sz (a : SCore) : Nat := (a.Name).length + szL SIns.sz (a.Code)
theorem SCore.sz_eq (a : SCore) : a.sz = (a.Name).length + szL SIns.sz (a.Code) := rfl
def SCore.Ok (a : SCore) : Prop := StrOk (a.Name) ∧ I64 (a.Params) ∧ I64 (a.Locals) ∧ True ∧ LOk SIns.Ok (a.Code) ∧ True
theorem SCore.ok_eq (a : SCore) : a.Ok ↔ (StrOk (a.Name) ∧ I64 (a.Params) ∧ I64 (a.Locals) ∧ True ∧ LOk SIns.Ok (a.Code) ∧ True) := Iff.rfl
def SCoreFrame.sz (a : SCoreFrame) : Nat := szL (fun _ => 0) (a.Locals)
theorem SCoreFrame.sz_eq (a : SCoreFrame) : a.sz = szL (fun _ => 0) (a.Locals) := rfl
def SCoreFrame.Ok (a : SCoreFrame) : Prop := I64 (a.Core) ∧ I64 (a.PC) ∧ I64 (a.Base) ∧ LOk I64 (a.Locals) ∧ True
theorem SCoreFrame.ok_eq (a : SCoreFrame) : a.Ok ↔ (I64 (a.Core) ∧ I64 (a.PC) ∧ I64 (a.Base) ∧ LOk I64 (a.Locals) ∧ True) := Iff.rfl
def SImport.sz (a : SImport) : Nat := (a.Name).length
theorem SImport.sz_eq (a : SImport) : a.sz = (a.Name).length := rfl
def SImport.Ok (a : SImport) : Prop := StrOk (a.Name) ∧ I64 (a.Params) ∧ True ∧ True
theorem SImport.ok_eq (a : SImport) : a.Ok ↔ (StrOk (a.Name) ∧ I64 (a.Params) ∧ True ∧ True) := Iff.rfl
def SMachine.sz (a : SMachine) : Nat := szL SCoreFrame.sz (a.Frames) + szL (fun _ => 0) (a.Stack) + szL (fun _ => 0) (a.Args)
theorem SMachine.sz_eq (a : SMachine) : a.sz = szL SCoreFrame.sz (a.Frames) + szL (fun _ => 0) (a.Stack) + szL (fun _ => 0) (a.Args) := rfl
def SMachine.Ok (a : SMachine) : Prop := I64 (a.Status) ∧ LOk SCoreFrame.Ok (a.Frames) ∧ LOk I64 (a.Stack) ∧ I64 (a.Import) ∧ LOk I64 (a.Args) ∧ I64 (a.Result) ∧ I64 (a.Trap) ∧ True
theorem SMachine.ok_eq (a : SMachine) : a.Ok ↔ (I64 (a.Status) ∧ LOk SCoreFrame.Ok (a.Frames) ∧ LOk I64 (a.Stack) ∧ I64 (a.Import) ∧ LOk I64 (a.Args) ∧ I64 (a.Result) ∧ I64 (a.Trap) ∧ True) := Iff.rfl
def SModule.sz (a : SModule) : Nat := szL SImport.sz (a.Imports) + szL SCore.sz (a.Cores)
theorem SModule.sz_eq (a : SModule) : a.sz = szL SImport.sz (a.Imports) + szL SCore.sz (a.Cores) := rfl
def SModule.Ok (a : SModule) : Prop := I64 (a.Pages) ∧ LOk SImport.Ok (a.Imports) ∧ LOk SCore.Ok (a.Cores) ∧ True
theorem SModule.ok_eq (a : SModule) : a.Ok ↔ (I64 (a.Pages) ∧ LOk SImport.Ok (a.Imports) ∧ LOk SCore.Ok (a.Cores) ∧ True) := Iff.rfl
theorem SIns.ok_of (a : SIns) (h : ∀ m, Go.V.ValE m .Ins a) : a.Ok := ⟨(h 0).1, (h 0).2.1, trivial⟩
theorem SCore.ok_of (a : SCore) (h : ∀ m, Go.V.ValE m .Core a) : a.Ok := ⟨(h 0).1, (h 0).2.1, (h 0).2.2.1, trivial, ⟨((h 0).2.2.2.2.1).1, fun y hy => SIns.ok_of y (fun m => ((h (m + 1)).2.2.2.2.1).2 y hy)⟩, trivial⟩
theorem SCoreFrame.ok_of (a : SCoreFrame) (h : ∀ m, Go.V.ValE m .CoreFrame a) : a.Ok := ⟨(h 0).1, (h 0).2.1, (h 0).2.2.1, ⟨((h 0).2.2.2.1).1, fun y hy => ((fun m => ((h (m + 1)).2.2.2.1).2 y hy) 0).1⟩, trivial⟩
theorem SImport.ok_of (a : SImport) (h : ∀ m, Go.V.ValE m .Import a) : a.Ok := ⟨(h 0).1, (h 0).2.1, trivial, trivial⟩
theorem SMachine.ok_of (a : SMachine) (h : ∀ m, Go.V.ValE m .Machine a) : a.Ok := ⟨(h 0).1, ⟨((h 0).2.1).1, fun y hy => SCoreFrame.ok_of y (fun m => ((h (m + 1)).2.1).2 y hy)⟩, ⟨((h 0).2.2.1).1, fun y hy => ((fun m => ((h (m + 1)).2.2.1).2 y hy) 0).1⟩, (h 0).2.2.2.1, ⟨((h 0).2.2.2.2.1).1, fun y hy => ((fun m => ((h (m + 1)).2.2.2.2.1).2 y hy) 0).1⟩, (h 0).2.2.2.2.2.1, (h 0).2.2.2.2.2.2.1, trivial⟩
theorem SModule.ok_of (a : SModule) (h : ∀ m, Go.V.ValE m .Module a) : a.Ok := ⟨(h 0).1, ⟨((h 0).2.1).1, fun y hy => SImport.ok_of y (fun m => ((h (m + 1)).2.1).2 y hy)⟩, ⟨((h 0).2.2.1).1, fun y hy => SCore.ok_of y (fun m => ((h (m + 1)).2.2.1).2 y hy)⟩, trivial⟩
theorem toS_Int64 (a : List Int) (ha : szL (fun _ => 0) a ≤ 1048576) : M.l_toInt64S a = some a := by
  have hl := szL_len (fun _ => 0) a
  have hn : a.length ≤ 1048576 := by omega
  have hi : (a.length : Int) ≤ 1073741824 := by omega
  have q : ∀ z, z.length = a.length → M.l_toInt64S_l0  a Go.V.bigN 0 z = some a := copy_loop (F := M.l_toInt64S_l0  a) a (by omega) (fun f k out h1 h2 hk => by
    rw [M.l_toInt64S_l0]
    simp [hk, h2, getD_lt hk, wrapk hk (big_of hn)]) (fun f out => by rw [M.l_toInt64S_l0]; simp)
  unfold M.l_toInt64S
  rw [q _ (by simp)]
  simp [hi]
theorem eqS_Int64 (a : List Int) (ha : szL (fun _ => 0) a ≤ 1048576) : M.l_eqInt64S a a = some true := by
  have hl := szL_len (fun _ => 0) a
  have hn : a.length ≤ 1048576 := by omega
  unfold M.l_eqInt64S
  refine eq_all (F := M.l_eqInt64S_l0  a a) a hn (fun f k hk => ?_) (fun f => ?_)
  · rw [M.l_eqInt64S_l0]
    simp [hk, getD_lt hk, wrapk hk (big_of hn)]
  · rw [M.l_eqInt64S_l0]; simp
theorem to_Ins (a : SIns) (h : a.sz ≤ 1048576) : M.l_toIns a = some a := by
  unfold M.l_toIns
  have hs := SIns.sz_eq a
  skip
  try simp []
theorem eq_Ins (a : SIns) (h : a.sz ≤ 1048576) : M.l_eqIns a a = some true := by
  unfold M.l_eqIns
  have hs := SIns.sz_eq a
  skip
  try simp []
theorem szS_Ins (a : List SIns) (left : Int) (ok : LOk SIns.Ok a) (h0 : 0 ≤ left) (h1 : left ≤ 1048576) : M.l_szInsS a left = some (if (szL SIns.sz a : Int) ≤ left then left - szL SIns.sz a else -1) := by
  have hl := ok.1
  unfold M.l_szInsS
  rw [wrap_i64 (by omega) (by omega)]
  exact szS_of0 (f := SIns.sz) (fun _ => rfl) a left h0
theorem toS_Ins (a : List SIns) (ha : szL SIns.sz a ≤ 1048576) : M.l_toInsS a = some a := by
  have hl := szL_len SIns.sz a
  have hn : a.length ≤ 1048576 := by omega
  have hi : (a.length : Int) ≤ 1073741824 := by omega
  have q : ∀ z, z.length = a.length → M.l_toInsS_l0  a Go.V.bigN 0 z = some a := copy_loop (F := M.l_toInsS_l0  a) a (by omega) (fun f k out h1 h2 hk => by
    rw [M.l_toInsS_l0]
    have e := to_Ins a[k] (by have := szL_mem SIns.sz a a[k] (List.getElem_mem hk); omega)
    simp [hk, h2, getD_lt hk, e, wrapk hk (big_of hn)]) (fun f out => by rw [M.l_toInsS_l0]; simp)
  unfold M.l_toInsS
  rw [q _ (by simp)]
  simp [hi]
theorem eqS_Ins (a : List SIns) (ha : szL SIns.sz a ≤ 1048576) : M.l_eqInsS a a = some true := by
  have hl := szL_len SIns.sz a
  have hn : a.length ≤ 1048576 := by omega
  unfold M.l_eqInsS
  refine eq_all (F := M.l_eqInsS_l0  a a) a hn (fun f k hk => ?_) (fun f => ?_)
  · rw [M.l_eqInsS_l0]
    have e := eq_Ins a[k] (by have := szL_mem SIns.sz a a[k] (List.getElem_mem hk); omega)
    simp [hk, getD_lt hk, e, wrapk hk (big_of hn)]
  · rw [M.l_eqInsS_l0]; simp
theorem sz_Core (a : SCore) (left : Int) (ok : a.Ok) (h0 : 0 ≤ left) (h1 : left ≤ 1048576) : M.l_szCore a left = some (if (a.sz : Int) ≤ left then left - a.sz else -1) := by
  unfold M.l_szCore
  have hs := SCore.sz_eq a
  have ok1 := (SCore.ok_eq a).1 ok
  skip
  have e0 : Go.IntKind.wrap .i64 (left - ((a.Name).length : Int)) = left - ((a.Name).length : Int) := wrap_i64 (by have := ok1.1; unfold StrOk at this; omega) (by omega)
  by_cases c0 : (((a.Name).length : Nat) : Int) ≤ left
  · skip
    have n0 : ¬ (left - (((a.Name).length : Nat) : Int) < 0) := by omega
    have e1 := szS_Ins (a.Code) (left - (((a.Name).length : Nat) : Int)) ok1.2.2.2.2.1 (by omega) (by omega)
    by_cases c1 : ((szL SIns.sz (a.Code) : Nat) : Int) ≤ left - (((a.Name).length : Nat) : Int)
    · rw [if_pos c1] at e1
      have n1 : ¬ (left - (((a.Name).length : Nat) : Int) - ((szL SIns.sz (a.Code) : Nat) : Int) < 0) := by omega
      have q : (a.sz : Int) ≤ left := by rw [hs] <;> push_cast <;> omega
      have q2 : left - (a.sz : Int) = left - (((a.Name).length : Nat) : Int) - ((szL SIns.sz (a.Code) : Nat) : Int) := by rw [hs] <;> push_cast <;> omega
      rw [if_pos q, q2]; simp [e0, n0, e1, n1]
    · rw [if_neg c1] at e1
      have q : ¬ ((a.sz : Int) ≤ left) := by rw [hs] <;> push_cast <;> omega
      rw [if_neg q]; simp [e0, n0, e1]
  · have n0 : left - (((a.Name).length : Nat) : Int) < 0 := by omega
    have q : ¬ ((a.sz : Int) ≤ left) := by rw [hs] <;> push_cast <;> omega
    rw [if_neg q]; simp [e0, n0]
theorem to_Core (a : SCore) (h : a.sz ≤ 1048576) : M.l_toCore a = some (a.Name, a.Params, a.Locals, a.Result, a.Code) := by
  unfold M.l_toCore
  have hs := SCore.sz_eq a
  skip
  have e4 := toS_Ins (a.Code) (by omega)
  try simp [e4]
theorem eq_Core (a : SCore) (h : a.sz ≤ 1048576) : M.l_eqCore a a = some true := by
  unfold M.l_eqCore
  have hs := SCore.sz_eq a
  skip
  have e4 := eqS_Ins (a.Code) (by omega)
  try simp [e4]
theorem szS_Core (a : List SCore) (left : Int) (ok : LOk SCore.Ok a) (h0 : 0 ≤ left) (h1 : left ≤ 1048576) : M.l_szCoreS a left = some (if (szL SCore.sz a : Int) ≤ left then left - szL SCore.sz a else -1) := by
  have hl := ok.1
  unfold M.l_szCoreS
  rw [wrap_i64 (by omega) (by omega)]
  refine szS_of (f := SCore.sz) (F := M.l_szCoreS_l0  a) a left h0 h1 (fun g k l h2 h3 hk => ?_) (fun g l => ?_)
  · have hn : k < 2 ^ 62 := by omega
    rw [M.l_szCoreS_l0]
    have e := sz_Core a[k] l (ok.2 _ (List.getElem_mem hk)) h2 (by omega)
    by_cases d : ((SCore.sz a[k] : Nat) : Int) ≤ l
    · have n : ¬ (l - ((SCore.sz a[k] : Nat) : Int) < 0) := by omega
      rw [if_pos d] at e ⊢; simp [hk, getD_lt hk, e, n, wrapk hk (show a.length < 2 ^ 62 by omega)]
    · rw [if_neg d] at e ⊢; simp [hk, getD_lt hk, e]
  · rw [M.l_szCoreS_l0]; simp
theorem toS_Core (a : List SCore) (ha : szL SCore.sz a ≤ 1048576) : M.l_toCoreS a = some a := by
  have hl := szL_len SCore.sz a
  have hn : a.length ≤ 1048576 := by omega
  have hi : (a.length : Int) ≤ 1073741824 := by omega
  have q : ∀ z, z.length = a.length → M.l_toCoreS_l0  a Go.V.bigN 0 z = some a := copy_loop (F := M.l_toCoreS_l0  a) a (by omega) (fun f k out h1 h2 hk => by
    rw [M.l_toCoreS_l0]
    have e := to_Core a[k] (by have := szL_mem SCore.sz a a[k] (List.getElem_mem hk); omega)
    simp [hk, h2, getD_lt hk, e, wrapk hk (big_of hn)]) (fun f out => by rw [M.l_toCoreS_l0]; simp)
  unfold M.l_toCoreS
  rw [q _ (by simp)]
  simp [hi]
theorem eqS_Core (a : List SCore) (ha : szL SCore.sz a ≤ 1048576) : M.l_eqCoreS a a = some true := by
  have hl := szL_len SCore.sz a
  have hn : a.length ≤ 1048576 := by omega
  unfold M.l_eqCoreS
  refine eq_all (F := M.l_eqCoreS_l0  a a) a hn (fun f k hk => ?_) (fun f => ?_)
  · rw [M.l_eqCoreS_l0]
    have e := eq_Core a[k] (by have := szL_mem SCore.sz a a[k] (List.getElem_mem hk); omega)
    simp [hk, getD_lt hk, e, wrapk hk (big_of hn)]
  · rw [M.l_eqCoreS_l0]; simp
theorem eq_CoreFrame (a : SCoreFrame) (h : a.sz ≤ 1048576) : M.l_eqCoreFrame a a = some true := by
  unfold M.l_eqCoreFrame
  have hs := SCoreFrame.sz_eq a
  skip
  have e3 := eqS_Int64 (a.Locals) (by omega)
  try simp [e3]
theorem eqS_CoreFrame (a : List SCoreFrame) (ha : szL SCoreFrame.sz a ≤ 1048576) : M.l_eqCoreFrameS a a = some true := by
  have hl := szL_len SCoreFrame.sz a
  have hn : a.length ≤ 1048576 := by omega
  unfold M.l_eqCoreFrameS
  refine eq_all (F := M.l_eqCoreFrameS_l0  a a) a hn (fun f k hk => ?_) (fun f => ?_)
  · rw [M.l_eqCoreFrameS_l0]
    have e := eq_CoreFrame a[k] (by have := szL_mem SCoreFrame.sz a a[k] (List.getElem_mem hk); omega)
    simp [hk, getD_lt hk, e, wrapk hk (big_of hn)]
  · rw [M.l_eqCoreFrameS_l0]; simp
theorem sz_Import (a : SImport) (left : Int) (ok : a.Ok) (h0 : 0 ≤ left) (h1 : left ≤ 1048576) : M.l_szImport a left = some (if (a.sz : Int) ≤ left then left - a.sz else -1) := by
  unfold M.l_szImport
  have hs := SImport.sz_eq a
  have ok1 := (SImport.ok_eq a).1 ok
  skip
  have e0 : Go.IntKind.wrap .i64 (left - ((a.Name).length : Int)) = left - ((a.Name).length : Int) := wrap_i64 (by have := ok1.1; unfold StrOk at this; omega) (by omega)
  by_cases c0 : (((a.Name).length : Nat) : Int) ≤ left
  · skip
    have n0 : ¬ (left - (((a.Name).length : Nat) : Int) < 0) := by omega
    have q : (a.sz : Int) ≤ left := by rw [hs] <;> push_cast <;> omega
    have q2 : left - (a.sz : Int) = left - (((a.Name).length : Nat) : Int) := by rw [hs] <;> push_cast <;> omega
    rw [if_pos q, q2]; simp [e0, n0]
  · have n0 : left - (((a.Name).length : Nat) : Int) < 0 := by omega
    have q : ¬ ((a.sz : Int) ≤ left) := by rw [hs] <;> push_cast <;> omega
    rw [if_neg q]; simp [e0, n0]
theorem to_Import (a : SImport) (h : a.sz ≤ 1048576) : M.l_toImport a = some a := by
  unfold M.l_toImport
  have hs := SImport.sz_eq a
  skip
  try simp []
theorem eq_Import (a : SImport) (h : a.sz ≤ 1048576) : M.l_eqImport a a = some true := by
  unfold M.l_eqImport
  have hs := SImport.sz_eq a
  skip
  try simp []
theorem szS_Import (a : List SImport) (left : Int) (ok : LOk SImport.Ok a) (h0 : 0 ≤ left) (h1 : left ≤ 1048576) : M.l_szImportS a left = some (if (szL SImport.sz a : Int) ≤ left then left - szL SImport.sz a else -1) := by
  have hl := ok.1
  unfold M.l_szImportS
  rw [wrap_i64 (by omega) (by omega)]
  refine szS_of (f := SImport.sz) (F := M.l_szImportS_l0  a) a left h0 h1 (fun g k l h2 h3 hk => ?_) (fun g l => ?_)
  · have hn : k < 2 ^ 62 := by omega
    rw [M.l_szImportS_l0]
    have e := sz_Import a[k] l (ok.2 _ (List.getElem_mem hk)) h2 (by omega)
    by_cases d : ((SImport.sz a[k] : Nat) : Int) ≤ l
    · have n : ¬ (l - ((SImport.sz a[k] : Nat) : Int) < 0) := by omega
      rw [if_pos d] at e ⊢; simp [hk, getD_lt hk, e, n, wrapk hk (show a.length < 2 ^ 62 by omega)]
    · rw [if_neg d] at e ⊢; simp [hk, getD_lt hk, e]
  · rw [M.l_szImportS_l0]; simp
theorem toS_Import (a : List SImport) (ha : szL SImport.sz a ≤ 1048576) : M.l_toImportS a = some a := by
  have hl := szL_len SImport.sz a
  have hn : a.length ≤ 1048576 := by omega
  have hi : (a.length : Int) ≤ 1073741824 := by omega
  have q : ∀ z, z.length = a.length → M.l_toImportS_l0  a Go.V.bigN 0 z = some a := copy_loop (F := M.l_toImportS_l0  a) a (by omega) (fun f k out h1 h2 hk => by
    rw [M.l_toImportS_l0]
    have e := to_Import a[k] (by have := szL_mem SImport.sz a a[k] (List.getElem_mem hk); omega)
    simp [hk, h2, getD_lt hk, e, wrapk hk (big_of hn)]) (fun f out => by rw [M.l_toImportS_l0]; simp)
  unfold M.l_toImportS
  rw [q _ (by simp)]
  simp [hi]
theorem eqS_Import (a : List SImport) (ha : szL SImport.sz a ≤ 1048576) : M.l_eqImportS a a = some true := by
  have hl := szL_len SImport.sz a
  have hn : a.length ≤ 1048576 := by omega
  unfold M.l_eqImportS
  refine eq_all (F := M.l_eqImportS_l0  a a) a hn (fun f k hk => ?_) (fun f => ?_)
  · rw [M.l_eqImportS_l0]
    have e := eq_Import a[k] (by have := szL_mem SImport.sz a a[k] (List.getElem_mem hk); omega)
    simp [hk, getD_lt hk, e, wrapk hk (big_of hn)]
  · rw [M.l_eqImportS_l0]; simp
theorem eq_Machine (a : SMachine) (h : a.sz ≤ 1048576) : M.l_eqMachine a a = some true := by
  unfold M.l_eqMachine
  have hs := SMachine.sz_eq a
  skip
  have e1 := eqS_CoreFrame (a.Frames) (by omega)
  have e2 := eqS_Int64 (a.Stack) (by omega)
  have e4 := eqS_Int64 (a.Args) (by omega)
  try simp [e1, e2, e4]
theorem sz_Module (a : SModule) (left : Int) (ok : a.Ok) (h0 : 0 ≤ left) (h1 : left ≤ 1048576) : M.l_szModule a left = some (if (a.sz : Int) ≤ left then left - a.sz else -1) := by
  unfold M.l_szModule
  have hs := SModule.sz_eq a
  have ok1 := (SModule.ok_eq a).1 ok
  skip
  have e0 := szS_Import (a.Imports) (left) ok1.2.1 (by omega) (by omega)
  by_cases c0 : ((szL SImport.sz (a.Imports) : Nat) : Int) ≤ left
  · rw [if_pos c0] at e0
    have n0 : ¬ (left - ((szL SImport.sz (a.Imports) : Nat) : Int) < 0) := by omega
    have e1 := szS_Core (a.Cores) (left - ((szL SImport.sz (a.Imports) : Nat) : Int)) ok1.2.2.1 (by omega) (by omega)
    by_cases c1 : ((szL SCore.sz (a.Cores) : Nat) : Int) ≤ left - ((szL SImport.sz (a.Imports) : Nat) : Int)
    · rw [if_pos c1] at e1
      have n1 : ¬ (left - ((szL SImport.sz (a.Imports) : Nat) : Int) - ((szL SCore.sz (a.Cores) : Nat) : Int) < 0) := by omega
      have q : (a.sz : Int) ≤ left := by rw [hs] <;> push_cast <;> omega
      have q2 : left - (a.sz : Int) = left - ((szL SImport.sz (a.Imports) : Nat) : Int) - ((szL SCore.sz (a.Cores) : Nat) : Int) := by rw [hs] <;> push_cast <;> omega
      rw [if_pos q, q2]; simp [e0, n0, e1, n1]
    · rw [if_neg c1] at e1
      have q : ¬ ((a.sz : Int) ≤ left) := by rw [hs] <;> push_cast <;> omega
      rw [if_neg q]; simp [e0, n0, e1]
  · rw [if_neg c0] at e0
    have q : ¬ ((a.sz : Int) ≤ left) := by rw [hs] <;> push_cast <;> omega
    rw [if_neg q]; simp [e0]
theorem to_Module (a : SModule) (h : a.sz ≤ 1048576) : M.l_toModule a = some (a.Pages, a.Imports, a.Cores) := by
  unfold M.l_toModule
  have hs := SModule.sz_eq a
  skip
  have e1 := toS_Import (a.Imports) (by omega)
  have e2 := toS_Core (a.Cores) (by omega)
  try simp [e1, e2]
theorem eq_Module (a : SModule) (h : a.sz ≤ 1048576) : M.l_eqModule a a = some true := by
  unfold M.l_eqModule
  have hs := SModule.sz_eq a
  skip
  have e1 := eqS_Import (a.Imports) (by omega)
  have e2 := eqS_Core (a.Cores) (by omega)
  try simp [e1, e2]
end M
