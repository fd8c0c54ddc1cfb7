/-
  Part of the proof of the claim.
-/
import Derived.Test.YtjnemekhocfmlaaGreatXPdata
import Derived.Test.YtjnemekhocfmlaaGreatXPhand3
import Derived.Test.YtjnemekhocfmlaaGreatXPhand5
set_option linter.unusedVariables false
set_option maxRecDepth 100000
noncomputable section
namespace M
def l_szImport (a : M.SImport) (left : Int) : Option (Int) :=
 bif (decide ((Go.IntKind.wrap Go.IntKind.i64 (left - ((List.length (M.SImport.Name a)) : Int))) < (0 : Int))) then
 some (-(1 : Int))
 else
 some (Go.IntKind.wrap Go.IntKind.i64 (left - ((List.length (M.SImport.Name a)) : Int)))
def l_szImportS_l0 (a : (List M.SImport)) : Nat → Int → Int → Option ((Int) ⊕ (Int))
 | 0, _, _ => none
 | fuel + 1, left, i =>
 bif (decide (i < ((List.length a) : Int))) then
 let q0 := (M.l_szImport (List.getD a (Int.toNat i) M.SImport.zero) left)
 let q1 := (Option.getD q0 default)
 bif (decide (q1 < (0 : Int))) then
 let q2 := ((Option.isSome q0) && ((Go.V.inB i (List.length a)) && true))
 bif q2 then
 some (.inl (-(1 : Int)))
 else
 none
 else
 let q2 := ((Option.isSome q0) && ((Go.V.inB i (List.length a)) && true))
 bif q2 then
 M.l_szImportS_l0 a fuel q1 (Go.IntKind.wrap Go.IntKind.i64 (i + (1 : Int)))
 else
 none
 else
 some ((.inr (left)))
def l_szImportS (a : (List M.SImport)) (left : Int) : Option (Int) :=
 bif (decide ((Go.IntKind.wrap Go.IntKind.i64 (left - ((List.length a) : Int))) < (0 : Int))) then
 some (-(1 : Int))
 else
 match (M.l_szImportS_l0 a Go.V.bigN (Go.IntKind.wrap Go.IntKind.i64 (left - ((List.length a) : Int))) (0 : Int)) with
 | none => none
 | some y0 =>
 (match y0 with
 | .inl a1 =>
 some a1
 | .inr b1 =>
 some b1)
def l_szInsS (a : (List M.SIns)) (left : Int) : Option (Int) :=
 bif (decide ((Go.IntKind.wrap Go.IntKind.i64 (left - ((List.length a) : Int))) < (0 : Int))) then
 some (-(1 : Int))
 else
 some (Go.IntKind.wrap Go.IntKind.i64 (left - ((List.length a) : Int)))
def l_szCore (a : M.SCore) (left : Int) : Option (Int) :=
 bif (decide ((Go.IntKind.wrap Go.IntKind.i64 (left - ((List.length (M.SCore.Name a)) : Int))) < (0 : Int))) then
 some (-(1 : Int))
 else
 let q0 := (M.l_szInsS (M.SCore.Code a) (Go.IntKind.wrap Go.IntKind.i64 (left - ((List.length (M.SCore.Name a)) : Int))))
 let q1 := (Option.getD q0 default)
 bif (decide (q1 < (0 : Int))) then
 let q2 := ((Option.isSome q0) && true)
 bif q2 then
 some (-(1 : Int))
 else
 none
 else
 let q2 := ((Option.isSome q0) && true)
 bif q2 then
 some q1
 else
 none
def l_szCoreS_l0 (a : (List M.SCore)) : Nat → Int → Int → Option ((Int) ⊕ (Int))
 | 0, _, _ => none
 | fuel + 1, left, i =>
 bif (decide (i < ((List.length a) : Int))) then
 let q0 := (M.l_szCore (List.getD a (Int.toNat i) M.SCore.zero) left)
 let q1 := (Option.getD q0 default)
 bif (decide (q1 < (0 : Int))) then
 let q2 := ((Option.isSome q0) && ((Go.V.inB i (List.length a)) && true))
 bif q2 then
 some (.inl (-(1 : Int)))
 else
 none
 else
 let q2 := ((Option.isSome q0) && ((Go.V.inB i (List.length a)) && true))
 bif q2 then
 M.l_szCoreS_l0 a fuel q1 (Go.IntKind.wrap Go.IntKind.i64 (i + (1 : Int)))
 else
 none
 else
 some ((.inr (left)))
def l_szCoreS (a : (List M.SCore)) (left : Int) : Option (Int) :=
 bif (decide ((Go.IntKind.wrap Go.IntKind.i64 (left - ((List.length a) : Int))) < (0 : Int))) then
 some (-(1 : Int))
 else
 match (M.l_szCoreS_l0 a Go.V.bigN (Go.IntKind.wrap Go.IntKind.i64 (left - ((List.length a) : Int))) (0 : Int)) with
 | none => none
 | some y0 =>
 (match y0 with
 | .inl a1 =>
 some a1
 | .inr b1 =>
 some b1)
def l_szModule (a : M.SModule) (left : Int) : Option (Int) :=
 let q0 := (M.l_szImportS (M.SModule.Imports a) left)
 bif (decide ((Option.getD q0 default) < (0 : Int))) then
 bif ((Option.isSome q0) && true) then
 some (-(1 : Int))
 else
 none
 else
 let q1 := (M.l_szCoreS (M.SModule.Cores a) (Option.getD q0 default))
 let q2 := (Option.getD q1 default)
 bif (decide (q2 < (0 : Int))) then
 let q3 := ((Option.isSome q1) && ((Option.isSome q0) && true))
 bif q3 then
 some (-(1 : Int))
 else
 none
 else
 let q3 := ((Option.isSome q1) && ((Option.isSome q0) && true))
 bif q3 then
 some q2
 else
 none
def l_toImport (a : M.SImport) : Option (M.SImport) :=
 some a
def l_toImportS_l0 (a : (List M.SImport)) : Nat → Int → (List M.SImport) → Option ((List M.SImport))
 | 0, _, _ => none
 | fuel + 1, i, out =>
 bif (decide (i < ((List.length a) : Int))) then
 bif ((Go.V.inB i (List.length out)) && ((Go.V.inB i (List.length a)) && true)) then
 M.l_toImportS_l0 a fuel (Go.IntKind.wrap Go.IntKind.i64 (i + (1 : Int))) (List.set out (Int.toNat i) (List.getD a (Int.toNat i) M.SImport.zero))
 else
 none
 else
 some (out)
def l_toImportS (a : (List M.SImport)) : Option ((List M.SImport)) :=
 match (M.l_toImportS_l0 a Go.V.bigN (0 : Int) (List.replicate (Int.toNat ((List.length a) : Int)) (M.SImport.mk [] (0 : Int) false))) with
 | none => none
 | some y0 =>
 bif (((decide (((List.length a) : Int) ≤ ((List.length a) : Int))) && (decide (((List.length a) : Int) ≤ (1073741824 : Int)))) && true) then
 some y0
 else
 none
def l_toIns (a : M.SIns) : Option (M.SIns) :=
 some a
def l_toInsS_l0 (a : (List M.SIns)) : Nat → Int → (List M.SIns) → Option ((List M.SIns))
 | 0, _, _ => none
 | fuel + 1, i, out =>
 bif (decide (i < ((List.length a) : Int))) then
 bif ((Go.V.inB i (List.length out)) && ((Go.V.inB i (List.length a)) && true)) then
 M.l_toInsS_l0 a fuel (Go.IntKind.wrap Go.IntKind.i64 (i + (1 : Int))) (List.set out (Int.toNat i) (List.getD a (Int.toNat i) M.SIns.zero))
 else
 none
 else
 some (out)
def l_toInsS (a : (List M.SIns)) : Option ((List M.SIns)) :=
 match (M.l_toInsS_l0 a Go.V.bigN (0 : Int) (List.replicate (Int.toNat ((List.length a) : Int)) (M.SIns.mk (0 : Int) (0 : Int)))) with
 | none => none
 | some y0 =>
 bif (((decide (((List.length a) : Int) ≤ ((List.length a) : Int))) && (decide (((List.length a) : Int) ≤ (1073741824 : Int)))) && true) then
 some y0
 else
 none
def l_toCore (a : M.SCore) : Option ((List UInt8) × Int × Int × Bool × (List M.SIns)) :=
 let q0 := (M.l_toInsS (M.SCore.Code a))
 bif ((Option.isSome q0) && true) then
 some ((M.SCore.Name a), (M.SCore.Params a), (M.SCore.Locals a), (M.SCore.Result a), (Option.getD q0 default))
 else
 none
def l_toCoreS_l0 (a : (List M.SCore)) : Nat → Int → (List M.SCore) → Option ((List M.SCore))
 | 0, _, _ => none
 | fuel + 1, i, out =>
 bif (decide (i < ((List.length a) : Int))) then
 let q0 := (M.l_toCore (List.getD a (Int.toNat i) M.SCore.zero))
 bif ((Go.V.inB i (List.length out)) && ((Option.isSome q0) && ((Go.V.inB i (List.length a)) && true))) then
 let q1 := (Option.getD q0 default)
 let q2 := q1.2
 let q3 := q2.2
 let q4 := q3.2
 M.l_toCoreS_l0 a fuel (Go.IntKind.wrap Go.IntKind.i64 (i + (1 : Int))) (List.set out (Int.toNat i) (M.SCore.mk q1.1 q2.1 q3.1 q4.1 q4.2))
 else
 none
 else
 some (out)
def l_toCoreS (a : (List M.SCore)) : Option ((List M.SCore)) :=
 match (M.l_toCoreS_l0 a Go.V.bigN (0 : Int) (List.replicate (Int.toNat ((List.length a) : Int)) (M.SCore.mk [] (0 : Int) (0 : Int) false []))) with
 | none => none
 | some y0 =>
 bif (((decide (((List.length a) : Int) ≤ ((List.length a) : Int))) && (decide (((List.length a) : Int) ≤ (1073741824 : Int)))) && true) then
 some y0
 else
 none
def l_toModule (a : M.SModule) : Option (Int × (List M.SImport) × (List M.SCore)) :=
 let q0 := (M.l_toCoreS (M.SModule.Cores a))
 let q1 := (M.l_toImportS (M.SModule.Imports a))
 bif ((Option.isSome q0) && ((Option.isSome q1) && true)) then
 some ((M.SModule.Pages a), (Option.getD q1 default), (Option.getD q0 default))
 else
 none
def l_toInt64S_l0 (a : (List Int)) : Nat → Int → (List Int) → Option ((List Int))
 | 0, _, _ => none
 | fuel + 1, i, out =>
 bif (decide (i < ((List.length a) : Int))) then
 bif ((Go.V.inB i (List.length out)) && ((Go.V.inB i (List.length a)) && true)) then
 M.l_toInt64S_l0 a fuel (Go.IntKind.wrap Go.IntKind.i64 (i + (1 : Int))) (List.set out (Int.toNat i) (List.getD a (Int.toNat i) (0 : Int)))
 else
 none
 else
 some (out)
def l_toInt64S (a : (List Int)) : Option ((List Int)) :=
 match (M.l_toInt64S_l0 a Go.V.bigN (0 : Int) (List.replicate (Int.toNat ((List.length a) : Int)) (0 : Int))) with
 | none => none
 | some y0 =>
 bif (((decide (((List.length a) : Int) ≤ ((List.length a) : Int))) && (decide (((List.length a) : Int) ≤ (1073741824 : Int)))) && true) then
 some y0
 else
 none
def s_l00In (n : Int) (low : Int) (high : Int) : Option (Bool) :=
 some ((decide (low ≤ n)) && (decide (n ≤ high)))
def s_l15Word_l0 (s : (List UInt8)) : Nat → Int → Option ((Bool) ⊕ ((List UInt8)))
 | 0, _ => none
 | fuel + 1, i =>
 bif (decide (i < ((List.length s) : Int))) then
 bif (!((((((decide ((97 : Int) ≤ ((UInt8.toNat (List.getD s (Int.toNat i) (0 : UInt8))) : Int))) && (decide (((UInt8.toNat (List.getD s (Int.toNat i) (0 : UInt8))) : Int) ≤ (122 : Int)))) || ((decide ((48 : Int) ≤ ((UInt8.toNat (List.getD s (Int.toNat i) (0 : UInt8))) : Int))) && (decide (((UInt8.toNat (List.getD s (Int.toNat i) (0 : UInt8))) : Int) ≤ (57 : Int))))) || (((UInt8.toNat (List.getD s (Int.toNat i) (0 : UInt8))) : Int) == (45 : Int))) || (((UInt8.toNat (List.getD s (Int.toNat i) (0 : UInt8))) : Int) == (46 : Int))) || (((UInt8.toNat (List.getD s (Int.toNat i) (0 : UInt8))) : Int) == (47 : Int)))) then
 bif ((Go.V.inB i (List.length s)) && true) then
 some (.inl false)
 else
 none
 else
 bif ((Go.V.inB i (List.length s)) && true) then
 M.s_l15Word_l0 s fuel (Go.IntKind.wrap Go.IntKind.i64 (i + (1 : Int)))
 else
 none
 else
 some ((.inr (s)))
def s_l15Word (s : (List UInt8)) : Option (Bool) :=
 match (M.s_l15Word_l0 s Go.V.bigN (0 : Int)) with
 | none => none
 | some y0 =>
 (match y0 with
 | .inl a1 =>
 some a1
 | .inr b1 =>
 some ((decide ((1 : Int) ≤ ((List.length b1) : Int))) && (decide (((List.length b1) : Int) ≤ (40 : Int)))))
def s_l15ImportAt_l0 (list : (List M.SImport)) (name : (List UInt8)) : Nat → Int → Option ((Int) ⊕ (Unit))
 | 0, _ => none
 | fuel + 1, i =>
 bif (decide (i < ((List.length list) : Int))) then
 bif ((M.SImport.Name (List.getD list (Int.toNat i) M.SImport.zero)) == name) then
 bif ((Go.V.inB i (List.length list)) && true) then
 some (.inl i)
 else
 none
 else
 bif ((Go.V.inB i (List.length list)) && true) then
 M.s_l15ImportAt_l0 list name fuel (Go.IntKind.wrap Go.IntKind.i64 (i + (1 : Int)))
 else
 none
 else
 some ((.inr (())))
def s_l15ImportAt (list : (List M.SImport)) (name : (List UInt8)) : Option (Int) :=
 match (M.s_l15ImportAt_l0 list name Go.V.bigN (0 : Int)) with
 | none => none
 | some y0 =>
 (match y0 with
 | .inl a1 =>
 some a1
 | .inr b1 =>
 some (-(1 : Int)))
def s_l15Shape_l0 (m : M.SModule) : Nat → Int → Option ((Bool) ⊕ (M.SModule))
 | 0, _ => none
 | fuel + 1, i =>
 bif (decide (i < ((List.length (M.SModule.Imports m)) : Int))) then
 let q0 := (M.s_l15Word (M.SImport.Name (List.getD (M.SModule.Imports m) (Int.toNat i) M.SImport.zero)))
 let q1 := ((!(Option.getD q0 default)) || (!((decide ((0 : Int) ≤ (M.SImport.Params (List.getD (M.SModule.Imports m) (Int.toNat i) M.SImport.zero)))) && (decide ((M.SImport.Params (List.getD (M.SModule.Imports m) (Int.toNat i) M.SImport.zero)) ≤ (8 : Int))))))
 let q2 := (M.s_l15ImportAt (List.drop (Int.toNat (0 : Int)) (List.take (Int.toNat i) (M.SModule.Imports m))) (M.SImport.Name (List.getD (M.SModule.Imports m) (Int.toNat i) M.SImport.zero)))
 bif (q1 || (decide ((0 : Int) ≤ (Option.getD q2 default)))) then
 let q3 := (!(q1 == false))
 let q4 := (((Option.isSome q2) || q3) && (((Go.V.slB (0 : Int) i (List.length (M.SModule.Imports m))) || q3) && ((Option.isSome q0) && ((Go.V.inB i (List.length (M.SModule.Imports m))) && true))))
 bif q4 then
 some (.inl false)
 else
 none
 else
 let q3 := (!(q1 == false))
 let q4 := (((Option.isSome q2) || q3) && (((Go.V.slB (0 : Int) i (List.length (M.SModule.Imports m))) || q3) && ((Option.isSome q0) && ((Go.V.inB i (List.length (M.SModule.Imports m))) && true))))
 bif q4 then
 M.s_l15Shape_l0 m fuel (Go.IntKind.wrap Go.IntKind.i64 (i + (1 : Int)))
 else
 none
 else
 some ((.inr (m)))
def s_l15Has (op : Int) : Option (Int × Int × Bool) :=
 bif (op == (1 : Int)) then
 some ((-(9223372036854775808 : Int)), (9223372036854775807 : Int), true)
 else
 bif (bif (op == (2 : Int)) then (op == (2 : Int)) else (bif (op == (3 : Int)) then (op == (3 : Int)) else (op == (4 : Int)))) then
 some ((0 : Int), (15 : Int), true)
 else
 bif (bif (op == (24 : Int)) then (op == (24 : Int)) else (bif (op == (25 : Int)) then (op == (25 : Int)) else (op == (26 : Int)))) then
 some ((0 : Int), (1 : Int), true)
 else
 bif (bif (op == (29 : Int)) then (op == (29 : Int)) else (op == (30 : Int))) then
 some ((0 : Int), (6 : Int), true)
 else
 bif (op == (32 : Int)) then
 some ((0 : Int), (7 : Int), true)
 else
 bif (op == (33 : Int)) then
 some ((0 : Int), (11 : Int), true)
 else
 bif (bif (op == (34 : Int)) then (op == (34 : Int)) else (bif (op == (35 : Int)) then (op == (35 : Int)) else (bif (op == (36 : Int)) then (op == (36 : Int)) else (bif (op == (37 : Int)) then (op == (37 : Int)) else (bif (op == (38 : Int)) then (op == (38 : Int)) else (op == (39 : Int))))))) then
 some ((0 : Int), (4096 : Int), true)
 else
 some ((0 : Int), (0 : Int), false)
def s_l15Ins (i : M.SIns) : Option (Bool) :=
 let q0 := (M.s_l15Has (M.SIns.Op i))
 bif ((Option.isSome q0) && true) then
 some (((decide ((1 : Int) ≤ (M.SIns.Op i))) && (decide ((M.SIns.Op i) ≤ (40 : Int)))) && ((decide ((Option.getD q0 default).1 ≤ (M.SIns.A i))) && (decide ((M.SIns.A i) ≤ (Option.getD q0 default).2.1))))
 else
 none
def s_l15Core_l0 (c : M.SCore) : Nat → Int → Option ((Bool) ⊕ (Unit))
 | 0, _ => none
 | fuel + 1, i =>
 bif (decide (i < ((List.length (M.SCore.Code c)) : Int))) then
 let q0 := (M.s_l15Ins (List.getD (M.SCore.Code c) (Int.toNat i) M.SIns.zero))
 bif (!(Option.getD q0 default)) then
 let q1 := ((Option.isSome q0) && ((Go.V.inB i (List.length (M.SCore.Code c))) && true))
 bif q1 then
 some (.inl false)
 else
 none
 else
 let q1 := ((Option.isSome q0) && ((Go.V.inB i (List.length (M.SCore.Code c))) && true))
 bif q1 then
 M.s_l15Core_l0 c fuel (Go.IntKind.wrap Go.IntKind.i64 (i + (1 : Int)))
 else
 none
 else
 some ((.inr (())))
def s_l15Core (c : M.SCore) : Option (Bool) :=
 let q0 := (M.s_l15Word (M.SCore.Name c))
 bif ((((!(Option.getD q0 default)) || (!((decide ((0 : Int) ≤ (M.SCore.Params c))) && (decide ((M.SCore.Params c) ≤ (8 : Int)))))) || (!((decide ((0 : Int) ≤ (M.SCore.Locals c))) && (decide ((M.SCore.Locals c) ≤ (8 : Int)))))) || (decide ((120 : Int) < ((List.length (M.SCore.Code c)) : Int)))) then
 bif ((Option.isSome q0) && true) then
 some false
 else
 none
 else
 match (M.s_l15Core_l0 c Go.V.bigN (0 : Int)) with
 | none => none
 | some y1 =>
 (match y1 with
 | .inl a2 =>
 bif ((Option.isSome q0) && true) then
 some a2
 else
 none
 | .inr b2 =>
 bif ((Option.isSome q0) && true) then
 some true
 else
 none)
def s_l15CoreAt_l0 (list : (List M.SCore)) (name : (List UInt8)) : Nat → Int → Option ((Int) ⊕ (Unit))
 | 0, _ => none
 | fuel + 1, i =>
 bif (decide (i < ((List.length list) : Int))) then
 bif ((M.SCore.Name (List.getD list (Int.toNat i) M.SCore.zero)) == name) then
 bif ((Go.V.inB i (List.length list)) && true) then
 some (.inl i)
 else
 none
 else
 bif ((Go.V.inB i (List.length list)) && true) then
 M.s_l15CoreAt_l0 list name fuel (Go.IntKind.wrap Go.IntKind.i64 (i + (1 : Int)))
 else
 none
 else
 some ((.inr (())))
def s_l15CoreAt (list : (List M.SCore)) (name : (List UInt8)) : Option (Int) :=
 match (M.s_l15CoreAt_l0 list name Go.V.bigN (0 : Int)) with
 | none => none
 | some y0 =>
 (match y0 with
 | .inl a1 =>
 some a1
 | .inr b1 =>
 some (-(1 : Int)))
def s_l15Shape_l1 (m : M.SModule) : Nat → Int → Option ((Bool) ⊕ (Unit))
 | 0, _ => none
 | fuel + 1, i =>
 bif (decide (i < ((List.length (M.SModule.Cores m)) : Int))) then
 let q0 := (M.s_l15Core (List.getD (M.SModule.Cores m) (Int.toNat i) M.SCore.zero))
 let q1 := (!(Option.getD q0 default))
 let q2 := (M.s_l15CoreAt (List.drop (Int.toNat (0 : Int)) (List.take (Int.toNat i) (M.SModule.Cores m))) (M.SCore.Name (List.getD (M.SModule.Cores m) (Int.toNat i) M.SCore.zero)))
 bif (q1 || (decide ((0 : Int) ≤ (Option.getD q2 default)))) then
 let q3 := (!(q1 == false))
 let q4 := (((Option.isSome q2) || q3) && (((Go.V.inB i (List.length (M.SModule.Cores m))) || q3) && (((Go.V.slB (0 : Int) i (List.length (M.SModule.Cores m))) || q3) && ((Option.isSome q0) && ((Go.V.inB i (List.length (M.SModule.Cores m))) && true)))))
 bif q4 then
 some (.inl false)
 else
 none
 else
 let q3 := (!(q1 == false))
 let q4 := (((Option.isSome q2) || q3) && (((Go.V.inB i (List.length (M.SModule.Cores m))) || q3) && (((Go.V.slB (0 : Int) i (List.length (M.SModule.Cores m))) || q3) && ((Option.isSome q0) && ((Go.V.inB i (List.length (M.SModule.Cores m))) && true)))))
 bif q4 then
 M.s_l15Shape_l1 m fuel (Go.IntKind.wrap Go.IntKind.i64 (i + (1 : Int)))
 else
 none
 else
 some ((.inr (())))
def s_l15Shape (m : M.SModule) : Option (Bool) :=
 bif (((!((decide ((1 : Int) ≤ (M.SModule.Pages m))) && (decide ((M.SModule.Pages m) ≤ (16 : Int))))) || (decide ((12 : Int) < ((List.length (M.SModule.Imports m)) : Int)))) || (decide ((8 : Int) < ((List.length (M.SModule.Cores m)) : Int)))) then
 some false
 else
 match (M.s_l15Shape_l0 m Go.V.bigN (0 : Int)) with
 | none => none
 | some y0 =>
 (match y0 with
 | .inl a1 =>
 some a1
 | .inr b1 =>
 match (M.s_l15Shape_l1 b1 Go.V.bigN (0 : Int)) with
 | none => none
 | some y2 =>
 (match y2 with
 | .inl a3 =>
 some a3
 | .inr b3 =>
 some true))
def s_l16Opens (op : Int) : Option (Bool) :=
 some (((op == (24 : Int)) || (op == (25 : Int))) || (op == (26 : Int)))
def s_l16Blocks_l0 (c : M.SCore) : Nat → Int → (List M.SCodeBlock) → (List Int) → Option ((Int × Int × (List M.SCodeBlock)) ⊕ (M.SCore × (List M.SCodeBlock) × (List Int)))
 | 0, _, _, _ => none
 | fuel + 1, at_, out, open_ =>
 bif (decide (at_ < ((List.length (M.SCore.Code c)) : Int))) then
 bif ((((M.SIns.Op (List.getD (M.SCore.Code c) (Int.toNat at_) M.SIns.zero)) == (24 : Int)) || ((M.SIns.Op (List.getD (M.SCore.Code c) (Int.toNat at_) M.SIns.zero)) == (25 : Int))) || ((M.SIns.Op (List.getD (M.SCore.Code c) (Int.toNat at_) M.SIns.zero)) == (26 : Int))) then
 bif (((List.length open_) : Int) == (6 : Int)) then
 bif ((Go.V.inB at_ (List.length (M.SCore.Code c))) && true) then
 some (.inl (at_, (4 : Int), []))
 else
 none
 else
 let q0 := [(M.SCodeBlock.mk at_ (-(1 : Int)) (-(1 : Int)) (0 : Int) ((M.SIns.A (List.getD (M.SCore.Code c) (Int.toNat at_) M.SIns.zero)) == (1 : Int)))]
 let q1 := [((List.length out) : Int)]
 bif ((decide (((List.length out) + (List.length q0)) ≤ 1073741824)) && ((decide (((List.length open_) + (List.length q1)) ≤ 1073741824)) && ((Go.V.inB at_ (List.length (M.SCore.Code c))) && true))) then
 M.s_l16Blocks_l0 c fuel (Go.IntKind.wrap Go.IntKind.i64 (at_ + (1 : Int))) (out ++ q0) (open_ ++ q1)
 else
 none
 else
 bif ((M.SIns.Op (List.getD (M.SCore.Code c) (Int.toNat at_) M.SIns.zero)) == (27 : Int)) then
 let q0 := (Go.IntKind.wrap Go.IntKind.i64 (((List.length open_) : Int) - (1 : Int)))
 let q1 := (Int.toNat q0)
 let q2 := (List.getD open_ q1 (0 : Int))
 let q3 := (Int.toNat q2)
 let q4 := (List.getD out q3 M.SCodeBlock.zero)
 let q5 := ((((List.length open_) : Int) == (0 : Int)) || ((M.SIns.Op (List.getD (M.SCore.Code c) (Int.toNat (M.SCodeBlock.At q4)) M.SIns.zero)) != (26 : Int)))
 bif (q5 || (decide ((0 : Int) ≤ (M.SCodeBlock.Else q4)))) then
 let q6 := (Go.V.inB q2 (List.length out))
 let q7 := (!(q5 == false))
 let q8 := (Go.V.inB q0 (List.length open_))
 let q9 := (Go.V.inB (M.SCodeBlock.At q4) (List.length (M.SCore.Code c)))
 let q10 := (!((((List.length open_) : Int) == (0 : Int)) == false))
 let q11 := ((q6 || q7) && ((q8 || q7) && ((q9 || q10) && ((q6 || q10) && ((q8 || q10) && ((Go.V.inB at_ (List.length (M.SCore.Code c))) && true))))))
 bif q11 then
 some (.inl (at_, (5 : Int), []))
 else
 none
 else
 let q6 := (Go.V.inB q2 (List.length out))
 let q7 := (Go.V.inB q0 (List.length open_))
 let q8 := (!(q5 == false))
 let q9 := (Go.V.inB (M.SCodeBlock.At q4) (List.length (M.SCore.Code c)))
 let q10 := (!((((List.length open_) : Int) == (0 : Int)) == false))
 let q11 := ((q6 || q8) && ((q7 || q8) && ((q9 || q10) && ((q6 || q10) && ((q7 || q10) && ((Go.V.inB at_ (List.length (M.SCore.Code c))) && true))))))
 bif (q6 && (q7 && q11)) then
 M.s_l16Blocks_l0 c fuel (Go.IntKind.wrap Go.IntKind.i64 (at_ + (1 : Int))) (List.set out q3 (M.SCodeBlock.mk (M.SCodeBlock.At q4) at_ (M.SCodeBlock.End q4) (M.SCodeBlock.Height q4) (M.SCodeBlock.Result q4))) open_
 else
 none
 else
 bif ((M.SIns.Op (List.getD (M.SCore.Code c) (Int.toNat at_) M.SIns.zero)) == (28 : Int)) then
 bif (((List.length open_) : Int) == (0 : Int)) then
 bif ((Go.V.inB at_ (List.length (M.SCore.Code c))) && true) then
 some (.inl (at_, (5 : Int), []))
 else
 none
 else
 let q0 := (Go.IntKind.wrap Go.IntKind.i64 (((List.length open_) : Int) - (1 : Int)))
 let q1 := (Int.toNat q0)
 let q2 := (List.getD open_ q1 (0 : Int))
 let q3 := (Int.toNat q2)
 let q4 := (List.getD out q3 M.SCodeBlock.zero)
 bif ((((M.SIns.Op (List.getD (M.SCore.Code c) (Int.toNat (M.SCodeBlock.At q4)) M.SIns.zero)) == (26 : Int)) && (M.SCodeBlock.Result q4)) && (decide ((M.SCodeBlock.Else q4) < (0 : Int)))) then
 let q5 := (Go.V.inB (M.SCodeBlock.At q4) (List.length (M.SCore.Code c)))
 let q6 := (Go.V.inB q2 (List.length out))
 let q7 := (Go.V.inB q0 (List.length open_))
 let q8 := (q5 && (q6 && (q7 && ((Go.V.inB at_ (List.length (M.SCore.Code c))) && true))))
 bif q8 then
 some (.inl (at_, (7 : Int), []))
 else
 none
 else
 let q5 := (Go.V.inB q2 (List.length out))
 let q6 := (Go.V.inB q0 (List.length open_))
 let q7 := (Go.V.inB (M.SCodeBlock.At q4) (List.length (M.SCore.Code c)))
 let q8 := (q7 && (q5 && (q6 && ((Go.V.inB at_ (List.length (M.SCore.Code c))) && true))))
 bif ((Go.V.slB (0 : Int) q0 (List.length open_)) && (q5 && (q6 && q8))) then
 M.s_l16Blocks_l0 c fuel (Go.IntKind.wrap Go.IntKind.i64 (at_ + (1 : Int))) (List.set out q3 (M.SCodeBlock.mk (M.SCodeBlock.At q4) (M.SCodeBlock.Else q4) at_ (M.SCodeBlock.Height q4) (M.SCodeBlock.Result q4))) (List.take q1 open_)
 else
 none
 else
 bif ((Go.V.inB at_ (List.length (M.SCore.Code c))) && true) then
 M.s_l16Blocks_l0 c fuel (Go.IntKind.wrap Go.IntKind.i64 (at_ + (1 : Int))) out open_
 else
 none
 else
 some ((.inr ((c, out, open_))))
def s_l16Blocks (c : M.SCore) : Option (Int × Int × (List M.SCodeBlock)) :=
 match (M.s_l16Blocks_l0 c Go.V.bigN (0 : Int) [] []) with
 | none => none
 | some y0 =>
 (match y0 with
 | .inl a1 =>
 some (a1.1, a1.2.1, a1.2.2)
 | .inr b1 =>
 bif (decide ((0 : Int) < ((List.length b1.2.2) : Int))) then
 some (((List.length (M.SCore.Code b1.1)) : Int), (5 : Int), [])
 else
 some ((0 : Int), (0 : Int), b1.2.1))
def s_l00Own (list : (List Int)) : Option ((List Int)) :=
 bif ((decide ((0 + (List.length list)) ≤ 1073741824)) && true) then
 some ([] ++ list)
 else
 none
def s_l16R_place (r : Int) (r2 : (List M.SImport)) (r3 : (List M.SCore)) (r4 : (List UInt8)) (r5 : Int) (r6 : Int) (r7 : Bool) (r8 : (List M.SIns)) (r9 : Int) (r10 : Bool) (o1 : (List M.SCodeBlock)) (o2 : (List Int)) : Option (M.SCodePlace × Int × (List M.SImport) × (List M.SCore) × (List UInt8) × Int × Int × Bool × (List M.SIns) × Int × Bool × (List M.SCodeBlock) × (List Int)) :=
 bif r10 then
 some ((M.SCodePlace.mk false (0 : Int) []), r, r2, r3, r4, r5, r6, r7, r8, r9, r10, o1, o2)
 else
 let q0 := (M.s_l00Own o2)
 bif ((Option.isSome q0) && true) then
 some ((M.SCodePlace.mk true r9 (Option.getD q0 default)), r, r2, r3, r4, r5, r6, r7, r8, r9, r10, o1, o2)
 else
 none
def s_l16One (yes : Bool) : Option (Int) :=
 bif yes then
 some (1 : Int)
 else
 some (0 : Int)
def s_l16R_close (end_ : Bool) (r : Int) (r2 : (List M.SImport)) (r3 : (List M.SCore)) (r4 : (List UInt8)) (r5 : Int) (r6 : Int) (r7 : Bool) (r8 : (List M.SIns)) (r9 : Int) (r10 : Bool) (o1 : (List M.SCodeBlock)) (o2 : (List Int)) : Option (Bool × Int × (List M.SImport) × (List M.SCore) × (List UInt8) × Int × Int × Bool × (List M.SIns) × Int × Bool × (List M.SCodeBlock) × (List Int)) :=
 let q0 := (Go.IntKind.wrap Go.IntKind.i64 (((List.length o2) : Int) - (1 : Int)))
 let q1 := (Int.toNat q0)
 let q2 := (List.getD o2 q1 (0 : Int))
 let q3 := (List.getD o1 (Int.toNat q2) M.SCodeBlock.zero)
 let q4 := (M.s_l16One (M.SCodeBlock.Result q3))
 let q5 := (Go.IntKind.wrap Go.IntKind.i64 ((M.SCodeBlock.Height q3) + (Option.getD q4 default)))
 bif ((!r10) && (r9 != q5)) then
 let q6 := (Option.isSome q4)
 let q7 := ((q6 || (!((!r10) == true))) && ((Go.V.inB q2 (List.length o1)) && ((Go.V.inB q0 (List.length o2)) && true)))
 bif q7 then
 some (false, r, r2, r3, r4, r5, r6, r7, r8, r9, r10, o1, o2)
 else
 none
 else
 bif end_ then
 let q6 := (Option.isSome q4)
 let q7 := ((q6 || (!((!r10) == true))) && ((Go.V.inB q2 (List.length o1)) && ((Go.V.inB q0 (List.length o2)) && true)))
 bif ((Go.V.slB (0 : Int) q0 (List.length o2)) && (q6 && q7)) then
 some (true, r, r2, r3, r4, r5, r6, r7, r8, q5, false, o1, (List.take q1 o2))
 else
 none
 else
 let q6 := (Option.isSome q4)
 let q7 := ((q6 || (!((!r10) == true))) && ((Go.V.inB q2 (List.length o1)) && ((Go.V.inB q0 (List.length o2)) && true)))
 bif q7 then
 some (true, r, r2, r3, r4, r5, r6, r7, r8, (M.SCodeBlock.Height q3), false, o1, o2)
 else
 none
def s_l16There (m : M.SModule) (c : M.SCore) (i : M.SIns) (deep : Int) : Option (Bool) :=
 bif (bif ((M.SIns.Op i) == (2 : Int)) then ((M.SIns.Op i) == (2 : Int)) else (bif ((M.SIns.Op i) == (3 : Int)) then ((M.SIns.Op i) == (3 : Int)) else ((M.SIns.Op i) == (4 : Int)))) then
 some (decide ((M.SIns.A i) < (Go.IntKind.wrap Go.IntKind.i64 ((M.SCore.Params c) + (M.SCore.Locals c)))))
 else
 bif ((M.SIns.Op i) == (32 : Int)) then
 some (decide ((M.SIns.A i) < ((List.length (M.SModule.Cores m)) : Int)))
 else
 bif ((M.SIns.Op i) == (33 : Int)) then
 some (decide ((M.SIns.A i) < ((List.length (M.SModule.Imports m)) : Int)))
 else
 bif (bif ((M.SIns.Op i) == (29 : Int)) then ((M.SIns.Op i) == (29 : Int)) else ((M.SIns.Op i) == (30 : Int))) then
 some (decide ((M.SIns.A i) ≤ deep))
 else
 some true
def s_l16Take (m : M.SModule) (i : M.SIns) : Option (Int × Int) :=
 bif (((M.SIns.Op i) == (1 : Int)) || ((M.SIns.Op i) == (2 : Int))) then
 some ((0 : Int), (1 : Int))
 else
 bif (((((M.SIns.Op i) == (3 : Int)) || ((M.SIns.Op i) == (5 : Int))) || ((M.SIns.Op i) == (26 : Int))) || ((M.SIns.Op i) == (30 : Int))) then
 some ((1 : Int), (0 : Int))
 else
 bif ((((((M.SIns.Op i) == (4 : Int)) || ((M.SIns.Op i) == (22 : Int))) || ((M.SIns.Op i) == (34 : Int))) || ((M.SIns.Op i) == (35 : Int))) || ((M.SIns.Op i) == (36 : Int))) then
 some ((1 : Int), (1 : Int))
 else
 bif ((decide ((6 : Int) ≤ (M.SIns.Op i))) && (decide ((M.SIns.Op i) ≤ (21 : Int)))) then
 some ((2 : Int), (1 : Int))
 else
 bif ((M.SIns.Op i) == (23 : Int)) then
 some ((3 : Int), (1 : Int))
 else
 bif ((((M.SIns.Op i) == (37 : Int)) || ((M.SIns.Op i) == (38 : Int))) || ((M.SIns.Op i) == (39 : Int))) then
 some ((2 : Int), (0 : Int))
 else
 bif ((M.SIns.Op i) == (32 : Int)) then
 let q0 := (M.s_l16One (M.SCore.Result (List.getD (M.SModule.Cores m) (Int.toNat (M.SIns.A i)) M.SCore.zero)))
 bif ((Option.isSome q0) && ((Go.V.inB (M.SIns.A i) (List.length (M.SModule.Cores m))) && ((Go.V.inB (M.SIns.A i) (List.length (M.SModule.Cores m))) && true))) then
 some ((M.SCore.Params (List.getD (M.SModule.Cores m) (Int.toNat (M.SIns.A i)) M.SCore.zero)), (Option.getD q0 default))
 else
 none
 else
 bif ((M.SIns.Op i) == (33 : Int)) then
 let q0 := (M.s_l16One (M.SImport.Result (List.getD (M.SModule.Imports m) (Int.toNat (M.SIns.A i)) M.SImport.zero)))
 bif ((Option.isSome q0) && ((Go.V.inB (M.SIns.A i) (List.length (M.SModule.Imports m))) && ((Go.V.inB (M.SIns.A i) (List.length (M.SModule.Imports m))) && true))) then
 some ((M.SImport.Params (List.getD (M.SModule.Imports m) (Int.toNat (M.SIns.A i)) M.SImport.zero)), (Option.getD q0 default))
 else
 none
 else
 some ((0 : Int), (0 : Int))
def s_l16R_base (r : M.Sl16R) : Option (Int) :=
 bif (decide ((0 : Int) < ((List.length (M.Sl16R.open_ r)) : Int))) then
 let q0 := (Go.IntKind.wrap Go.IntKind.i64 (((List.length (M.Sl16R.open_ r)) : Int) - (1 : Int)))
 let q1 := (List.getD (M.Sl16R.open_ r) (Int.toNat q0) (0 : Int))
 bif ((Go.V.inB q1 (List.length (M.Sl16R.blocks r))) && ((Go.V.inB q0 (List.length (M.Sl16R.open_ r))) && true)) then
 some (M.SCodeBlock.Height (List.getD (M.Sl16R.blocks r) (Int.toNat q1) M.SCodeBlock.zero))
 else
 none
 else
 some (0 : Int)
def s_l16R_carries (r : M.Sl16R) (depth : Int) : Option (Int) :=
 bif (depth == ((List.length (M.Sl16R.open_ r)) : Int)) then
 let q0 := (M.s_l16One (M.SCore.Result (M.Sl16R.c r)))
 bif ((Option.isSome q0) && true) then
 some (Option.getD q0 default)
 else
 none
 else
 let q0 := (Go.IntKind.wrap Go.IntKind.i64 ((Go.IntKind.wrap Go.IntKind.i64 (((List.length (M.Sl16R.open_ r)) : Int) - (1 : Int))) - depth))
 let q1 := (List.getD (M.Sl16R.open_ r) (Int.toNat q0) (0 : Int))
 let q2 := (List.getD (M.Sl16R.blocks r) (Int.toNat q1) M.SCodeBlock.zero)
 bif ((M.SIns.Op (List.getD (M.SCore.Code (M.Sl16R.c r)) (Int.toNat (M.SCodeBlock.At q2)) M.SIns.zero)) == (25 : Int)) then
 let q3 := ((Go.V.inB (M.SCodeBlock.At q2) (List.length (M.SCore.Code (M.Sl16R.c r)))) && ((Go.V.inB q1 (List.length (M.Sl16R.blocks r))) && ((Go.V.inB q0 (List.length (M.Sl16R.open_ r))) && true)))
 bif q3 then
 some (0 : Int)
 else
 none
 else
 let q3 := (M.s_l16One (M.SCodeBlock.Result q2))
 let q4 := ((Go.V.inB (M.SCodeBlock.At q2) (List.length (M.SCore.Code (M.Sl16R.c r)))) && ((Go.V.inB q1 (List.length (M.Sl16R.blocks r))) && ((Go.V.inB q0 (List.length (M.Sl16R.open_ r))) && true)))
 bif ((Option.isSome q3) && q4) then
 some (Option.getD q3 default)
 else
 none
def s_l16R_opened_l0 (r : M.Sl16R) (at_ : Int) : Nat → Int → Option ((Int) ⊕ (Unit))
 | 0, _ => none
 | fuel + 1, k =>
 bif (decide (k < ((List.length (M.Sl16R.blocks r)) : Int))) then
 bif ((M.SCodeBlock.At (List.getD (M.Sl16R.blocks r) (Int.toNat k) M.SCodeBlock.zero)) == at_) then
 bif ((Go.V.inB k (List.length (M.Sl16R.blocks r))) && true) then
 some (.inl k)
 else
 none
 else
 bif ((Go.V.inB k (List.length (M.Sl16R.blocks r))) && true) then
 M.s_l16R_opened_l0 r at_ fuel (Go.IntKind.wrap Go.IntKind.i64 (k + (1 : Int)))
 else
 none
 else
 some ((.inr (())))
def s_l16R_opened (r : M.Sl16R) (at_ : Int) : Option (Int) :=
 match (M.s_l16R_opened_l0 r at_ Go.V.bigN (0 : Int)) with
 | none => none
 | some y0 =>
 (match y0 with
 | .inl a1 =>
 some a1
 | .inr b1 =>
 some (0 : Int))
def s_l16Leaves (op : Int) : Option (Bool) :=
 some (((op == (29 : Int)) || (op == (31 : Int))) || (op == (40 : Int)))
def s_l16R_step (at_ : Int) (r : Int) (r2 : (List M.SImport)) (r3 : (List M.SCore)) (r4 : (List UInt8)) (r5 : Int) (r6 : Int) (r7 : Bool) (r8 : (List M.SIns)) (r9 : Int) (r10 : Bool) (o1 : (List M.SCodeBlock)) (o2 : (List Int)) : Option (Int × Int × (List M.SImport) × (List M.SCore) × (List UInt8) × Int × Int × Bool × (List M.SIns) × Int × Bool × (List M.SCodeBlock) × (List Int)) :=
 let q0 := ((M.SIns.Op (List.getD r8 (Int.toNat at_) M.SIns.zero)) == (28 : Int))
 bif (((M.SIns.Op (List.getD r8 (Int.toNat at_) M.SIns.zero)) == (27 : Int)) || q0) then
 let q1 := (M.s_l16R_close q0 r r2 r3 r4 r5 r6 r7 r8 r9 r10 o1 o2)
 let q2 := (Option.getD q1 default)
 bif (!q2.1) then
 let q3 := ((Option.isSome q1) && ((Go.V.inB at_ (List.length r8)) && true))
 bif q3 then
 let q4 := q2.2
 let q5 := q4.1
 let q6 := q4.2
 let q7 := q6.1
 let q8 := q6.2
 let q9 := q8.1
 let q10 := q8.2
 let q11 := q10.1
 let q12 := q10.2
 let q13 := q12.1
 let q14 := q12.2
 let q15 := q14.1
 let q16 := q14.2
 let q17 := q16.1
 let q18 := q16.2
 let q19 := q18.1
 let q20 := q18.2
 let q21 := q20.1
 let q22 := q20.2
 let q23 := q22.1
 let q24 := q22.2
 let q25 := q24.1
 let q26 := q24.2
 some ((7 : Int), q5, q7, q9, q11, q13, q15, q17, q19, q21, q23, q25, q26)
 else
 none
 else
 let q3 := q2.2
 let q4 := q3.2
 let q5 := q4.2
 let q6 := q5.2
 let q7 := q6.2
 let q8 := q7.2
 let q9 := q8.2
 let q10 := q9.2
 let q11 := q10.2
 let q12 := q11.1
 bif (decide ((24 : Int) < q12)) then
 let q13 := ((Option.isSome q1) && ((Go.V.inB at_ (List.length r8)) && true))
 bif q13 then
 let q14 := q3.1
 let q15 := q4.1
 let q16 := q5.1
 let q17 := q6.1
 let q18 := q7.1
 let q19 := q8.1
 let q20 := q9.1
 let q21 := q10.1
 let q22 := q11.2
 let q23 := q22.1
 let q24 := q22.2
 let q25 := q24.1
 let q26 := q24.2
 some ((4 : Int), q14, q15, q16, q17, q18, q19, q20, q21, q12, q23, q25, q26)
 else
 none
 else
 let q13 := ((Option.isSome q1) && ((Go.V.inB at_ (List.length r8)) && true))
 bif q13 then
 let q14 := q3.1
 let q15 := q4.1
 let q16 := q5.1
 let q17 := q6.1
 let q18 := q7.1
 let q19 := q8.1
 let q20 := q9.1
 let q21 := q10.1
 let q22 := q11.2
 let q23 := q22.1
 let q24 := q22.2
 let q25 := q24.1
 let q26 := q24.2
 some ((0 : Int), q14, q15, q16, q17, q18, q19, q20, q21, q12, q23, q25, q26)
 else
 none
 else
 bif r10 then
 bif ((Go.V.inB at_ (List.length r8)) && true) then
 some ((5 : Int), r, r2, r3, r4, r5, r6, r7, r8, r9, r10, o1, o2)
 else
 none
 else
 let q1 := (M.s_l16There (M.SModule.mk r r2 r3) (M.SCore.mk r4 r5 r6 r7 r8) (List.getD r8 (Int.toNat at_) M.SIns.zero) ((List.length o2) : Int))
 bif (!(Option.getD q1 default)) then
 let q2 := ((Option.isSome q1) && ((Go.V.inB at_ (List.length r8)) && true))
 bif q2 then
 some ((2 : Int), r, r2, r3, r4, r5, r6, r7, r8, r9, r10, o1, o2)
 else
 none
 else
 let q2 := (M.s_l16Take (M.SModule.mk r r2 r3) (List.getD r8 (Int.toNat at_) M.SIns.zero))
 let q3 := (Option.getD q2 default)
 let q4 := q3.1
 let q5 := (M.s_l16R_base (M.Sl16R.mk (M.SModule.mk r r2 r3) (M.SCore.mk r4 r5 r6 r7 r8) o1 o2 r9 r10))
 bif (decide ((Go.IntKind.wrap Go.IntKind.i64 (r9 - q4)) < (Option.getD q5 default))) then
 let q6 := ((Option.isSome q1) && ((Go.V.inB at_ (List.length r8)) && true))
 let q7 := ((Option.isSome q5) && ((Option.isSome q2) && q6))
 bif q7 then
 some ((7 : Int), r, r2, r3, r4, r5, r6, r7, r8, r9, r10, o1, o2)
 else
 none
 else
 let q6 := (Go.IntKind.wrap Go.IntKind.i64 (r9 + (Go.IntKind.wrap Go.IntKind.i64 (q3.2 - q4))))
 bif (decide ((24 : Int) < q6)) then
 let q7 := ((Option.isSome q1) && ((Go.V.inB at_ (List.length r8)) && true))
 let q8 := ((Option.isSome q5) && ((Option.isSome q2) && q7))
 bif q8 then
 some ((4 : Int), r, r2, r3, r4, r5, r6, r7, r8, q6, r10, o1, o2)
 else
 none
 else
 let q7 := ((M.SIns.Op (List.getD r8 (Int.toNat at_) M.SIns.zero)) == (29 : Int))
 let q8 := (bif q7 then q7 else ((M.SIns.Op (List.getD r8 (Int.toNat at_) M.SIns.zero)) == (30 : Int)))
 let q9 := (M.s_l16R_carries (M.Sl16R.mk (M.SModule.mk r r2 r3) (M.SCore.mk r4 r5 r6 r7 r8) o1 o2 q6 r10) (M.SIns.A (List.getD r8 (Int.toNat at_) M.SIns.zero)))
 let q10 := ((M.SIns.Op (List.getD r8 (Int.toNat at_) M.SIns.zero)) == (31 : Int))
 let q11 := (M.s_l16One r7)
 let q12 := (M.s_l16R_base (M.Sl16R.mk (M.SModule.mk r r2 r3) (M.SCore.mk r4 r5 r6 r7 r8) o1 o2 q6 r10))
 bif (decide ((Go.IntKind.wrap Go.IntKind.i64 (q6 - (bif q8 then (Option.getD q9 default) else (bif q10 then (Option.getD q11 default) else (0 : Int))))) < (Option.getD q12 default))) then
 let q13 := ((Option.isSome q1) && ((Go.V.inB at_ (List.length r8)) && true))
 let q14 := ((Option.isSome q5) && ((Option.isSome q2) && q13))
 let q15 := ((q14 || (!q7)) && (q14 || q7))
 let q16 := ((Option.isSome q12) && ((((Option.isSome q9) && q15) || (!q8)) && (((((Option.isSome q11) && q15) || (!q10)) && (q15 || q10)) || q8)))
 bif q16 then
 some ((7 : Int), r, r2, r3, r4, r5, r6, r7, r8, q6, r10, o1, o2)
 else
 none
 else
 bif ((((M.SIns.Op (List.getD r8 (Int.toNat at_) M.SIns.zero)) == (24 : Int)) || ((M.SIns.Op (List.getD r8 (Int.toNat at_) M.SIns.zero)) == (25 : Int))) || ((M.SIns.Op (List.getD r8 (Int.toNat at_) M.SIns.zero)) == (26 : Int))) then
 let q13 := (M.s_l00Own o2)
 let q14 := (M.s_l16R_opened (M.Sl16R.mk (M.SModule.mk r r2 r3) (M.SCore.mk r4 r5 r6 r7 r8) o1 o2 q6 r10) at_)
 let q15 := (Option.getD q14 default)
 let q16 := [q15]
 let q17 := ((Option.isSome q1) && ((Go.V.inB at_ (List.length r8)) && true))
 let q18 := ((Option.isSome q5) && ((Option.isSome q2) && q17))
 let q19 := ((q18 || (!q7)) && (q18 || q7))
 let q20 := ((Option.isSome q12) && ((((Option.isSome q9) && q19) || (!q8)) && (((((Option.isSome q11) && q19) || (!q10)) && (q19 || q10)) || q8)))
 bif ((decide (((List.length (Option.getD q13 default)) + (List.length q16)) ≤ 1073741824)) && ((Option.isSome q13) && ((Go.V.inB q15 (List.length o1)) && ((Option.isSome q14) && q20)))) then
 let q21 := ((q7 || q10) || ((M.SIns.Op (List.getD r8 (Int.toNat at_) M.SIns.zero)) == (40 : Int)))
 let q22 := (Int.toNat q15)
 let q23 := (List.getD o1 q22 M.SCodeBlock.zero)
 some ((0 : Int), r, r2, r3, r4, r5, r6, r7, r8, q6, q21, (List.set o1 q22 (M.SCodeBlock.mk (M.SCodeBlock.At q23) (M.SCodeBlock.Else q23) (M.SCodeBlock.End q23) q6 (M.SCodeBlock.Result q23))), ((Option.getD q13 default) ++ q16))
 else
 none
 else
 let q13 := ((Option.isSome q1) && ((Go.V.inB at_ (List.length r8)) && true))
 let q14 := ((Option.isSome q5) && ((Option.isSome q2) && q13))
 let q15 := ((q14 || (!q7)) && (q14 || q7))
 let q16 := ((Option.isSome q12) && ((((Option.isSome q9) && q15) || (!q8)) && (((((Option.isSome q11) && q15) || (!q10)) && (q15 || q10)) || q8)))
 bif q16 then
 let q17 := ((q7 || q10) || ((M.SIns.Op (List.getD r8 (Int.toNat at_) M.SIns.zero)) == (40 : Int)))
 some ((0 : Int), r, r2, r3, r4, r5, r6, r7, r8, q6, q17, o1, o2)
 else
 none
def s_l16Core_l0 (c : M.SCore) : Nat → Int → Int → (List M.SImport) → (List M.SCore) → (List UInt8) → Int → Int → Bool → (List M.SIns) → Int → Bool → (List M.SCodePlace) → (List M.SCodeBlock) → (List Int) → Option ((Int × Int × (List M.SCodePlace)) ⊕ (M.SCore × Int × (List M.SImport) × (List M.SCore) × (List UInt8) × Int × Int × Bool × (List M.SIns) × Int × Bool × (List M.SCodePlace) × (List M.SCodeBlock) × (List Int)))
 | 0, _, _, _, _, _, _, _, _, _, _, _, _, _, _ => none
 | fuel + 1, at_, r, r2, r3, r4, r5, r6, r7, r8, r9, r10, out, o6, o7 =>
 bif (decide (at_ < ((List.length (M.SCore.Code c)) : Int))) then
 let q0 := (M.s_l16R_place r r2 r3 r4 r5 r6 r7 r8 r9 r10 o6 o7)
 let q1 := (Option.getD q0 default)
 let q2 := q1.2
 let q3 := q2.2
 let q4 := q3.2
 let q5 := q4.2
 let q6 := q5.2
 let q7 := q6.2
 let q8 := q7.2
 let q9 := q8.2
 let q10 := q9.2
 let q11 := q10.2
 let q12 := q11.2
 let q13 := (M.s_l16R_step at_ q2.1 q3.1 q4.1 q5.1 q6.1 q7.1 q8.1 q9.1 q10.1 q11.1 q12.1 q12.2)
 let q14 := (Option.getD q13 default)
 let q15 := q14.1
 bif (q15 != (0 : Int)) then
 let q16 := [q1.1]
 let q17 := ((Option.isSome q13) && ((decide (((List.length out) + (List.length q16)) ≤ 1073741824)) && ((Option.isSome q0) && true)))
 bif q17 then
 some (.inl (at_, q15, []))
 else
 none
 else
 let q16 := [q1.1]
 let q17 := ((Option.isSome q13) && ((decide (((List.length out) + (List.length q16)) ≤ 1073741824)) && ((Option.isSome q0) && true)))
 bif q17 then
 let q18 := q14.2
 let q19 := q18.2
 let q20 := q19.2
 let q21 := q20.2
 let q22 := q21.2
 let q23 := q22.2
 let q24 := q23.2
 let q25 := q24.2
 let q26 := q25.2
 let q27 := q26.2
 let q28 := q27.2
 M.s_l16Core_l0 c fuel (Go.IntKind.wrap Go.IntKind.i64 (at_ + (1 : Int))) q18.1 q19.1 q20.1 q21.1 q22.1 q23.1 q24.1 q25.1 q26.1 q27.1 (out ++ q16) q28.1 q28.2
 else
 none
 else
 some ((.inr ((c, r, r2, r3, r4, r5, r6, r7, r8, r9, r10, out, o6, o7))))
def s_l16Core (m : M.SModule) (k : Int) : Option ((List M.SCodePlace) × Int × Int) :=
 let q0 := (M.s_l16Blocks (List.getD (M.SModule.Cores m) (Int.toNat k) M.SCore.zero))
 let q1 := (Option.getD q0 default)
 let q2 := q1.2
 let q3 := q2.1
 bif (q3 != (0 : Int)) then
 let q4 := ((Option.isSome q0) && ((Go.V.inB k (List.length (M.SModule.Cores m))) && true))
 bif q4 then
 some ([], q1.1, q3)
 else
 none
 else
 match (M.s_l16Core_l0 (List.getD (M.SModule.Cores m) (Int.toNat k) M.SCore.zero) Go.V.bigN (0 : Int) (M.SModule.Pages m) (M.SModule.Imports m) (M.SModule.Cores m) (M.SCore.Name (List.getD (M.SModule.Cores m) (Int.toNat k) M.SCore.zero)) (M.SCore.Params (List.getD (M.SModule.Cores m) (Int.toNat k) M.SCore.zero)) (M.SCore.Locals (List.getD (M.SModule.Cores m) (Int.toNat k) M.SCore.zero)) (M.SCore.Result (List.getD (M.SModule.Cores m) (Int.toNat k) M.SCore.zero)) (M.SCore.Code (List.getD (M.SModule.Cores m) (Int.toNat k) M.SCore.zero)) (0 : Int) false [] q2.2 []) with
 | none => none
 | some y4 =>
 (match y4 with
 | .inl a5 =>
 let q6 := ((Option.isSome q0) && ((Go.V.inB k (List.length (M.SModule.Cores m))) && true))
 bif q6 then
 some (a5.2.2, a5.1, a5.2.1)
 else
 none
 | .inr b5 =>
 let q6 := b5.2.2.2.2.2.2.2.2.2
 let q7 := q6.2
 let q8 := (!q7.1)
 let q9 := b5.1
 let q10 := (M.s_l16One (M.SCore.Result q9))
 let q11 := (Option.getD q10 default)
 bif (q8 && (q6.1 != q11)) then
 let q12 := (Option.isSome q10)
 let q13 := ((Option.isSome q0) && ((Go.V.inB k (List.length (M.SModule.Cores m))) && true))
 let q14 := ((q12 || (!(q8 == true))) && q13)
 bif q14 then
 some ([], ((List.length (M.SCore.Code q9)) : Int), (7 : Int))
 else
 none
 else
 let q12 := q7.2.1
 let q13 := [(M.SCodePlace.mk true q11 [])]
 let q14 := (Option.isSome q10)
 let q15 := ((Option.isSome q0) && ((Go.V.inB k (List.length (M.SModule.Cores m))) && true))
 let q16 := ((q14 || (!(q8 == true))) && q15)
 bif ((decide (((List.length q12) + (List.length q13)) ≤ 1073741824)) && (q14 && q16)) then
 some ((q12 ++ q13), (0 : Int), (0 : Int))
 else
 none)
def s_l16Module_l0 (m : M.SModule) : Nat → Int → Option ((Int × Int × Int) ⊕ (Unit))
 | 0, _ => none
 | fuel + 1, k =>
 bif (decide (k < ((List.length (M.SModule.Cores m)) : Int))) then
 let q0 := (M.s_l16Core m k)
 let q1 := (Option.getD q0 default).2
 let q2 := q1.2
 bif (q2 != (0 : Int)) then
 bif ((Option.isSome q0) && true) then
 some (.inl (k, q1.1, q2))
 else
 none
 else
 bif ((Option.isSome q0) && true) then
 M.s_l16Module_l0 m fuel (Go.IntKind.wrap Go.IntKind.i64 (k + (1 : Int)))
 else
 none
 else
 some ((.inr (())))
def s_l16Module (m : M.SModule) : Option (Int × Int × Int) :=
 let q0 := (M.s_l15Shape m)
 bif (!(Option.getD q0 default)) then
 bif ((Option.isSome q0) && true) then
 some ((0 : Int), (0 : Int), (1 : Int))
 else
 none
 else
 match (M.s_l16Module_l0 m Go.V.bigN (0 : Int)) with
 | none => none
 | some y1 =>
 (match y1 with
 | .inl a2 =>
 bif ((Option.isSome q0) && true) then
 some (a2.1, a2.2.1, a2.2.2)
 else
 none
 | .inr b2 =>
 bif ((Option.isSome q0) && true) then
 some ((0 : Int), (0 : Int), (0 : Int))
 else
 none)
def s_l16Right (m : M.SModule) : Option (Bool) :=
 let q0 := (M.s_l16Module m)
 bif ((Option.isSome q0) && true) then
 some ((Option.getD q0 default).2.2 == (0 : Int))
 else
 none
def i_within (n : Int) (low : Int) (high : Int) : Option (Bool) :=
 some ((decide (low ≤ n)) && (decide (n ≤ high)))
def i_ModuleShape_l0 (t28 : (List M.SImport)) (t29 : Int) (m : M.SModule) (cores : (List (List UInt8))) : Nat → Int → (List (List UInt8)) → Option ((Bool) ⊕ (M.SModule × (List (List UInt8)) × (List (List UInt8))))
 | 0, _, _ => none
 | fuel + 1, t30, imports =>
 bif (decide (t30 < t29)) then
 bif (!((decide ((0 : Int) ≤ (M.SImport.Params (List.getD t28 (Int.toNat t30) M.SImport.zero)))) && (decide ((M.SImport.Params (List.getD t28 (Int.toNat t30) M.SImport.zero)) ≤ (8 : Int))))) then
 bif ((Go.V.inB t30 (List.length t28)) && true) then
 some (.inl false)
 else
 none
 else
 let q0 := [(M.SImport.Name (List.getD t28 (Int.toNat t30) M.SImport.zero))]
 bif ((decide (((List.length imports) + (List.length q0)) ≤ 1073741824)) && ((Go.V.inB t30 (List.length t28)) && true)) then
 M.i_ModuleShape_l0 t28 t29 m cores fuel (Go.IntKind.wrap Go.IntKind.i64 (t30 + (1 : Int))) (imports ++ q0)
 else
 none
 else
 some ((.inr ((m, imports, cores))))
def i_numRange (kind : Int) : Option (Int × Int × Bool) :=
 bif (kind == (3 : Int)) then
 some ((0 : Int), (255 : Int), true)
 else
 bif (kind == (4 : Int)) then
 some ((-(128 : Int)), (127 : Int), true)
 else
 bif (kind == (5 : Int)) then
 some ((0 : Int), (65535 : Int), true)
 else
 bif (kind == (6 : Int)) then
 some ((-(32768 : Int)), (32767 : Int), true)
 else
 bif (kind == (7 : Int)) then
 some ((0 : Int), (4294967295 : Int), true)
 else
 bif (kind == (8 : Int)) then
 some ((-(2147483648 : Int)), (2147483647 : Int), true)
 else
 bif (kind == (9 : Int)) then
 some ((-(9223372036854775808 : Int)), (9223372036854775807 : Int), true)
 else
 some ((0 : Int), (0 : Int), false)
def i_operandOf (op : Int) : Option (Int × Int × Bool) :=
 bif (op == (1 : Int)) then
 some ((-(9223372036854775808 : Int)), (9223372036854775807 : Int), true)
 else
 bif (bif (op == (2 : Int)) then (op == (2 : Int)) else (bif (op == (3 : Int)) then (op == (3 : Int)) else (op == (4 : Int)))) then
 some ((0 : Int), (15 : Int), true)
 else
 bif (bif (op == (24 : Int)) then (op == (24 : Int)) else (bif (op == (25 : Int)) then (op == (25 : Int)) else (op == (26 : Int)))) then
 some ((0 : Int), (1 : Int), true)
 else
 bif (bif (op == (29 : Int)) then (op == (29 : Int)) else (op == (30 : Int))) then
 some ((0 : Int), (6 : Int), true)
 else
 bif (op == (32 : Int)) then
 some ((0 : Int), (7 : Int), true)
 else
 bif (op == (33 : Int)) then
 some ((0 : Int), (11 : Int), true)
 else
 bif (bif (op == (34 : Int)) then (op == (34 : Int)) else (bif (op == (35 : Int)) then (op == (35 : Int)) else (bif (op == (36 : Int)) then (op == (36 : Int)) else (bif (op == (37 : Int)) then (op == (37 : Int)) else (bif (op == (38 : Int)) then (op == (38 : Int)) else (op == (39 : Int))))))) then
 some ((0 : Int), (4096 : Int), true)
 else
 some ((0 : Int), (0 : Int), false)
def i_InsOk (i : M.SIns) : Option (Bool) :=
 let q0 := (M.i_operandOf (M.SIns.Op i))
 bif ((Option.isSome q0) && true) then
 some (((decide ((1 : Int) ≤ (M.SIns.Op i))) && (decide ((M.SIns.Op i) ≤ (40 : Int)))) && ((decide ((Option.getD q0 default).1 ≤ (M.SIns.A i))) && (decide ((M.SIns.A i) ≤ (Option.getD q0 default).2.1))))
 else
 none
def i_coreOk_c1 (i : M.SIns) : Option (Bool) :=
 let q0 := (M.i_InsOk i)
 bif ((Option.isSome q0) && true) then
 some (!(Option.getD q0 default))
 else
 none
def slices_IndexFunc_Ins_Ins_l0 (s : (List M.SIns)) (t7 : Int) : Nat → Int → Option ((Int) ⊕ (Unit))
 | 0, _ => none
 | fuel + 1, t8 =>
 bif (decide (t8 < t7)) then
 let q0 := (M.i_coreOk_c1 (List.getD s (Int.toNat t8) M.SIns.zero))
 bif (Option.getD q0 default) then
 let q1 := ((Option.isSome q0) && ((Go.V.inB t8 (List.length s)) && true))
 bif q1 then
 some (.inl t8)
 else
 none
 else
 let q1 := ((Option.isSome q0) && ((Go.V.inB t8 (List.length s)) && true))
 bif q1 then
 M.slices_IndexFunc_Ins_Ins_l0 s t7 fuel (Go.IntKind.wrap Go.IntKind.i64 (t8 + (1 : Int)))
 else
 none
 else
 some ((.inr (())))
def slices_IndexFunc_Ins_Ins (s : (List M.SIns)) : Option (Int) :=
 match (M.slices_IndexFunc_Ins_Ins_l0 s ((List.length s) : Int) Go.V.bigN (0 : Int)) with
 | none => none
 | some y0 =>
 (match y0 with
 | .inl a1 =>
 some a1
 | .inr b1 =>
 some (-(1 : Int)))
def slices_ContainsFunc_Ins_Ins (s : (List M.SIns)) : Option (Bool) :=
 let q0 := (M.slices_IndexFunc_Ins_Ins s)
 bif ((Option.isSome q0) && true) then
 some (decide ((0 : Int) ≤ (Option.getD q0 default)))
 else
 none
def i_coreOk (c : M.SCore) : Option (Bool) :=
 let q0 := (M.slices_ContainsFunc_Ins_Ins (M.SCore.Code c))
 let q1 := ((((decide ((0 : Int) ≤ (M.SCore.Params c))) && (decide ((M.SCore.Params c) ≤ (8 : Int)))) && ((decide ((0 : Int) ≤ (M.SCore.Locals c))) && (decide ((M.SCore.Locals c) ≤ (8 : Int))))) && (decide (((List.length (M.SCore.Code c)) : Int) ≤ (120 : Int))))
 bif (((Option.isSome q0) || (!(q1 == true))) && true) then
 some (q1 && (!(Option.getD q0 default)))
 else
 none
def i_ModuleShape_l1 (t45 : (List M.SCore)) (t46 : Int) (imports : (List (List UInt8))) : Nat → Int → (List (List UInt8)) → Option ((Bool) ⊕ ((List (List UInt8)) × (List (List UInt8))))
 | 0, _, _ => none
 | fuel + 1, t47, cores =>
 bif (decide (t47 < t46)) then
 let q0 := (M.i_coreOk (List.getD t45 (Int.toNat t47) M.SCore.zero))
 bif (!(Option.getD q0 default)) then
 let q1 := ((Option.isSome q0) && ((Go.V.inB t47 (List.length t45)) && true))
 bif q1 then
 some (.inl false)
 else
 none
 else
 let q1 := [(M.SCore.Name (List.getD t45 (Int.toNat t47) M.SCore.zero))]
 let q2 := ((Option.isSome q0) && ((Go.V.inB t47 (List.length t45)) && true))
 bif ((decide (((List.length cores) + (List.length q1)) ≤ 1073741824)) && q2) then
 M.i_ModuleShape_l1 t45 t46 imports fuel (Go.IntKind.wrap Go.IntKind.i64 (t47 + (1 : Int))) (cores ++ q1)
 else
 none
 else
 some ((.inr ((imports, cores))))
def i_isLetter (c : Int) : Option (Bool) :=
 some ((decide ((97 : Int) ≤ c)) && (decide (c ≤ (122 : Int))))
def i_isDigit (c : Int) : Option (Bool) :=
 some ((decide ((48 : Int) ≤ c)) && (decide (c ≤ (57 : Int))))
def i_WordOk_l0 (s : (List UInt8)) (t5 : Int) : Nat → Int → Option ((Bool) ⊕ ((List UInt8)))
 | 0, _ => none
 | fuel + 1, t6 =>
 bif (decide (t6 < t5)) then
 let q0 := (!((decide ((97 : Int) ≤ ((UInt8.toNat (List.getD s (Int.toNat t6) (0 : UInt8))) : Int))) && (decide (((UInt8.toNat (List.getD s (Int.toNat t6) (0 : UInt8))) : Int) ≤ (122 : Int)))))
 let q1 := (q0 && (!((decide ((48 : Int) ≤ ((UInt8.toNat (List.getD s (Int.toNat t6) (0 : UInt8))) : Int))) && (decide (((UInt8.toNat (List.getD s (Int.toNat t6) (0 : UInt8))) : Int) ≤ (57 : Int))))))
 bif (q1 && (decide ((M.idxByte [(45 : UInt8), (46 : UInt8), (47 : UInt8)] ((UInt8.toNat (List.getD s (Int.toNat t6) (0 : UInt8))) : Int)) < (0 : Int)))) then
 let q2 := (((Go.V.inB t6 (List.length s)) || (!(q1 == true))) && (((Go.V.inB t6 (List.length s)) || (!(q0 == true))) && ((Go.V.inB t6 (List.length s)) && true)))
 bif q2 then
 some (.inl false)
 else
 none
 else
 let q2 := (((Go.V.inB t6 (List.length s)) || (!(q1 == true))) && (((Go.V.inB t6 (List.length s)) || (!(q0 == true))) && ((Go.V.inB t6 (List.length s)) && true)))
 bif q2 then
 M.i_WordOk_l0 s t5 fuel (Go.IntKind.wrap Go.IntKind.i64 (t6 + (1 : Int)))
 else
 none
 else
 some ((.inr (s)))
def i_length (s : (List UInt8)) : Option (Int) :=
 some ((List.length s) : Int)
def i_WordOk (s : (List UInt8)) : Option (Bool) :=
 match (M.i_WordOk_l0 s ((List.length s) : Int) Go.V.bigN (0 : Int)) with
 | none => none
 | some y0 =>
 (match y0 with
 | .inl a1 =>
 some a1
 | .inr b1 =>
 some ((decide ((1 : Int) ≤ ((List.length b1) : Int))) && (decide (((List.length b1) : Int) ≤ (40 : Int)))))
def i_wordsOk_c1 (name : (List UInt8)) : Option (Bool) :=
 let q0 := (M.i_WordOk name)
 bif ((Option.isSome q0) && true) then
 some (!(Option.getD q0 default))
 else
 none
def slices_IndexFunc_string_string_l0 (s : (List (List UInt8))) (t7 : Int) : Nat → Int → Option ((Int) ⊕ (Unit))
 | 0, _ => none
 | fuel + 1, t8 =>
 bif (decide (t8 < t7)) then
 let q0 := (M.i_wordsOk_c1 (List.getD s (Int.toNat t8) []))
 bif (Option.getD q0 default) then
 let q1 := ((Option.isSome q0) && ((Go.V.inB t8 (List.length s)) && true))
 bif q1 then
 some (.inl t8)
 else
 none
 else
 let q1 := ((Option.isSome q0) && ((Go.V.inB t8 (List.length s)) && true))
 bif q1 then
 M.slices_IndexFunc_string_string_l0 s t7 fuel (Go.IntKind.wrap Go.IntKind.i64 (t8 + (1 : Int)))
 else
 none
 else
 some ((.inr (())))
def slices_IndexFunc_string_string (s : (List (List UInt8))) : Option (Int) :=
 match (M.slices_IndexFunc_string_string_l0 s ((List.length s) : Int) Go.V.bigN (0 : Int)) with
 | none => none
 | some y0 =>
 (match y0 with
 | .inl a1 =>
 some a1
 | .inr b1 =>
 some (-(1 : Int)))
def slices_ContainsFunc_string_string (s : (List (List UInt8))) : Option (Bool) :=
 let q0 := (M.slices_IndexFunc_string_string s)
 bif ((Option.isSome q0) && true) then
 some (decide ((0 : Int) ≤ (Option.getD q0 default)))
 else
 none
def i_wordsOk (names : (List (List UInt8))) : Option (Bool) :=
 let q0 := (M.slices_ContainsFunc_string_string names)
 let q1 := (M.i_distinct names)
 bif (((Option.isSome q0) || (!((Option.getD q1 default) == true))) && ((Option.isSome q1) && true)) then
 some ((Option.getD q1 default) && (!(Option.getD q0 default)))
 else
 none
def i_ModuleShape (m : M.SModule) : Option (Bool) :=
 bif (((!((decide ((1 : Int) ≤ (M.SModule.Pages m))) && (decide ((M.SModule.Pages m) ≤ (16 : Int))))) || (decide ((12 : Int) < ((List.length (M.SModule.Imports m)) : Int)))) || (decide ((8 : Int) < ((List.length (M.SModule.Cores m)) : Int)))) then
 some false
 else
 match (M.i_ModuleShape_l0 (M.SModule.Imports m) ((List.length (M.SModule.Imports m)) : Int) m [] Go.V.bigN (0 : Int) []) with
 | none => none
 | some y0 =>
 (match y0 with
 | .inl a1 =>
 some a1
 | .inr b1 =>
 match (M.i_ModuleShape_l1 (M.SModule.Cores b1.1) ((List.length (M.SModule.Cores b1.1)) : Int) b1.2.1 Go.V.bigN (0 : Int) b1.2.2) with
 | none => none
 | some y2 =>
 (match y2 with
 | .inl a3 =>
 some a3
 | .inr b3 =>
 let q4 := (M.i_wordsOk b3.2)
 let q5 := (M.i_wordsOk b3.1)
 let q6 := (Option.getD q5 default)
 bif (((Option.isSome q4) || (!(q6 == true))) && ((Option.isSome q5) && true)) then
 some (q6 && (Option.getD q4 default))
 else
 none))
def i_size_Core (list : (List M.SCore)) : Option (Int) :=
 some ((List.length list) : Int)
def i_opens (op : Int) : Option (Bool) :=
 some (((op == (24 : Int)) || (op == (25 : Int))) || (op == (26 : Int)))
def i_blocksOf_l0 (t15 : (List M.SIns)) (t16 : Int) (c : M.SCore) : Nat → Int → (List M.SCodeBlock) → (List Int) → Option ((Int × Int × (List M.SCodeBlock)) ⊕ (M.SCore × (List M.SCodeBlock) × (List Int)))
 | 0, _, _, _ => none
 | fuel + 1, t17, blocks, open_ =>
 bif (decide (t17 < t16)) then
 bif ((((M.SIns.Op (List.getD t15 (Int.toNat t17) M.SIns.zero)) == (24 : Int)) || ((M.SIns.Op (List.getD t15 (Int.toNat t17) M.SIns.zero)) == (25 : Int))) || ((M.SIns.Op (List.getD t15 (Int.toNat t17) M.SIns.zero)) == (26 : Int))) then
 bif (((List.length open_) : Int) == (6 : Int)) then
 bif ((Go.V.inB t17 (List.length t15)) && true) then
 some (.inl (t17, (4 : Int), []))
 else
 none
 else
 let q0 := [(M.SCodeBlock.mk t17 (-(1 : Int)) (0 : Int) (0 : Int) ((M.SIns.A (List.getD t15 (Int.toNat t17) M.SIns.zero)) == (1 : Int)))]
 let q1 := [((List.length blocks) : Int)]
 bif ((decide (((List.length blocks) + (List.length q0)) ≤ 1073741824)) && ((decide (((List.length open_) + (List.length q1)) ≤ 1073741824)) && ((Go.V.inB t17 (List.length t15)) && true))) then
 M.i_blocksOf_l0 t15 t16 c fuel (Go.IntKind.wrap Go.IntKind.i64 (t17 + (1 : Int))) (blocks ++ q0) (open_ ++ q1)
 else
 none
 else
 bif ((M.SIns.Op (List.getD t15 (Int.toNat t17) M.SIns.zero)) == (27 : Int)) then
 let q0 := (Go.IntKind.wrap Go.IntKind.i64 (((List.length open_) : Int) - (1 : Int)))
 let q1 := (Int.toNat q0)
 let q2 := (List.getD open_ q1 (0 : Int))
 let q3 := (Int.toNat q2)
 let q4 := (List.getD blocks q3 M.SCodeBlock.zero)
 let q5 := ((decide (q0 < (0 : Int))) || ((M.SIns.Op (List.getD (M.SCore.Code c) (Int.toNat (M.SCodeBlock.At q4)) M.SIns.zero)) != (26 : Int)))
 bif (q5 || (decide ((0 : Int) ≤ (M.SCodeBlock.Else q4)))) then
 let q6 := (Go.V.inB q2 (List.length blocks))
 let q7 := (!(q5 == false))
 let q8 := (Go.V.inB q0 (List.length open_))
 let q9 := (Go.V.inB (M.SCodeBlock.At q4) (List.length (M.SCore.Code c)))
 let q10 := (!((decide (q0 < (0 : Int))) == false))
 let q11 := ((q6 || q7) && ((q8 || q7) && ((q9 || q10) && ((q6 || q10) && ((q8 || q10) && ((Go.V.inB t17 (List.length t15)) && true))))))
 bif q11 then
 some (.inl (t17, (5 : Int), []))
 else
 none
 else
 let q6 := (Go.V.inB q2 (List.length blocks))
 let q7 := (Go.V.inB q0 (List.length open_))
 let q8 := (!(q5 == false))
 let q9 := (Go.V.inB (M.SCodeBlock.At q4) (List.length (M.SCore.Code c)))
 let q10 := (!((decide (q0 < (0 : Int))) == false))
 let q11 := ((q6 || q8) && ((q7 || q8) && ((q9 || q10) && ((q6 || q10) && ((q7 || q10) && ((Go.V.inB t17 (List.length t15)) && true))))))
 bif (q6 && (q7 && q11)) then
 M.i_blocksOf_l0 t15 t16 c fuel (Go.IntKind.wrap Go.IntKind.i64 (t17 + (1 : Int))) (List.set blocks q3 (M.SCodeBlock.mk (M.SCodeBlock.At q4) t17 (M.SCodeBlock.End q4) (M.SCodeBlock.Height q4) (M.SCodeBlock.Result q4))) open_
 else
 none
 else
 bif ((M.SIns.Op (List.getD t15 (Int.toNat t17) M.SIns.zero)) == (28 : Int)) then
 let q0 := (Go.IntKind.wrap Go.IntKind.i64 (((List.length open_) : Int) - (1 : Int)))
 bif (decide (q0 < (0 : Int))) then
 bif ((Go.V.inB t17 (List.length t15)) && true) then
 some (.inl (t17, (5 : Int), []))
 else
 none
 else
 let q1 := (Int.toNat q0)
 let q2 := (List.getD open_ q1 (0 : Int))
 let q3 := (Int.toNat q2)
 let q4 := (List.getD blocks q3 M.SCodeBlock.zero)
 bif ((((M.SIns.Op (List.getD (M.SCore.Code c) (Int.toNat (M.SCodeBlock.At q4)) M.SIns.zero)) == (26 : Int)) && (M.SCodeBlock.Result q4)) && (decide ((M.SCodeBlock.Else q4) < (0 : Int)))) then
 let q5 := (Go.V.inB (M.SCodeBlock.At q4) (List.length (M.SCore.Code c)))
 let q6 := (Go.V.inB q2 (List.length blocks))
 let q7 := (Go.V.inB q0 (List.length open_))
 let q8 := (q5 && (q6 && (q7 && ((Go.V.inB t17 (List.length t15)) && true))))
 bif q8 then
 some (.inl (t17, (7 : Int), []))
 else
 none
 else
 let q5 := (Go.V.inB (M.SCodeBlock.At q4) (List.length (M.SCore.Code c)))
 let q6 := (Go.V.inB q2 (List.length blocks))
 let q7 := (Go.V.inB q0 (List.length open_))
 let q8 := (q5 && (q6 && (q7 && ((Go.V.inB t17 (List.length t15)) && true))))
 bif ((Go.V.slB (0 : Int) q0 (List.length open_)) && q8) then
 M.i_blocksOf_l0 t15 t16 c fuel (Go.IntKind.wrap Go.IntKind.i64 (t17 + (1 : Int))) (List.set blocks q3 (M.SCodeBlock.mk (M.SCodeBlock.At q4) (M.SCodeBlock.Else q4) t17 (M.SCodeBlock.Height q4) (M.SCodeBlock.Result q4))) (List.take q1 open_)
 else
 none
 else
 bif ((Go.V.inB t17 (List.length t15)) && true) then
 M.i_blocksOf_l0 t15 t16 c fuel (Go.IntKind.wrap Go.IntKind.i64 (t17 + (1 : Int))) blocks open_
 else
 none
 else
 some ((.inr ((c, blocks, open_))))
def i_size_Ins (list : (List M.SIns)) : Option (Int) :=
 some ((List.length list) : Int)
def i_blocksOf (c : M.SCore) : Option ((List M.SCodeBlock) × Int × Int) :=
 match (M.i_blocksOf_l0 (M.SCore.Code c) ((List.length (M.SCore.Code c)) : Int) c Go.V.bigN (0 : Int) [] []) with
 | none => none
 | some y0 =>
 (match y0 with
 | .inl a1 =>
 some (a1.2.2, a1.1, a1.2.1)
 | .inr b1 =>
 bif (decide ((0 : Int) < ((List.length b1.2.2) : Int))) then
 some ([], ((List.length (M.SCore.Code b1.1)) : Int), (5 : Int))
 else
 some (b1.2.1, (0 : Int), (0 : Int)))
def i_checker_place (x : Int) (x2 : (List M.SImport)) (x3 : (List M.SCore)) (x4 : (List UInt8)) (x5 : Int) (x6 : Int) (x7 : Bool) (x8 : (List M.SIns)) (x9 : (List M.SCodeBlock)) (x10 : Int) (x11 : Int) (x12 : Bool) (o1 : (List Int)) (o2 : (List Int)) : Option (M.SCodePlace × Int × (List M.SImport) × (List M.SCore) × (List UInt8) × Int × Int × Bool × (List M.SIns) × (List M.SCodeBlock) × Int × Int × Bool × (List Int) × (List Int)) :=
 bif (!x12) then
 some ((M.SCodePlace.mk false (0 : Int) []), x, x2, x3, x4, x5, x6, x7, x8, x9, x10, x11, x12, o1, o2)
 else
 let q0 := (M.slices_Clone_int64_int64 o1)
 bif ((Option.isSome q0) && true) then
 some ((M.SCodePlace.mk true x11 (Option.getD q0 default)), x, x2, x3, x4, x5, x6, x7, x8, x9, x10, x11, x12, o1, o2)
 else
 none
def i_bit (is : Bool) : Option (Int) :=
 bif is then
 some (1 : Int)
 else
 some (0 : Int)
def i_checker_base (x : M.Schecker) : Option (Int) :=
 bif (((List.length (M.Schecker.bases x)) : Int) == (0 : Int)) then
 some (0 : Int)
 else
 let q0 := (Go.IntKind.wrap Go.IntKind.i64 (((List.length (M.Schecker.bases x)) : Int) - (1 : Int)))
 bif ((Go.V.inB q0 (List.length (M.Schecker.bases x))) && true) then
 some (List.getD (M.Schecker.bases x) (Int.toNat q0) (0 : Int))
 else
 none
def i_checker_turn (i : M.SIns) (x : Int) (x2 : (List M.SImport)) (x3 : (List M.SCore)) (x4 : (List UInt8)) (x5 : Int) (x6 : Int) (x7 : Bool) (x8 : (List M.SIns)) (x9 : (List M.SCodeBlock)) (x10 : Int) (x11 : Int) (x12 : Bool) (o1 : (List Int)) (o2 : (List Int)) : Option (Int × Int × (List M.SImport) × (List M.SCore) × (List UInt8) × Int × Int × Bool × (List M.SIns) × (List M.SCodeBlock) × Int × Int × Bool × (List Int) × (List Int)) :=
 let q0 := (M.i_checker_base (M.Schecker.mk (M.SModule.mk x x2 x3) (M.SCore.mk x4 x5 x6 x7 x8) x9 x10 o1 o2 x11 x12))
 let q1 := (Option.getD q0 default)
 let q2 := (Go.IntKind.wrap Go.IntKind.i64 (((List.length o1) : Int) - (1 : Int)))
 let q3 := (Int.toNat q2)
 let q4 := (List.getD o1 q3 (0 : Int))
 let q5 := (M.i_bit (M.SCodeBlock.Result (List.getD x9 (Int.toNat q4) M.SCodeBlock.zero)))
 let q6 := (Go.IntKind.wrap Go.IntKind.i64 (q1 + (Option.getD q5 default)))
 bif (x12 && (x11 != q6)) then
 let q7 := (Option.isSome q0)
 let q8 := ((q7 || (!(x12 == true))) && ((Option.isSome q5) && ((Go.V.inB q4 (List.length x9)) && ((Go.V.inB q2 (List.length o1)) && true))))
 bif q8 then
 some ((7 : Int), x, x2, x3, x4, x5, x6, x7, x8, x9, x10, x11, x12, o1, o2)
 else
 none
 else
 bif ((M.SIns.Op i) == (27 : Int)) then
 let q7 := (Option.isSome q0)
 let q8 := ((q7 || (!(x12 == true))) && ((Option.isSome q5) && ((Go.V.inB q4 (List.length x9)) && ((Go.V.inB q2 (List.length o1)) && true))))
 let q9 := (q7 && q8)
 bif q9 then
 some ((0 : Int), x, x2, x3, x4, x5, x6, x7, x8, x9, x10, q1, true, o1, o2)
 else
 none
 else
 bif (decide ((24 : Int) < q6)) then
 let q7 := (Option.isSome q0)
 let q8 := ((q7 || (!(x12 == true))) && ((Option.isSome q5) && ((Go.V.inB q4 (List.length x9)) && ((Go.V.inB q2 (List.length o1)) && true))))
 let q9 := (q7 && q8)
 let q10 := ((Go.V.slB (0 : Int) q2 (List.length o2)) && ((Go.V.slB (0 : Int) q2 (List.length o1)) && q9))
 bif q10 then
 let q11 := (List.take q3 o1)
 let q12 := (List.take q3 o2)
 some ((4 : Int), x, x2, x3, x4, x5, x6, x7, x8, x9, x10, q6, true, q11, q12)
 else
 none
 else
 let q7 := (Option.isSome q0)
 let q8 := ((q7 || (!(x12 == true))) && ((Option.isSome q5) && ((Go.V.inB q4 (List.length x9)) && ((Go.V.inB q2 (List.length o1)) && true))))
 let q9 := (q7 && q8)
 let q10 := ((Go.V.slB (0 : Int) q2 (List.length o2)) && ((Go.V.slB (0 : Int) q2 (List.length o1)) && q9))
 bif q10 then
 let q11 := (List.take q3 o1)
 let q12 := (List.take q3 o2)
 some ((0 : Int), x, x2, x3, x4, x5, x6, x7, x8, x9, x10, q6, true, q11, q12)
 else
 none
def i_size_Import (list : (List M.SImport)) : Option (Int) :=
 some ((List.length list) : Int)
def i_size_int64 (list : (List Int)) : Option (Int) :=
 some ((List.length list) : Int)
def i_checker_exists (x : M.Schecker) (i : M.SIns) : Option (Bool) :=
 bif (bif ((M.SIns.Op i) == (2 : Int)) then ((M.SIns.Op i) == (2 : Int)) else (bif ((M.SIns.Op i) == (3 : Int)) then ((M.SIns.Op i) == (3 : Int)) else ((M.SIns.Op i) == (4 : Int)))) then
 some (decide ((M.SIns.A i) < (Go.IntKind.wrap Go.IntKind.i64 ((M.SCore.Params (M.Schecker.core x)) + (M.SCore.Locals (M.Schecker.core x))))))
 else
 bif ((M.SIns.Op i) == (32 : Int)) then
 some (decide ((M.SIns.A i) < ((List.length (M.SModule.Cores (M.Schecker.module x))) : Int)))
 else
 bif ((M.SIns.Op i) == (33 : Int)) then
 some (decide ((M.SIns.A i) < ((List.length (M.SModule.Imports (M.Schecker.module x))) : Int)))
 else
 bif (bif ((M.SIns.Op i) == (29 : Int)) then ((M.SIns.Op i) == (29 : Int)) else ((M.SIns.Op i) == (30 : Int))) then
 some (decide ((M.SIns.A i) ≤ ((List.length (M.Schecker.open_ x)) : Int)))
 else
 some true
def i_checker_effect (x : M.Schecker) (i : M.SIns) : Option (Int × Int) :=
 bif (bif ((M.SIns.Op i) == (1 : Int)) then ((M.SIns.Op i) == (1 : Int)) else ((M.SIns.Op i) == (2 : Int))) then
 some ((0 : Int), (1 : Int))
 else
 bif (bif ((M.SIns.Op i) == (3 : Int)) then ((M.SIns.Op i) == (3 : Int)) else (bif ((M.SIns.Op i) == (5 : Int)) then ((M.SIns.Op i) == (5 : Int)) else (bif ((M.SIns.Op i) == (26 : Int)) then ((M.SIns.Op i) == (26 : Int)) else ((M.SIns.Op i) == (30 : Int))))) then
 some ((1 : Int), (0 : Int))
 else
 bif (bif ((M.SIns.Op i) == (4 : Int)) then ((M.SIns.Op i) == (4 : Int)) else (bif ((M.SIns.Op i) == (22 : Int)) then ((M.SIns.Op i) == (22 : Int)) else (bif ((M.SIns.Op i) == (34 : Int)) then ((M.SIns.Op i) == (34 : Int)) else (bif ((M.SIns.Op i) == (35 : Int)) then ((M.SIns.Op i) == (35 : Int)) else ((M.SIns.Op i) == (36 : Int)))))) then
 some ((1 : Int), (1 : Int))
 else
 bif ((M.SIns.Op i) == (23 : Int)) then
 some ((3 : Int), (1 : Int))
 else
 bif (bif ((M.SIns.Op i) == (37 : Int)) then ((M.SIns.Op i) == (37 : Int)) else (bif ((M.SIns.Op i) == (38 : Int)) then ((M.SIns.Op i) == (38 : Int)) else ((M.SIns.Op i) == (39 : Int)))) then
 some ((2 : Int), (0 : Int))
 else
 bif ((M.SIns.Op i) == (32 : Int)) then
 let q0 := (M.i_bit (M.SCore.Result (List.getD (M.SModule.Cores (M.Schecker.module x)) (Int.toNat (M.SIns.A i)) M.SCore.zero)))
 bif ((Option.isSome q0) && ((Go.V.inB (M.SIns.A i) (List.length (M.SModule.Cores (M.Schecker.module x)))) && ((Go.V.inB (M.SIns.A i) (List.length (M.SModule.Cores (M.Schecker.module x)))) && true))) then
 some ((M.SCore.Params (List.getD (M.SModule.Cores (M.Schecker.module x)) (Int.toNat (M.SIns.A i)) M.SCore.zero)), (Option.getD q0 default))
 else
 none
 else
 bif ((M.SIns.Op i) == (33 : Int)) then
 let q0 := (M.i_bit (M.SImport.Result (List.getD (M.SModule.Imports (M.Schecker.module x)) (Int.toNat (M.SIns.A i)) M.SImport.zero)))
 bif ((Option.isSome q0) && ((Go.V.inB (M.SIns.A i) (List.length (M.SModule.Imports (M.Schecker.module x)))) && ((Go.V.inB (M.SIns.A i) (List.length (M.SModule.Imports (M.Schecker.module x)))) && true))) then
 some ((M.SImport.Params (List.getD (M.SModule.Imports (M.Schecker.module x)) (Int.toNat (M.SIns.A i)) M.SImport.zero)), (Option.getD q0 default))
 else
 none
 else
 bif (bif ((M.SIns.Op i) == (24 : Int)) then ((M.SIns.Op i) == (24 : Int)) else (bif ((M.SIns.Op i) == (25 : Int)) then ((M.SIns.Op i) == (25 : Int)) else (bif ((M.SIns.Op i) == (29 : Int)) then ((M.SIns.Op i) == (29 : Int)) else (bif ((M.SIns.Op i) == (31 : Int)) then ((M.SIns.Op i) == (31 : Int)) else ((M.SIns.Op i) == (40 : Int)))))) then
 some ((0 : Int), (0 : Int))
 else
 some ((2 : Int), (1 : Int))
def i_checker_carried (x : M.Schecker) (i : M.SIns) : Option (Int) :=
 bif ((M.SIns.Op i) == (31 : Int)) then
 let q0 := (M.i_bit (M.SCore.Result (M.Schecker.core x)))
 bif ((Option.isSome q0) && true) then
 some (Option.getD q0 default)
 else
 none
 else
 bif (bif ((M.SIns.Op i) == (29 : Int)) then ((M.SIns.Op i) == (29 : Int)) else ((M.SIns.Op i) == (30 : Int))) then
 let q0 := (Go.IntKind.wrap Go.IntKind.i64 ((Go.IntKind.wrap Go.IntKind.i64 (((List.length (M.Schecker.open_ x)) : Int) - (1 : Int))) - (M.SIns.A i)))
 bif (decide (q0 < (0 : Int))) then
 let q1 := (M.i_bit (M.SCore.Result (M.Schecker.core x)))
 bif ((Option.isSome q1) && true) then
 some (Option.getD q1 default)
 else
 none
 else
 let q1 := (List.getD (M.Schecker.open_ x) (Int.toNat q0) (0 : Int))
 let q2 := (List.getD (M.Schecker.blocks x) (Int.toNat q1) M.SCodeBlock.zero)
 let q3 := (M.i_bit ((M.SCodeBlock.Result q2) && ((M.SIns.Op (List.getD (M.SCore.Code (M.Schecker.core x)) (Int.toNat (M.SCodeBlock.At q2)) M.SIns.zero)) != (25 : Int))))
 bif ((Option.isSome q3) && (((Go.V.inB (M.SCodeBlock.At q2) (List.length (M.SCore.Code (M.Schecker.core x)))) || (!((M.SCodeBlock.Result q2) == true))) && ((Go.V.inB q1 (List.length (M.Schecker.blocks x))) && ((Go.V.inB q0 (List.length (M.Schecker.open_ x))) && true)))) then
 some (Option.getD q3 default)
 else
 none
 else
 some (0 : Int)
def i_checker_step (i : M.SIns) (x : Int) (x2 : (List M.SImport)) (x3 : (List M.SCore)) (x4 : (List UInt8)) (x5 : Int) (x6 : Int) (x7 : Bool) (x8 : (List M.SIns)) (x9 : (List M.SCodeBlock)) (x10 : Int) (x11 : Int) (x12 : Bool) (o1 : (List Int)) (o2 : (List Int)) : Option (Int × Int × (List M.SImport) × (List M.SCore) × (List UInt8) × Int × Int × Bool × (List M.SIns) × (List M.SCodeBlock) × Int × Int × Bool × (List Int) × (List Int)) :=
 bif (((M.SIns.Op i) == (27 : Int)) || ((M.SIns.Op i) == (28 : Int))) then
 let q0 := (M.i_checker_turn i x x2 x3 x4 x5 x6 x7 x8 x9 x10 x11 x12 o1 o2)
 bif ((Option.isSome q0) && true) then
 let q1 := (Option.getD q0 default)
 let q2 := q1.2
 let q3 := q2.2
 let q4 := q3.2
 let q5 := q4.2
 let q6 := q5.2
 let q7 := q6.2
 let q8 := q7.2
 let q9 := q8.2
 let q10 := q9.2
 let q11 := q10.2
 let q12 := q11.2
 let q13 := q12.2
 let q14 := q13.2
 some (q1.1, q2.1, q3.1, q4.1, q5.1, q6.1, q7.1, q8.1, q9.1, q10.1, q11.1, q12.1, q13.1, q14.1, q14.2)
 else
 none
 else
 bif (!x12) then
 some ((5 : Int), x, x2, x3, x4, x5, x6, x7, x8, x9, x10, x11, x12, o1, o2)
 else
 let q0 := (M.i_checker_exists (M.Schecker.mk (M.SModule.mk x x2 x3) (M.SCore.mk x4 x5 x6 x7 x8) x9 x10 o1 o2 x11 x12) i)
 bif (!(Option.getD q0 default)) then
 let q1 := ((Option.isSome q0) && true)
 bif q1 then
 some ((2 : Int), x, x2, x3, x4, x5, x6, x7, x8, x9, x10, x11, x12, o1, o2)
 else
 none
 else
 let q1 := (M.i_checker_effect (M.Schecker.mk (M.SModule.mk x x2 x3) (M.SCore.mk x4 x5 x6 x7 x8) x9 x10 o1 o2 x11 x12) i)
 let q2 := (Option.getD q1 default)
 let q3 := (Go.IntKind.wrap Go.IntKind.i64 (x11 - q2.1))
 let q4 := (M.i_checker_base (M.Schecker.mk (M.SModule.mk x x2 x3) (M.SCore.mk x4 x5 x6 x7 x8) x9 x10 o1 o2 x11 x12))
 let q5 := (Option.getD q4 default)
 bif (decide (q3 < q5)) then
 let q6 := (Option.isSome q4)
 let q7 := ((Option.isSome q0) && true)
 let q8 := (q6 && ((Option.isSome q1) && q7))
 bif q8 then
 some ((7 : Int), x, x2, x3, x4, x5, x6, x7, x8, x9, x10, x11, x12, o1, o2)
 else
 none
 else
 let q6 := (Go.IntKind.wrap Go.IntKind.i64 (q3 + q2.2))
 bif (decide ((24 : Int) < q6)) then
 let q7 := (Option.isSome q4)
 let q8 := ((Option.isSome q0) && true)
 let q9 := (q7 && ((Option.isSome q1) && q8))
 bif q9 then
 some ((4 : Int), x, x2, x3, x4, x5, x6, x7, x8, x9, x10, x11, x12, o1, o2)
 else
 none
 else
 let q7 := (M.i_checker_carried (M.Schecker.mk (M.SModule.mk x x2 x3) (M.SCore.mk x4 x5 x6 x7 x8) x9 x10 o1 o2 x11 x12) i)
 bif (decide ((Go.IntKind.wrap Go.IntKind.i64 (q6 - (Option.getD q7 default))) < q5)) then
 let q8 := (Option.isSome q4)
 let q9 := ((Option.isSome q0) && true)
 let q10 := (q8 && ((Option.isSome q1) && q9))
 let q11 := (q8 && ((Option.isSome q7) && q10))
 bif q11 then
 some ((7 : Int), x, x2, x3, x4, x5, x6, x7, x8, x9, x10, x11, x12, o1, o2)
 else
 none
 else
 bif ((((M.SIns.Op i) == (24 : Int)) || ((M.SIns.Op i) == (25 : Int))) || ((M.SIns.Op i) == (26 : Int))) then
 let q8 := [q6]
 let q9 := [x10]
 let q10 := (Option.isSome q4)
 let q11 := ((Option.isSome q0) && true)
 let q12 := (q10 && ((Option.isSome q1) && q11))
 let q13 := (q10 && ((Option.isSome q7) && q12))
 bif ((decide (((List.length o2) + (List.length q8)) ≤ 1073741824)) && ((decide (((List.length o1) + (List.length q9)) ≤ 1073741824)) && q13)) then
 let q14 := ((((M.SIns.Op i) != (29 : Int)) && ((M.SIns.Op i) != (31 : Int))) && ((M.SIns.Op i) != (40 : Int)))
 some ((0 : Int), x, x2, x3, x4, x5, x6, x7, x8, x9, (Go.IntKind.wrap Go.IntKind.i64 (x10 + (1 : Int))), q6, q14, (o1 ++ q9), (o2 ++ q8))
 else
 none
 else
 let q8 := (Option.isSome q4)
 let q9 := ((Option.isSome q0) && true)
 let q10 := (q8 && ((Option.isSome q1) && q9))
 let q11 := (q8 && ((Option.isSome q7) && q10))
 bif q11 then
 let q12 := ((((M.SIns.Op i) != (29 : Int)) && ((M.SIns.Op i) != (31 : Int))) && ((M.SIns.Op i) != (40 : Int)))
 some ((0 : Int), x, x2, x3, x4, x5, x6, x7, x8, x9, x10, q6, q12, o1, o2)
 else
 none
def i_checked_l0 (blocks : (List M.SCodeBlock)) (t40 : (List M.SIns)) (t41 : Int) (c : M.SCore) : Nat → Int → Int → (List M.SImport) → (List M.SCore) → (List UInt8) → Int → Int → Bool → (List M.SIns) → (List M.SCodeBlock) → Int → Int → Bool → (List M.SCodePlace) → (List Int) → (List Int) → Option ((Int × Int × (List M.SCodePlace) × (List M.SCodeBlock)) ⊕ ((List M.SCodeBlock) × M.SCore × Int × (List M.SImport) × (List M.SCore) × (List UInt8) × Int × Int × Bool × (List M.SIns) × (List M.SCodeBlock) × Int × Int × Bool × (List M.SCodePlace) × (List Int) × (List Int)))
 | 0, _, _, _, _, _, _, _, _, _, _, _, _, _, _, _, _ => none
 | fuel + 1, t42, x, x2, x3, x4, x5, x6, x7, x8, x9, x10, x11, x12, places, o6, o7 =>
 bif (decide (t42 < t41)) then
 let q0 := (M.i_checker_place x x2 x3 x4 x5 x6 x7 x8 x9 x10 x11 x12 o6 o7)
 let q1 := (Option.getD q0 default)
 let q2 := q1.2
 let q3 := q2.2
 let q4 := q3.2
 let q5 := q4.2
 let q6 := q5.2
 let q7 := q6.2
 let q8 := q7.2
 let q9 := q8.2
 let q10 := q9.2
 let q11 := q10.2
 let q12 := q11.2
 let q13 := q12.2
 let q14 := q13.2
 let q15 := (M.i_checker_step (List.getD t40 (Int.toNat t42) M.SIns.zero) q2.1 q3.1 q4.1 q5.1 q6.1 q7.1 q8.1 q9.1 q10.1 q11.1 q12.1 q13.1 q14.1 q14.2)
 let q16 := (Option.getD q15 default)
 let q17 := q16.1
 bif (q17 != (0 : Int)) then
 let q18 := [q1.1]
 let q19 := ((Option.isSome q15) && ((decide (((List.length places) + (List.length q18)) ≤ 1073741824)) && ((Option.isSome q0) && ((Go.V.inB t42 (List.length t40)) && true))))
 bif q19 then
 some (.inl (t42, q17, [], []))
 else
 none
 else
 let q18 := [q1.1]
 let q19 := ((Option.isSome q15) && ((decide (((List.length places) + (List.length q18)) ≤ 1073741824)) && ((Option.isSome q0) && ((Go.V.inB t42 (List.length t40)) && true))))
 bif q19 then
 let q20 := q16.2
 let q21 := q20.2
 let q22 := q21.2
 let q23 := q22.2
 let q24 := q23.2
 let q25 := q24.2
 let q26 := q25.2
 let q27 := q26.2
 let q28 := q27.2
 let q29 := q28.2
 let q30 := q29.2
 let q31 := q30.2
 let q32 := q31.2
 M.i_checked_l0 blocks t40 t41 c fuel (Go.IntKind.wrap Go.IntKind.i64 (t42 + (1 : Int))) q20.1 q21.1 q22.1 q23.1 q24.1 q25.1 q26.1 q27.1 q28.1 q29.1 q30.1 q31.1 (places ++ q18) q32.1 q32.2
 else
 none
 else
 some ((.inr ((blocks, c, x, x2, x3, x4, x5, x6, x7, x8, x9, x10, x11, x12, places, o6, o7))))
def i_checked (m : M.SModule) (k : Int) : Option ((List M.SCodePlace) × (List M.SCodeBlock) × Int × Int) :=
 let q0 := (M.i_blocksOf (List.getD (M.SModule.Cores m) (Int.toNat k) M.SCore.zero))
 let q1 := (Option.getD q0 default)
 let q2 := q1.2
 let q3 := q2.2
 bif (q3 != (0 : Int)) then
 let q4 := ((Option.isSome q0) && ((Go.V.inB k (List.length (M.SModule.Cores m))) && true))
 bif q4 then
 some ([], [], q2.1, q3)
 else
 none
 else
 let q4 := q1.1
 match (M.i_checked_l0 q4 (M.SCore.Code (List.getD (M.SModule.Cores m) (Int.toNat k) M.SCore.zero)) ((List.length (M.SCore.Code (List.getD (M.SModule.Cores m) (Int.toNat k) M.SCore.zero))) : Int) (List.getD (M.SModule.Cores m) (Int.toNat k) M.SCore.zero) Go.V.bigN (0 : Int) (M.SModule.Pages m) (M.SModule.Imports m) (M.SModule.Cores m) (M.SCore.Name (List.getD (M.SModule.Cores m) (Int.toNat k) M.SCore.zero)) (M.SCore.Params (List.getD (M.SModule.Cores m) (Int.toNat k) M.SCore.zero)) (M.SCore.Locals (List.getD (M.SModule.Cores m) (Int.toNat k) M.SCore.zero)) (M.SCore.Result (List.getD (M.SModule.Cores m) (Int.toNat k) M.SCore.zero)) (M.SCore.Code (List.getD (M.SModule.Cores m) (Int.toNat k) M.SCore.zero)) q4 (0 : Int) (0 : Int) true [] [] []) with
 | none => none
 | some y5 =>
 (match y5 with
 | .inl a6 =>
 let q7 := ((Option.isSome q0) && ((Go.V.inB k (List.length (M.SModule.Cores m))) && true))
 bif q7 then
 some (a6.2.2.1, a6.2.2.2, a6.1, a6.2.1)
 else
 none
 | .inr b6 =>
 let q7 := b6.2
 let q8 := q7.2.2.2.2.2.2.2.2.2.2.2
 let q9 := q8.2
 let q10 := q7.1
 let q11 := (M.i_bit (M.SCore.Result q10))
 let q12 := (Option.getD q11 default)
 bif (q9.1 && (q8.1 != q12)) then
 let q13 := ((Option.isSome q0) && ((Go.V.inB k (List.length (M.SModule.Cores m))) && true))
 let q14 := ((Option.isSome q11) && q13)
 bif q14 then
 some ([], [], ((List.length (M.SCore.Code q10)) : Int), (7 : Int))
 else
 none
 else
 let q13 := q9.2.1
 let q14 := [(M.SCodePlace.mk true q12 [])]
 let q15 := ((Option.isSome q0) && ((Go.V.inB k (List.length (M.SModule.Cores m))) && true))
 let q16 := ((Option.isSome q11) && q15)
 bif ((decide (((List.length q13) + (List.length q14)) ≤ 1073741824)) && q16) then
 some ((q13 ++ q14), b6.1, (0 : Int), (0 : Int))
 else
 none)
def l_eqImport (a : M.SImport) (b : M.SImport) : Option (Bool) :=
 bif (!((M.SImport.Name a) == (M.SImport.Name b))) then
 some false
 else
 bif ((M.SImport.Params a) != (M.SImport.Params b)) then
 some false
 else
 bif (!((M.SImport.Result a) == (M.SImport.Result b))) then
 some false
 else
 some true
def l_eqImportS_l0 (a : (List M.SImport)) (b : (List M.SImport)) : Nat → Int → Option ((Bool) ⊕ (Unit))
 | 0, _ => none
 | fuel + 1, i =>
 bif (decide (i < ((List.length a) : Int))) then
 let q0 := (M.l_eqImport (List.getD a (Int.toNat i) M.SImport.zero) (List.getD b (Int.toNat i) M.SImport.zero))
 bif (!(Option.getD q0 default)) then
 let q1 := ((Option.isSome q0) && ((Go.V.inB i (List.length b)) && ((Go.V.inB i (List.length a)) && true)))
 bif q1 then
 some (.inl false)
 else
 none
 else
 let q1 := ((Option.isSome q0) && ((Go.V.inB i (List.length b)) && ((Go.V.inB i (List.length a)) && true)))
 bif q1 then
 M.l_eqImportS_l0 a b fuel (Go.IntKind.wrap Go.IntKind.i64 (i + (1 : Int)))
 else
 none
 else
 some ((.inr (())))
def l_eqImportS (a : (List M.SImport)) (b : (List M.SImport)) : Option (Bool) :=
 bif (((List.length a) : Int) != ((List.length b) : Int)) then
 some false
 else
 match (M.l_eqImportS_l0 a b Go.V.bigN (0 : Int)) with
 | none => none
 | some y0 =>
 (match y0 with
 | .inl a1 =>
 some a1
 | .inr b1 =>
 some true)
def l_eqIns (a : M.SIns) (b : M.SIns) : Option (Bool) :=
 bif ((M.SIns.Op a) != (M.SIns.Op b)) then
 some false
 else
 bif ((M.SIns.A a) != (M.SIns.A b)) then
 some false
 else
 some true
def l_eqInsS_l0 (a : (List M.SIns)) (b : (List M.SIns)) : Nat → Int → Option ((Bool) ⊕ (Unit))
 | 0, _ => none
 | fuel + 1, i =>
 bif (decide (i < ((List.length a) : Int))) then
 let q0 := (M.l_eqIns (List.getD a (Int.toNat i) M.SIns.zero) (List.getD b (Int.toNat i) M.SIns.zero))
 bif (!(Option.getD q0 default)) then
 let q1 := ((Option.isSome q0) && ((Go.V.inB i (List.length b)) && ((Go.V.inB i (List.length a)) && true)))
 bif q1 then
 some (.inl false)
 else
 none
 else
 let q1 := ((Option.isSome q0) && ((Go.V.inB i (List.length b)) && ((Go.V.inB i (List.length a)) && true)))
 bif q1 then
 M.l_eqInsS_l0 a b fuel (Go.IntKind.wrap Go.IntKind.i64 (i + (1 : Int)))
 else
 none
 else
 some ((.inr (())))
def l_eqInsS (a : (List M.SIns)) (b : (List M.SIns)) : Option (Bool) :=
 bif (((List.length a) : Int) != ((List.length b) : Int)) then
 some false
 else
 match (M.l_eqInsS_l0 a b Go.V.bigN (0 : Int)) with
 | none => none
 | some y0 =>
 (match y0 with
 | .inl a1 =>
 some a1
 | .inr b1 =>
 some true)
def l_eqCore (a : M.SCore) (b : M.SCore) : Option (Bool) :=
 bif (!((M.SCore.Name a) == (M.SCore.Name b))) then
 some false
 else
 bif ((M.SCore.Params a) != (M.SCore.Params b)) then
 some false
 else
 bif ((M.SCore.Locals a) != (M.SCore.Locals b)) then
 some false
 else
 bif (!((M.SCore.Result a) == (M.SCore.Result b))) then
 some false
 else
 let q0 := (M.l_eqInsS (M.SCore.Code a) (M.SCore.Code b))
 bif (!(Option.getD q0 default)) then
 bif ((Option.isSome q0) && true) then
 some false
 else
 none
 else
 bif ((Option.isSome q0) && true) then
 some true
 else
 none
def l_eqCoreS_l0 (a : (List M.SCore)) (b : (List M.SCore)) : Nat → Int → Option ((Bool) ⊕ (Unit))
 | 0, _ => none
 | fuel + 1, i =>
 bif (decide (i < ((List.length a) : Int))) then
 let q0 := (M.l_eqCore (List.getD a (Int.toNat i) M.SCore.zero) (List.getD b (Int.toNat i) M.SCore.zero))
 bif (!(Option.getD q0 default)) then
 let q1 := ((Option.isSome q0) && ((Go.V.inB i (List.length b)) && ((Go.V.inB i (List.length a)) && true)))
 bif q1 then
 some (.inl false)
 else
 none
 else
 let q1 := ((Option.isSome q0) && ((Go.V.inB i (List.length b)) && ((Go.V.inB i (List.length a)) && true)))
 bif q1 then
 M.l_eqCoreS_l0 a b fuel (Go.IntKind.wrap Go.IntKind.i64 (i + (1 : Int)))
 else
 none
 else
 some ((.inr (())))
def l_eqCoreS (a : (List M.SCore)) (b : (List M.SCore)) : Option (Bool) :=
 bif (((List.length a) : Int) != ((List.length b) : Int)) then
 some false
 else
 match (M.l_eqCoreS_l0 a b Go.V.bigN (0 : Int)) with
 | none => none
 | some y0 =>
 (match y0 with
 | .inl a1 =>
 some a1
 | .inr b1 =>
 some true)
def l_eqModule (a : M.SModule) (b : M.SModule) : Option (Bool) :=
 bif ((M.SModule.Pages a) != (M.SModule.Pages b)) then
 some false
 else
 let q0 := (M.l_eqImportS (M.SModule.Imports a) (M.SModule.Imports b))
 bif (!(Option.getD q0 default)) then
 bif ((Option.isSome q0) && true) then
 some false
 else
 none
 else
 let q1 := (M.l_eqCoreS (M.SModule.Cores a) (M.SModule.Cores b))
 bif (!(Option.getD q1 default)) then
 bif ((Option.isSome q1) && ((Option.isSome q0) && true)) then
 some false
 else
 none
 else
 bif ((Option.isSome q1) && ((Option.isSome q0) && true)) then
 some true
 else
 none
def l_eqInt64S_l0 (a : (List Int)) (b : (List Int)) : Nat → Int → Option ((Bool) ⊕ (Unit))
 | 0, _ => none
 | fuel + 1, i =>
 bif (decide (i < ((List.length a) : Int))) then
 bif ((List.getD a (Int.toNat i) (0 : Int)) != (List.getD b (Int.toNat i) (0 : Int))) then
 let q0 := ((Go.V.inB i (List.length b)) && ((Go.V.inB i (List.length a)) && true))
 bif q0 then
 some (.inl false)
 else
 none
 else
 let q0 := ((Go.V.inB i (List.length b)) && ((Go.V.inB i (List.length a)) && true))
 bif q0 then
 M.l_eqInt64S_l0 a b fuel (Go.IntKind.wrap Go.IntKind.i64 (i + (1 : Int)))
 else
 none
 else
 some ((.inr (())))
def l_eqInt64S (a : (List Int)) (b : (List Int)) : Option (Bool) :=
 bif (((List.length a) : Int) != ((List.length b) : Int)) then
 some false
 else
 match (M.l_eqInt64S_l0 a b Go.V.bigN (0 : Int)) with
 | none => none
 | some y0 =>
 (match y0 with
 | .inl a1 =>
 some a1
 | .inr b1 =>
 some true)
def l_eqCoreFrame (a : M.SCoreFrame) (b : M.SCoreFrame) : Option (Bool) :=
 bif ((M.SCoreFrame.Core a) != (M.SCoreFrame.Core b)) then
 some false
 else
 bif ((M.SCoreFrame.PC a) != (M.SCoreFrame.PC b)) then
 some false
 else
 bif ((M.SCoreFrame.Base a) != (M.SCoreFrame.Base b)) then
 some false
 else
 let q0 := (M.l_eqInt64S (M.SCoreFrame.Locals a) (M.SCoreFrame.Locals b))
 bif (!(Option.getD q0 default)) then
 bif ((Option.isSome q0) && true) then
 some false
 else
 none
 else
 bif ((Option.isSome q0) && true) then
 some true
 else
 none
def l_eqCoreFrameS_l0 (a : (List M.SCoreFrame)) (b : (List M.SCoreFrame)) : Nat → Int → Option ((Bool) ⊕ (Unit))
 | 0, _ => none
 | fuel + 1, i =>
 bif (decide (i < ((List.length a) : Int))) then
 let q0 := (M.l_eqCoreFrame (List.getD a (Int.toNat i) M.SCoreFrame.zero) (List.getD b (Int.toNat i) M.SCoreFrame.zero))
 bif (!(Option.getD q0 default)) then
 let q1 := ((Option.isSome q0) && ((Go.V.inB i (List.length b)) && ((Go.V.inB i (List.length a)) && true)))
 bif q1 then
 some (.inl false)
 else
 none
 else
 let q1 := ((Option.isSome q0) && ((Go.V.inB i (List.length b)) && ((Go.V.inB i (List.length a)) && true)))
 bif q1 then
 M.l_eqCoreFrameS_l0 a b fuel (Go.IntKind.wrap Go.IntKind.i64 (i + (1 : Int)))
 else
 none
 else
 some ((.inr (())))
def l_eqCoreFrameS (a : (List M.SCoreFrame)) (b : (List M.SCoreFrame)) : Option (Bool) :=
 bif (((List.length a) : Int) != ((List.length b) : Int)) then
 some false
 else
 match (M.l_eqCoreFrameS_l0 a b Go.V.bigN (0 : Int)) with
 | none => none
 | some y0 =>
 (match y0 with
 | .inl a1 =>
 some a1
 | .inr b1 =>
 some true)
def l_eqMachine (a : M.SMachine) (b : M.SMachine) : Option (Bool) :=
 bif ((M.SMachine.Status a) != (M.SMachine.Status b)) then
 some false
 else
 let q0 := (M.l_eqCoreFrameS (M.SMachine.Frames a) (M.SMachine.Frames b))
 bif (!(Option.getD q0 default)) then
 bif ((Option.isSome q0) && true) then
 some false
 else
 none
 else
 let q1 := (M.l_eqInt64S (M.SMachine.Stack a) (M.SMachine.Stack b))
 bif (!(Option.getD q1 default)) then
 bif ((Option.isSome q1) && ((Option.isSome q0) && true)) then
 some false
 else
 none
 else
 bif ((M.SMachine.Import a) != (M.SMachine.Import b)) then
 bif ((Option.isSome q1) && ((Option.isSome q0) && true)) then
 some false
 else
 none
 else
 let q2 := (M.l_eqInt64S (M.SMachine.Args a) (M.SMachine.Args b))
 bif (!(Option.getD q2 default)) then
 let q3 := ((Option.isSome q2) && ((Option.isSome q1) && ((Option.isSome q0) && true)))
 bif q3 then
 some false
 else
 none
 else
 bif ((M.SMachine.Result a) != (M.SMachine.Result b)) then
 let q3 := ((Option.isSome q2) && ((Option.isSome q1) && ((Option.isSome q0) && true)))
 bif q3 then
 some false
 else
 none
 else
 bif ((M.SMachine.Trap a) != (M.SMachine.Trap b)) then
 let q3 := ((Option.isSome q2) && ((Option.isSome q1) && ((Option.isSome q0) && true)))
 bif q3 then
 some false
 else
 none
 else
 let q3 := ((Option.isSome q2) && ((Option.isSome q1) && ((Option.isSome q0) && true)))
 bif q3 then
 some true
 else
 none
def s_l18Locals_l0 (k : Int) (m : M.SModule) : Nat → Int → (List Int) → Option ((List Int))
 | 0, _, _ => none
 | fuel + 1, i, out =>
 bif (decide (i < (M.SCore.Locals (List.getD (M.SModule.Cores m) (Int.toNat k) M.SCore.zero)))) then
 let q0 := [(0 : Int)]
 bif ((decide (((List.length out) + (List.length q0)) ≤ 1073741824)) && ((Go.V.inB k (List.length (M.SModule.Cores m))) && true)) then
 M.s_l18Locals_l0 k m fuel (Go.IntKind.wrap Go.IntKind.i64 (i + (1 : Int))) (out ++ q0)
 else
 none
 else
 bif ((Go.V.inB k (List.length (M.SModule.Cores m))) && true) then
 some (out)
 else
 none
def s_l18Locals (m : M.SModule) (k : Int) (args : (List Int)) : Option ((List Int)) :=
 let q0 := (M.s_l00Own args)
 match (M.s_l18Locals_l0 k m Go.V.bigN (0 : Int) (Option.getD q0 default)) with
 | none => none
 | some y1 =>
 bif ((Option.isSome q0) && true) then
 some y1
 else
 none
def s_l18New (m : M.SModule) (k : Int) (args : (List Int)) : Option (M.SMachine) :=
 let q0 := (M.s_l18Locals m k args)
 bif ((Option.isSome q0) && true) then
 some (M.SMachine.mk (1 : Int) [(M.SCoreFrame.mk k (0 : Int) (0 : Int) (Option.getD q0 default))] [] (0 : Int) [] (0 : Int) (0 : Int))
 else
 none
def s_NewMachine (m : M.SModule) (core : (List UInt8)) (args : (List Int)) : Option (M.SMachine × Int) :=
 let q0 := (M.s_l16Right m)
 bif (!(Option.getD q0 default)) then
 bif ((Option.isSome q0) && true) then
 some ((M.SMachine.mk (0 : Int) [] [] (0 : Int) [] (0 : Int) (0 : Int)), (1 : Int))
 else
 none
 else
 let q1 := (M.s_l15CoreAt (M.SModule.Cores m) core)
 bif (decide ((Option.getD q1 default) < (0 : Int))) then
 bif ((Option.isSome q1) && ((Option.isSome q0) && true)) then
 some ((M.SMachine.mk (0 : Int) [] [] (0 : Int) [] (0 : Int) (0 : Int)), (3 : Int))
 else
 none
 else
 bif (((List.length args) : Int) != (M.SCore.Params (List.getD (M.SModule.Cores m) (Int.toNat (Option.getD q1 default)) M.SCore.zero))) then
 let q2 := ((Go.V.inB (Option.getD q1 default) (List.length (M.SModule.Cores m))) && ((Option.isSome q1) && ((Option.isSome q0) && true)))
 bif q2 then
 some ((M.SMachine.mk (0 : Int) [] [] (0 : Int) [] (0 : Int) (0 : Int)), (2 : Int))
 else
 none
 else
 let q2 := (M.s_l18New m (Option.getD q1 default) args)
 let q3 := ((Go.V.inB (Option.getD q1 default) (List.length (M.SModule.Cores m))) && ((Option.isSome q1) && ((Option.isSome q0) && true)))
 bif ((Option.isSome q2) && q3) then
 some ((Option.getD q2 default), (0 : Int))
 else
 none
def i_codeOf_a_l0 (t18 : Int) (m : M.SModule) (c : Int) (c2 : (List M.SImport)) (c3 : (List M.SCore)) : Nat → Int → (List (List M.SCodePlace)) → (List (List M.SCodeBlock)) → Option ((Bool) ⊕ (Int × (List M.SImport) × (List M.SCore) × (List (List M.SCodePlace)) × (List (List M.SCodeBlock))))
 | 0, _, _, _ => none
 | fuel + 1, t19, o4, o5 =>
 bif (decide (t19 < t18)) then
 let q0 := (M.i_checked m t19)
 let q1 := (Option.getD q0 default)
 let q2 := q1.2
 bif (q2.2.2 != (0 : Int)) then
 bif ((Option.isSome q0) && true) then
 some (.inl false)
 else
 none
 else
 let q3 := [q2.1]
 let q4 := [q1.1]
 bif ((decide (((List.length o5) + (List.length q3)) ≤ 1073741824)) && ((decide (((List.length o4) + (List.length q4)) ≤ 1073741824)) && ((Option.isSome q0) && true))) then
 M.i_codeOf_a_l0 t18 m c c2 c3 fuel (Go.IntKind.wrap Go.IntKind.i64 (t19 + (1 : Int))) (o4 ++ q4) (o5 ++ q3)
 else
 none
 else
 some ((.inr ((c, c2, c3, o4, o5))))
def i_codeOf_a (m : M.SModule) : Option (Bool) :=
 let q0 := (M.i_ModuleShape m)
 bif (!(Option.getD q0 default)) then
 bif ((Option.isSome q0) && true) then
 some false
 else
 none
 else
 match (M.i_codeOf_a_l0 ((List.length (M.SModule.Cores m)) : Int) m (M.SModule.Pages m) (M.SModule.Imports m) (M.SModule.Cores m) Go.V.bigN (0 : Int) [] []) with
 | none => none
 | some y1 =>
 (match y1 with
 | .inl a2 =>
 bif ((Option.isSome q0) && true) then
 some a2
 else
 none
 | .inr b2 =>
 bif ((Option.isSome q0) && true) then
 some true
 else
 none)
def i_newMachine_z : (List UInt8) → (List Int) → Option (M.SMachine × Int) := fun _ _ => none
def i_NewMachine_a (m : M.SModule) (core : (List UInt8)) (args : (List Int)) : Option (Int × Int × Int × Int × Int × (List M.SCoreFrame) × (List Int) × (List Int)) :=
 let q0 := (M.i_codeOf_a m)
 bif (!(Option.getD q0 default)) then
 bif ((Option.isSome q0) && true) then
 some ((0 : Int), (0 : Int), (0 : Int), (0 : Int), (1 : Int), [], [], [])
 else
 none
 else
 none
def i_codeOf_w_l0 (t18 : Int) (m : M.SModule) (c : Int) (c2 : (List M.SImport)) (c3 : (List M.SCore)) : Nat → Int → (List (List M.SCodePlace)) → (List (List M.SCodeBlock)) → Option ((Bool) ⊕ (Int × (List M.SImport) × (List M.SCore) × (List (List M.SCodePlace)) × (List (List M.SCodeBlock))))
 | 0, _, _, _ => none
 | fuel + 1, t19, o4, o5 =>
 bif (decide (t19 < t18)) then
 let q0 := (M.i_checked m t19)
 let q1 := (Option.getD q0 default)
 let q2 := q1.2
 bif (q2.2.2 != (0 : Int)) then
 bif ((Option.isSome q0) && true) then
 some (.inl false)
 else
 none
 else
 let q3 := [q2.1]
 let q4 := [q1.1]
 bif ((decide (((List.length o5) + (List.length q3)) ≤ 1073741824)) && ((decide (((List.length o4) + (List.length q4)) ≤ 1073741824)) && ((Option.isSome q0) && true))) then
 M.i_codeOf_w_l0 t18 m c c2 c3 fuel (Go.IntKind.wrap Go.IntKind.i64 (t19 + (1 : Int))) (o4 ++ q4) (o5 ++ q3)
 else
 none
 else
 some ((.inr ((c, c2, c3, o4, o5))))
def i_codeOf_w (m : M.SModule) : Option (Bool × Int × (List M.SImport) × (List M.SCore) × (List (List M.SCodePlace)) × (List (List M.SCodeBlock))) :=
 let q0 := (M.i_ModuleShape m)
 bif (!(Option.getD q0 default)) then
 bif ((Option.isSome q0) && true) then
 none
 else
 none
 else
 match (M.i_codeOf_w_l0 ((List.length (M.SModule.Cores m)) : Int) m (M.SModule.Pages m) (M.SModule.Imports m) (M.SModule.Cores m) Go.V.bigN (0 : Int) [] []) with
 | none => none
 | some y1 =>
 (match y1 with
 | .inl a2 =>
 bif ((Option.isSome q0) && true) then
 none
 else
 none
 | .inr b2 =>
 bif ((Option.isSome q0) && true) then
 let q3 := b2.2
 let q4 := q3.2
 let q5 := q4.2
 some (true, b2.1, q3.1, q4.1, q5.1, q5.2)
 else
 none)
def i_CoreOf_c1 (c : M.SCore) (t1 : (List UInt8)) : Option (Bool) :=
 some ((M.SCore.Name c) == t1)
def slices_IndexFunc_Core_Core_l0 (s : (List M.SCore)) (f : (List UInt8)) (t7 : Int) : Nat → Int → Option ((Int) ⊕ (Unit))
 | 0, _ => none
 | fuel + 1, t8 =>
 bif (decide (t8 < t7)) then
 bif ((M.SCore.Name (List.getD s (Int.toNat t8) M.SCore.zero)) == f) then
 bif ((Go.V.inB t8 (List.length s)) && true) then
 some (.inl t8)
 else
 none
 else
 bif ((Go.V.inB t8 (List.length s)) && true) then
 M.slices_IndexFunc_Core_Core_l0 s f t7 fuel (Go.IntKind.wrap Go.IntKind.i64 (t8 + (1 : Int)))
 else
 none
 else
 some ((.inr (())))
def slices_IndexFunc_Core_Core (s : (List M.SCore)) (f : (List UInt8)) : Option (Int) :=
 match (M.slices_IndexFunc_Core_Core_l0 s f ((List.length s) : Int) Go.V.bigN (0 : Int)) with
 | none => none
 | some y0 =>
 (match y0 with
 | .inl a1 =>
 some a1
 | .inr b1 =>
 some (-(1 : Int)))
def i_CoreOf (m : M.SModule) (name : (List UInt8)) : Option (Int × Bool) :=
 let q0 := (M.slices_IndexFunc_Core_Core (M.SModule.Cores m) name)
 let q1 := (M.i_ModuleShape m)
 bif ((decide ((Option.getD q0 default) < (0 : Int))) || (!(Option.getD q1 default))) then
 let q2 := (((Option.isSome q1) || (!((decide ((Option.getD q0 default) < (0 : Int))) == false))) && ((Option.isSome q0) && true))
 bif q2 then
 some ((0 : Int), false)
 else
 none
 else
 let q2 := (((Option.isSome q1) || (!((decide ((Option.getD q0 default) < (0 : Int))) == false))) && ((Option.isSome q0) && true))
 bif q2 then
 some ((Option.getD q0 default), true)
 else
 none
def slices_Concat_int64_int64_l0 (slices : (List (List Int))) (t9 : (List (List Int))) (t10 : Int) : Nat → Int → Int → Option ((List (List Int)) × Int)
 | 0, _, _ => none
 | fuel + 1, size, t11 =>
 bif (decide (t11 < t10)) then
 let q0 := (Go.IntKind.wrap Go.IntKind.i64 (size + ((List.length (List.getD t9 (Int.toNat t11) [])) : Int)))
 bif (decide (q0 < (0 : Int))) then
 none
 else
 bif ((Go.V.inB t11 (List.length t9)) && true) then
 M.slices_Concat_int64_int64_l0 slices t9 t10 fuel q0 (Go.IntKind.wrap Go.IntKind.i64 (t11 + (1 : Int)))
 else
 none
 else
 some ((slices, size))
def slices_Concat_int64_int64_l1 (t25 : (List (List Int))) (t26 : Int) : Nat → Int → (List Int) → Option ((List Int))
 | 0, _, _ => none
 | fuel + 1, t27, newslice =>
 bif (decide (t27 < t26)) then
 bif ((decide (((List.length newslice) + (List.length (List.getD t25 (Int.toNat t27) []))) ≤ 1073741824)) && ((Go.V.inB t27 (List.length t25)) && true)) then
 M.slices_Concat_int64_int64_l1 t25 t26 fuel (Go.IntKind.wrap Go.IntKind.i64 (t27 + (1 : Int))) (newslice ++ (List.getD t25 (Int.toNat t27) []))
 else
 none
 else
 some (newslice)
def slices_Concat_int64_int64 (slices : (List (List Int))) : Option ((List Int)) :=
 match (M.slices_Concat_int64_int64_l0 slices slices ((List.length slices) : Int) Go.V.bigN (0 : Int) (0 : Int)) with
 | none => none
 | some y0 =>
 let q1 := (M.slices_Grow_int64_int64 y0.2)
 match (M.slices_Concat_int64_int64_l1 y0.1 ((List.length y0.1) : Int) Go.V.bigN (0 : Int) (Option.getD q1 default)) with
 | none => none
 | some y2 =>
 bif ((Option.isSome q1) && true) then
 some y2
 else
 none
def i_code_locals (c : M.Scode) (core : Int) (args : (List Int)) : Option ((List Int)) :=
 let q0 := (M.slices_Concat_int64_int64 [args, (List.replicate (Int.toNat (M.SCore.Locals (List.getD (M.SModule.Cores (M.Scode.module c)) (Int.toNat core) M.SCore.zero))) (0 : Int))])
 bif ((Option.isSome q0) && (((decide ((0 : Int) ≤ (M.SCore.Locals (List.getD (M.SModule.Cores (M.Scode.module c)) (Int.toNat core) M.SCore.zero)))) && ((decide ((M.SCore.Locals (List.getD (M.SModule.Cores (M.Scode.module c)) (Int.toNat core) M.SCore.zero)) ≤ (M.SCore.Locals (List.getD (M.SModule.Cores (M.Scode.module c)) (Int.toNat core) M.SCore.zero)))) && (decide ((M.SCore.Locals (List.getD (M.SModule.Cores (M.Scode.module c)) (Int.toNat core) M.SCore.zero)) ≤ (1073741824 : Int))))) && ((Go.V.inB core (List.length (M.SModule.Cores (M.Scode.module c)))) && true))) then
 some (Option.getD q0 default)
 else
 none
def i_newMachine_2 (c : M.Scode) (core : (List UInt8)) (args : (List Int)) : Option (Int × Int × Int × Int × Int × (List M.SCoreFrame) × (List Int) × (List Int)) :=
 let q0 := (M.i_CoreOf (M.Scode.module c) core)
 bif (!(Option.getD q0 default).2) then
 bif ((Option.isSome q0) && true) then
 some ((0 : Int), (0 : Int), (0 : Int), (0 : Int), (3 : Int), [], [], [])
 else
 none
 else
 bif (((List.length args) : Int) != (M.SCore.Params (List.getD (M.SModule.Cores (M.Scode.module c)) (Int.toNat (Option.getD q0 default).1) M.SCore.zero))) then
 let q1 := ((Go.V.inB (Option.getD q0 default).1 (List.length (M.SModule.Cores (M.Scode.module c)))) && ((Option.isSome q0) && true))
 bif q1 then
 some ((0 : Int), (0 : Int), (0 : Int), (0 : Int), (2 : Int), [], [], [])
 else
 none
 else
 let q1 := (M.i_code_locals c (Option.getD q0 default).1 args)
 let q2 := ((Go.V.inB (Option.getD q0 default).1 (List.length (M.SModule.Cores (M.Scode.module c)))) && ((Option.isSome q0) && true))
 bif ((Option.isSome q1) && q2) then
 some ((1 : Int), (0 : Int), (0 : Int), (0 : Int), (0 : Int), [(M.SCoreFrame.mk (Option.getD q0 default).1 (0 : Int) (0 : Int) (Option.getD q1 default))], [], [])
 else
 none
def i_NewMachine_w (m : M.SModule) (core : (List UInt8)) (args : (List Int)) : Option (Int × Int × Int × Int × Int × (List M.SCoreFrame) × (List Int) × (List Int)) :=
 let q0 := (M.i_codeOf_w m)
 let q1 := (Option.getD q0 default)
 bif (!q1.1) then
 bif ((Option.isSome q0) && true) then
 some ((0 : Int), (0 : Int), (0 : Int), (0 : Int), (1 : Int), [], [], [])
 else
 none
 else
 let q2 := q1.2
 let q3 := q2.2
 let q4 := q3.2
 let q5 := q4.2
 let q6 := (M.i_newMachine_2 (M.Scode.mk (M.SModule.mk q2.1 q3.1 q4.1) q5.1 q5.2) core args)
 bif ((Option.isSome q6) && ((Option.isSome q0) && true)) then
 let q7 := (Option.getD q6 default)
 let q8 := q7.2
 let q9 := q8.2
 let q10 := q9.2
 let q11 := q10.2
 let q12 := q11.2
 let q13 := q12.2
 some (q7.1, q8.1, q9.1, q10.1, q11.1, q12.1, q13.1, q13.2)
 else
 none
def i_NewMachine (a0 : M.SModule) (a1 : (List UInt8)) (a2 : (List Int)) : Option (Int × Int × Int × Int × Int × (List M.SCoreFrame) × (List Int) × (List Int)) := Option.orElse (M.i_NewMachine_a a0 a1 a2) (fun _ => M.i_NewMachine_w a0 a1 a2)
def l_markText_l0 : Nat → Int → (List UInt8) → Option ((List UInt8))
 | 0, _, _ => none
 | fuel + 1, k, out =>
 bif (decide ((0 : Int) < k)) then
 let q0 := (Go.IntKind.wrap Go.IntKind.u8 (Go.IntKind.wrap Go.IntKind.i64 ((48 : Int) + (Int.tmod k (10 : Int)))))
 let q1 := (List.map (fun a => a) [(Go.V.u8of q0)])
 bif (((10 : Int) != (0 : Int)) && ((Go.V.catB q1 out) && (((Go.V.u8ok q0) && true) && (((10 : Int) != (0 : Int)) && true)))) then
 M.l_markText_l0 fuel (Go.IntKind.wrap Go.IntKind.i64 (Int.tdiv k (10 : Int))) (q1 ++ out)
 else
 none
 else
 some (out)
def l_markText (k : Int) : Option ((List UInt8)) :=
 bif (decide (k ≤ (0 : Int))) then
 some [(109 : UInt8), (48 : UInt8)]
 else
 match (M.l_markText_l0 Go.V.bigN k []) with
 | none => none
 | some y0 =>
 bif ((Go.V.catB [(109 : UInt8)] y0) && true) then
 some ([(109 : UInt8)] ++ y0)
 else
 none
def l_markImportS_l0 : Nat → Int → Int → (List M.SImport) → Option (Int × (List M.SImport))
 | 0, _, _, _ => none
 | fuel + 1, k, i, a =>
 bif (decide (i < ((List.length a) : Int))) then
 let q0 := (M.l_markText k)
 let q1 := (List.set a (Int.toNat i) (M.SImport.mk (Option.getD q0 default) (M.SImport.Params (List.getD a (Int.toNat i) M.SImport.zero)) (M.SImport.Result (List.getD a (Int.toNat i) M.SImport.zero))))
 let q2 := (List.getD q1 (Int.toNat i) M.SImport.zero)
 let q3 := (List.set q1 (Int.toNat i) (M.SImport.mk (M.SImport.Name q2) (Go.IntKind.wrap Go.IntKind.i64 (k + (1 : Int))) (M.SImport.Result q2)))
 bif ((Go.V.inB i (List.length q3)) && (((3 : Int) != (0 : Int)) && ((Go.V.inB i (List.length q1)) && ((Go.V.inB i (List.length a)) && (((Option.isSome q0) && true) && true))))) then
 let q4 := (Go.IntKind.wrap Go.IntKind.i64 ((Go.IntKind.wrap Go.IntKind.i64 (k + (1 : Int))) + (1 : Int)))
 let q5 := (List.getD q3 (Int.toNat i) M.SImport.zero)
 M.l_markImportS_l0 fuel (Go.IntKind.wrap Go.IntKind.i64 (q4 + (1 : Int))) (Go.IntKind.wrap Go.IntKind.i64 (i + (1 : Int))) (List.set q3 (Int.toNat i) (M.SImport.mk (M.SImport.Name q5) (M.SImport.Params q5) ((Int.tmod q4 (3 : Int)) == (0 : Int))))
 else
 none
 else
 some ((k, a))
def l_markImportS (k : Int) (a : (List M.SImport)) : Option (Int × (List M.SImport)) :=
 match (M.l_markImportS_l0 Go.V.bigN k (0 : Int) a) with
 | none => none
 | some y0 =>
 some (y0.1, y0.2)
def l_markInsS_l0 : Nat → Int → Int → (List M.SIns) → Option (Int × (List M.SIns))
 | 0, _, _, _ => none
 | fuel + 1, k, i, a =>
 bif (decide (i < ((List.length a) : Int))) then
 let q0 := (List.set a (Int.toNat i) (M.SIns.mk k (M.SIns.A (List.getD a (Int.toNat i) M.SIns.zero))))
 bif ((Go.V.inB i (List.length q0)) && ((Go.V.inB i (List.length a)) && true)) then
 M.l_markInsS_l0 fuel (Go.IntKind.wrap Go.IntKind.i64 ((Go.IntKind.wrap Go.IntKind.i64 (k + (1 : Int))) + (1 : Int))) (Go.IntKind.wrap Go.IntKind.i64 (i + (1 : Int))) (List.set q0 (Int.toNat i) (M.SIns.mk (M.SIns.Op (List.getD q0 (Int.toNat i) M.SIns.zero)) (Go.IntKind.wrap Go.IntKind.i64 (k + (1 : Int)))))
 else
 none
 else
 some ((k, a))
def l_markInsS (k : Int) (a : (List M.SIns)) : Option (Int × (List M.SIns)) :=
 match (M.l_markInsS_l0 Go.V.bigN k (0 : Int) a) with
 | none => none
 | some y0 =>
 some (y0.1, y0.2)
def l_markCoreS_l0 : Nat → Int → Int → (List M.SCore) → Option (Int × (List M.SCore))
 | 0, _, _, _ => none
 | fuel + 1, k, i, a =>
 bif (decide (i < ((List.length a) : Int))) then
 let q0 := (Go.IntKind.wrap Go.IntKind.i64 ((Go.IntKind.wrap Go.IntKind.i64 (k + (1 : Int))) + (1 : Int)))
 let q1 := (Go.IntKind.wrap Go.IntKind.i64 (q0 + (1 : Int)))
 let q2 := (M.l_markText k)
 let q3 := (List.set a (Int.toNat i) (M.SCore.mk (Option.getD q2 default) (M.SCore.Params (List.getD a (Int.toNat i) M.SCore.zero)) (M.SCore.Locals (List.getD a (Int.toNat i) M.SCore.zero)) (M.SCore.Result (List.getD a (Int.toNat i) M.SCore.zero)) (M.SCore.Code (List.getD a (Int.toNat i) M.SCore.zero))))
 let q4 := (List.getD q3 (Int.toNat i) M.SCore.zero)
 let q5 := (List.set q3 (Int.toNat i) (M.SCore.mk (M.SCore.Name q4) (Go.IntKind.wrap Go.IntKind.i64 (k + (1 : Int))) (M.SCore.Locals q4) (M.SCore.Result q4) (M.SCore.Code q4)))
 let q6 := (List.getD q5 (Int.toNat i) M.SCore.zero)
 let q7 := (List.set q5 (Int.toNat i) (M.SCore.mk (M.SCore.Name q6) (M.SCore.Params q6) q0 (M.SCore.Result q6) (M.SCore.Code q6)))
 let q8 := (List.getD q7 (Int.toNat i) M.SCore.zero)
 let q9 := (List.set q7 (Int.toNat i) (M.SCore.mk (M.SCore.Name q8) (M.SCore.Params q8) (M.SCore.Locals q8) ((Int.tmod q1 (3 : Int)) == (0 : Int)) (M.SCore.Code q8)))
 let q10 := (List.getD q9 (Int.toNat i) M.SCore.zero)
 let q11 := (M.l_markInsS (Go.IntKind.wrap Go.IntKind.i64 (q1 + (1 : Int))) (M.SCore.Code q10))
 bif (((Option.isSome q11) && true) && ((Go.V.inB i (List.length q9)) && ((Go.V.inB i (List.length q7)) && (((3 : Int) != (0 : Int)) && ((Go.V.inB i (List.length q5)) && ((Go.V.inB i (List.length q3)) && ((Go.V.inB i (List.length a)) && (((Option.isSome q2) && true) && true)))))))) then
 let q12 := (Option.getD q11 default)
 M.l_markCoreS_l0 fuel q12.1 (Go.IntKind.wrap Go.IntKind.i64 (i + (1 : Int))) (List.set q9 (Int.toNat i) (M.SCore.mk (M.SCore.Name q10) (M.SCore.Params q10) (M.SCore.Locals q10) (M.SCore.Result q10) q12.2))
 else
 none
 else
 some ((k, a))
def l_markCoreS (k : Int) (a : (List M.SCore)) : Option (Int × (List M.SCore)) :=
 match (M.l_markCoreS_l0 Go.V.bigN k (0 : Int) a) with
 | none => none
 | some y0 =>
 some (y0.1, y0.2)
def l_markModule (a : Int) (k : Int) (o0 : (List M.SImport)) (o1 : (List M.SCore)) : Option (Int × (List M.SImport) × (List M.SCore)) :=
 let q0 := (M.l_markImportS k o0)
 let q1 := (M.l_markCoreS (Option.getD q0 default).1 o1)
 bif (((Option.isSome q1) && true) && (((Option.isSome q0) && true) && true)) then
 let q2 := (Option.getD q1 default)
 some (q2.1, (Option.getD q0 default).2, q2.2)
 else
 none
def l_markInt64S_l0 : Nat → Int → Int → (List Int) → Option (Int × (List Int))
 | 0, _, _, _ => none
 | fuel + 1, k, i, a =>
 bif (decide (i < ((List.length a) : Int))) then
 bif ((Go.V.inB i (List.length a)) && true) then
 M.l_markInt64S_l0 fuel (Go.IntKind.wrap Go.IntKind.i64 (k + (1 : Int))) (Go.IntKind.wrap Go.IntKind.i64 (i + (1 : Int))) (List.set a (Int.toNat i) k)
 else
 none
 else
 some ((k, a))
def l_markInt64S (k : Int) (a : (List Int)) : Option (Int × (List Int)) :=
 match (M.l_markInt64S_l0 Go.V.bigN k (0 : Int) a) with
 | none => none
 | some y0 =>
 some (y0.1, y0.2)
def l_markCoreFrameS_l0 : Nat → Int → Int → (List M.SCoreFrame) → Option (Int × (List M.SCoreFrame))
 | 0, _, _, _ => none
 | fuel + 1, k, i, a =>
 bif (decide (i < ((List.length a) : Int))) then
 let q0 := (Go.IntKind.wrap Go.IntKind.i64 ((Go.IntKind.wrap Go.IntKind.i64 (k + (1 : Int))) + (1 : Int)))
 let q1 := (List.set a (Int.toNat i) (M.SCoreFrame.mk k (M.SCoreFrame.PC (List.getD a (Int.toNat i) M.SCoreFrame.zero)) (M.SCoreFrame.Base (List.getD a (Int.toNat i) M.SCoreFrame.zero)) (M.SCoreFrame.Locals (List.getD a (Int.toNat i) M.SCoreFrame.zero))))
 let q2 := (List.getD q1 (Int.toNat i) M.SCoreFrame.zero)
 let q3 := (List.set q1 (Int.toNat i) (M.SCoreFrame.mk (M.SCoreFrame.Core q2) (Go.IntKind.wrap Go.IntKind.i64 (k + (1 : Int))) (M.SCoreFrame.Base q2) (M.SCoreFrame.Locals q2)))
 let q4 := (List.getD q3 (Int.toNat i) M.SCoreFrame.zero)
 let q5 := (List.set q3 (Int.toNat i) (M.SCoreFrame.mk (M.SCoreFrame.Core q4) (M.SCoreFrame.PC q4) q0 (M.SCoreFrame.Locals q4)))
 let q6 := (List.getD q5 (Int.toNat i) M.SCoreFrame.zero)
 let q7 := (M.l_markInt64S (Go.IntKind.wrap Go.IntKind.i64 (q0 + (1 : Int))) (M.SCoreFrame.Locals q6))
 bif (((Option.isSome q7) && true) && ((Go.V.inB i (List.length q5)) && ((Go.V.inB i (List.length q3)) && ((Go.V.inB i (List.length q1)) && ((Go.V.inB i (List.length a)) && true))))) then
 let q8 := (Option.getD q7 default)
 M.l_markCoreFrameS_l0 fuel q8.1 (Go.IntKind.wrap Go.IntKind.i64 (i + (1 : Int))) (List.set q5 (Int.toNat i) (M.SCoreFrame.mk (M.SCoreFrame.Core q6) (M.SCoreFrame.PC q6) (M.SCoreFrame.Base q6) q8.2))
 else
 none
 else
 some ((k, a))
def l_markCoreFrameS (k : Int) (a : (List M.SCoreFrame)) : Option (Int × (List M.SCoreFrame)) :=
 match (M.l_markCoreFrameS_l0 Go.V.bigN k (0 : Int) a) with
 | none => none
 | some y0 =>
 some (y0.1, y0.2)
def l_markMachine (a : Int) (a2 : Int) (a3 : Int) (a4 : Int) (k : Int) (o0 : (List M.SCoreFrame)) (o1 : (List Int)) (o2 : (List Int)) : Option (Int × (List M.SCoreFrame) × (List Int) × (List Int)) :=
 let q0 := (M.l_markCoreFrameS k o0)
 let q1 := (M.l_markInt64S (Option.getD q0 default).1 o1)
 let q2 := (Option.getD q1 default)
 let q3 := (M.l_markInt64S q2.1 o2)
 bif (((Option.isSome q3) && true) && (((Option.isSome q1) && true) && (((Option.isSome q0) && true) && true))) then
 let q4 := (Option.getD q3 default)
 some (q4.1, (Option.getD q0 default).2, q2.2, q4.2)
 else
 none
def l_heldInt64S_l0 (a : (List Int)) : Nat → Int → Int → Option ((Int) ⊕ (Int))
 | 0, _, _ => none
 | fuel + 1, k, i =>
 bif (decide (i < ((List.length a) : Int))) then
 bif ((List.getD a (Int.toNat i) (0 : Int)) != k) then
 bif ((Go.V.inB i (List.length a)) && true) then
 some (.inl (-(1 : Int)))
 else
 none
 else
 bif ((Go.V.inB i (List.length a)) && true) then
 M.l_heldInt64S_l0 a fuel (Go.IntKind.wrap Go.IntKind.i64 (k + (1 : Int))) (Go.IntKind.wrap Go.IntKind.i64 (i + (1 : Int)))
 else
 none
 else
 some ((.inr (k)))
def l_heldInt64S (a : (List Int)) (k : Int) : Option (Int) :=
 match (M.l_heldInt64S_l0 a Go.V.bigN k (0 : Int)) with
 | none => none
 | some y0 =>
 (match y0 with
 | .inl a1 =>
 some a1
 | .inr b1 =>
 some b1)
def l_heldCoreFrameS_l0 (a : (List M.SCoreFrame)) : Nat → Int → Int → Option ((Int) ⊕ (Int))
 | 0, _, _ => none
 | fuel + 1, k, i =>
 bif (decide (i < ((List.length a) : Int))) then
 bif ((M.SCoreFrame.Core (List.getD a (Int.toNat i) M.SCoreFrame.zero)) != k) then
 bif ((Go.V.inB i (List.length a)) && true) then
 some (.inl (-(1 : Int)))
 else
 none
 else
 bif ((M.SCoreFrame.PC (List.getD a (Int.toNat i) M.SCoreFrame.zero)) != (Go.IntKind.wrap Go.IntKind.i64 (k + (1 : Int)))) then
 let q0 := ((Go.V.inB i (List.length a)) && ((Go.V.inB i (List.length a)) && true))
 bif q0 then
 some (.inl (-(1 : Int)))
 else
 none
 else
 let q0 := (Go.IntKind.wrap Go.IntKind.i64 ((Go.IntKind.wrap Go.IntKind.i64 (k + (1 : Int))) + (1 : Int)))
 bif ((M.SCoreFrame.Base (List.getD a (Int.toNat i) M.SCoreFrame.zero)) != q0) then
 let q1 := ((Go.V.inB i (List.length a)) && ((Go.V.inB i (List.length a)) && true))
 let q2 := ((Go.V.inB i (List.length a)) && q1)
 bif q2 then
 some (.inl (-(1 : Int)))
 else
 none
 else
 let q1 := (M.l_heldInt64S (M.SCoreFrame.Locals (List.getD a (Int.toNat i) M.SCoreFrame.zero)) (Go.IntKind.wrap Go.IntKind.i64 (q0 + (1 : Int))))
 let q2 := (Option.getD q1 default)
 bif (decide (q2 < (0 : Int))) then
 let q3 := ((Go.V.inB i (List.length a)) && ((Go.V.inB i (List.length a)) && true))
 let q4 := ((Go.V.inB i (List.length a)) && q3)
 let q5 := ((Option.isSome q1) && ((Go.V.inB i (List.length a)) && q4))
 bif q5 then
 some (.inl (-(1 : Int)))
 else
 none
 else
 let q3 := ((Go.V.inB i (List.length a)) && ((Go.V.inB i (List.length a)) && true))
 let q4 := ((Go.V.inB i (List.length a)) && q3)
 let q5 := ((Option.isSome q1) && ((Go.V.inB i (List.length a)) && q4))
 bif q5 then
 M.l_heldCoreFrameS_l0 a fuel q2 (Go.IntKind.wrap Go.IntKind.i64 (i + (1 : Int)))
 else
 none
 else
 some ((.inr (k)))
def l_heldCoreFrameS (a : (List M.SCoreFrame)) (k : Int) : Option (Int) :=
 match (M.l_heldCoreFrameS_l0 a Go.V.bigN k (0 : Int)) with
 | none => none
 | some y0 =>
 (match y0 with
 | .inl a1 =>
 some a1
 | .inr b1 =>
 some b1)
def l_heldMachine (a : M.SMachine) (k : Int) : Option (Int) :=
 let q0 := (M.l_heldCoreFrameS (M.SMachine.Frames a) k)
 bif (decide ((Option.getD q0 default) < (0 : Int))) then
 bif ((Option.isSome q0) && true) then
 some (-(1 : Int))
 else
 none
 else
 let q1 := (M.l_heldInt64S (M.SMachine.Stack a) (Option.getD q0 default))
 let q2 := (Option.getD q1 default)
 bif (decide (q2 < (0 : Int))) then
 let q3 := ((Option.isSome q1) && ((Option.isSome q0) && true))
 bif q3 then
 some (-(1 : Int))
 else
 none
 else
 let q3 := (M.l_heldInt64S (M.SMachine.Args a) q2)
 let q4 := (Option.getD q3 default)
 bif (decide (q4 < (0 : Int))) then
 let q5 := ((Option.isSome q1) && ((Option.isSome q0) && true))
 let q6 := ((Option.isSome q3) && q5)
 bif q6 then
 some (-(1 : Int))
 else
 none
 else
 let q5 := ((Option.isSome q1) && ((Option.isSome q0) && true))
 let q6 := ((Option.isSome q3) && q5)
 bif q6 then
 some q4
 else
 none
def l_FnExactNewMachine (aM : M.SModule) (aCore : (List UInt8)) (aArgs : (List Int)) : Option (Bool) :=
 bif (decide ((1048576 : Int) < ((List.length aCore) : Int))) then
 some true
 else
 bif (decide ((1048576 : Int) < ((List.length aArgs) : Int))) then
 some true
 else
 let q0 := (M.l_szModule aM (1048576 : Int))
 bif (decide ((Option.getD q0 default) < (0 : Int))) then
 bif ((Option.isSome q0) && true) then
 some true
 else
 none
 else
 let q1 := (M.l_toModule aM)
 let q2 := (Option.getD q1 default)
 let q3 := q2.1
 let q4 := q2.2
 let q5 := q4.1
 let q6 := q4.2
 let q7 := (M.l_toInt64S aArgs)
 let q8 := (M.i_NewMachine (M.SModule.mk q3 q5 q6) aCore (Option.getD q7 default))
 let q9 := (Option.getD q8 default)
 let q10 := q9.1
 let q11 := q9.2
 let q12 := q11.2
 let q13 := q12.2
 let q14 := q13.2
 let q15 := q14.2
 let q16 := q15.1
 let q17 := q15.2
 let q18 := q17.1
 let q19 := q11.1
 let q20 := q17.2
 let q21 := q12.1
 let q22 := q13.1
 let q23 := (M.s_NewMachine (M.SModule.mk q3 q5 q6) aCore (Option.getD q7 default))
 let q24 := (Option.getD q23 default)
 let q25 := (M.l_eqMachine (M.SMachine.mk q10 q16 q18 q19 q20 q21 q22) q24.1)
 let q26 := (!(Option.getD q25 default))
 let q27 := (q14.1 != q24.2)
 let q28 := (q26 || q27)
 bif q28 then
 let q29 := (Option.isSome q25)
 let q30 := (Option.isSome q8)
 let q31 := (q29 && (q30 && ((Option.isSome q7) && ((Option.isSome q1) && ((Option.isSome q23) && ((Option.isSome q7) && ((Option.isSome q1) && ((Option.isSome q0) && true))))))))
 bif q31 then
 some false
 else
 none
 else
 let q29 := (M.l_eqModule (M.SModule.mk q3 q5 q6) (M.SModule.mk q3 q5 q6))
 bif (!(Option.getD q29 default)) then
 let q30 := (Option.isSome q25)
 let q31 := (Option.isSome q8)
 let q32 := (q30 && (q31 && ((Option.isSome q7) && ((Option.isSome q1) && ((Option.isSome q23) && ((Option.isSome q7) && ((Option.isSome q1) && ((Option.isSome q0) && true))))))))
 let q33 := ((Option.isSome q29) && ((Option.isSome q1) && q32))
 bif q33 then
 some false
 else
 none
 else
 let q30 := (M.l_eqInt64S (Option.getD q7 default) (Option.getD q7 default))
 bif (!(Option.getD q30 default)) then
 let q31 := (Option.isSome q25)
 let q32 := (Option.isSome q8)
 let q33 := (q31 && (q32 && ((Option.isSome q7) && ((Option.isSome q1) && ((Option.isSome q23) && ((Option.isSome q7) && ((Option.isSome q1) && ((Option.isSome q0) && true))))))))
 let q34 := ((Option.isSome q29) && ((Option.isSome q1) && q33))
 let q35 := ((Option.isSome q30) && ((Option.isSome q7) && q34))
 bif q35 then
 some false
 else
 none
 else
 let q31 := (M.l_markModule q3 (1 : Int) q5 q6)
 let q32 := (M.l_markInt64S (Option.getD q31 default).1 (Option.getD q7 default))
 bif (((decide ((Option.getD q32 default).1 < (0 : Int))) || q26) || q27) then
 let q33 := (Option.isSome q25)
 let q34 := (Option.isSome q8)
 let q35 := (q33 && (q34 && ((Option.isSome q7) && ((Option.isSome q1) && ((Option.isSome q23) && ((Option.isSome q7) && ((Option.isSome q1) && ((Option.isSome q0) && true))))))))
 let q36 := ((Option.isSome q29) && ((Option.isSome q1) && q35))
 let q37 := ((Option.isSome q30) && ((Option.isSome q7) && q36))
 let q38 := ((q33 || (!((decide ((Option.getD q32 default).1 < (0 : Int))) == false))) && ((Option.isSome q32) && ((Option.isSome q31) && q37)))
 bif q38 then
 some false
 else
 none
 else
 let q33 := (M.l_markMachine q10 q19 q21 q22 (1 : Int) q16 q18 q20)
 let q34 := (Option.getD q33 default)
 let q35 := q34.2
 let q36 := q35.2
 let q37 := (M.l_heldMachine (M.SMachine.mk q10 q35.1 q36.1 q19 q36.2 q21 q22) (1 : Int))
 let q38 := (Option.getD q37 default)
 bif (decide (q38 < (0 : Int))) then
 let q39 := (Option.isSome q37)
 let q40 := (Option.isSome q25)
 let q41 := (Option.isSome q8)
 let q42 := (q40 && (q41 && ((Option.isSome q7) && ((Option.isSome q1) && ((Option.isSome q23) && ((Option.isSome q7) && ((Option.isSome q1) && ((Option.isSome q0) && true))))))))
 let q43 := ((Option.isSome q29) && ((Option.isSome q1) && q42))
 let q44 := ((Option.isSome q30) && ((Option.isSome q7) && q43))
 let q45 := ((q40 || (!((decide ((Option.getD q32 default).1 < (0 : Int))) == false))) && ((Option.isSome q32) && ((Option.isSome q31) && q44)))
 let q46 := (q39 && ((Option.isSome q33) && q45))
 bif q46 then
 some false
 else
 none
 else
 let q39 := (q38 != q34.1)
 bif q39 then
 let q40 := (Option.isSome q37)
 let q41 := (Option.isSome q25)
 let q42 := (Option.isSome q8)
 let q43 := (q41 && (q42 && ((Option.isSome q7) && ((Option.isSome q1) && ((Option.isSome q23) && ((Option.isSome q7) && ((Option.isSome q1) && ((Option.isSome q0) && true))))))))
 let q44 := ((Option.isSome q29) && ((Option.isSome q1) && q43))
 let q45 := ((Option.isSome q30) && ((Option.isSome q7) && q44))
 let q46 := ((q41 || (!((decide ((Option.getD q32 default).1 < (0 : Int))) == false))) && ((Option.isSome q32) && ((Option.isSome q31) && q45)))
 let q47 := (q40 && ((Option.isSome q33) && q46))
 bif q47 then
 some false
 else
 none
 else
 bif q28 then
 let q40 := (Option.isSome q25)
 let q41 := (Option.isSome q8)
 let q42 := (Option.isSome q37)
 let q43 := (q40 && (q41 && ((Option.isSome q7) && ((Option.isSome q1) && ((Option.isSome q23) && ((Option.isSome q7) && ((Option.isSome q1) && ((Option.isSome q0) && true))))))))
 let q44 := ((Option.isSome q29) && ((Option.isSome q1) && q43))
 let q45 := ((Option.isSome q30) && ((Option.isSome q7) && q44))
 let q46 := ((q40 || (!((decide ((Option.getD q32 default).1 < (0 : Int))) == false))) && ((Option.isSome q32) && ((Option.isSome q31) && q45)))
 let q47 := (q42 && ((Option.isSome q33) && q46))
 let q48 := (q40 && (q41 && ((Option.isSome q7) && ((Option.isSome q1) && q47))))
 bif q48 then
 some false
 else
 none
 else
 bif (decide (q38 < (0 : Int))) then
 let q40 := (Option.isSome q37)
 let q41 := (Option.isSome q25)
 let q42 := (Option.isSome q8)
 let q43 := (q41 && (q42 && ((Option.isSome q7) && ((Option.isSome q1) && ((Option.isSome q23) && ((Option.isSome q7) && ((Option.isSome q1) && ((Option.isSome q0) && true))))))))
 let q44 := ((Option.isSome q29) && ((Option.isSome q1) && q43))
 let q45 := ((Option.isSome q30) && ((Option.isSome q7) && q44))
 let q46 := ((q41 || (!((decide ((Option.getD q32 default).1 < (0 : Int))) == false))) && ((Option.isSome q32) && ((Option.isSome q31) && q45)))
 let q47 := (q40 && ((Option.isSome q33) && q46))
 let q48 := (q41 && (q42 && ((Option.isSome q7) && ((Option.isSome q1) && q47))))
 let q49 := (q40 && q48)
 bif q49 then
 some false
 else
 none
 else
 bif q39 then
 let q40 := (Option.isSome q37)
 let q41 := (Option.isSome q25)
 let q42 := (Option.isSome q8)
 let q43 := (q41 && (q42 && ((Option.isSome q7) && ((Option.isSome q1) && ((Option.isSome q23) && ((Option.isSome q7) && ((Option.isSome q1) && ((Option.isSome q0) && true))))))))
 let q44 := ((Option.isSome q29) && ((Option.isSome q1) && q43))
 let q45 := ((Option.isSome q30) && ((Option.isSome q7) && q44))
 let q46 := ((q41 || (!((decide ((Option.getD q32 default).1 < (0 : Int))) == false))) && ((Option.isSome q32) && ((Option.isSome q31) && q45)))
 let q47 := (q40 && ((Option.isSome q33) && q46))
 let q48 := (q41 && (q42 && ((Option.isSome q7) && ((Option.isSome q1) && q47))))
 let q49 := (q40 && q48)
 bif q49 then
 some false
 else
 none
 else
 let q40 := (Option.isSome q37)
 let q41 := (Option.isSome q25)
 let q42 := (Option.isSome q8)
 let q43 := (q41 && (q42 && ((Option.isSome q7) && ((Option.isSome q1) && ((Option.isSome q23) && ((Option.isSome q7) && ((Option.isSome q1) && ((Option.isSome q0) && true))))))))
 let q44 := ((Option.isSome q29) && ((Option.isSome q1) && q43))
 let q45 := ((Option.isSome q30) && ((Option.isSome q7) && q44))
 let q46 := ((q41 || (!((decide ((Option.getD q32 default).1 < (0 : Int))) == false))) && ((Option.isSome q32) && ((Option.isSome q31) && q45)))
 let q47 := (q40 && ((Option.isSome q33) && q46))
 let q48 := (q41 && (q42 && ((Option.isSome q7) && ((Option.isSome q1) && q47))))
 let q49 := (q40 && q48)
 bif q49 then
 some true
 else
 none
end M
