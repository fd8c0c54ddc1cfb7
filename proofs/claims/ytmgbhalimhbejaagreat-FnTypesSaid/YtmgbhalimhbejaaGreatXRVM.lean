/-
  Part of the proof of the claim.
-/
import Derived.Test.YtmgbhalimhbejaaGreatXRdata
import Derived.Test.YtmgbhalimhbejaaGreatXRhand3
import Derived.Test.YtmgbhalimhbejaaGreatXRhandJ
set_option linter.unusedVariables false
set_option maxRecDepth 100000
noncomputable section
namespace M
def l_eqStringS_l0 (a : (List (List UInt8))) (b : (List (List UInt8))) : Nat → Int → Option ((Bool) ⊕ (Unit))
 | 0, _ => none
 | fuel + 1, i =>
 bif (decide (i < ((List.length a) : Int))) then
 bif (!((List.getD a (Int.toNat i) []) == (List.getD b (Int.toNat i) []))) then
 let q0 := ((Go.V.inB i (List.length b)) && ((Go.V.inB i (List.length a)) && true))
 bif q0 then
 some (.inl false)
 else
 none
 else
 let q0 := ((Go.V.inB i (List.length b)) && ((Go.V.inB i (List.length a)) && true))
 bif q0 then
 M.l_eqStringS_l0 a b fuel (Go.IntKind.wrap Go.IntKind.i64 (i + (1 : Int)))
 else
 none
 else
 some ((.inr (())))
def l_eqStringS (a : (List (List UInt8))) (b : (List (List UInt8))) : Option (Bool) :=
 bif (((List.length a) : Int) != ((List.length b) : Int)) then
 some false
 else
 match (M.l_eqStringS_l0 a b Go.V.bigN (0 : Int)) with
 | none => none
 | some y0 =>
 (match y0 with
 | .inl a1 =>
 some a1
 | .inr b1 =>
 some true)
def l_eqTypeS_l0 (rec_l_eqType : M.SType → M.SType → Option (Bool)) (a : (List M.SType)) (b : (List M.SType)) : Nat → Int → Option ((Bool) ⊕ (Unit))
 | 0, _ => none
 | fuel + 1, i =>
 bif (decide (i < ((List.length a) : Int))) then
 bif (!(Option.getD (rec_l_eqType (M.SType.re (List.getD a (Int.toNat i) M.SType.zero)) (M.SType.re (List.getD b (Int.toNat i) M.SType.zero))) default)) then
 let q0 := ((Option.isSome (rec_l_eqType (M.SType.re (List.getD a (Int.toNat i) M.SType.zero)) (M.SType.re (List.getD b (Int.toNat i) M.SType.zero)))) && ((Go.V.inB i (List.length b)) && ((Go.V.inB i (List.length a)) && true)))
 bif q0 then
 some (.inl false)
 else
 none
 else
 let q0 := ((Option.isSome (rec_l_eqType (M.SType.re (List.getD a (Int.toNat i) M.SType.zero)) (M.SType.re (List.getD b (Int.toNat i) M.SType.zero)))) && ((Go.V.inB i (List.length b)) && ((Go.V.inB i (List.length a)) && true)))
 bif q0 then
 M.l_eqTypeS_l0 rec_l_eqType a b fuel (Go.IntKind.wrap Go.IntKind.i64 (i + (1 : Int)))
 else
 none
 else
 some ((.inr (())))
def l_eqTypeS (rec_l_eqType : M.SType → M.SType → Option (Bool)) (a : (List M.SType)) (b : (List M.SType)) : Option (Bool) :=
 bif (((List.length a) : Int) != ((List.length b) : Int)) then
 some false
 else
 match (M.l_eqTypeS_l0 rec_l_eqType a b Go.V.bigN (0 : Int)) with
 | none => none
 | some y0 =>
 (match y0 with
 | .inl a1 =>
 some a1
 | .inr b1 =>
 some true)
def l_eqType_b (rec_l_eqType : M.SType → M.SType → Option (Bool)) (a : M.SType) (b : M.SType) : Option (Bool) :=
 bif ((M.SType.Kind a) != (M.SType.Kind b)) then
 some false
 else
 bif (!((M.SType.Name a) == (M.SType.Name b))) then
 some false
 else
 let q0 := (M.l_eqStringS (M.SType.Labels a) (M.SType.Labels b))
 bif (!(Option.getD q0 default)) then
 bif ((Option.isSome q0) && true) then
 some false
 else
 none
 else
 let q1 := (M.l_eqTypeS rec_l_eqType (M.SType.Kids a) (M.SType.Kids b))
 bif (!(Option.getD q1 default)) then
 bif ((Option.isSome q1) && ((Option.isSome q0) && true)) then
 some false
 else
 none
 else
 bif ((Option.isSome q1) && ((Option.isSome q0) && true)) then
 some true
 else
 none
def l_eqType_n : Nat → M.SType → M.SType → Option (Bool)
 | 0 => fun _ _ => none
 | n + 1 => l_eqType_b (l_eqType_n n)
def l_eqType : M.SType → M.SType → Option (Bool) := l_eqType_n Go.V.bigN
def s_l00Max (a : Int) (b : Int) : Option (Int) :=
 bif (decide (b < a)) then
 some a
 else
 some b
def s_l03Size_l0 (rec_s_l03Size : M.SType → Int → Option (Int × Int)) (deep : Int) : Nat → Int → Int → Int → M.SType → Option ((Int × Int) ⊕ (Int × Int))
 | 0, _, _, _, _ => none
 | fuel + 1, most, parts, i, t =>
 bif (decide (i < ((List.length (M.SType.Kids t)) : Int))) then
 let q0 := (Option.getD (rec_s_l03Size (M.SType.re (List.getD (M.SType.Kids t) (Int.toNat i) M.SType.zero)) (Go.IntKind.wrap Go.IntKind.i64 (deep + (1 : Int)))) default)
 let q1 := (Go.IntKind.wrap Go.IntKind.i64 (parts + q0.2))
 bif (decide ((24 : Int) < q1)) then
 let q2 := (M.s_l00Max most q0.1)
 let q3 := ((Option.isSome q2) && ((Option.isSome (rec_s_l03Size (M.SType.re (List.getD (M.SType.Kids t) (Int.toNat i) M.SType.zero)) (Go.IntKind.wrap Go.IntKind.i64 (deep + (1 : Int))))) && ((Go.V.inB i (List.length (M.SType.Kids t))) && true)))
 bif q3 then
 some (.inl ((5 : Int), (25 : Int)))
 else
 none
 else
 let q2 := (M.s_l00Max most q0.1)
 let q3 := ((Option.isSome q2) && ((Option.isSome (rec_s_l03Size (M.SType.re (List.getD (M.SType.Kids t) (Int.toNat i) M.SType.zero)) (Go.IntKind.wrap Go.IntKind.i64 (deep + (1 : Int))))) && ((Go.V.inB i (List.length (M.SType.Kids t))) && true)))
 bif q3 then
 M.s_l03Size_l0 rec_s_l03Size deep fuel (Option.getD q2 default) q1 (Go.IntKind.wrap Go.IntKind.i64 (i + (1 : Int))) (M.SType.re t)
 else
 none
 else
 some ((.inr ((most, parts))))
def s_l03Size_b (rec_s_l03Size : M.SType → Int → Option (Int × Int)) (t : M.SType) (deep : Int) : Option (Int × Int) :=
 bif ((decide ((4 : Int) < deep)) || (decide ((24 : Int) < ((List.length (M.SType.Kids t)) : Int)))) then
 some ((5 : Int), (25 : Int))
 else
 match (M.s_l03Size_l0 rec_s_l03Size deep Go.V.bigN (0 : Int) (1 : Int) (0 : Int) (M.SType.re t)) with
 | none => none
 | some y0 =>
 (match y0 with
 | .inl a1 =>
 some (a1.1, a1.2)
 | .inr b1 =>
 some ((Go.IntKind.wrap Go.IntKind.i64 (b1.1 + (1 : Int))), b1.2))
def s_l03Size_n : Nat → M.SType → Int → Option (Int × Int)
 | 0 => fun _ _ => none
 | n + 1 => s_l03Size_b (s_l03Size_n n)
def s_l03Size : M.SType → Int → Option (Int × Int) := s_l03Size_n Go.V.bigN
def s_l00In (n : Int) (low : Int) (high : Int) : Option (Bool) :=
 some ((decide (low ≤ n)) && (decide (n ≤ high)))
def s_l03Name_l0 (s : (List UInt8)) : Nat → Int → Option ((Bool) ⊕ (Unit))
 | 0, _ => none
 | fuel + 1, i =>
 bif (decide (i < ((List.length s) : Int))) then
 let q0 := ((((decide (((UInt8.toNat (List.getD s (Int.toNat i) (0 : UInt8))) : Int) < (97 : Int))) || (decide ((122 : Int) < ((UInt8.toNat (List.getD s (Int.toNat i) (0 : UInt8))) : Int)))) && ((decide (((UInt8.toNat (List.getD s (Int.toNat i) (0 : UInt8))) : Int) < (48 : Int))) || (decide ((57 : Int) < ((UInt8.toNat (List.getD s (Int.toNat i) (0 : UInt8))) : Int))))) && (((UInt8.toNat (List.getD s (Int.toNat i) (0 : UInt8))) : Int) != (45 : Int)))
 let q1 := (((UInt8.toNat (List.getD s (Int.toNat i) (0 : UInt8))) : Int) == (45 : Int))
 bif (q0 || (q1 && (((UInt8.toNat (List.getD s (Int.toNat (Go.IntKind.wrap Go.IntKind.i64 (i - (1 : Int)))) (0 : UInt8))) : Int) == (45 : Int)))) then
 let q2 := (((Go.V.inB (Go.IntKind.wrap Go.IntKind.i64 (i - (1 : Int))) (List.length s)) || (!((q0 == false) && (q1 == true)))) && ((Go.V.inB i (List.length s)) && true))
 bif q2 then
 some (.inl false)
 else
 none
 else
 let q2 := (((Go.V.inB (Go.IntKind.wrap Go.IntKind.i64 (i - (1 : Int))) (List.length s)) || (!((q0 == false) && (q1 == true)))) && ((Go.V.inB i (List.length s)) && true))
 bif q2 then
 M.s_l03Name_l0 s fuel (Go.IntKind.wrap Go.IntKind.i64 (i + (1 : Int)))
 else
 none
 else
 some ((.inr (())))
def s_l03Name (s : (List UInt8)) : Option (Bool) :=
 let q0 := ((decide (((List.length s) : Int) < (1 : Int))) || (decide ((12 : Int) < ((List.length s) : Int))))
 let q1 := (q0 || (decide (((UInt8.toNat (List.getD s (Int.toNat (0 : Int)) (0 : UInt8))) : Int) < (97 : Int))))
 let q2 := (q1 || (decide ((122 : Int) < ((UInt8.toNat (List.getD s (Int.toNat (0 : Int)) (0 : UInt8))) : Int))))
 bif (q2 || (((UInt8.toNat (List.getD s (Int.toNat (Go.IntKind.wrap Go.IntKind.i64 (((List.length s) : Int) - (1 : Int)))) (0 : UInt8))) : Int) == (45 : Int))) then
 let q3 := (((Go.V.inB (Go.IntKind.wrap Go.IntKind.i64 (((List.length s) : Int) - (1 : Int))) (List.length s)) || (!(q2 == false))) && (((Go.V.inB (0 : Int) (List.length s)) || (!(q1 == false))) && (((Go.V.inB (0 : Int) (List.length s)) || (!(q0 == false))) && true)))
 bif q3 then
 some false
 else
 none
 else
 match (M.s_l03Name_l0 s Go.V.bigN (0 : Int)) with
 | none => none
 | some y3 =>
 (match y3 with
 | .inl a4 =>
 let q5 := (((Go.V.inB (Go.IntKind.wrap Go.IntKind.i64 (((List.length s) : Int) - (1 : Int))) (List.length s)) || (!(q2 == false))) && (((Go.V.inB (0 : Int) (List.length s)) || (!(q1 == false))) && (((Go.V.inB (0 : Int) (List.length s)) || (!(q0 == false))) && true)))
 bif q5 then
 some a4
 else
 none
 | .inr b4 =>
 let q5 := (((Go.V.inB (Go.IntKind.wrap Go.IntKind.i64 (((List.length s) : Int) - (1 : Int))) (List.length s)) || (!(q2 == false))) && (((Go.V.inB (0 : Int) (List.length s)) || (!(q1 == false))) && (((Go.V.inB (0 : Int) (List.length s)) || (!(q0 == false))) && true)))
 bif q5 then
 some true
 else
 none)
def s_l03Labels_l0_0 (list : (List (List UInt8))) (i : Int) : Nat → Int → Option ((Bool) ⊕ ((List (List UInt8)) × Int))
 | 0, _ => none
 | fuel + 1, k =>
 bif (decide (k < i)) then
 bif ((List.getD list (Int.toNat k) []) == (List.getD list (Int.toNat i) [])) then
 let q0 := ((Go.V.inB i (List.length list)) && ((Go.V.inB k (List.length list)) && true))
 bif q0 then
 some (.inl false)
 else
 none
 else
 let q0 := ((Go.V.inB i (List.length list)) && ((Go.V.inB k (List.length list)) && true))
 bif q0 then
 M.s_l03Labels_l0_0 list i fuel (Go.IntKind.wrap Go.IntKind.i64 (k + (1 : Int)))
 else
 none
 else
 some ((.inr ((list, i))))
def s_l03Labels_l0 : Nat → (List (List UInt8)) → Int → Option ((Bool) ⊕ (Unit))
 | 0, _, _ => none
 | fuel + 1, list, i =>
 bif (decide (i < ((List.length list) : Int))) then
 let q0 := (M.s_l03Name (List.getD list (Int.toNat i) []))
 bif (!(Option.getD q0 default)) then
 let q1 := ((Option.isSome q0) && ((Go.V.inB i (List.length list)) && true))
 bif q1 then
 some (.inl false)
 else
 none
 else
 match (M.s_l03Labels_l0_0 list i Go.V.bigN (0 : Int)) with
 | none => none
 | some y1 =>
 (match y1 with
 | .inl a2 =>
 let q3 := ((Option.isSome q0) && ((Go.V.inB i (List.length list)) && true))
 bif q3 then
 some (.inl a2)
 else
 none
 | .inr b2 =>
 let q3 := ((Option.isSome q0) && ((Go.V.inB i (List.length list)) && true))
 bif q3 then
 M.s_l03Labels_l0 fuel b2.1 (Go.IntKind.wrap Go.IntKind.i64 (b2.2 + (1 : Int)))
 else
 none)
 else
 some ((.inr (())))
def s_l03Labels (list : (List (List UInt8))) : Option (Bool) :=
 bif ((decide (((List.length list) : Int) < (1 : Int))) || (decide ((16 : Int) < ((List.length list) : Int)))) then
 some false
 else
 match (M.s_l03Labels_l0 Go.V.bigN list (0 : Int)) with
 | none => none
 | some y0 =>
 (match y0 with
 | .inl a1 =>
 some a1
 | .inr b1 =>
 some true)
def s_l03Units_l0 : Nat → Int → M.SType → Option ((Bool) ⊕ (Unit))
 | 0, _, _ => none
 | fuel + 1, i, t =>
 bif (decide (i < ((List.length (M.SType.Kids t)) : Int))) then
 bif ((M.SType.Kind (List.getD (M.SType.Kids t) (Int.toNat i) M.SType.zero)) == (1 : Int)) then
 bif ((Go.V.inB i (List.length (M.SType.Kids t))) && true) then
 some (.inl true)
 else
 none
 else
 bif ((Go.V.inB i (List.length (M.SType.Kids t))) && true) then
 M.s_l03Units_l0 fuel (Go.IntKind.wrap Go.IntKind.i64 (i + (1 : Int))) (M.SType.re t)
 else
 none
 else
 some ((.inr (())))
def s_l03Units (t : M.SType) : Option (Bool) :=
 match (M.s_l03Units_l0 Go.V.bigN (0 : Int) (M.SType.re t)) with
 | none => none
 | some y0 =>
 (match y0 with
 | .inl a1 =>
 some a1
 | .inr b1 =>
 some false)
def s_l03Has_l0 (rec_s_l03Has : M.SType → Int → Int → Option (Bool)) (low : Int) (high : Int) : Nat → Int → M.SType → Option ((Bool) ⊕ (Unit))
 | 0, _, _ => none
 | fuel + 1, i, t =>
 bif (decide (i < ((List.length (M.SType.Kids t)) : Int))) then
 bif (Option.getD (rec_s_l03Has (M.SType.re (List.getD (M.SType.Kids t) (Int.toNat i) M.SType.zero)) low high) default) then
 let q0 := ((Option.isSome (rec_s_l03Has (M.SType.re (List.getD (M.SType.Kids t) (Int.toNat i) M.SType.zero)) low high)) && ((Go.V.inB i (List.length (M.SType.Kids t))) && true))
 bif q0 then
 some (.inl true)
 else
 none
 else
 let q0 := ((Option.isSome (rec_s_l03Has (M.SType.re (List.getD (M.SType.Kids t) (Int.toNat i) M.SType.zero)) low high)) && ((Go.V.inB i (List.length (M.SType.Kids t))) && true))
 bif q0 then
 M.s_l03Has_l0 rec_s_l03Has low high fuel (Go.IntKind.wrap Go.IntKind.i64 (i + (1 : Int))) (M.SType.re t)
 else
 none
 else
 some ((.inr (())))
def s_l03Has_b (rec_s_l03Has : M.SType → Int → Int → Option (Bool)) (t : M.SType) (low : Int) (high : Int) : Option (Bool) :=
 bif ((decide (low ≤ (M.SType.Kind t))) && (decide ((M.SType.Kind t) ≤ high))) then
 some true
 else
 match (M.s_l03Has_l0 rec_s_l03Has low high Go.V.bigN (0 : Int) (M.SType.re t)) with
 | none => none
 | some y0 =>
 (match y0 with
 | .inl a1 =>
 some a1
 | .inr b1 =>
 some false)
def s_l03Has_n : Nat → M.SType → Int → Int → Option (Bool)
 | 0 => fun _ _ _ => none
 | n + 1 => s_l03Has_b (s_l03Has_n n)
def s_l03Has : M.SType → Int → Int → Option (Bool) := s_l03Has_n Go.V.bigN
def s_l03Shape (t : M.SType) : Option (Bool) :=
 let q0 := (((M.SType.Kind t) == (20 : Int)) || ((M.SType.Kind t) == (21 : Int)))
 let q1 := (!(q0 == (!((M.SType.Name t) == []))))
 let q2 := (M.s_l03Name (M.SType.Name t))
 let q3 := ((decide ((16 : Int) ≤ (M.SType.Kind t))) && (decide ((M.SType.Kind t) ≤ (19 : Int))))
 let q4 := ((q1 || (q0 && (!(Option.getD q2 default)))) || (!(q3 == (decide ((0 : Int) < ((List.length (M.SType.Labels t)) : Int))))))
 let q5 := (M.s_l03Labels (M.SType.Labels t))
 bif (q4 || (q3 && (!(Option.getD q5 default)))) then
 let q6 := (((Option.isSome q5) || (!((q4 == false) && (q3 == true)))) && (((Option.isSome q2) || (!((q1 == false) && (q0 == true)))) && true))
 bif q6 then
 some false
 else
 none
 else
 bif (bif ((M.SType.Kind t) == (12 : Int)) then ((M.SType.Kind t) == (12 : Int)) else ((M.SType.Kind t) == (13 : Int))) then
 let q6 := (M.s_l03Units (M.SType.re t))
 let q7 := (!((((List.length (M.SType.Kids t)) : Int) == (1 : Int)) == true))
 let q8 := (((Option.isSome q5) || (!((q4 == false) && (q3 == true)))) && (((Option.isSome q2) || (!((q1 == false) && (q0 == true)))) && true))
 let q9 := ((q8 || (!((M.SType.Kind t) == (12 : Int)))) && (q8 || ((M.SType.Kind t) == (12 : Int))))
 bif (((Option.isSome q6) || q7) && q9) then
 some ((((List.length (M.SType.Kids t)) : Int) == (1 : Int)) && (!(Option.getD q6 default)))
 else
 none
 else
 bif (bif ((M.SType.Kind t) == (22 : Int)) then ((M.SType.Kind t) == (22 : Int)) else ((M.SType.Kind t) == (23 : Int))) then
 let q6 := (M.s_l03Has (M.SType.re (List.getD (M.SType.Kids t) (Int.toNat (0 : Int)) M.SType.zero)) (21 : Int) (21 : Int))
 let q7 := (!((((List.length (M.SType.Kids t)) : Int) == (1 : Int)) == true))
 let q8 := (((Option.isSome q5) || (!((q4 == false) && (q3 == true)))) && (((Option.isSome q2) || (!((q1 == false) && (q0 == true)))) && true))
 let q9 := ((q8 || (!((M.SType.Kind t) == (12 : Int)))) && (q8 || ((M.SType.Kind t) == (12 : Int))))
 let q10 := ((q9 || (!((M.SType.Kind t) == (22 : Int)))) && (q9 || ((M.SType.Kind t) == (22 : Int))))
 bif (((Option.isSome q6) || q7) && (((Go.V.inB (0 : Int) (List.length (M.SType.Kids t))) || q7) && q10)) then
 some ((((List.length (M.SType.Kids t)) : Int) == (1 : Int)) && (!(Option.getD q6 default)))
 else
 none
 else
 bif ((M.SType.Kind t) == (14 : Int)) then
 let q6 := (((Option.isSome q5) || (!((q4 == false) && (q3 == true)))) && (((Option.isSome q2) || (!((q1 == false) && (q0 == true)))) && true))
 let q7 := ((q6 || (!((M.SType.Kind t) == (12 : Int)))) && (q6 || ((M.SType.Kind t) == (12 : Int))))
 let q8 := ((q7 || (!((M.SType.Kind t) == (22 : Int)))) && (q7 || ((M.SType.Kind t) == (22 : Int))))
 bif q8 then
 some (((List.length (M.SType.Kids t)) : Int) == (2 : Int))
 else
 none
 else
 bif ((M.SType.Kind t) == (15 : Int)) then
 let q6 := (M.s_l03Units (M.SType.re t))
 let q7 := ((decide ((1 : Int) ≤ ((List.length (M.SType.Kids t)) : Int))) && (decide (((List.length (M.SType.Kids t)) : Int) ≤ (6 : Int))))
 let q8 := (((Option.isSome q5) || (!((q4 == false) && (q3 == true)))) && (((Option.isSome q2) || (!((q1 == false) && (q0 == true)))) && true))
 let q9 := ((q8 || (!((M.SType.Kind t) == (12 : Int)))) && (q8 || ((M.SType.Kind t) == (12 : Int))))
 let q10 := ((q9 || (!((M.SType.Kind t) == (22 : Int)))) && (q9 || ((M.SType.Kind t) == (22 : Int))))
 bif (((Option.isSome q6) || (!(q7 == true))) && q10) then
 some (q7 && (!(Option.getD q6 default)))
 else
 none
 else
 bif ((M.SType.Kind t) == (16 : Int)) then
 let q6 := (M.s_l03Units (M.SType.re t))
 let q7 := (((Option.isSome q5) || (!((q4 == false) && (q3 == true)))) && (((Option.isSome q2) || (!((q1 == false) && (q0 == true)))) && true))
 let q8 := ((q7 || (!((M.SType.Kind t) == (12 : Int)))) && (q7 || ((M.SType.Kind t) == (12 : Int))))
 let q9 := ((q8 || (!((M.SType.Kind t) == (22 : Int)))) && (q8 || ((M.SType.Kind t) == (22 : Int))))
 bif (((Option.isSome q6) || (!((((List.length (M.SType.Kids t)) : Int) == ((List.length (M.SType.Labels t)) : Int)) == true))) && q9) then
 some ((((List.length (M.SType.Kids t)) : Int) == ((List.length (M.SType.Labels t)) : Int)) && (!(Option.getD q6 default)))
 else
 none
 else
 bif ((M.SType.Kind t) == (17 : Int)) then
 let q6 := (((Option.isSome q5) || (!((q4 == false) && (q3 == true)))) && (((Option.isSome q2) || (!((q1 == false) && (q0 == true)))) && true))
 let q7 := ((q6 || (!((M.SType.Kind t) == (12 : Int)))) && (q6 || ((M.SType.Kind t) == (12 : Int))))
 let q8 := ((q7 || (!((M.SType.Kind t) == (22 : Int)))) && (q7 || ((M.SType.Kind t) == (22 : Int))))
 bif q8 then
 some (((List.length (M.SType.Kids t)) : Int) == ((List.length (M.SType.Labels t)) : Int))
 else
 none
 else
 let q6 := (((Option.isSome q5) || (!((q4 == false) && (q3 == true)))) && (((Option.isSome q2) || (!((q1 == false) && (q0 == true)))) && true))
 let q7 := ((q6 || (!((M.SType.Kind t) == (12 : Int)))) && (q6 || ((M.SType.Kind t) == (12 : Int))))
 let q8 := ((q7 || (!((M.SType.Kind t) == (22 : Int)))) && (q7 || ((M.SType.Kind t) == (22 : Int))))
 bif q8 then
 some (((decide ((1 : Int) ≤ (M.SType.Kind t))) && (decide ((M.SType.Kind t) ≤ (23 : Int)))) && (((List.length (M.SType.Kids t)) : Int) == (0 : Int)))
 else
 none
def s_l03Parts_l0 (rec_s_l03Parts : M.SType → Option (Bool)) : Nat → Int → M.SType → Option ((Bool) ⊕ (Unit))
 | 0, _, _ => none
 | fuel + 1, i, t =>
 bif (decide (i < ((List.length (M.SType.Kids t)) : Int))) then
 bif (!(Option.getD (rec_s_l03Parts (M.SType.re (List.getD (M.SType.Kids t) (Int.toNat i) M.SType.zero))) default)) then
 let q0 := ((Option.isSome (rec_s_l03Parts (M.SType.re (List.getD (M.SType.Kids t) (Int.toNat i) M.SType.zero)))) && ((Go.V.inB i (List.length (M.SType.Kids t))) && true))
 bif q0 then
 some (.inl false)
 else
 none
 else
 let q0 := ((Option.isSome (rec_s_l03Parts (M.SType.re (List.getD (M.SType.Kids t) (Int.toNat i) M.SType.zero)))) && ((Go.V.inB i (List.length (M.SType.Kids t))) && true))
 bif q0 then
 M.s_l03Parts_l0 rec_s_l03Parts fuel (Go.IntKind.wrap Go.IntKind.i64 (i + (1 : Int))) (M.SType.re t)
 else
 none
 else
 some ((.inr (())))
def s_l03Parts_b (rec_s_l03Parts : M.SType → Option (Bool)) (t : M.SType) : Option (Bool) :=
 let q0 := (M.s_l03Shape (M.SType.re t))
 bif (!(Option.getD q0 default)) then
 bif ((Option.isSome q0) && true) then
 some false
 else
 none
 else
 match (M.s_l03Parts_l0 rec_s_l03Parts Go.V.bigN (0 : Int) (M.SType.re t)) with
 | none => none
 | some y1 =>
 (match y1 with
 | .inl a2 =>
 bif ((Option.isSome q0) && true) then
 some a2
 else
 none
 | .inr b2 =>
 bif ((Option.isSome q0) && true) then
 some true
 else
 none)
def s_l03Parts_n : Nat → M.SType → Option (Bool)
 | 0 => fun _ => none
 | n + 1 => s_l03Parts_b (s_l03Parts_n n)
def s_l03Parts : M.SType → Option (Bool) := s_l03Parts_n Go.V.bigN
def i_deep_l0 (rec_i_deep : M.SType → Int → Option (Int)) (levels : Int) (t11 : (List M.SType)) (t12 : Int) : Nat → Int → Int → Option (Int)
 | 0, _, _ => none
 | fuel + 1, depth, t13 =>
 bif (decide (t13 < t12)) then
 bif ((Option.isSome (rec_i_deep (M.SType.re (List.getD t11 (Int.toNat t13) M.SType.zero)) (Go.IntKind.wrap Go.IntKind.i64 (levels - (1 : Int))))) && ((Go.V.inB t13 (List.length t11)) && true)) then
 let q0 := (Option.getD (rec_i_deep (M.SType.re (List.getD t11 (Int.toNat t13) M.SType.zero)) (Go.IntKind.wrap Go.IntKind.i64 (levels - (1 : Int)))) default)
 M.i_deep_l0 rec_i_deep levels t11 t12 fuel (bif (decide (depth < q0)) then q0 else depth) (Go.IntKind.wrap Go.IntKind.i64 (t13 + (1 : Int)))
 else
 none
 else
 some (depth)
def i_deep_b (rec_i_deep : M.SType → Int → Option (Int)) (t : M.SType) (levels : Int) : Option (Int) :=
 bif (levels == (0 : Int)) then
 some (1 : Int)
 else
 match (M.i_deep_l0 rec_i_deep levels (M.SType.Kids t) ((List.length (M.SType.Kids t)) : Int) Go.V.bigN (0 : Int) (0 : Int)) with
 | none => none
 | some y0 =>
 some (Go.IntKind.wrap Go.IntKind.i64 (y0 + (1 : Int)))
def i_deep_n : Nat → M.SType → Int → Option (Int)
 | 0 => fun _ _ => none
 | n + 1 => i_deep_b (i_deep_n n)
def i_deep : M.SType → Int → Option (Int) := i_deep_n Go.V.bigN
def i_parts_l0 (rec_i_parts : M.SType → Option (Int)) (t7 : (List M.SType)) (t8 : Int) : Nat → Int → Int → Option (Int)
 | 0, _, _ => none
 | fuel + 1, many, t9 =>
 bif (decide (t9 < t8)) then
 bif ((Option.isSome (rec_i_parts (M.SType.re (List.getD t7 (Int.toNat t9) M.SType.zero)))) && ((Go.V.inB t9 (List.length t7)) && true)) then
 M.i_parts_l0 rec_i_parts t7 t8 fuel (Go.IntKind.wrap Go.IntKind.i64 (many + (Option.getD (rec_i_parts (M.SType.re (List.getD t7 (Int.toNat t9) M.SType.zero))) default))) (Go.IntKind.wrap Go.IntKind.i64 (t9 + (1 : Int)))
 else
 none
 else
 some (many)
def i_parts_b (rec_i_parts : M.SType → Option (Int)) (t : M.SType) : Option (Int) :=
 match (M.i_parts_l0 rec_i_parts (M.SType.Kids t) ((List.length (M.SType.Kids t)) : Int) Go.V.bigN (1 : Int) (0 : Int)) with
 | none => none
 | some y0 =>
 some y0
def i_parts_n : Nat → M.SType → Option (Int)
 | 0 => fun _ => none
 | n + 1 => i_parts_b (i_parts_n n)
def i_parts : M.SType → Option (Int) := i_parts_n Go.V.bigN
def i_shapeOk_c1 (rec_i_shapeOk : M.SType → Option (Bool)) (kid : M.SType) : Option (Bool) :=
 bif ((Option.isSome (rec_i_shapeOk (M.SType.re kid))) && true) then
 some (!(Option.getD (rec_i_shapeOk (M.SType.re kid)) default))
 else
 none
def slices_IndexFunc_Type_Type_l0 (rec_i_shapeOk : M.SType → Option (Bool)) (s : (List M.SType)) (t7 : Int) : Nat → Int → Option ((Int) ⊕ (Unit))
 | 0, _ => none
 | fuel + 1, t8 =>
 bif (decide (t8 < t7)) then
 let q0 := (M.i_shapeOk_c1 rec_i_shapeOk (M.SType.re (List.getD s (Int.toNat t8) M.SType.zero)))
 bif (Option.getD q0 default) then
 let q1 := ((Option.isSome q0) && ((Go.V.inB t8 (List.length s)) && true))
 bif q1 then
 some (.inl t8)
 else
 none
 else
 let q1 := ((Option.isSome q0) && ((Go.V.inB t8 (List.length s)) && true))
 bif q1 then
 M.slices_IndexFunc_Type_Type_l0 rec_i_shapeOk s t7 fuel (Go.IntKind.wrap Go.IntKind.i64 (t8 + (1 : Int)))
 else
 none
 else
 some ((.inr (())))
def slices_IndexFunc_Type_Type (rec_i_shapeOk : M.SType → Option (Bool)) (s : (List M.SType)) : Option (Int) :=
 match (M.slices_IndexFunc_Type_Type_l0 rec_i_shapeOk s ((List.length s) : Int) Go.V.bigN (0 : Int)) with
 | none => none
 | some y0 =>
 (match y0 with
 | .inl a1 =>
 some a1
 | .inr b1 =>
 some (-(1 : Int)))
def slices_ContainsFunc_Type_Type (rec_i_shapeOk : M.SType → Option (Bool)) (s : (List M.SType)) : Option (Bool) :=
 let q0 := (M.slices_IndexFunc_Type_Type rec_i_shapeOk s)
 bif ((Option.isSome q0) && true) then
 some (decide ((0 : Int) ≤ (Option.getD q0 default)))
 else
 none
def i_within (n : Int) (low : Int) (high : Int) : Option (Bool) :=
 some ((decide (low ≤ n)) && (decide (n ≤ high)))
def i_size_string (list : (List (List UInt8))) : Option (Int) :=
 some ((List.length list) : Int)
def i_NameOk_l0 (s : (List UInt8)) (t7 : Int) : Nat → Int → Option ((Bool) ⊕ ((List UInt8)))
 | 0, _ => none
 | fuel + 1, t8 =>
 bif (decide (t8 < t7)) then
 bif ((decide ((97 : Int) ≤ ((UInt8.toNat (List.getD s (Int.toNat t8) (0 : UInt8))) : Int))) && (decide (((UInt8.toNat (List.getD s (Int.toNat t8) (0 : UInt8))) : Int) ≤ (122 : Int)))) then
 let q0 := (((Go.V.inB t8 (List.length s)) || (!((decide ((48 : Int) ≤ ((UInt8.toNat (List.getD s (Int.toNat t8) (0 : UInt8))) : Int))) == true))) && ((Go.V.inB t8 (List.length s)) && (((Go.V.inB t8 (List.length s)) || (!((decide ((97 : Int) ≤ ((UInt8.toNat (List.getD s (Int.toNat t8) (0 : UInt8))) : Int))) == true))) && ((Go.V.inB t8 (List.length s)) && true))))
 bif q0 then
 M.i_NameOk_l0 s t7 fuel (Go.IntKind.wrap Go.IntKind.i64 (t8 + (1 : Int)))
 else
 none
 else
 let q0 := (!((decide ((48 : Int) ≤ ((UInt8.toNat (List.getD s (Int.toNat t8) (0 : UInt8))) : Int))) && (decide (((UInt8.toNat (List.getD s (Int.toNat t8) (0 : UInt8))) : Int) ≤ (57 : Int)))))
 bif ((t8 == (0 : Int)) || (q0 && (((UInt8.toNat (List.getD s (Int.toNat t8) (0 : UInt8))) : Int) != (45 : Int)))) then
 let q1 := (((Go.V.inB t8 (List.length s)) || (!((decide ((48 : Int) ≤ ((UInt8.toNat (List.getD s (Int.toNat t8) (0 : UInt8))) : Int))) == true))) && ((Go.V.inB t8 (List.length s)) && (((Go.V.inB t8 (List.length s)) || (!((decide ((97 : Int) ≤ ((UInt8.toNat (List.getD s (Int.toNat t8) (0 : UInt8))) : Int))) == true))) && ((Go.V.inB t8 (List.length s)) && true))))
 let q2 := (((Go.V.inB t8 (List.length s)) || (!(((t8 == (0 : Int)) == false) && (q0 == true)))) && q1)
 bif q2 then
 some (.inl false)
 else
 none
 else
 let q1 := (((UInt8.toNat (List.getD s (Int.toNat t8) (0 : UInt8))) : Int) == (45 : Int))
 bif (q1 && (((UInt8.toNat (List.getD s (Int.toNat (Go.IntKind.wrap Go.IntKind.i64 (t8 - (1 : Int)))) (0 : UInt8))) : Int) == (45 : Int))) then
 let q2 := (((Go.V.inB t8 (List.length s)) || (!((decide ((48 : Int) ≤ ((UInt8.toNat (List.getD s (Int.toNat t8) (0 : UInt8))) : Int))) == true))) && ((Go.V.inB t8 (List.length s)) && (((Go.V.inB t8 (List.length s)) || (!((decide ((97 : Int) ≤ ((UInt8.toNat (List.getD s (Int.toNat t8) (0 : UInt8))) : Int))) == true))) && ((Go.V.inB t8 (List.length s)) && true))))
 let q3 := (((Go.V.inB t8 (List.length s)) || (!(((t8 == (0 : Int)) == false) && (q0 == true)))) && q2)
 let q4 := (((Go.V.inB (Go.IntKind.wrap Go.IntKind.i64 (t8 - (1 : Int))) (List.length s)) || (!(q1 == true))) && ((Go.V.inB t8 (List.length s)) && q3))
 bif q4 then
 some (.inl false)
 else
 none
 else
 let q2 := (((Go.V.inB t8 (List.length s)) || (!((decide ((48 : Int) ≤ ((UInt8.toNat (List.getD s (Int.toNat t8) (0 : UInt8))) : Int))) == true))) && ((Go.V.inB t8 (List.length s)) && (((Go.V.inB t8 (List.length s)) || (!((decide ((97 : Int) ≤ ((UInt8.toNat (List.getD s (Int.toNat t8) (0 : UInt8))) : Int))) == true))) && ((Go.V.inB t8 (List.length s)) && true))))
 let q3 := (((Go.V.inB t8 (List.length s)) || (!(((t8 == (0 : Int)) == false) && (q0 == true)))) && q2)
 let q4 := (((Go.V.inB (Go.IntKind.wrap Go.IntKind.i64 (t8 - (1 : Int))) (List.length s)) || (!(q1 == true))) && ((Go.V.inB t8 (List.length s)) && q3))
 bif q4 then
 M.i_NameOk_l0 s t7 fuel (Go.IntKind.wrap Go.IntKind.i64 (t8 + (1 : Int)))
 else
 none
 else
 some ((.inr (s)))
def i_NameOk (s : (List UInt8)) : Option (Bool) :=
 match (M.i_NameOk_l0 s ((List.length s) : Int) Go.V.bigN (0 : Int)) with
 | none => none
 | some y0 =>
 (match y0 with
 | .inl a1 =>
 some a1
 | .inr b1 =>
 let q2 := ((decide ((1 : Int) ≤ ((List.length b1) : Int))) && (decide (((List.length b1) : Int) ≤ (12 : Int))))
 bif (((Go.V.inB (Go.IntKind.wrap Go.IntKind.i64 (((List.length b1) : Int) - (1 : Int))) (List.length b1)) || (!(q2 == true))) && true) then
 some (q2 && (((UInt8.toNat (List.getD b1 (Int.toNat (Go.IntKind.wrap Go.IntKind.i64 (((List.length b1) : Int) - (1 : Int)))) (0 : UInt8))) : Int) != (45 : Int)))
 else
 none)
def i_labelsOk_c1 (name : (List UInt8)) : Option (Bool) :=
 let q0 := (M.i_NameOk name)
 bif ((Option.isSome q0) && true) then
 some (!(Option.getD q0 default))
 else
 none
def slices_IndexFunc_string_string_l0 (s : (List (List UInt8))) (t7 : Int) : Nat → Int → Option ((Int) ⊕ (Unit))
 | 0, _ => none
 | fuel + 1, t8 =>
 bif (decide (t8 < t7)) then
 let q0 := (M.i_labelsOk_c1 (List.getD s (Int.toNat t8) []))
 bif (Option.getD q0 default) then
 let q1 := ((Option.isSome q0) && ((Go.V.inB t8 (List.length s)) && true))
 bif q1 then
 some (.inl t8)
 else
 none
 else
 let q1 := ((Option.isSome q0) && ((Go.V.inB t8 (List.length s)) && true))
 bif q1 then
 M.slices_IndexFunc_string_string_l0 s t7 fuel (Go.IntKind.wrap Go.IntKind.i64 (t8 + (1 : Int)))
 else
 none
 else
 some ((.inr (())))
def slices_IndexFunc_string_string (s : (List (List UInt8))) : Option (Int) :=
 match (M.slices_IndexFunc_string_string_l0 s ((List.length s) : Int) Go.V.bigN (0 : Int)) with
 | none => none
 | some y0 =>
 (match y0 with
 | .inl a1 =>
 some a1
 | .inr b1 =>
 some (-(1 : Int)))
def slices_ContainsFunc_string_string (s : (List (List UInt8))) : Option (Bool) :=
 let q0 := (M.slices_IndexFunc_string_string s)
 bif ((Option.isSome q0) && true) then
 some (decide ((0 : Int) ≤ (Option.getD q0 default)))
 else
 none
def i_labelsOk (labels : (List (List UInt8))) : Option (Bool) :=
 let q0 := (M.slices_ContainsFunc_string_string labels)
 let q1 := ((decide ((1 : Int) ≤ ((List.length labels) : Int))) && (decide (((List.length labels) : Int) ≤ (16 : Int))))
 let q2 := (M.i_distinct labels)
 let q3 := (q1 && (Option.getD q2 default))
 bif (((Option.isSome q0) || (!(q3 == true))) && (((Option.isSome q2) || (!(q1 == true))) && true)) then
 some (q3 && (!(Option.getD q0 default)))
 else
 none
def i_size_Type (list : (List M.SType)) : Option (Int) :=
 some ((List.length list) : Int)
def i_isUnit (t : M.SType) : Option (Bool) :=
 some ((M.SType.Kind t) == (1 : Int))
def slices_IndexFunc_Type_Type_2_l0 (s : (List M.SType)) (t7 : Int) : Nat → Int → Option ((Int) ⊕ (Unit))
 | 0, _ => none
 | fuel + 1, t8 =>
 bif (decide (t8 < t7)) then
 bif ((M.SType.Kind (List.getD s (Int.toNat t8) M.SType.zero)) == (1 : Int)) then
 bif ((Go.V.inB t8 (List.length s)) && true) then
 some (.inl t8)
 else
 none
 else
 bif ((Go.V.inB t8 (List.length s)) && true) then
 M.slices_IndexFunc_Type_Type_2_l0 s t7 fuel (Go.IntKind.wrap Go.IntKind.i64 (t8 + (1 : Int)))
 else
 none
 else
 some ((.inr (())))
def slices_IndexFunc_Type_Type_2 (s : (List M.SType)) : Option (Int) :=
 match (M.slices_IndexFunc_Type_Type_2_l0 s ((List.length s) : Int) Go.V.bigN (0 : Int)) with
 | none => none
 | some y0 =>
 (match y0 with
 | .inl a1 =>
 some a1
 | .inr b1 =>
 some (-(1 : Int)))
def slices_ContainsFunc_Type_Type_2 (s : (List M.SType)) : Option (Bool) :=
 let q0 := (M.slices_IndexFunc_Type_Type_2 s)
 bif ((Option.isSome q0) && true) then
 some (decide ((0 : Int) ≤ (Option.getD q0 default)))
 else
 none
def i_kidsOk (t : M.SType) (many : Int) : Option (Bool) :=
 let q0 := (M.slices_ContainsFunc_Type_Type_2 (M.SType.Kids t))
 bif (((Option.isSome q0) || (!((((List.length (M.SType.Kids t)) : Int) == many) == true))) && true) then
 some ((((List.length (M.SType.Kids t)) : Int) == many) && (!(Option.getD q0 default)))
 else
 none
def slices_Index_int64_int64_l0 (s : (List Int)) (v : Int) (t7 : Int) : Nat → Int → Option ((Int) ⊕ (Unit))
 | 0, _ => none
 | fuel + 1, t8 =>
 bif (decide (t8 < t7)) then
 bif (v == (List.getD s (Int.toNat t8) (0 : Int))) then
 bif ((Go.V.inB t8 (List.length s)) && true) then
 some (.inl t8)
 else
 none
 else
 bif ((Go.V.inB t8 (List.length s)) && true) then
 M.slices_Index_int64_int64_l0 s v t7 fuel (Go.IntKind.wrap Go.IntKind.i64 (t8 + (1 : Int)))
 else
 none
 else
 some ((.inr (())))
def slices_Index_int64_int64 (s : (List Int)) (v : Int) : Option (Int) :=
 match (M.slices_Index_int64_int64_l0 s v ((List.length s) : Int) Go.V.bigN (0 : Int)) with
 | none => none
 | some y0 =>
 (match y0 with
 | .inl a1 =>
 some a1
 | .inr b1 =>
 some (-(1 : Int)))
def slices_Contains_int64_int64 (s : (List Int)) (v : Int) : Option (Bool) :=
 let q0 := (M.slices_Index_int64_int64 s v)
 bif ((Option.isSome q0) && true) then
 some (decide ((0 : Int) ≤ (Option.getD q0 default)))
 else
 none
def i_hasKind_c1 (rec_i_hasKind : M.SType → (List Int) → Option (Bool)) (kid : M.SType) (t1 : (List Int)) : Option (Bool) :=
 bif ((Option.isSome (rec_i_hasKind (M.SType.re kid) t1)) && true) then
 some (Option.getD (rec_i_hasKind (M.SType.re kid) t1) default)
 else
 none
def slices_IndexFunc_Type_Type_3_l0 (rec_i_hasKind : M.SType → (List Int) → Option (Bool)) (s : (List M.SType)) (f : (List Int)) (t7 : Int) : Nat → Int → Option ((Int) ⊕ (Unit))
 | 0, _ => none
 | fuel + 1, t8 =>
 bif (decide (t8 < t7)) then
 let q0 := (M.i_hasKind_c1 rec_i_hasKind (M.SType.re (List.getD s (Int.toNat t8) M.SType.zero)) f)
 bif (Option.getD q0 default) then
 let q1 := ((Option.isSome q0) && ((Go.V.inB t8 (List.length s)) && true))
 bif q1 then
 some (.inl t8)
 else
 none
 else
 let q1 := ((Option.isSome q0) && ((Go.V.inB t8 (List.length s)) && true))
 bif q1 then
 M.slices_IndexFunc_Type_Type_3_l0 rec_i_hasKind s f t7 fuel (Go.IntKind.wrap Go.IntKind.i64 (t8 + (1 : Int)))
 else
 none
 else
 some ((.inr (())))
def slices_IndexFunc_Type_Type_3 (rec_i_hasKind : M.SType → (List Int) → Option (Bool)) (s : (List M.SType)) (f : (List Int)) : Option (Int) :=
 match (M.slices_IndexFunc_Type_Type_3_l0 rec_i_hasKind s f ((List.length s) : Int) Go.V.bigN (0 : Int)) with
 | none => none
 | some y0 =>
 (match y0 with
 | .inl a1 =>
 some a1
 | .inr b1 =>
 some (-(1 : Int)))
def slices_ContainsFunc_Type_Type_3 (rec_i_hasKind : M.SType → (List Int) → Option (Bool)) (s : (List M.SType)) (f : (List Int)) : Option (Bool) :=
 let q0 := (M.slices_IndexFunc_Type_Type_3 rec_i_hasKind s f)
 bif ((Option.isSome q0) && true) then
 some (decide ((0 : Int) ≤ (Option.getD q0 default)))
 else
 none
def i_hasKind_b (rec_i_hasKind : M.SType → (List Int) → Option (Bool)) (t : M.SType) (kinds : (List Int)) : Option (Bool) :=
 let q0 := (M.slices_ContainsFunc_Type_Type_3 rec_i_hasKind (M.SType.Kids t) kinds)
 let q1 := (M.slices_Contains_int64_int64 kinds (M.SType.Kind t))
 bif (((Option.isSome q0) || (!((Option.getD q1 default) == false))) && ((Option.isSome q1) && true)) then
 some ((Option.getD q1 default) || (Option.getD q0 default))
 else
 none
def i_hasKind_n : Nat → M.SType → (List Int) → Option (Bool)
 | 0 => fun _ _ => none
 | n + 1 => i_hasKind_b (i_hasKind_n n)
def i_hasKind : M.SType → (List Int) → Option (Bool) := i_hasKind_n Go.V.bigN
def i_shapeOk_b (rec_i_shapeOk : M.SType → Option (Bool)) (t : M.SType) : Option (Bool) :=
 let q0 := (M.slices_ContainsFunc_Type_Type rec_i_shapeOk (M.SType.Kids t))
 bif (Option.getD q0 default) then
 bif ((Option.isSome q0) && true) then
 some false
 else
 none
 else
 let q1 := ((decide ((16 : Int) ≤ (M.SType.Kind t))) && (decide ((M.SType.Kind t) ≤ (19 : Int))))
 let q2 := (M.i_labelsOk (M.SType.Labels t))
 let q3 := ((q1 && (!(Option.getD q2 default))) || ((!q1) && (decide ((0 : Int) < ((List.length (M.SType.Labels t)) : Int)))))
 let q4 := (((M.SType.Kind t) == (20 : Int)) || ((M.SType.Kind t) == (21 : Int)))
 let q5 := (M.i_NameOk (M.SType.Name t))
 bif ((q3 || (q4 && (!(Option.getD q5 default)))) || ((!q4) && (!((M.SType.Name t) == [])))) then
 let q6 := (((Option.isSome q5) || (!((q3 == false) && (q4 == true)))) && (((Option.isSome q2) || (!(q1 == true))) && ((Option.isSome q0) && true)))
 bif q6 then
 some false
 else
 none
 else
 bif (bif ((M.SType.Kind t) == (12 : Int)) then ((M.SType.Kind t) == (12 : Int)) else ((M.SType.Kind t) == (13 : Int))) then
 let q6 := (M.i_kidsOk (M.SType.re t) (1 : Int))
 let q7 := (((Option.isSome q5) || (!((q3 == false) && (q4 == true)))) && (((Option.isSome q2) || (!(q1 == true))) && ((Option.isSome q0) && true)))
 let q8 := ((q7 || (!((M.SType.Kind t) == (12 : Int)))) && (q7 || ((M.SType.Kind t) == (12 : Int))))
 bif ((Option.isSome q6) && q8) then
 some (Option.getD q6 default)
 else
 none
 else
 bif ((M.SType.Kind t) == (14 : Int)) then
 let q6 := (((Option.isSome q5) || (!((q3 == false) && (q4 == true)))) && (((Option.isSome q2) || (!(q1 == true))) && ((Option.isSome q0) && true)))
 let q7 := ((q6 || (!((M.SType.Kind t) == (12 : Int)))) && (q6 || ((M.SType.Kind t) == (12 : Int))))
 bif q7 then
 some (((List.length (M.SType.Kids t)) : Int) == (2 : Int))
 else
 none
 else
 bif ((M.SType.Kind t) == (15 : Int)) then
 let q6 := (M.i_kidsOk (M.SType.re t) ((List.length (M.SType.Kids t)) : Int))
 let q7 := ((decide ((1 : Int) ≤ ((List.length (M.SType.Kids t)) : Int))) && (decide (((List.length (M.SType.Kids t)) : Int) ≤ (6 : Int))))
 let q8 := (((Option.isSome q5) || (!((q3 == false) && (q4 == true)))) && (((Option.isSome q2) || (!(q1 == true))) && ((Option.isSome q0) && true)))
 let q9 := ((q8 || (!((M.SType.Kind t) == (12 : Int)))) && (q8 || ((M.SType.Kind t) == (12 : Int))))
 bif (((Option.isSome q6) || (!(q7 == true))) && q9) then
 some (q7 && (Option.getD q6 default))
 else
 none
 else
 bif ((M.SType.Kind t) == (16 : Int)) then
 let q6 := (M.i_kidsOk (M.SType.re t) ((List.length (M.SType.Labels t)) : Int))
 let q7 := (((Option.isSome q5) || (!((q3 == false) && (q4 == true)))) && (((Option.isSome q2) || (!(q1 == true))) && ((Option.isSome q0) && true)))
 let q8 := ((q7 || (!((M.SType.Kind t) == (12 : Int)))) && (q7 || ((M.SType.Kind t) == (12 : Int))))
 bif ((Option.isSome q6) && q8) then
 some (Option.getD q6 default)
 else
 none
 else
 bif ((M.SType.Kind t) == (17 : Int)) then
 let q6 := (((Option.isSome q5) || (!((q3 == false) && (q4 == true)))) && (((Option.isSome q2) || (!(q1 == true))) && ((Option.isSome q0) && true)))
 let q7 := ((q6 || (!((M.SType.Kind t) == (12 : Int)))) && (q6 || ((M.SType.Kind t) == (12 : Int))))
 bif q7 then
 some (((List.length (M.SType.Kids t)) : Int) == ((List.length (M.SType.Labels t)) : Int))
 else
 none
 else
 bif (bif ((M.SType.Kind t) == (22 : Int)) then ((M.SType.Kind t) == (22 : Int)) else ((M.SType.Kind t) == (23 : Int))) then
 let q6 := (M.i_hasKind (M.SType.re (List.getD (M.SType.Kids t) (Int.toNat (0 : Int)) M.SType.zero)) [(21 : Int)])
 let q7 := (!((((List.length (M.SType.Kids t)) : Int) == (1 : Int)) == true))
 let q8 := (((Option.isSome q5) || (!((q3 == false) && (q4 == true)))) && (((Option.isSome q2) || (!(q1 == true))) && ((Option.isSome q0) && true)))
 let q9 := ((q8 || (!((M.SType.Kind t) == (12 : Int)))) && (q8 || ((M.SType.Kind t) == (12 : Int))))
 let q10 := ((q9 || (!((M.SType.Kind t) == (22 : Int)))) && (q9 || ((M.SType.Kind t) == (22 : Int))))
 bif (((Option.isSome q6) || q7) && (((Go.V.inB (0 : Int) (List.length (M.SType.Kids t))) || q7) && q10)) then
 some ((((List.length (M.SType.Kids t)) : Int) == (1 : Int)) && (!(Option.getD q6 default)))
 else
 none
 else
 let q6 := (((Option.isSome q5) || (!((q3 == false) && (q4 == true)))) && (((Option.isSome q2) || (!(q1 == true))) && ((Option.isSome q0) && true)))
 let q7 := ((q6 || (!((M.SType.Kind t) == (12 : Int)))) && (q6 || ((M.SType.Kind t) == (12 : Int))))
 let q8 := ((q7 || (!((M.SType.Kind t) == (22 : Int)))) && (q7 || ((M.SType.Kind t) == (22 : Int))))
 bif q8 then
 some (((decide ((1 : Int) ≤ (M.SType.Kind t))) && (decide ((M.SType.Kind t) ≤ (23 : Int)))) && (((List.length (M.SType.Kids t)) : Int) == (0 : Int)))
 else
 none
def i_shapeOk_n : Nat → M.SType → Option (Bool)
 | 0 => fun _ => none
 | n + 1 => i_shapeOk_b (i_shapeOk_n n)
def i_shapeOk : M.SType → Option (Bool) := i_shapeOk_n Go.V.bigN
def s_l03Ok (t : M.SType) : Option (Bool) :=
 let q0 := (M.s_l03Parts (M.SType.re t))
 let q1 := (M.s_l03Size (M.SType.re t) (1 : Int))
 let q2 := ((decide ((Option.getD q1 default).1 ≤ (4 : Int))) && (decide ((Option.getD q1 default).2 ≤ (24 : Int))))
 bif (((Option.isSome q0) || (!(q2 == true))) && ((Option.isSome q1) && true)) then
 some (q2 && (Option.getD q0 default))
 else
 none
def s_TypeOk (t : M.SType) : Option (Bool) :=
 let q0 := (M.s_l03Ok (M.SType.re t))
 bif ((Option.isSome q0) && true) then
 some (Option.getD q0 default)
 else
 none
def i_TypeOk (t : M.SType) : Option (Bool) :=
 let q0 := (M.i_shapeOk (M.SType.re t))
 let q1 := (M.i_deep (M.SType.re t) (4 : Int))
 let q2 := (M.i_parts (M.SType.re t))
 let q3 := ((decide ((Option.getD q1 default) ≤ (4 : Int))) && (decide ((Option.getD q2 default) ≤ (24 : Int))))
 bif (((Option.isSome q0) || (!(q3 == true))) && (((Option.isSome q2) || (!((decide ((Option.getD q1 default) ≤ (4 : Int))) == true))) && ((Option.isSome q1) && true))) then
 some (q3 && (Option.getD q0 default))
 else
 none
def s_l03Src_word_l0 (from_ : Int) : Nat → M.Sl03Src → Option (Int × M.Sl03Src)
 | 0, _ => none
 | fuel + 1, r =>
 let q0 := ((decide ((97 : Int) ≤ ((UInt8.toNat (List.getD (M.Sl03Src.s r) (Int.toNat (M.Sl03Src.at_ r)) (0 : UInt8))) : Int))) && (decide (((UInt8.toNat (List.getD (M.Sl03Src.s r) (Int.toNat (M.Sl03Src.at_ r)) (0 : UInt8))) : Int) ≤ (122 : Int))))
 let q1 := (q0 || ((decide ((48 : Int) ≤ ((UInt8.toNat (List.getD (M.Sl03Src.s r) (Int.toNat (M.Sl03Src.at_ r)) (0 : UInt8))) : Int))) && (decide (((UInt8.toNat (List.getD (M.Sl03Src.s r) (Int.toNat (M.Sl03Src.at_ r)) (0 : UInt8))) : Int) ≤ (57 : Int)))))
 bif ((decide ((M.Sl03Src.at_ r) < ((List.length (M.Sl03Src.s r)) : Int))) && (q1 || (((UInt8.toNat (List.getD (M.Sl03Src.s r) (Int.toNat (M.Sl03Src.at_ r)) (0 : UInt8))) : Int) == (45 : Int)))) then
 let q2 := ((decide ((M.Sl03Src.at_ r) < ((List.length (M.Sl03Src.s r)) : Int))) == true)
 let q3 := (q2 && (q0 == false))
 let q4 := (((Go.V.inB (M.Sl03Src.at_ r) (List.length (M.Sl03Src.s r))) || (!(q2 && (q1 == false)))) && (((Go.V.inB (M.Sl03Src.at_ r) (List.length (M.Sl03Src.s r))) || (!(q3 && ((decide ((48 : Int) ≤ ((UInt8.toNat (List.getD (M.Sl03Src.s r) (Int.toNat (M.Sl03Src.at_ r)) (0 : UInt8))) : Int))) == true)))) && (((Go.V.inB (M.Sl03Src.at_ r) (List.length (M.Sl03Src.s r))) || (!q3)) && (((Go.V.inB (M.Sl03Src.at_ r) (List.length (M.Sl03Src.s r))) || (!(q2 && ((decide ((97 : Int) ≤ ((UInt8.toNat (List.getD (M.Sl03Src.s r) (Int.toNat (M.Sl03Src.at_ r)) (0 : UInt8))) : Int))) == true)))) && (((Go.V.inB (M.Sl03Src.at_ r) (List.length (M.Sl03Src.s r))) || (!q2)) && true)))))
 bif q4 then
 M.s_l03Src_word_l0 from_ fuel (M.Sl03Src.mk (M.Sl03Src.s r) (Go.IntKind.wrap Go.IntKind.i64 ((M.Sl03Src.at_ r) + (1 : Int))) (M.Sl03Src.bad r))
 else
 none
 else
 let q2 := ((decide ((M.Sl03Src.at_ r) < ((List.length (M.Sl03Src.s r)) : Int))) == true)
 let q3 := (q2 && (q0 == false))
 let q4 := (((Go.V.inB (M.Sl03Src.at_ r) (List.length (M.Sl03Src.s r))) || (!(q2 && (q1 == false)))) && (((Go.V.inB (M.Sl03Src.at_ r) (List.length (M.Sl03Src.s r))) || (!(q3 && ((decide ((48 : Int) ≤ ((UInt8.toNat (List.getD (M.Sl03Src.s r) (Int.toNat (M.Sl03Src.at_ r)) (0 : UInt8))) : Int))) == true)))) && (((Go.V.inB (M.Sl03Src.at_ r) (List.length (M.Sl03Src.s r))) || (!q3)) && (((Go.V.inB (M.Sl03Src.at_ r) (List.length (M.Sl03Src.s r))) || (!(q2 && ((decide ((97 : Int) ≤ ((UInt8.toNat (List.getD (M.Sl03Src.s r) (Int.toNat (M.Sl03Src.at_ r)) (0 : UInt8))) : Int))) == true)))) && (((Go.V.inB (M.Sl03Src.at_ r) (List.length (M.Sl03Src.s r))) || (!q2)) && true)))))
 bif q4 then
 some ((from_, r))
 else
 none
def s_l03Src_word (r : M.Sl03Src) : Option ((List UInt8) × M.Sl03Src) :=
 match (M.s_l03Src_word_l0 (M.Sl03Src.at_ r) Go.V.bigN r) with
 | none => none
 | some y0 =>
 bif ((Go.V.slB y0.1 (M.Sl03Src.at_ y0.2) (List.length (M.Sl03Src.s y0.2))) && true) then
 some ((List.drop (Int.toNat y0.1) (List.take (Int.toNat (M.Sl03Src.at_ y0.2)) (M.Sl03Src.s y0.2))), y0.2)
 else
 none
def s_l03Words : Option ((List (List UInt8))) :=
 some [[], [(117 : UInt8), (110 : UInt8), (105 : UInt8), (116 : UInt8)], [(98 : UInt8), (111 : UInt8), (111 : UInt8), (108 : UInt8)], [(117 : UInt8), (56 : UInt8)], [(115 : UInt8), (56 : UInt8)], [(117 : UInt8), (49 : UInt8), (54 : UInt8)], [(115 : UInt8), (49 : UInt8), (54 : UInt8)], [(117 : UInt8), (51 : UInt8), (50 : UInt8)], [(115 : UInt8), (51 : UInt8), (50 : UInt8)], [(115 : UInt8), (54 : UInt8), (52 : UInt8)], [(99 : UInt8), (104 : UInt8), (97 : UInt8), (114 : UInt8)], [(116 : UInt8), (101 : UInt8), (120 : UInt8), (116 : UInt8)], [(108 : UInt8), (105 : UInt8), (115 : UInt8), (116 : UInt8)], [(111 : UInt8), (112 : UInt8), (116 : UInt8), (105 : UInt8), (111 : UInt8), (110 : UInt8)], [(114 : UInt8), (101 : UInt8), (115 : UInt8), (117 : UInt8), (108 : UInt8), (116 : UInt8)], [(116 : UInt8), (117 : UInt8), (112 : UInt8), (108 : UInt8), (101 : UInt8)], [(114 : UInt8), (101 : UInt8), (99 : UInt8), (111 : UInt8), (114 : UInt8), (100 : UInt8)], [(118 : UInt8), (97 : UInt8), (114 : UInt8), (105 : UInt8), (97 : UInt8), (110 : UInt8), (116 : UInt8)], [(101 : UInt8), (110 : UInt8), (117 : UInt8), (109 : UInt8)], [(102 : UInt8), (108 : UInt8), (97 : UInt8), (103 : UInt8), (115 : UInt8)], [(111 : UInt8), (119 : UInt8), (110 : UInt8)], [(98 : UInt8), (111 : UInt8), (114 : UInt8), (114 : UInt8), (111 : UInt8), (119 : UInt8)], [(115 : UInt8), (116 : UInt8), (114 : UInt8), (101 : UInt8), (97 : UInt8), (109 : UInt8)], [(102 : UInt8), (117 : UInt8), (116 : UInt8), (117 : UInt8), (114 : UInt8), (101 : UInt8)]]
def s_l03Src_kind_l0 (word : (List UInt8)) (list : (List (List UInt8))) (r : M.Sl03Src) : Nat → Int → Option ((Int × (List UInt8) × Int × Bool) ⊕ (M.Sl03Src))
 | 0, _ => none
 | fuel + 1, k =>
 bif (decide (k < ((List.length list) : Int))) then
 bif ((List.getD list (Int.toNat k) []) == word) then
 bif ((Go.V.inB k (List.length list)) && true) then
 some (.inl (k, (M.Sl03Src.s r), (M.Sl03Src.at_ r), (M.Sl03Src.bad r)))
 else
 none
 else
 bif ((Go.V.inB k (List.length list)) && true) then
 M.s_l03Src_kind_l0 word list r fuel (Go.IntKind.wrap Go.IntKind.i64 (k + (1 : Int)))
 else
 none
 else
 some ((.inr (r)))
def s_l03Src_kind (word : (List UInt8)) (r : M.Sl03Src) : Option (Int × M.Sl03Src) :=
 match (M.s_l03Src_kind_l0 word (Option.getD M.s_l03Words default) r Go.V.bigN (1 : Int)) with
 | none => none
 | some y0 =>
 (match y0 with
 | .inl a1 =>
 some (a1.1, (M.Sl03Src.mk a1.2.1 a1.2.2.1 a1.2.2.2))
 | .inr b1 =>
 some ((0 : Int), (M.Sl03Src.mk (M.Sl03Src.s b1) (M.Sl03Src.at_ b1) true)))
def s_l03Src_take (c : Int) (r : M.Sl03Src) : Option (Bool × M.Sl03Src) :=
 bif ((decide ((M.Sl03Src.at_ r) < ((List.length (M.Sl03Src.s r)) : Int))) && (((UInt8.toNat (List.getD (M.Sl03Src.s r) (Int.toNat (M.Sl03Src.at_ r)) (0 : UInt8))) : Int) == c)) then
 let q0 := (((Go.V.inB (M.Sl03Src.at_ r) (List.length (M.Sl03Src.s r))) || (!((decide ((M.Sl03Src.at_ r) < ((List.length (M.Sl03Src.s r)) : Int))) == true))) && true)
 bif q0 then
 some (true, (M.Sl03Src.mk (M.Sl03Src.s r) (Go.IntKind.wrap Go.IntKind.i64 ((M.Sl03Src.at_ r) + (1 : Int))) (M.Sl03Src.bad r)))
 else
 none
 else
 let q0 := (((Go.V.inB (M.Sl03Src.at_ r) (List.length (M.Sl03Src.s r))) || (!((decide ((M.Sl03Src.at_ r) < ((List.length (M.Sl03Src.s r)) : Int))) == true))) && true)
 bif q0 then
 some (false, r)
 else
 none
def s_l03Src_must (c : Int) (r : M.Sl03Src) : Option (M.Sl03Src) :=
 let q0 := (M.s_l03Src_take c r)
 bif (!(Option.getD q0 default).1) then
 bif ((Option.isSome q0) && true) then
 some (M.Sl03Src.mk (M.Sl03Src.s (Option.getD q0 default).2) (M.Sl03Src.at_ (Option.getD q0 default).2) true)
 else
 none
 else
 bif ((Option.isSome q0) && true) then
 some (Option.getD q0 default).2
 else
 none
def s_l03Src_labels_l0 (rec_s_l03Src_readType : Int → M.Sl03Src → Option (M.SType × M.Sl03Src)) (deep : Int) (kids : Bool) (t : Int) (t2 : (List UInt8)) (t6 : Int) (t62 : (List UInt8)) (o9 : (List (List UInt8))) (o10 : (List M.SType)) : Nat → M.Sl03Src → (List (List UInt8)) → (List M.SType) → Option (((List UInt8) × Int × Bool × Int × (List UInt8) × (List (List UInt8)) × (List M.SType)) ⊕ ((List UInt8) × Int × Bool × Int × (List UInt8) × Int × (List UInt8) × (List (List UInt8)) × (List M.SType) × (List (List UInt8)) × (List M.SType)))
 | 0, _, _, _ => none
 | fuel + 1, r, o7, o8 =>
 bif (!(M.Sl03Src.bad r)) then
 bif kids then
 let q0 := (M.s_l03Src_word r)
 let q1 := (Option.getD q0 default).2
 let q2 := (M.s_l03Src_take (58 : Int) q1)
 let q3 := (Option.getD q2 default)
 bif q3.1 then
 let q4 := q3.2
 let q5 := (Option.getD (rec_s_l03Src_readType (Go.IntKind.wrap Go.IntKind.i64 (deep + (1 : Int))) q4) default)
 let q6 := (M.s_l03Src_take (125 : Int) q5.2)
 let q7 := (Option.getD q6 default)
 bif q7.1 then
 let q8 := (List.length o8)
 let q9 := [(M.SType.re q5.1)]
 let q10 := [(Option.getD q0 default).1]
 let q11 := ((decide (((List.length o7) + (List.length q10)) ≤ 1073741824)) && ((Option.isSome q0) && true))
 let q12 := ((Option.isSome q2) && q11)
 let q13 := ((Option.isSome q6) && ((decide ((q8 + (List.length q9)) ≤ 1073741824)) && ((Option.isSome (rec_s_l03Src_readType (Go.IntKind.wrap Go.IntKind.i64 (deep + (1 : Int))) q4)) && q12)))
 bif q13 then
 let q14 := q7.2
 let q15 := (o7 ++ q10)
 let q16 := (o8 ++ q9)
 some (.inl ((M.Sl03Src.s q14), (M.Sl03Src.at_ q14), (M.Sl03Src.bad q14), t, t2, q15, q16))
 else
 none
 else
 let q8 := q7.2
 let q9 := (M.s_l03Src_must (44 : Int) q8)
 let q10 := (List.length o8)
 let q11 := [(M.SType.re q5.1)]
 let q12 := [(Option.getD q0 default).1]
 let q13 := ((decide (((List.length o7) + (List.length q12)) ≤ 1073741824)) && ((Option.isSome q0) && true))
 let q14 := ((Option.isSome q2) && q13)
 let q15 := ((Option.isSome q6) && ((decide ((q10 + (List.length q11)) ≤ 1073741824)) && ((Option.isSome (rec_s_l03Src_readType (Go.IntKind.wrap Go.IntKind.i64 (deep + (1 : Int))) q4)) && q14)))
 bif ((Option.isSome q9) && q15) then
 let q16 := (o7 ++ q12)
 let q17 := (o8 ++ q11)
 M.s_l03Src_labels_l0 rec_s_l03Src_readType deep kids t t2 t6 t62 o9 o10 fuel (Option.getD q9 default) q16 q17
 else
 none
 else
 let q4 := q3.2
 let q5 := (M.s_l03Src_take (125 : Int) q4)
 let q6 := (Option.getD q5 default)
 bif q6.1 then
 let q7 := (List.length o8)
 let q8 := [(M.SType.mk (1 : Int) [] [] [])]
 let q9 := [(Option.getD q0 default).1]
 let q10 := ((decide (((List.length o7) + (List.length q9)) ≤ 1073741824)) && ((Option.isSome q0) && true))
 let q11 := ((Option.isSome q2) && q10)
 let q12 := ((Option.isSome q5) && ((decide ((q7 + (List.length q8)) ≤ 1073741824)) && q11))
 bif q12 then
 let q13 := q6.2
 let q14 := (o7 ++ q9)
 let q15 := (o8 ++ q8)
 some (.inl ((M.Sl03Src.s q13), (M.Sl03Src.at_ q13), (M.Sl03Src.bad q13), t, t2, q14, q15))
 else
 none
 else
 let q7 := q6.2
 let q8 := (M.s_l03Src_must (44 : Int) q7)
 let q9 := (List.length o8)
 let q10 := [(M.SType.mk (1 : Int) [] [] [])]
 let q11 := [(Option.getD q0 default).1]
 let q12 := ((decide (((List.length o7) + (List.length q11)) ≤ 1073741824)) && ((Option.isSome q0) && true))
 let q13 := ((Option.isSome q2) && q12)
 let q14 := ((Option.isSome q5) && ((decide ((q9 + (List.length q10)) ≤ 1073741824)) && q13))
 bif ((Option.isSome q8) && q14) then
 let q15 := (o7 ++ q11)
 let q16 := (o8 ++ q10)
 M.s_l03Src_labels_l0 rec_s_l03Src_readType deep kids t t2 t6 t62 o9 o10 fuel (Option.getD q8 default) q15 q16
 else
 none
 else
 let q0 := (M.s_l03Src_word r)
 let q1 := (Option.getD q0 default).2
 let q2 := (M.s_l03Src_take (125 : Int) q1)
 let q3 := (Option.getD q2 default)
 bif q3.1 then
 let q4 := [(Option.getD q0 default).1]
 let q5 := ((decide (((List.length o7) + (List.length q4)) ≤ 1073741824)) && ((Option.isSome q0) && true))
 let q6 := ((Option.isSome q2) && q5)
 bif q6 then
 let q7 := q3.2
 let q8 := (o7 ++ q4)
 some (.inl ((M.Sl03Src.s q7), (M.Sl03Src.at_ q7), (M.Sl03Src.bad q7), t, t2, q8, o8))
 else
 none
 else
 let q4 := q3.2
 let q5 := (M.s_l03Src_must (44 : Int) q4)
 let q6 := [(Option.getD q0 default).1]
 let q7 := ((decide (((List.length o7) + (List.length q6)) ≤ 1073741824)) && ((Option.isSome q0) && true))
 let q8 := ((Option.isSome q2) && q7)
 bif ((Option.isSome q5) && q8) then
 let q9 := (o7 ++ q6)
 M.s_l03Src_labels_l0 rec_s_l03Src_readType deep kids t t2 t6 t62 o9 o10 fuel (Option.getD q5 default) q9 o8
 else
 none
 else
 some ((.inr (((M.Sl03Src.s r), (M.Sl03Src.at_ r), (M.Sl03Src.bad r), t, t2, t6, t62, o7, o8, o9, o10))))
def s_l03Src_labels (rec_s_l03Src_readType : Int → M.Sl03Src → Option (M.SType × M.Sl03Src)) (t : Int) (t2 : (List UInt8)) (deep : Int) (r : M.Sl03Src) (o1 : (List (List UInt8))) (o2 : (List M.SType)) : Option (M.SType × M.Sl03Src) :=
 let q0 := (M.s_l03Src_must (123 : Int) r)
 match (M.s_l03Src_labels_l0 rec_s_l03Src_readType deep ((t == (16 : Int)) || (t == (17 : Int))) t t2 (0 : Int) [] [] [] Go.V.bigN (Option.getD q0 default) o1 o2) with
 | none => none
 | some y1 =>
 (match y1 with
 | .inl a2 =>
 let q3 := ((Option.isSome q0) && true)
 bif q3 then
 let q4 := a2.2
 let q5 := q4.2
 let q6 := q5.2
 let q7 := q6.2
 let q8 := q7.2
 some ((M.SType.mk q6.1 q7.1 q8.1 q8.2), (M.Sl03Src.mk a2.1 q4.1 q5.1))
 else
 none
 | .inr b2 =>
 let q3 := ((Option.isSome q0) && true)
 bif q3 then
 let q4 := b2.2
 let q5 := q4.2
 let q6 := q5.2
 let q7 := q6.2
 let q8 := q7.2.2.2
 some ((M.SType.mk q6.1 q7.1 q8.1 q8.2.1), (M.Sl03Src.mk b2.1 q4.1 q5.1))
 else
 none)
def s_l03Src_readType_l0 (rec_s_l03Src_readType : Int → M.Sl03Src → Option (M.SType × M.Sl03Src)) (deep : Int) (t4 : Int) (t42 : (List UInt8)) (t : Int) (t2 : (List UInt8)) (o7 : (List (List UInt8))) (o8 : (List M.SType)) (o9 : (List (List UInt8))) : Nat → M.Sl03Src → (List M.SType) → Option (((List UInt8) × Int × Bool × Int × (List UInt8) × (List (List UInt8)) × (List M.SType)) ⊕ ((List UInt8) × Int × Bool × Int × (List UInt8) × Int × (List UInt8) × (List (List UInt8)) × (List M.SType) × (List (List UInt8)) × (List M.SType)))
 | 0, _, _ => none
 | fuel + 1, r, o10 =>
 bif (!(M.Sl03Src.bad r)) then
 let q0 := (Option.getD (rec_s_l03Src_readType (Go.IntKind.wrap Go.IntKind.i64 (deep + (1 : Int))) r) default)
 let q1 := (M.s_l03Src_take (62 : Int) q0.2)
 let q2 := (Option.getD q1 default)
 bif q2.1 then
 let q3 := [(M.SType.re q0.1)]
 let q4 := ((Option.isSome q1) && ((decide (((List.length o10) + (List.length q3)) ≤ 1073741824)) && ((Option.isSome (rec_s_l03Src_readType (Go.IntKind.wrap Go.IntKind.i64 (deep + (1 : Int))) r)) && true)))
 bif q4 then
 let q5 := q2.2
 let q6 := (o10 ++ q3)
 some (.inl ((M.Sl03Src.s q5), (M.Sl03Src.at_ q5), (M.Sl03Src.bad q5), t, t2, o9, q6))
 else
 none
 else
 let q3 := q2.2
 let q4 := (M.s_l03Src_must (44 : Int) q3)
 let q5 := [(M.SType.re q0.1)]
 let q6 := ((Option.isSome q1) && ((decide (((List.length o10) + (List.length q5)) ≤ 1073741824)) && ((Option.isSome (rec_s_l03Src_readType (Go.IntKind.wrap Go.IntKind.i64 (deep + (1 : Int))) r)) && true)))
 bif ((Option.isSome q4) && q6) then
 let q7 := (o10 ++ q5)
 M.s_l03Src_readType_l0 rec_s_l03Src_readType deep t4 t42 t t2 o7 o8 o9 fuel (Option.getD q4 default) q7
 else
 none
 else
 some ((.inr (((M.Sl03Src.s r), (M.Sl03Src.at_ r), (M.Sl03Src.bad r), t4, t42, t, t2, o7, o8, o9, o10))))
def s_l03Src_readType_b (rec_s_l03Src_readType : Int → M.Sl03Src → Option (M.SType × M.Sl03Src)) (deep : Int) (r : M.Sl03Src) : Option (M.SType × M.Sl03Src) :=
 bif (decide ((4 : Int) < deep)) then
 some ((M.SType.mk (0 : Int) [] [] []), (M.Sl03Src.mk (M.Sl03Src.s r) (M.Sl03Src.at_ r) true))
 else
 let q0 := (M.s_l03Src_word r)
 let q1 := (M.s_l03Src_kind (Option.getD q0 default).1 (Option.getD q0 default).2)
 let q2 := (Option.getD q1 default)
 let q3 := q2.2
 let q4 := q2.1
 bif ((M.Sl03Src.bad q3) || (decide (q4 ≤ (11 : Int)))) then
 let q5 := ((Option.isSome q1) && ((Option.isSome q0) && true))
 bif q5 then
 some ((M.SType.mk q4 [] [] []), q3)
 else
 none
 else
 bif ((decide ((16 : Int) ≤ q4)) && (decide (q4 ≤ (19 : Int)))) then
 let q5 := (M.s_l03Src_labels rec_s_l03Src_readType q4 [] deep q3 [] [])
 let q6 := ((Option.isSome q1) && ((Option.isSome q0) && true))
 bif ((Option.isSome q5) && q6) then
 let q7 := (Option.getD q5 default)
 some ((M.SType.re q7.1), q7.2)
 else
 none
 else
 bif ((q4 == (20 : Int)) || (q4 == (21 : Int))) then
 let q5 := (M.s_l03Src_must (60 : Int) q3)
 let q6 := (Option.getD q5 default)
 let q7 := (M.s_l03Src_word q6)
 let q8 := (Option.getD q7 default)
 let q9 := (M.s_l03Src_must (62 : Int) q8.2)
 let q10 := ((Option.isSome q1) && ((Option.isSome q0) && true))
 let q11 := ((Option.isSome q5) && q10)
 bif ((Option.isSome q9) && ((Option.isSome q7) && q11)) then
 some ((M.SType.mk q4 q8.1 [] []), (Option.getD q9 default))
 else
 none
 else
 let q5 := (M.s_l03Src_must (60 : Int) q3)
 let q6 := (Option.getD q5 default)
 match (M.s_l03Src_readType_l0 rec_s_l03Src_readType deep (0 : Int) [] q4 [] [] [] [] Go.V.bigN q6 []) with
 | none => none
 | some y7 =>
 (match y7 with
 | .inl a8 =>
 let q9 := ((Option.isSome q1) && ((Option.isSome q0) && true))
 let q10 := ((Option.isSome q5) && q9)
 bif q10 then
 let q11 := a8.2
 let q12 := q11.2
 let q13 := q12.2
 let q14 := q13.2
 let q15 := q14.2
 some ((M.SType.mk q13.1 q14.1 q15.1 q15.2), (M.Sl03Src.mk a8.1 q11.1 q12.1))
 else
 none
 | .inr b8 =>
 let q9 := ((Option.isSome q1) && ((Option.isSome q0) && true))
 let q10 := ((Option.isSome q5) && q9)
 bif q10 then
 let q11 := b8.2
 let q12 := q11.2
 let q13 := q12.2.2.2
 let q14 := q13.2
 let q15 := q14.2.2.2
 some ((M.SType.mk q13.1 q14.1 q15.1 q15.2), (M.Sl03Src.mk b8.1 q11.1 q12.1))
 else
 none)
def s_l03Src_readType_n : Nat → Int → M.Sl03Src → Option (M.SType × M.Sl03Src)
 | 0 => fun _ _ => none
 | n + 1 => s_l03Src_readType_b (s_l03Src_readType_n n)
def s_l03Src_readType : Int → M.Sl03Src → Option (M.SType × M.Sl03Src) := s_l03Src_readType_n Go.V.bigN
def s_l03Text_l0 (rec_s_l03Text : M.SType → Option ((List UInt8))) : Nat → (List UInt8) → Int → M.SType → Option ((List UInt8))
 | 0, _, _, _ => none
 | fuel + 1, s, i, t =>
 bif (decide (i < ((List.length (M.SType.Labels t)) : Int))) then
 let q0 := (bif (decide ((0 : Int) < i)) then (s ++ [(44 : UInt8)]) else s)
 let q1 := (q0 ++ (List.getD (M.SType.Labels t) (Int.toNat i) []))
 let q2 := (Option.getD (rec_s_l03Text (M.SType.re (List.getD (M.SType.Kids t) (Int.toNat i) M.SType.zero))) default)
 let q3 := ([(58 : UInt8)] ++ q2)
 let q4 := (((Go.V.inB i (List.length (M.SType.Kids t))) || (!((decide ((0 : Int) < ((List.length (M.SType.Kids t)) : Int))) == true))) && ((Go.V.catB q0 (List.getD (M.SType.Labels t) (Int.toNat i) [])) && ((Go.V.inB i (List.length (M.SType.Labels t))) && ((((Go.V.catB s [(44 : UInt8)]) && true) || (!(decide ((0 : Int) < i)))) && true))))
 let q5 := ((decide ((0 : Int) < ((List.length (M.SType.Kids t)) : Int))) && ((M.SType.Kind (List.getD (M.SType.Kids t) (Int.toNat i) M.SType.zero)) != (1 : Int)))
 bif ((((Go.V.catB q1 q3) && ((Go.V.catB [(58 : UInt8)] q2) && ((Option.isSome (rec_s_l03Text (M.SType.re (List.getD (M.SType.Kids t) (Int.toNat i) M.SType.zero)))) && ((Go.V.inB i (List.length (M.SType.Kids t))) && q4)))) || (!q5)) && (q4 || q5)) then
 M.s_l03Text_l0 rec_s_l03Text fuel (bif q5 then (q1 ++ q3) else q1) (Go.IntKind.wrap Go.IntKind.i64 (i + (1 : Int))) (M.SType.re t)
 else
 none
 else
 some (s)
def s_l03Text_l1 (rec_s_l03Text : M.SType → Option ((List UInt8))) : Nat → (List UInt8) → Int → M.SType → Option ((List UInt8))
 | 0, _, _, _ => none
 | fuel + 1, s, i, t =>
 bif (decide (i < ((List.length (M.SType.Kids t)) : Int))) then
 let q0 := (bif (decide ((0 : Int) < i)) then (s ++ [(44 : UInt8)]) else s)
 let q1 := (Option.getD (rec_s_l03Text (M.SType.re (List.getD (M.SType.Kids t) (Int.toNat i) M.SType.zero))) default)
 bif ((Go.V.catB q0 q1) && ((Option.isSome (rec_s_l03Text (M.SType.re (List.getD (M.SType.Kids t) (Int.toNat i) M.SType.zero)))) && ((Go.V.inB i (List.length (M.SType.Kids t))) && ((((Go.V.catB s [(44 : UInt8)]) && true) || (!(decide ((0 : Int) < i)))) && true)))) then
 M.s_l03Text_l1 rec_s_l03Text fuel (q0 ++ q1) (Go.IntKind.wrap Go.IntKind.i64 (i + (1 : Int))) (M.SType.re t)
 else
 none
 else
 some (s)
def s_l03Text_b (rec_s_l03Text : M.SType → Option ((List UInt8))) (t : M.SType) : Option ((List UInt8)) :=
 bif (!((M.SType.Name t) == [])) then
 let q0 := (List.getD (Option.getD M.s_l03Words default) (Int.toNat (M.SType.Kind t)) [])
 let q1 := (q0 ++ [(60 : UInt8)])
 let q2 := (q1 ++ (M.SType.Name t))
 let q3 := ((Go.V.inB (M.SType.Kind t) (List.length (Option.getD M.s_l03Words default))) && ((Option.isSome M.s_l03Words) && true))
 let q4 := ((Go.V.catB q0 [(60 : UInt8)]) && q3)
 bif ((Go.V.catB q2 [(62 : UInt8)]) && ((Go.V.catB q1 (M.SType.Name t)) && q4)) then
 some (q2 ++ [(62 : UInt8)])
 else
 none
 else
 bif (decide ((0 : Int) < ((List.length (M.SType.Labels t)) : Int))) then
 let q0 := (List.getD (Option.getD M.s_l03Words default) (Int.toNat (M.SType.Kind t)) [])
 match (M.s_l03Text_l0 rec_s_l03Text Go.V.bigN (q0 ++ [(123 : UInt8)]) (0 : Int) (M.SType.re t)) with
 | none => none
 | some y1 =>
 let q2 := ((Go.V.inB (M.SType.Kind t) (List.length (Option.getD M.s_l03Words default))) && ((Option.isSome M.s_l03Words) && true))
 bif ((Go.V.catB y1 [(125 : UInt8)]) && ((Go.V.catB q0 [(123 : UInt8)]) && q2)) then
 some (y1 ++ [(125 : UInt8)])
 else
 none
 else
 bif (decide ((0 : Int) < ((List.length (M.SType.Kids t)) : Int))) then
 let q0 := (List.getD (Option.getD M.s_l03Words default) (Int.toNat (M.SType.Kind t)) [])
 let q1 := (q0 ++ [(60 : UInt8)])
 match (M.s_l03Text_l1 rec_s_l03Text Go.V.bigN q1 (0 : Int) (M.SType.re t)) with
 | none => none
 | some y2 =>
 let q3 := ((Go.V.inB (M.SType.Kind t) (List.length (Option.getD M.s_l03Words default))) && ((Option.isSome M.s_l03Words) && true))
 let q4 := ((Go.V.catB q0 [(60 : UInt8)]) && q3)
 bif ((Go.V.catB y2 [(62 : UInt8)]) && q4) then
 some (y2 ++ [(62 : UInt8)])
 else
 none
 else
 let q0 := ((Go.V.inB (M.SType.Kind t) (List.length (Option.getD M.s_l03Words default))) && ((Option.isSome M.s_l03Words) && true))
 bif q0 then
 let q1 := (List.getD (Option.getD M.s_l03Words default) (Int.toNat (M.SType.Kind t)) [])
 some q1
 else
 none
def s_l03Text_n : Nat → M.SType → Option ((List UInt8))
 | 0 => fun _ => none
 | n + 1 => s_l03Text_b (s_l03Text_n n)
def s_l03Text : M.SType → Option ((List UInt8)) := s_l03Text_n Go.V.bigN
def s_ReadType (s : (List UInt8)) : Option (M.SType × Bool) :=
 let q0 := (M.s_l03Src_readType (1 : Int) (M.Sl03Src.mk s (0 : Int) false))
 let q1 := (Option.getD q0 default)
 let q2 := q1.2
 let q3 := ((M.Sl03Src.bad q2) || ((M.Sl03Src.at_ q2) != ((List.length s) : Int)))
 let q4 := (M.s_l03Ok (M.SType.re q1.1))
 let q5 := (q3 || (!(Option.getD q4 default)))
 let q6 := (M.s_l03Text (M.SType.re q1.1))
 bif (q5 || (!((Option.getD q6 default) == s))) then
 let q7 := (((Option.isSome q6) || (!(q5 == false))) && (((Option.isSome q4) || (!(q3 == false))) && ((Option.isSome q0) && true)))
 bif q7 then
 some ((M.SType.mk (0 : Int) [] [] []), false)
 else
 none
 else
 let q7 := (((Option.isSome q6) || (!(q5 == false))) && (((Option.isSome q4) || (!(q3 == false))) && ((Option.isSome q0) && true)))
 bif q7 then
 some ((M.SType.re q1.1), true)
 else
 none
def i_kindWords : Option ((List (List UInt8))) :=
 some [[], [(117 : UInt8), (110 : UInt8), (105 : UInt8), (116 : UInt8)], [(98 : UInt8), (111 : UInt8), (111 : UInt8), (108 : UInt8)], [(117 : UInt8), (56 : UInt8)], [(115 : UInt8), (56 : UInt8)], [(117 : UInt8), (49 : UInt8), (54 : UInt8)], [(115 : UInt8), (49 : UInt8), (54 : UInt8)], [(117 : UInt8), (51 : UInt8), (50 : UInt8)], [(115 : UInt8), (51 : UInt8), (50 : UInt8)], [(115 : UInt8), (54 : UInt8), (52 : UInt8)], [(99 : UInt8), (104 : UInt8), (97 : UInt8), (114 : UInt8)], [(116 : UInt8), (101 : UInt8), (120 : UInt8), (116 : UInt8)], [(108 : UInt8), (105 : UInt8), (115 : UInt8), (116 : UInt8)], [(111 : UInt8), (112 : UInt8), (116 : UInt8), (105 : UInt8), (111 : UInt8), (110 : UInt8)], [(114 : UInt8), (101 : UInt8), (115 : UInt8), (117 : UInt8), (108 : UInt8), (116 : UInt8)], [(116 : UInt8), (117 : UInt8), (112 : UInt8), (108 : UInt8), (101 : UInt8)], [(114 : UInt8), (101 : UInt8), (99 : UInt8), (111 : UInt8), (114 : UInt8), (100 : UInt8)], [(118 : UInt8), (97 : UInt8), (114 : UInt8), (105 : UInt8), (97 : UInt8), (110 : UInt8), (116 : UInt8)], [(101 : UInt8), (110 : UInt8), (117 : UInt8), (109 : UInt8)], [(102 : UInt8), (108 : UInt8), (97 : UInt8), (103 : UInt8), (115 : UInt8)], [(111 : UInt8), (119 : UInt8), (110 : UInt8)], [(98 : UInt8), (111 : UInt8), (114 : UInt8), (114 : UInt8), (111 : UInt8), (119 : UInt8)], [(115 : UInt8), (116 : UInt8), (114 : UInt8), (101 : UInt8), (97 : UInt8), (109 : UInt8)], [(102 : UInt8), (117 : UInt8), (116 : UInt8), (117 : UInt8), (114 : UInt8), (101 : UInt8)]]
def i_typeReader_word_l0 (r : M.StypeReader) : Nat → Int → Option (Int × M.StypeReader)
 | 0, _ => none
 | fuel + 1, n =>
 bif ((decide (n < ((List.length (M.StypeReader.rest r)) : Int))) && (decide ((M.idxByte [(60 : UInt8), (62 : UInt8), (123 : UInt8), (125 : UInt8), (40 : UInt8), (41 : UInt8), (44 : UInt8), (58 : UInt8)] ((UInt8.toNat (List.getD (M.StypeReader.rest r) (Int.toNat n) (0 : UInt8))) : Int)) < (0 : Int)))) then
 let q0 := (((Go.V.inB n (List.length (M.StypeReader.rest r))) || (!((decide (n < ((List.length (M.StypeReader.rest r)) : Int))) == true))) && true)
 bif q0 then
 M.i_typeReader_word_l0 r fuel (Go.IntKind.wrap Go.IntKind.i64 (n + (1 : Int)))
 else
 none
 else
 let q0 := (((Go.V.inB n (List.length (M.StypeReader.rest r))) || (!((decide (n < ((List.length (M.StypeReader.rest r)) : Int))) == true))) && true)
 bif q0 then
 some ((n, r))
 else
 none
def i_typeReader_word (r : M.StypeReader) : Option ((List UInt8) × M.StypeReader) :=
 match (M.i_typeReader_word_l0 r Go.V.bigN (0 : Int)) with
 | none => none
 | some y0 =>
 bif ((Go.V.slB y0.1 ((List.length (M.StypeReader.rest y0.2)) : Int) (List.length (M.StypeReader.rest y0.2))) && ((Go.V.slB (0 : Int) y0.1 (List.length (M.StypeReader.rest y0.2))) && true)) then
 some ((List.drop (Int.toNat (0 : Int)) (List.take (Int.toNat y0.1) (M.StypeReader.rest y0.2))), (M.StypeReader.mk (List.drop (Int.toNat y0.1) (List.take (Int.toNat ((List.length (M.StypeReader.rest y0.2)) : Int)) (M.StypeReader.rest y0.2))) (M.StypeReader.bad y0.2)))
 else
 none
def slices_Index_string_string_l0 (s : (List (List UInt8))) (v : (List UInt8)) (t7 : Int) : Nat → Int → Option ((Int) ⊕ (Unit))
 | 0, _ => none
 | fuel + 1, t8 =>
 bif (decide (t8 < t7)) then
 bif (v == (List.getD s (Int.toNat t8) [])) then
 bif ((Go.V.inB t8 (List.length s)) && true) then
 some (.inl t8)
 else
 none
 else
 bif ((Go.V.inB t8 (List.length s)) && true) then
 M.slices_Index_string_string_l0 s v t7 fuel (Go.IntKind.wrap Go.IntKind.i64 (t8 + (1 : Int)))
 else
 none
 else
 some ((.inr (())))
def slices_Index_string_string (s : (List (List UInt8))) (v : (List UInt8)) : Option (Int) :=
 match (M.slices_Index_string_string_l0 s v ((List.length s) : Int) Go.V.bigN (0 : Int)) with
 | none => none
 | some y0 =>
 (match y0 with
 | .inl a1 =>
 some a1
 | .inr b1 =>
 some (-(1 : Int)))
def internal_stringslite_HasPrefix (s : (List UInt8)) (prefix_ : (List UInt8)) : Option (Bool) :=
 bif (((Go.V.slB (0 : Int) ((List.length prefix_) : Int) (List.length s)) || (!((decide (((List.length prefix_) : Int) ≤ ((List.length s) : Int))) == true))) && true) then
 some ((decide (((List.length prefix_) : Int) ≤ ((List.length s) : Int))) && ((List.drop (Int.toNat (0 : Int)) (List.take (Int.toNat ((List.length prefix_) : Int)) s)) == prefix_))
 else
 none
def internal_stringslite_CutPrefix (s : (List UInt8)) (prefix_ : (List UInt8)) : Option ((List UInt8) × Bool) :=
 let q0 := (M.internal_stringslite_HasPrefix s prefix_)
 bif (!(Option.getD q0 default)) then
 bif ((Option.isSome q0) && true) then
 some (s, false)
 else
 none
 else
 bif ((Go.V.slB ((List.length prefix_) : Int) ((List.length s) : Int) (List.length s)) && ((Option.isSome q0) && true)) then
 some ((List.drop (Int.toNat ((List.length prefix_) : Int)) (List.take (Int.toNat ((List.length s) : Int)) s)), true)
 else
 none
def strings_CutPrefix (s : (List UInt8)) (prefix_ : (List UInt8)) : Option ((List UInt8) × Bool) :=
 let q0 := (M.internal_stringslite_CutPrefix s prefix_)
 bif ((Option.isSome q0) && true) then
 some ((Option.getD q0 default).1, (Option.getD q0 default).2)
 else
 none
def i_typeReader_take (text : (List UInt8)) (r : M.StypeReader) : Option (Bool × M.StypeReader) :=
 let q0 := (M.strings_CutPrefix (M.StypeReader.rest r) text)
 bif ((Option.isSome q0) && true) then
 some ((Option.getD q0 default).2, (M.StypeReader.mk (Option.getD q0 default).1 (M.StypeReader.bad r)))
 else
 none
def i_typeReader_need (text : (List UInt8)) (r : M.StypeReader) : Option (M.StypeReader) :=
 let q0 := (M.i_typeReader_take text r)
 bif (!(Option.getD q0 default).1) then
 bif ((Option.isSome q0) && true) then
 some (M.StypeReader.mk (M.StypeReader.rest (Option.getD q0 default).2) true)
 else
 none
 else
 bif ((Option.isSome q0) && true) then
 some (Option.getD q0 default).2
 else
 none
def i_typeReader_label (rec_i_typeReader_read : Int → M.StypeReader → Option (Int × (List UInt8) × M.StypeReader × (List (List UInt8)) × (List M.SType))) (levels : Int) (r : M.StypeReader) (t : Int) (t2 : (List UInt8)) (o2 : (List (List UInt8))) (o3 : (List M.SType)) : Option (M.StypeReader × Int × (List UInt8) × (List (List UInt8)) × (List M.SType)) :=
 let q0 := (M.i_typeReader_word r)
 let q1 := (M.i_typeReader_take [(58 : UInt8)] (Option.getD q0 default).2)
 let q2 := (Option.getD q1 default)
 bif q2.1 then
 let q3 := [(M.SType.mk (0 : Int) [] [] [])]
 let q4 := (o3 ++ q3)
 let q5 := (Go.V.inB ((List.length o3) : Int) (List.length q4))
 let q6 := q2.2
 let q7 := [(Option.getD q0 default).1]
 let q8 := ((Option.isSome q1) && ((decide (((List.length o2) + (List.length q7)) ≤ 1073741824)) && ((Option.isSome q0) && true)))
 bif (q5 && ((decide (((List.length o3) + (List.length q3)) ≤ 1073741824)) && ((Option.isSome (rec_i_typeReader_read (Go.IntKind.wrap Go.IntKind.i64 (levels - (1 : Int))) q6)) && q8))) then
 let q9 := (Option.getD (rec_i_typeReader_read (Go.IntKind.wrap Go.IntKind.i64 (levels - (1 : Int))) q6) default)
 let q10 := q9.2
 let q11 := q10.2
 let q12 := (o2 ++ q7)
 let q13 := q11.2
 some (q11.1, t, t2, q12, (List.set q4 (Int.toNat ((List.length o3) : Int)) (M.SType.mk q9.1 q10.1 q13.1 q13.2)))
 else
 none
 else
 bif (t == (17 : Int)) then
 let q3 := [(M.SType.mk (0 : Int) [] [] [])]
 let q4 := (o3 ++ q3)
 let q5 := (Go.V.inB ((List.length o3) : Int) (List.length q4))
 let q6 := [(Option.getD q0 default).1]
 let q7 := ((Option.isSome q1) && ((decide (((List.length o2) + (List.length q6)) ≤ 1073741824)) && ((Option.isSome q0) && true)))
 bif (q5 && ((decide (((List.length o3) + (List.length q3)) ≤ 1073741824)) && q7)) then
 let q8 := q2.2
 let q9 := (o2 ++ q6)
 some (q8, t, t2, q9, (List.set q4 (Int.toNat ((List.length o3) : Int)) (M.SType.mk (1 : Int) [] [] [])))
 else
 none
 else
 let q3 := [(Option.getD q0 default).1]
 let q4 := ((Option.isSome q1) && ((decide (((List.length o2) + (List.length q3)) ≤ 1073741824)) && ((Option.isSome q0) && true)))
 bif q4 then
 let q5 := q2.2
 let q6 := (o2 ++ q3)
 some (q5, t, t2, q6, o3)
 else
 none
def i_typeReader_read_l0 (rec_i_typeReader_read : Int → M.StypeReader → Option (Int × (List UInt8) × M.StypeReader × (List (List UInt8)) × (List M.SType))) (levels : Int) (t4 : Int) (t42 : (List UInt8)) (t : Int) (t2 : (List UInt8)) (o7 : (List (List UInt8))) (o8 : (List M.SType)) (o9 : (List (List UInt8))) : Nat → M.StypeReader → (List M.SType) → Option (M.StypeReader × Int × (List UInt8) × Int × (List UInt8) × (List (List UInt8)) × (List M.SType) × (List (List UInt8)) × (List M.SType))
 | 0, _, _ => none
 | fuel + 1, r, o10 =>
 bif (!(M.StypeReader.bad r)) then
 let q0 := (M.i_typeReader_take [(44 : UInt8)] r)
 let q1 := (Option.getD q0 default)
 bif q1.1 then
 let q2 := [(M.SType.mk (0 : Int) [] [] [])]
 let q3 := (o10 ++ q2)
 let q4 := q1.2
 let q5 := (((!(M.StypeReader.bad r)) == true) && (((Option.isSome q0) && ((!(M.StypeReader.bad r)) == true)) && (((!(M.StypeReader.bad r)) == true) && true)))
 bif ((Go.V.inB ((List.length o10) : Int) (List.length q3)) && ((decide (((List.length o10) + (List.length q2)) ≤ 1073741824)) && ((Option.isSome (rec_i_typeReader_read (Go.IntKind.wrap Go.IntKind.i64 (levels - (1 : Int))) q4)) && q5))) then
 let q6 := (Option.getD (rec_i_typeReader_read (Go.IntKind.wrap Go.IntKind.i64 (levels - (1 : Int))) q4) default)
 let q7 := q6.2
 let q8 := q7.2
 let q9 := q8.2
 M.i_typeReader_read_l0 rec_i_typeReader_read levels t4 t42 t t2 o7 o8 o9 fuel q8.1 (List.set q3 (Int.toNat ((List.length o10) : Int)) (M.SType.mk q6.1 q7.1 q9.1 q9.2))
 else
 none
 else
 let q2 := (((!(M.StypeReader.bad r)) == true) && (((Option.isSome q0) && ((!(M.StypeReader.bad r)) == true)) && (((!(M.StypeReader.bad r)) == true) && true)))
 bif q2 then
 let q3 := q1.2
 some ((q3, t4, t42, t, t2, o7, o8, o9, o10))
 else
 none
 else
 bif (((!(M.StypeReader.bad r)) == false) && (((!(M.StypeReader.bad r)) == false) && (((!(M.StypeReader.bad r)) == false) && true))) then
 some ((r, t4, t42, t, t2, o7, o8, o9, o10))
 else
 none
def i_typeReader_read_l1 (rec_i_typeReader_read : Int → M.StypeReader → Option (Int × (List UInt8) × M.StypeReader × (List (List UInt8)) × (List M.SType))) (levels : Int) (t4 : Int) (t42 : (List UInt8)) (o7 : (List (List UInt8))) (o8 : (List M.SType)) : Nat → M.StypeReader → Int → (List UInt8) → (List (List UInt8)) → (List M.SType) → Option (M.StypeReader × Int × (List UInt8) × Int × (List UInt8) × (List (List UInt8)) × (List M.SType) × (List (List UInt8)) × (List M.SType))
 | 0, _, _, _, _, _ => none
 | fuel + 1, r, t, t2, o9, o10 =>
 bif (!(M.StypeReader.bad r)) then
 let q0 := (M.i_typeReader_take [(44 : UInt8)] r)
 let q1 := (Option.getD q0 default)
 bif q1.1 then
 let q2 := q1.2
 let q3 := (M.i_typeReader_label rec_i_typeReader_read levels q2 t t2 o9 o10)
 let q4 := (((!(M.StypeReader.bad r)) == true) && (((Option.isSome q0) && ((!(M.StypeReader.bad r)) == true)) && (((!(M.StypeReader.bad r)) == true) && true)))
 bif ((Option.isSome q3) && q4) then
 let q5 := (Option.getD q3 default)
 let q6 := q5.2
 let q7 := q6.2
 let q8 := q7.2
 M.i_typeReader_read_l1 rec_i_typeReader_read levels t4 t42 o7 o8 fuel q5.1 q6.1 q7.1 q8.1 q8.2
 else
 none
 else
 let q2 := (((!(M.StypeReader.bad r)) == true) && (((Option.isSome q0) && ((!(M.StypeReader.bad r)) == true)) && (((!(M.StypeReader.bad r)) == true) && true)))
 bif q2 then
 let q3 := q1.2
 some ((q3, t4, t42, t, t2, o7, o8, o9, o10))
 else
 none
 else
 bif (((!(M.StypeReader.bad r)) == false) && (((!(M.StypeReader.bad r)) == false) && (((!(M.StypeReader.bad r)) == false) && true))) then
 some ((r, t4, t42, t, t2, o7, o8, o9, o10))
 else
 none
def i_typeReader_read_b (rec_i_typeReader_read : Int → M.StypeReader → Option (Int × (List UInt8) × M.StypeReader × (List (List UInt8)) × (List M.SType))) (levels : Int) (r : M.StypeReader) : Option (Int × (List UInt8) × M.StypeReader × (List (List UInt8)) × (List M.SType)) :=
 let q0 := (M.i_typeReader_word r)
 let q1 := (M.slices_Index_string_string (Option.getD M.i_kindWords default) (Option.getD q0 default).1)
 let q2 := (Option.getD q1 default)
 bif ((decide (q2 ≤ (0 : Int))) || (levels == (0 : Int))) then
 let q3 := ((Option.isSome q1) && ((Option.isSome q0) && ((Option.isSome M.i_kindWords) && true)))
 bif q3 then
 let q4 := (Option.getD q0 default).2
 some (q2, [], (M.StypeReader.mk (M.StypeReader.rest q4) true), [], [])
 else
 none
 else
 bif (decide (q2 ≤ (11 : Int))) then
 let q3 := ((Option.isSome q1) && ((Option.isSome q0) && ((Option.isSome M.i_kindWords) && true)))
 bif q3 then
 let q4 := (Option.getD q0 default).2
 some (q2, [], q4, [], [])
 else
 none
 else
 bif ((q2 == (20 : Int)) || (q2 == (21 : Int))) then
 let q3 := (Option.getD q0 default).2
 let q4 := (M.i_typeReader_need [(60 : UInt8)] q3)
 let q5 := (Option.getD q4 default)
 let q6 := (M.i_typeReader_word q5)
 let q7 := (Option.getD q6 default)
 let q8 := (M.i_typeReader_need [(62 : UInt8)] q7.2)
 let q9 := ((Option.isSome q1) && ((Option.isSome q0) && ((Option.isSome M.i_kindWords) && true)))
 let q10 := ((Option.isSome q4) && q9)
 bif ((Option.isSome q8) && ((Option.isSome q6) && q10)) then
 some (q2, q7.1, (Option.getD q8 default), [], [])
 else
 none
 else
 bif (!((decide ((16 : Int) ≤ q2)) && (decide (q2 ≤ (19 : Int))))) then
 let q3 := (Option.getD q0 default).2
 let q4 := (M.i_typeReader_need [(60 : UInt8)] q3)
 let q5 := (Option.getD q4 default)
 let q6 := (Option.getD (rec_i_typeReader_read (Go.IntKind.wrap Go.IntKind.i64 (levels - (1 : Int))) q5) default)
 let q7 := q6.2
 let q8 := q7.2
 let q9 := ([] ++ [(M.SType.mk (0 : Int) [] [] [])])
 let q10 := q8.2
 match (M.i_typeReader_read_l0 rec_i_typeReader_read levels (0 : Int) [] q2 [] [] [] [] Go.V.bigN q8.1 (List.set q9 (Int.toNat (0 : Int)) (M.SType.mk q6.1 q7.1 q10.1 q10.2))) with
 | none => none
 | some y11 =>
 let q12 := (M.i_typeReader_need [(62 : UInt8)] y11.1)
 let q13 := ((Option.isSome q1) && ((Option.isSome q0) && ((Option.isSome M.i_kindWords) && true)))
 let q14 := ((Option.isSome q4) && q13)
 bif ((Option.isSome q12) && ((Go.V.inB (0 : Int) (List.length q9)) && ((Option.isSome (rec_i_typeReader_read (Go.IntKind.wrap Go.IntKind.i64 (levels - (1 : Int))) q5)) && q14))) then
 let q15 := y11.2.2.2
 let q16 := q15.2
 let q17 := q16.2.2.2
 some (q15.1, q16.1, (Option.getD q12 default), q17.1, q17.2)
 else
 none
 else
 let q3 := (Option.getD q0 default).2
 let q4 := (M.i_typeReader_need [(123 : UInt8)] q3)
 let q5 := (M.i_typeReader_label rec_i_typeReader_read levels (Option.getD q4 default) q2 [] [] [])
 let q6 := (Option.getD q5 default)
 let q7 := q6.2
 let q8 := q7.2
 let q9 := q8.2
 match (M.i_typeReader_read_l1 rec_i_typeReader_read levels (0 : Int) [] [] [] Go.V.bigN q6.1 q7.1 q8.1 q9.1 q9.2) with
 | none => none
 | some y10 =>
 let q11 := (M.i_typeReader_need [(125 : UInt8)] y10.1)
 let q12 := ((Option.isSome q1) && ((Option.isSome q0) && ((Option.isSome M.i_kindWords) && true)))
 bif ((Option.isSome q11) && ((Option.isSome q5) && ((Option.isSome q4) && q12))) then
 let q13 := y10.2.2.2
 let q14 := q13.2
 let q15 := q14.2.2.2
 some (q13.1, q14.1, (Option.getD q11 default), q15.1, q15.2)
 else
 none
def i_typeReader_read_n : Nat → Int → M.StypeReader → Option (Int × (List UInt8) × M.StypeReader × (List (List UInt8)) × (List M.SType))
 | 0 => fun _ _ => none
 | n + 1 => i_typeReader_read_b (i_typeReader_read_n n)
def i_typeReader_read : Int → M.StypeReader → Option (Int × (List UInt8) × M.StypeReader × (List (List UInt8)) × (List M.SType)) := i_typeReader_read_n Go.V.bigN
def i_typeText_l0 (rec_i_typeText : M.SType → Option ((List UInt8))) (word : (List UInt8)) (t41 : (List M.SType)) (t42 : Int) : Nat → Int → (List (List UInt8)) → Option ((List UInt8) × (List (List UInt8)))
 | 0, _, _ => none
 | fuel + 1, t43, inner =>
 bif (decide (t43 < t42)) then
 let q0 := [(Option.getD (rec_i_typeText (M.SType.re (List.getD t41 (Int.toNat t43) M.SType.zero))) default)]
 bif ((decide (((List.length inner) + (List.length q0)) ≤ 1073741824)) && ((Option.isSome (rec_i_typeText (M.SType.re (List.getD t41 (Int.toNat t43) M.SType.zero)))) && ((Go.V.inB t43 (List.length t41)) && true))) then
 M.i_typeText_l0 rec_i_typeText word t41 t42 fuel (Go.IntKind.wrap Go.IntKind.i64 (t43 + (1 : Int))) (inner ++ q0)
 else
 none
 else
 some ((word, inner))
def i_typeText_l1 (rec_i_typeText : M.SType → Option ((List UInt8))) (word : (List UInt8)) (t60 : (List (List UInt8))) (t61 : Int) : Nat → Int → M.SType → (List (List UInt8)) → Option ((List UInt8) × (List (List UInt8)))
 | 0, _, _, _ => none
 | fuel + 1, t62, t, inner =>
 bif (decide (t62 < t61)) then
 let q0 := ((decide (t62 < ((List.length (M.SType.Kids t)) : Int))) && (!((M.SType.Kind (List.getD (M.SType.Kids t) (Int.toNat t62) M.SType.zero)) == (1 : Int))))
 let q1 := (Option.getD (rec_i_typeText (M.SType.re (List.getD (M.SType.Kids t) (Int.toNat t62) M.SType.zero))) default)
 let q2 := ([(58 : UInt8)] ++ q1)
 let q3 := [(bif q0 then ((List.getD t60 (Int.toNat t62) []) ++ q2) else (List.getD t60 (Int.toNat t62) []))]
 let q4 := (((Go.V.inB t62 (List.length (M.SType.Kids t))) || (!((decide (t62 < ((List.length (M.SType.Kids t)) : Int))) == true))) && ((Go.V.inB t62 (List.length t60)) && true))
 bif ((decide (((List.length inner) + (List.length q3)) ≤ 1073741824)) && ((((Go.V.catB (List.getD t60 (Int.toNat t62) []) q2) && ((Go.V.catB [(58 : UInt8)] q1) && ((Option.isSome (rec_i_typeText (M.SType.re (List.getD (M.SType.Kids t) (Int.toNat t62) M.SType.zero)))) && ((Go.V.inB t62 (List.length (M.SType.Kids t))) && q4)))) || (!q0)) && (q4 || q0))) then
 M.i_typeText_l1 rec_i_typeText word t60 t61 fuel (Go.IntKind.wrap Go.IntKind.i64 (t62 + (1 : Int))) (M.SType.re t) (inner ++ q3)
 else
 none
 else
 some ((word, inner))
def i_typeText_b (rec_i_typeText : M.SType → Option ((List UInt8))) (t : M.SType) : Option ((List UInt8)) :=
 bif (decide ((M.SType.Kind t) ≤ (11 : Int))) then
 let q0 := ((Go.V.inB (M.SType.Kind t) (List.length (Option.getD M.i_kindWords default))) && ((Option.isSome M.i_kindWords) && true))
 bif q0 then
 let q1 := (List.getD (Option.getD M.i_kindWords default) (Int.toNat (M.SType.Kind t)) [])
 some q1
 else
 none
 else
 bif (((M.SType.Kind t) == (20 : Int)) || ((M.SType.Kind t) == (21 : Int))) then
 let q0 := (List.getD (Option.getD M.i_kindWords default) (Int.toNat (M.SType.Kind t)) [])
 let q1 := (q0 ++ [(60 : UInt8)])
 let q2 := (q1 ++ (M.SType.Name t))
 let q3 := ((Go.V.inB (M.SType.Kind t) (List.length (Option.getD M.i_kindWords default))) && ((Option.isSome M.i_kindWords) && true))
 bif ((Go.V.catB q2 [(62 : UInt8)]) && ((Go.V.catB q1 (M.SType.Name t)) && ((Go.V.catB q0 [(60 : UInt8)]) && q3))) then
 some (q2 ++ [(62 : UInt8)])
 else
 none
 else
 bif (!((decide ((16 : Int) ≤ (M.SType.Kind t))) && (decide ((M.SType.Kind t) ≤ (19 : Int))))) then
 let q0 := (List.getD (Option.getD M.i_kindWords default) (Int.toNat (M.SType.Kind t)) [])
 match (M.i_typeText_l0 rec_i_typeText q0 (M.SType.Kids t) ((List.length (M.SType.Kids t)) : Int) Go.V.bigN (0 : Int) []) with
 | none => none
 | some y1 =>
 let q2 := (M.strings_Join y1.2 [(44 : UInt8)])
 let q3 := (Option.getD q2 default)
 let q4 := ((y1.1 ++ [(60 : UInt8)]) ++ q3)
 let q5 := ((Go.V.inB (M.SType.Kind t) (List.length (Option.getD M.i_kindWords default))) && ((Option.isSome M.i_kindWords) && true))
 bif ((Go.V.catB q4 [(62 : UInt8)]) && ((Go.V.catB (y1.1 ++ [(60 : UInt8)]) q3) && ((Option.isSome q2) && ((Go.V.catB y1.1 [(60 : UInt8)]) && q5)))) then
 some (q4 ++ [(62 : UInt8)])
 else
 none
 else
 let q0 := (List.getD (Option.getD M.i_kindWords default) (Int.toNat (M.SType.Kind t)) [])
 match (M.i_typeText_l1 rec_i_typeText q0 (M.SType.Labels t) ((List.length (M.SType.Labels t)) : Int) Go.V.bigN (0 : Int) (M.SType.re t) []) with
 | none => none
 | some y1 =>
 let q2 := (M.strings_Join y1.2 [(44 : UInt8)])
 let q3 := (Option.getD q2 default)
 let q4 := ((y1.1 ++ [(123 : UInt8)]) ++ q3)
 let q5 := ((Go.V.inB (M.SType.Kind t) (List.length (Option.getD M.i_kindWords default))) && ((Option.isSome M.i_kindWords) && true))
 bif ((Go.V.catB q4 [(125 : UInt8)]) && ((Go.V.catB (y1.1 ++ [(123 : UInt8)]) q3) && ((Option.isSome q2) && ((Go.V.catB y1.1 [(123 : UInt8)]) && q5)))) then
 some (q4 ++ [(125 : UInt8)])
 else
 none
def i_typeText_n : Nat → M.SType → Option ((List UInt8))
 | 0 => fun _ => none
 | n + 1 => i_typeText_b (i_typeText_n n)
def i_typeText : M.SType → Option ((List UInt8)) := i_typeText_n Go.V.bigN
def i_TypeText (t : M.SType) : Option ((List UInt8)) :=
 let q0 := (M.i_TypeOk (M.SType.re t))
 bif (!(Option.getD q0 default)) then
 bif ((Option.isSome q0) && true) then
 some []
 else
 none
 else
 let q1 := (M.i_typeText (M.SType.re t))
 bif ((Option.isSome q1) && ((Option.isSome q0) && true)) then
 some (Option.getD q1 default)
 else
 none
def i_ReadType (s : (List UInt8)) : Option (Int × (List UInt8) × Bool × (List (List UInt8)) × (List M.SType)) :=
 let q0 := (M.i_typeReader_read (4 : Int) (M.StypeReader.mk s false))
 let q1 := (Option.getD q0 default)
 let q2 := q1.2
 let q3 := q2.2
 let q4 := ((M.StypeReader.bad q3.1) || (s == []))
 let q5 := q1.1
 let q6 := q2.1
 let q7 := q3.2
 let q8 := q7.1
 let q9 := q7.2
 let q10 := (M.i_TypeText (M.SType.mk q5 q6 q8 q9))
 bif (q4 || (!((Option.getD q10 default) == s))) then
 let q11 := (((Option.isSome q10) || (!(q4 == false))) && ((Option.isSome q0) && true))
 bif q11 then
 some ((0 : Int), [], false, [], [])
 else
 none
 else
 let q11 := (((Option.isSome q10) || (!(q4 == false))) && ((Option.isSome q0) && true))
 bif q11 then
 some (q5, q6, true, q8, q9)
 else
 none
def s_l03Func_l0_0 (i : Int) : Nat → Int → M.SFuncType → M.SParam → Option ((Bool) ⊕ (Int × M.SFuncType))
 | 0, _, _, _ => none
 | fuel + 1, k, f, p =>
 bif (decide (k < i)) then
 bif ((M.SParam.Name (List.getD (M.SFuncType.Params f) (Int.toNat k) M.SParam.zero)) == (M.SParam.Name p)) then
 bif ((Go.V.inB k (List.length (M.SFuncType.Params f))) && true) then
 some (.inl false)
 else
 none
 else
 bif ((Go.V.inB k (List.length (M.SFuncType.Params f))) && true) then
 M.s_l03Func_l0_0 i fuel (Go.IntKind.wrap Go.IntKind.i64 (k + (1 : Int))) (M.SFuncType.re f) (M.SParam.re p)
 else
 none
 else
 some ((.inr ((i, (M.SFuncType.re f)))))
def s_l03Func_l0 : Nat → Int → M.SFuncType → Option ((Bool) ⊕ (Unit))
 | 0, _, _ => none
 | fuel + 1, i, f =>
 bif (decide (i < ((List.length (M.SFuncType.Params f)) : Int))) then
 let q0 := (M.s_l03Name (M.SParam.Name (List.getD (M.SFuncType.Params f) (Int.toNat i) M.SParam.zero)))
 let q1 := (!(Option.getD q0 default))
 let q2 := (M.s_l03Ok (M.SType.re (M.SParam.Type_ (List.getD (M.SFuncType.Params f) (Int.toNat i) M.SParam.zero))))
 bif ((q1 || (!(Option.getD q2 default))) || ((M.SType.Kind (M.SParam.Type_ (List.getD (M.SFuncType.Params f) (Int.toNat i) M.SParam.zero))) == (1 : Int))) then
 let q3 := (((Option.isSome q2) || (!(q1 == false))) && ((Option.isSome q0) && ((Go.V.inB i (List.length (M.SFuncType.Params f))) && true)))
 bif q3 then
 some (.inl false)
 else
 none
 else
 match (M.s_l03Func_l0_0 i Go.V.bigN (0 : Int) (M.SFuncType.re f) (M.SParam.re (List.getD (M.SFuncType.Params f) (Int.toNat i) M.SParam.zero))) with
 | none => none
 | some y3 =>
 (match y3 with
 | .inl a4 =>
 let q5 := (((Option.isSome q2) || (!(q1 == false))) && ((Option.isSome q0) && ((Go.V.inB i (List.length (M.SFuncType.Params f))) && true)))
 bif q5 then
 some (.inl a4)
 else
 none
 | .inr b4 =>
 let q5 := (((Option.isSome q2) || (!(q1 == false))) && ((Option.isSome q0) && ((Go.V.inB i (List.length (M.SFuncType.Params f))) && true)))
 bif q5 then
 M.s_l03Func_l0 fuel (Go.IntKind.wrap Go.IntKind.i64 (b4.1 + (1 : Int))) (M.SFuncType.re b4.2)
 else
 none)
 else
 some ((.inr (())))
def s_l03Func (f : M.SFuncType) : Option (Bool) :=
 let q0 := (M.s_l03Ok (M.SType.re (M.SFuncType.Result f)))
 let q1 := ((decide ((6 : Int) < ((List.length (M.SFuncType.Params f)) : Int))) || (!(Option.getD q0 default)))
 let q2 := (M.s_l03Has (M.SType.re (M.SFuncType.Result f)) (21 : Int) (21 : Int))
 bif (q1 || (Option.getD q2 default)) then
 let q3 := (((Option.isSome q2) || (!(q1 == false))) && (((Option.isSome q0) || (!((decide ((6 : Int) < ((List.length (M.SFuncType.Params f)) : Int))) == false))) && true))
 bif q3 then
 some false
 else
 none
 else
 match (M.s_l03Func_l0 Go.V.bigN (0 : Int) (M.SFuncType.re f)) with
 | none => none
 | some y3 =>
 (match y3 with
 | .inl a4 =>
 let q5 := (((Option.isSome q2) || (!(q1 == false))) && (((Option.isSome q0) || (!((decide ((6 : Int) < ((List.length (M.SFuncType.Params f)) : Int))) == false))) && true))
 bif q5 then
 some a4
 else
 none
 | .inr b4 =>
 let q5 := (((Option.isSome q2) || (!(q1 == false))) && (((Option.isSome q0) || (!((decide ((6 : Int) < ((List.length (M.SFuncType.Params f)) : Int))) == false))) && true))
 bif q5 then
 some true
 else
 none)
def s_l03FuncText_l0 : Nat → (List UInt8) → Int → M.SFuncType → Option ((List UInt8) × M.SFuncType)
 | 0, _, _, _ => none
 | fuel + 1, s, i, f =>
 bif (decide (i < ((List.length (M.SFuncType.Params f)) : Int))) then
 let q0 := (bif (decide ((0 : Int) < i)) then (s ++ [(44 : UInt8)]) else s)
 let q1 := ((M.SParam.Name (List.getD (M.SFuncType.Params f) (Int.toNat i) M.SParam.zero)) ++ [(58 : UInt8)])
 let q2 := (M.s_l03Text (M.SType.re (M.SParam.Type_ (List.getD (M.SFuncType.Params f) (Int.toNat i) M.SParam.zero))))
 let q3 := (Option.getD q2 default)
 let q4 := (q1 ++ q3)
 bif ((Go.V.catB q0 q4) && ((Go.V.catB q1 q3) && ((Option.isSome q2) && ((Go.V.inB i (List.length (M.SFuncType.Params f))) && ((Go.V.catB (M.SParam.Name (List.getD (M.SFuncType.Params f) (Int.toNat i) M.SParam.zero)) [(58 : UInt8)]) && ((Go.V.inB i (List.length (M.SFuncType.Params f))) && ((((Go.V.catB s [(44 : UInt8)]) && true) || (!(decide ((0 : Int) < i)))) && true))))))) then
 M.s_l03FuncText_l0 fuel (q0 ++ q4) (Go.IntKind.wrap Go.IntKind.i64 (i + (1 : Int))) (M.SFuncType.re f)
 else
 none
 else
 some ((s, (M.SFuncType.re f)))
def s_l03FuncText (f : M.SFuncType) : Option ((List UInt8)) :=
 let q0 := [(102 : UInt8), (117 : UInt8), (110 : UInt8), (99 : UInt8), (40 : UInt8)]
 match (M.s_l03FuncText_l0 Go.V.bigN (bif (M.SFuncType.Async f) then [(97 : UInt8), (115 : UInt8), (121 : UInt8), (110 : UInt8), (99 : UInt8), (32 : UInt8), (102 : UInt8), (117 : UInt8), (110 : UInt8), (99 : UInt8), (40 : UInt8)] else q0) (0 : Int) (M.SFuncType.re f)) with
 | none => none
 | some y1 =>
 let q2 := (M.s_l03Text (M.SType.re (M.SFuncType.Result y1.2)))
 let q3 := (Option.getD q2 default)
 let q4 := ([(45 : UInt8), (62 : UInt8)] ++ q3)
 let q5 := ((Go.V.catB y1.1 [(41 : UInt8)]) && true)
 let q6 := ((M.SType.Kind (M.SFuncType.Result y1.2)) != (1 : Int))
 bif ((((Go.V.catB (y1.1 ++ [(41 : UInt8)]) q4) && ((Go.V.catB [(45 : UInt8), (62 : UInt8)] q3) && ((Option.isSome q2) && q5))) || (!q6)) && (q5 || q6)) then
 some (bif q6 then ((y1.1 ++ [(41 : UInt8)]) ++ q4) else (y1.1 ++ [(41 : UInt8)]))
 else
 none
def i_ReadFunc_l0 (s : (List UInt8)) (t2 : Int) (t22 : (List UInt8)) (t23 : Bool) (f : Int) (f2 : (List UInt8)) (f3 : Bool) (o9 : (List M.SParam)) (o10 : (List (List UInt8))) (o11 : (List M.SType)) (o13 : (List (List UInt8))) (o14 : (List M.SType)) : Nat → (List UInt8) → Bool → (List M.SParam) → Option ((List UInt8) × Int × (List UInt8) × Bool × (List UInt8) × Bool × Int × (List UInt8) × Bool × (List M.SParam) × (List (List UInt8)) × (List M.SType) × (List M.SParam) × (List (List UInt8)) × (List M.SType))
 | 0, _, _, _ => none
 | fuel + 1, r, r2, o12 =>
 bif (!r2) then
 let q0 := (M.i_typeReader_take [(41 : UInt8)] (M.StypeReader.mk r r2))
 let q1 := (Option.getD q0 default)
 bif (!q1.1) then
 let q2 := q1.2
 let q3 := (M.i_typeReader_take [(44 : UInt8)] q2)
 let q4 := (M.i_typeReader_word (Option.getD q3 default).2)
 let q5 := (Option.getD q4 default)
 let q6 := (M.i_typeReader_need [(58 : UInt8)] q5.2)
 let q7 := (M.i_typeReader_read (4 : Int) (Option.getD q6 default))
 let q8 := (Option.getD q7 default)
 let q9 := q8.2
 let q10 := q9.2
 let q11 := q10.2
 let q12 := [(M.SParam.mk q5.1 (M.SType.mk q8.1 q9.1 q11.1 q11.2))]
 let q13 := (((!r2) == true) && (((!r2) == true) && (((Option.isSome q0) && ((!r2) == true)) && (((!r2) == true) && true))))
 bif ((decide (((List.length o12) + (List.length q12)) ≤ 1073741824)) && ((Option.isSome q7) && ((Option.isSome q6) && ((Option.isSome q4) && ((Option.isSome q3) && q13))))) then
 let q14 := q10.1
 M.i_ReadFunc_l0 s t2 t22 t23 f f2 f3 o9 o10 o11 o13 o14 fuel (M.StypeReader.rest q14) (M.StypeReader.bad q14) (o12 ++ q12)
 else
 none
 else
 let q2 := (((!r2) == true) && (((!r2) == true) && (((Option.isSome q0) && ((!r2) == true)) && (((!r2) == true) && true))))
 bif q2 then
 let q3 := q1.2
 some ((s, t2, t22, t23, (M.StypeReader.rest q3), (M.StypeReader.bad q3), f, f2, f3, o9, o10, o11, o12, o13, o14))
 else
 none
 else
 bif (((!r2) == false) && (((!r2) == false) && (((!r2) == false) && (((!r2) == false) && true)))) then
 some ((s, t2, t22, t23, r, r2, f, f2, f3, o9, o10, o11, o12, o13, o14))
 else
 none
def i_paramsOk_l0 (params : (List M.SParam)) (t7 : (List M.SParam)) (t8 : Int) : Nat → Int → (List (List UInt8)) → Option ((Bool) ⊕ ((List M.SParam) × (List (List UInt8))))
 | 0, _, _ => none
 | fuel + 1, t9, names =>
 bif (decide (t9 < t8)) then
 let q0 := (M.i_NameOk (M.SParam.Name (List.getD t7 (Int.toNat t9) M.SParam.zero)))
 let q1 := (!(Option.getD q0 default))
 let q2 := (M.i_TypeOk (M.SType.re (M.SParam.Type_ (List.getD t7 (Int.toNat t9) M.SParam.zero))))
 bif ((q1 || (!(Option.getD q2 default))) || ((M.SType.Kind (M.SParam.Type_ (List.getD t7 (Int.toNat t9) M.SParam.zero))) == (1 : Int))) then
 let q3 := (((Option.isSome q2) || (!(q1 == false))) && ((Option.isSome q0) && ((Go.V.inB t9 (List.length t7)) && true)))
 bif q3 then
 some (.inl false)
 else
 none
 else
 let q3 := [(M.SParam.Name (List.getD t7 (Int.toNat t9) M.SParam.zero))]
 let q4 := (((Option.isSome q2) || (!(q1 == false))) && ((Option.isSome q0) && ((Go.V.inB t9 (List.length t7)) && true)))
 bif ((decide (((List.length names) + (List.length q3)) ≤ 1073741824)) && q4) then
 M.i_paramsOk_l0 params t7 t8 fuel (Go.IntKind.wrap Go.IntKind.i64 (t9 + (1 : Int))) (names ++ q3)
 else
 none
 else
 some ((.inr ((params, names))))
def i_paramsOk (params : (List M.SParam)) : Option (Bool) :=
 match (M.i_paramsOk_l0 params params ((List.length params) : Int) Go.V.bigN (0 : Int) []) with
 | none => none
 | some y0 =>
 (match y0 with
 | .inl a1 =>
 some a1
 | .inr b1 =>
 let q2 := (M.i_distinct b1.2)
 bif (((Option.isSome q2) || (!((decide (((List.length b1.1) : Int) ≤ (6 : Int))) == true))) && true) then
 some ((decide (((List.length b1.1) : Int) ≤ (6 : Int))) && (Option.getD q2 default))
 else
 none)
def i_FuncOk (f : M.SFuncType) : Option (Bool) :=
 let q0 := (M.i_hasKind (M.SType.re (M.SFuncType.Result f)) [(21 : Int)])
 let q1 := (M.i_paramsOk (M.SFuncType.Params f))
 let q2 := (M.i_TypeOk (M.SType.re (M.SFuncType.Result f)))
 let q3 := ((Option.getD q1 default) && (Option.getD q2 default))
 bif (((Option.isSome q0) || (!(q3 == true))) && (((Option.isSome q2) || (!((Option.getD q1 default) == true))) && ((Option.isSome q1) && true))) then
 some (q3 && (!(Option.getD q0 default)))
 else
 none
def i_funcText_l0 (text : (List UInt8)) (t9 : (List M.SParam)) (t10 : Int) : Nat → Int → M.SFuncType → (List (List UInt8)) → Option ((List UInt8) × M.SFuncType × (List (List UInt8)))
 | 0, _, _, _ => none
 | fuel + 1, t11, f, list =>
 bif (decide (t11 < t10)) then
 let q0 := ((M.SParam.Name (List.getD t9 (Int.toNat t11) M.SParam.zero)) ++ [(58 : UInt8)])
 let q1 := (M.i_typeText (M.SType.re (M.SParam.Type_ (List.getD t9 (Int.toNat t11) M.SParam.zero))))
 let q2 := (Option.getD q1 default)
 let q3 := [(q0 ++ q2)]
 bif ((decide (((List.length list) + (List.length q3)) ≤ 1073741824)) && ((Go.V.catB q0 q2) && ((Option.isSome q1) && ((Go.V.catB (M.SParam.Name (List.getD t9 (Int.toNat t11) M.SParam.zero)) [(58 : UInt8)]) && ((Go.V.inB t11 (List.length t9)) && true))))) then
 M.i_funcText_l0 text t9 t10 fuel (Go.IntKind.wrap Go.IntKind.i64 (t11 + (1 : Int))) (M.SFuncType.re f) (list ++ q3)
 else
 none
 else
 some ((text, (M.SFuncType.re f), list))
def i_funcText (f : M.SFuncType) : Option ((List UInt8)) :=
 let q0 := [(102 : UInt8), (117 : UInt8), (110 : UInt8), (99 : UInt8), (40 : UInt8)]
 match (M.i_funcText_l0 q0 (M.SFuncType.Params f) ((List.length (M.SFuncType.Params f)) : Int) Go.V.bigN (0 : Int) (M.SFuncType.re f) []) with
 | none => none
 | some y1 =>
 let q2 := (bif (M.SFuncType.Async y1.2.1) then [(97 : UInt8), (115 : UInt8), (121 : UInt8), (110 : UInt8), (99 : UInt8), (32 : UInt8), (102 : UInt8), (117 : UInt8), (110 : UInt8), (99 : UInt8), (40 : UInt8)] else y1.1)
 let q3 := (M.strings_Join y1.2.2 [(44 : UInt8)])
 let q4 := (Option.getD q3 default)
 let q5 := (q4 ++ [(41 : UInt8)])
 let q6 := (q2 ++ q5)
 let q7 := (M.i_typeText (M.SType.re (M.SFuncType.Result y1.2.1)))
 let q8 := (Option.getD q7 default)
 let q9 := ([(45 : UInt8), (62 : UInt8)] ++ q8)
 let q10 := ((Go.V.catB q2 q5) && ((Go.V.catB q4 [(41 : UInt8)]) && ((Option.isSome q3) && true)))
 let q11 := (!((M.SType.Kind (M.SFuncType.Result y1.2.1)) == (1 : Int)))
 bif ((((Go.V.catB q6 q9) && ((Go.V.catB [(45 : UInt8), (62 : UInt8)] q8) && ((Option.isSome q7) && q10))) || (!q11)) && (q10 || q11)) then
 some (bif q11 then (q6 ++ q9) else q6)
 else
 none
def i_FuncText (f : M.SFuncType) : Option ((List UInt8)) :=
 let q0 := (M.i_FuncOk (M.SFuncType.re f))
 bif (!(Option.getD q0 default)) then
 bif ((Option.isSome q0) && true) then
 some []
 else
 none
 else
 let q1 := (M.i_funcText (M.SFuncType.re f))
 bif ((Option.isSome q1) && ((Option.isSome q0) && true)) then
 some (Option.getD q1 default)
 else
 none
def i_ReadFunc (s : (List UInt8)) : Option (Int × (List UInt8) × Bool × Bool × (List M.SParam) × (List (List UInt8)) × (List M.SType)) :=
 let q0 := (M.i_typeReader_take [(97 : UInt8), (115 : UInt8), (121 : UInt8), (110 : UInt8), (99 : UInt8), (32 : UInt8)] (M.StypeReader.mk s false))
 let q1 := (Option.getD q0 default)
 let q2 := (M.i_typeReader_need [(102 : UInt8), (117 : UInt8), (110 : UInt8), (99 : UInt8), (40 : UInt8)] q1.2)
 let q3 := (Option.getD q2 default)
 match (M.i_ReadFunc_l0 s (0 : Int) [] false (1 : Int) [] q1.1 [] [] [] [] [] Go.V.bigN (M.StypeReader.rest q3) (M.StypeReader.bad q3) []) with
 | none => none
 | some y4 =>
 let q5 := y4.2.2.2.2
 let q6 := q5.2
 let q7 := (M.i_typeReader_take [(45 : UInt8), (62 : UInt8)] (M.StypeReader.mk q5.1 q6.1))
 let q8 := (Option.getD q7 default)
 bif q8.1 then
 let q9 := q8.2
 let q10 := (M.i_typeReader_read (4 : Int) q9)
 let q11 := (Option.getD q10 default)
 let q12 := q11.2
 let q13 := q12.2
 let q14 := q6.2
 let q15 := q14.2
 let q16 := q15.2
 let q17 := q16.2.2.2.2
 let q18 := q17.1
 let q19 := q11.1
 let q20 := q12.1
 let q21 := q13.2
 let q22 := q21.1
 let q23 := q21.2
 let q24 := q16.1
 let q25 := (M.i_FuncText (M.SFuncType.mk q18 (M.SType.mk q19 q20 q22 q23) q24))
 let q26 := y4.1
 bif ((M.StypeReader.bad q13.1) || (!((Option.getD q25 default) == q26))) then
 let q27 := ((Option.isSome q7) && ((Option.isSome q2) && ((Option.isSome q0) && true)))
 let q28 := (((Option.isSome q25) || (!((M.StypeReader.bad q13.1) == false))) && ((Option.isSome q10) && q27))
 bif q28 then
 some ((0 : Int), [], false, false, [], [], [])
 else
 none
 else
 let q27 := ((Option.isSome q7) && ((Option.isSome q2) && ((Option.isSome q0) && true)))
 let q28 := (((Option.isSome q25) || (!((M.StypeReader.bad q13.1) == false))) && ((Option.isSome q10) && q27))
 bif q28 then
 some (q19, q20, q24, true, q18, q22, q23)
 else
 none
 else
 let q9 := q8.2
 let q10 := q6.2
 let q11 := q10.2
 let q12 := q11.2
 let q13 := q12.2.2.2.2
 let q14 := q13.1
 let q15 := q10.1
 let q16 := q11.1
 let q17 := q13.2
 let q18 := q17.1
 let q19 := q17.2
 let q20 := q12.1
 let q21 := (M.i_FuncText (M.SFuncType.mk q14 (M.SType.mk q15 q16 q18 q19) q20))
 let q22 := y4.1
 bif ((M.StypeReader.bad q9) || (!((Option.getD q21 default) == q22))) then
 let q23 := ((Option.isSome q7) && ((Option.isSome q2) && ((Option.isSome q0) && true)))
 let q24 := (((Option.isSome q21) || (!((M.StypeReader.bad q9) == false))) && q23)
 bif q24 then
 some ((0 : Int), [], false, false, [], [], [])
 else
 none
 else
 let q23 := ((Option.isSome q7) && ((Option.isSome q2) && ((Option.isSome q0) && true)))
 let q24 := (((Option.isSome q21) || (!((M.StypeReader.bad q9) == false))) && q23)
 bif q24 then
 some (q15, q16, q20, true, q14, q18, q19)
 else
 none
def l_eqParam (a : M.SParam) (b : M.SParam) : Option (Bool) :=
 bif (!((M.SParam.Name a) == (M.SParam.Name b))) then
 some false
 else
 let q0 := (M.l_eqType (M.SType.re (M.SParam.Type_ a)) (M.SType.re (M.SParam.Type_ b)))
 bif (!(Option.getD q0 default)) then
 bif ((Option.isSome q0) && true) then
 some false
 else
 none
 else
 bif ((Option.isSome q0) && true) then
 some true
 else
 none
def l_eqParamS_l0 (a : (List M.SParam)) (b : (List M.SParam)) : Nat → Int → Option ((Bool) ⊕ (Unit))
 | 0, _ => none
 | fuel + 1, i =>
 bif (decide (i < ((List.length a) : Int))) then
 let q0 := (M.l_eqParam (M.SParam.re (List.getD a (Int.toNat i) M.SParam.zero)) (M.SParam.re (List.getD b (Int.toNat i) M.SParam.zero)))
 bif (!(Option.getD q0 default)) then
 let q1 := ((Option.isSome q0) && ((Go.V.inB i (List.length b)) && ((Go.V.inB i (List.length a)) && true)))
 bif q1 then
 some (.inl false)
 else
 none
 else
 let q1 := ((Option.isSome q0) && ((Go.V.inB i (List.length b)) && ((Go.V.inB i (List.length a)) && true)))
 bif q1 then
 M.l_eqParamS_l0 a b fuel (Go.IntKind.wrap Go.IntKind.i64 (i + (1 : Int)))
 else
 none
 else
 some ((.inr (())))
def l_eqParamS (a : (List M.SParam)) (b : (List M.SParam)) : Option (Bool) :=
 bif (((List.length a) : Int) != ((List.length b) : Int)) then
 some false
 else
 match (M.l_eqParamS_l0 a b Go.V.bigN (0 : Int)) with
 | none => none
 | some y0 =>
 (match y0 with
 | .inl a1 =>
 some a1
 | .inr b1 =>
 some true)
def l_eqFuncType (a : M.SFuncType) (b : M.SFuncType) : Option (Bool) :=
 let q0 := (M.l_eqParamS (M.SFuncType.Params a) (M.SFuncType.Params b))
 bif (!(Option.getD q0 default)) then
 bif ((Option.isSome q0) && true) then
 some false
 else
 none
 else
 let q1 := (M.l_eqType (M.SType.re (M.SFuncType.Result a)) (M.SType.re (M.SFuncType.Result b)))
 bif (!(Option.getD q1 default)) then
 bif ((Option.isSome q1) && ((Option.isSome q0) && true)) then
 some false
 else
 none
 else
 bif (!((M.SFuncType.Async a) == (M.SFuncType.Async b))) then
 bif ((Option.isSome q1) && ((Option.isSome q0) && true)) then
 some false
 else
 none
 else
 bif ((Option.isSome q1) && ((Option.isSome q0) && true)) then
 some true
 else
 none
def l_c2Big (code : (List UInt8)) (more : (List UInt8)) : Option (Bool) :=
 some ((decide ((1048576 : Int) < ((List.length code) : Int))) || (decide ((1048576 : Int) < ((List.length more) : Int))))
def s_l00From (code : (List UInt8)) : Option ((List UInt8) × Int × Int) :=
 some (code, (0 : Int), (0 : Int))
def s_l00Src_next (s : M.Sl00Src) : Option (Int × M.Sl00Src) :=
 bif (decide ((Go.IntKind.wrap Go.IntKind.i64 ((M.Sl00Src.at_ s) + (1 : Int))) ≤ ((List.length (M.Sl00Src.code s)) : Int))) then
 let q0 := ((((Go.V.inB (M.Sl00Src.at_ s) (List.length (M.Sl00Src.code s))) && true) || (!(decide ((M.Sl00Src.at_ s) < ((List.length (M.Sl00Src.code s)) : Int))))) && true)
 bif q0 then
 let q1 := (bif (decide ((M.Sl00Src.at_ s) < ((List.length (M.Sl00Src.code s)) : Int))) then (Go.IntKind.wrap Go.IntKind.i64 ((UInt8.toNat (List.getD (M.Sl00Src.code s) (Int.toNat (M.Sl00Src.at_ s)) (0 : UInt8))) : Int)) else (0 : Int))
 let q2 := (Go.IntKind.wrap Go.IntKind.u64 ((Go.IntKind.wrap Go.IntKind.u64 ((Go.IntKind.wrap Go.IntKind.u64 ((M.Sl00Src.seed s) * (6364136223846793005 : Int))) + (Go.IntKind.wrap Go.IntKind.u64 q1))) + (1442695040888963407 : Int)))
 some (q1, (M.Sl00Src.mk (M.Sl00Src.code s) (Go.IntKind.wrap Go.IntKind.i64 ((M.Sl00Src.at_ s) + (1 : Int))) q2))
 else
 none
 else
 let q0 := ((((Go.V.inB (M.Sl00Src.at_ s) (List.length (M.Sl00Src.code s))) && true) || (!(decide ((M.Sl00Src.at_ s) < ((List.length (M.Sl00Src.code s)) : Int))))) && true)
 bif q0 then
 let q1 := (bif (decide ((M.Sl00Src.at_ s) < ((List.length (M.Sl00Src.code s)) : Int))) then (Go.IntKind.wrap Go.IntKind.i64 ((UInt8.toNat (List.getD (M.Sl00Src.code s) (Int.toNat (M.Sl00Src.at_ s)) (0 : UInt8))) : Int)) else (0 : Int))
 let q2 := (Go.IntKind.wrap Go.IntKind.u64 ((Go.IntKind.wrap Go.IntKind.u64 ((Go.IntKind.wrap Go.IntKind.u64 ((M.Sl00Src.seed s) * (6364136223846793005 : Int))) + (Go.IntKind.wrap Go.IntKind.u64 q1))) + (1442695040888963407 : Int)))
 some ((Go.IntKind.wrap Go.IntKind.i64 (Go.V.bitsV Go.BinOp.and Go.IntKind.u64 (Go.V.shrV Go.IntKind.u64 q2 (40 : Int)) (255 : Int))), (M.Sl00Src.mk (M.Sl00Src.code s) (Go.IntKind.wrap Go.IntKind.i64 ((M.Sl00Src.at_ s) + (1 : Int))) q2))
 else
 none
def s_l00Src_pick (n : Int) (s : M.Sl00Src) : Option (Int × M.Sl00Src) :=
 bif (decide (n ≤ (1 : Int))) then
 some ((0 : Int), s)
 else
 bif (decide ((200 : Int) < n)) then
 let q0 := (M.s_l00Src_next s)
 let q1 := (M.s_l00Src_next (Option.getD q0 default).2)
 bif ((n != (0 : Int)) && ((Option.isSome q1) && ((Option.isSome q0) && true))) then
 let q2 := (Option.getD q1 default)
 some ((Int.tmod (Go.IntKind.wrap Go.IntKind.i64 ((Go.IntKind.wrap Go.IntKind.i64 ((Option.getD q0 default).1 * (256 : Int))) + q2.1)) n), q2.2)
 else
 none
 else
 let q0 := (M.s_l00Src_next s)
 bif ((n != (0 : Int)) && ((Option.isSome q0) && true)) then
 some ((Int.tmod (Option.getD q0 default).1 n), (Option.getD q0 default).2)
 else
 none
def s_l00Src_one (n : Int) (s : M.Sl00Src) : Option (Bool × M.Sl00Src) :=
 let q0 := (M.s_l00Src_pick n s)
 bif ((Option.isSome q0) && true) then
 some (((Option.getD q0 default).1 == (0 : Int)), (Option.getD q0 default).2)
 else
 none
def s_l00Src_text (list : (List (List UInt8))) (s : M.Sl00Src) : Option ((List UInt8) × M.Sl00Src) :=
 let q0 := (M.s_l00Src_pick ((List.length list) : Int) s)
 let q1 := (Option.getD q0 default)
 let q2 := q1.1
 bif ((Go.V.inB q2 (List.length list)) && ((Option.isSome q0) && true)) then
 some ((List.getD list (Int.toNat q2) []), q1.2)
 else
 none
def s_l00Src_among (list : (List Int)) (s : M.Sl00Src) : Option (Int × M.Sl00Src) :=
 let q0 := (M.s_l00Src_pick ((List.length list) : Int) s)
 let q1 := (Option.getD q0 default)
 let q2 := q1.1
 bif ((Go.V.inB q2 (List.length list)) && ((Option.isSome q0) && true)) then
 some ((List.getD list (Int.toNat q2) (0 : Int)), q1.2)
 else
 none
def s_l03Some (rec_s_l03Draw : Int → Bool → Bool → M.Sl00Src → Option (Int × (List UInt8) × M.Sl00Src × (List (List UInt8)) × (List M.SType))) (deep : Int) (own : Bool) (borrow : Bool) (s : M.Sl00Src) : Option (Int × (List UInt8) × M.Sl00Src × (List (List UInt8)) × (List M.SType)) :=
 let q0 := (M.s_l00Src_one (3 : Int) s)
 bif (Option.getD q0 default).1 then
 let q1 := ((Option.isSome q0) && true)
 bif q1 then
 let q2 := (Option.getD q0 default).2
 some ((1 : Int), [], q2, [], [])
 else
 none
 else
 let q1 := (Option.getD q0 default).2
 let q2 := ((Option.isSome q0) && true)
 bif ((Option.isSome (rec_s_l03Draw deep own borrow q1)) && q2) then
 let q3 := (Option.getD (rec_s_l03Draw deep own borrow q1) default)
 let q4 := q3.2
 let q5 := q4.2
 let q6 := q5.2
 some (q3.1, q4.1, q5.1, q6.1, q6.2)
 else
 none
def s_l03Unlike_l0 (many : Int) (at_ : Int) (all : (List (List UInt8))) : Nat → Int → (List (List UInt8)) → Option ((List (List UInt8)))
 | 0, _, _ => none
 | fuel + 1, k, out =>
 bif (decide (k < many)) then
 let q0 := (Int.tmod (Go.IntKind.wrap Go.IntKind.i64 (at_ + k)) (6 : Int))
 let q1 := [(List.getD all (Int.toNat q0) [])]
 bif ((decide (((List.length out) + (List.length q1)) ≤ 1073741824)) && ((Go.V.inB q0 (List.length all)) && (((6 : Int) != (0 : Int)) && true))) then
 M.s_l03Unlike_l0 many at_ all fuel (Go.IntKind.wrap Go.IntKind.i64 (k + (1 : Int))) (out ++ q1)
 else
 none
 else
 some (out)
def s_l03Unlike (many : Int) (s : M.Sl00Src) : Option (M.Sl00Src × (List (List UInt8))) :=
 let q0 := (M.s_l00Src_pick (6 : Int) s)
 match (M.s_l03Unlike_l0 many (Option.getD q0 default).1 [[(97 : UInt8)], [(98 : UInt8)], [(105 : UInt8), (100 : UInt8)], [(109 : UInt8), (97 : UInt8), (120 : UInt8), (45 : UInt8), (115 : UInt8), (105 : UInt8), (122 : UInt8), (101 : UInt8)], [(120 : UInt8), (49 : UInt8)], [(110 : UInt8), (97 : UInt8), (109 : UInt8), (101 : UInt8)]] Go.V.bigN (0 : Int) []) with
 | none => none
 | some y1 =>
 bif ((Option.isSome q0) && true) then
 some ((Option.getD q0 default).2, y1)
 else
 none
def s_l03Draw_l0 (rec_s_l03Draw : Int → Bool → Bool → M.Sl00Src → Option (Int × (List UInt8) × M.Sl00Src × (List (List UInt8)) × (List M.SType))) (deep : Int) (own : Bool) (borrow : Bool) (t8 : Int) (t82 : (List UInt8)) (t : Int) (t2 : (List UInt8)) (o7 : (List (List UInt8))) (o8 : (List M.SType)) (o9 : (List (List UInt8))) : Nat → Int → M.Sl00Src → (List M.SType) → Option ((List UInt8) × Int × Int × Int × (List UInt8) × Int × (List UInt8) × (List (List UInt8)) × (List M.SType) × (List (List UInt8)) × (List M.SType))
 | 0, _, _, _ => none
 | fuel + 1, i, s, o10 =>
 bif (decide ((0 : Int) < i)) then
 let q0 := (Option.getD (rec_s_l03Draw (Go.IntKind.wrap Go.IntKind.i64 (deep - (1 : Int))) own borrow s) default)
 let q1 := q0.2
 let q2 := q1.2
 let q3 := q2.2
 let q4 := [(M.SType.mk q0.1 q1.1 q3.1 q3.2)]
 bif ((decide (((List.length o10) + (List.length q4)) ≤ 1073741824)) && ((Option.isSome (rec_s_l03Draw (Go.IntKind.wrap Go.IntKind.i64 (deep - (1 : Int))) own borrow s)) && true)) then
 M.s_l03Draw_l0 rec_s_l03Draw deep own borrow t8 t82 t t2 o7 o8 o9 fuel (Go.IntKind.wrap Go.IntKind.i64 (i - (1 : Int))) q2.1 (o10 ++ q4)
 else
 none
 else
 some (((M.Sl00Src.code s), (M.Sl00Src.at_ s), (M.Sl00Src.seed s), t8, t82, t, t2, o7, o8, o9, o10))
def s_l03Draw_l1 (rec_s_l03Draw : Int → Bool → Bool → M.Sl00Src → Option (Int × (List UInt8) × M.Sl00Src × (List (List UInt8)) × (List M.SType))) (deep : Int) (own : Bool) (borrow : Bool) (t8 : Int) (t82 : (List UInt8)) (t : Int) (t2 : (List UInt8)) (o7 : (List (List UInt8))) (o8 : (List M.SType)) (o9 : (List (List UInt8))) : Nat → Int → M.Sl00Src → (List M.SType) → Option ((List UInt8) × Int × Int × Int × (List UInt8) × Int × (List UInt8) × (List (List UInt8)) × (List M.SType) × (List (List UInt8)) × (List M.SType))
 | 0, _, _, _ => none
 | fuel + 1, i, s, o10 =>
 bif (decide (i < ((List.length o9) : Int))) then
 let q0 := (Option.getD (rec_s_l03Draw (Go.IntKind.wrap Go.IntKind.i64 (deep - (1 : Int))) own borrow s) default)
 let q1 := q0.2
 let q2 := q1.2
 let q3 := q2.2
 let q4 := [(M.SType.mk q0.1 q1.1 q3.1 q3.2)]
 bif ((decide (((List.length o10) + (List.length q4)) ≤ 1073741824)) && ((Option.isSome (rec_s_l03Draw (Go.IntKind.wrap Go.IntKind.i64 (deep - (1 : Int))) own borrow s)) && true)) then
 M.s_l03Draw_l1 rec_s_l03Draw deep own borrow t8 t82 t t2 o7 o8 o9 fuel (Go.IntKind.wrap Go.IntKind.i64 (i + (1 : Int))) q2.1 (o10 ++ q4)
 else
 none
 else
 some (((M.Sl00Src.code s), (M.Sl00Src.at_ s), (M.Sl00Src.seed s), t8, t82, t, t2, o7, o8, o9, o10))
def s_l03Draw_l2 (rec_s_l03Draw : Int → Bool → Bool → M.Sl00Src → Option (Int × (List UInt8) × M.Sl00Src × (List (List UInt8)) × (List M.SType))) (deep : Int) (own : Bool) (borrow : Bool) (t8 : Int) (t82 : (List UInt8)) (t : Int) (t2 : (List UInt8)) (o7 : (List (List UInt8))) (o8 : (List M.SType)) (o9 : (List (List UInt8))) : Nat → Int → M.Sl00Src → (List M.SType) → Option ((List UInt8) × Int × Int × Int × (List UInt8) × Int × (List UInt8) × (List (List UInt8)) × (List M.SType) × (List (List UInt8)) × (List M.SType))
 | 0, _, _, _ => none
 | fuel + 1, i, s, o10 =>
 bif (decide (i < ((List.length o9) : Int))) then
 let q0 := (M.s_l03Some rec_s_l03Draw (Go.IntKind.wrap Go.IntKind.i64 (deep - (1 : Int))) own borrow s)
 let q1 := (Option.getD q0 default)
 let q2 := q1.2
 let q3 := q2.2
 let q4 := q3.2
 let q5 := [(M.SType.mk q1.1 q2.1 q4.1 q4.2)]
 bif ((decide (((List.length o10) + (List.length q5)) ≤ 1073741824)) && ((Option.isSome q0) && true)) then
 M.s_l03Draw_l2 rec_s_l03Draw deep own borrow t8 t82 t t2 o7 o8 o9 fuel (Go.IntKind.wrap Go.IntKind.i64 (i + (1 : Int))) q3.1 (o10 ++ q5)
 else
 none
 else
 some (((M.Sl00Src.code s), (M.Sl00Src.at_ s), (M.Sl00Src.seed s), t8, t82, t, t2, o7, o8, o9, o10))
def s_l03Draw_b (rec_s_l03Draw : Int → Bool → Bool → M.Sl00Src → Option (Int × (List UInt8) × M.Sl00Src × (List (List UInt8)) × (List M.SType))) (deep : Int) (own : Bool) (borrow : Bool) (s : M.Sl00Src) : Option (Int × (List UInt8) × M.Sl00Src × (List (List UInt8)) × (List M.SType)) :=
 let q0 := (M.s_l00Src_pick (20 : Int) s)
 let q1 := (Option.getD q0 default).1
 bif ((decide (deep ≤ (1 : Int))) || (decide (q1 < (7 : Int)))) then
 bif own then
 let q2 := (Option.getD q0 default).2
 let q3 := (M.s_l00Src_one (5 : Int) q2)
 let q4 := (Option.getD q3 default)
 bif q4.1 then
 bif borrow then
 let q5 := q4.2
 let q6 := (M.s_l00Src_text [[(114 : UInt8), (101 : UInt8), (115 : UInt8)], [(102 : UInt8), (105 : UInt8), (108 : UInt8), (101 : UInt8)]] q5)
 let q7 := (Option.getD q6 default)
 let q8 := q7.2
 let q9 := (M.s_l00Src_one (2 : Int) q8)
 let q10 := (Option.getD q9 default)
 bif q10.1 then
 let q11 := ((Option.isSome q0) && true)
 let q12 := ((own == true) && (((Option.isSome q3) && (own == true)) && ((own == true) && q11)))
 let q13 := ((Option.isSome q6) && q12)
 let q14 := ((borrow == true) && (((Option.isSome q9) && (borrow == true)) && ((borrow == true) && q13)))
 bif q14 then
 let q15 := q7.1
 let q16 := q10.2
 some ((21 : Int), q15, q16, [], [])
 else
 none
 else
 let q11 := ((Option.isSome q0) && true)
 let q12 := ((own == true) && (((Option.isSome q3) && (own == true)) && ((own == true) && q11)))
 let q13 := ((Option.isSome q6) && q12)
 let q14 := ((borrow == true) && (((Option.isSome q9) && (borrow == true)) && ((borrow == true) && q13)))
 bif q14 then
 let q15 := q7.1
 let q16 := q10.2
 some ((20 : Int), q15, q16, [], [])
 else
 none
 else
 let q5 := q4.2
 let q6 := (M.s_l00Src_text [[(114 : UInt8), (101 : UInt8), (115 : UInt8)], [(102 : UInt8), (105 : UInt8), (108 : UInt8), (101 : UInt8)]] q5)
 let q7 := ((Option.isSome q0) && true)
 let q8 := ((own == true) && (((Option.isSome q3) && (own == true)) && ((own == true) && q7)))
 let q9 := ((Option.isSome q6) && q8)
 bif ((borrow == false) && ((borrow == false) && ((borrow == false) && q9))) then
 let q10 := (Option.getD q6 default)
 let q11 := q10.1
 let q12 := q10.2
 some ((20 : Int), q11, q12, [], [])
 else
 none
 else
 let q5 := [(2 : Int), (3 : Int), (4 : Int), (5 : Int), (6 : Int), (7 : Int), (8 : Int), (9 : Int), (10 : Int), (11 : Int), (11 : Int)]
 let q6 := q4.2
 let q7 := (M.s_l00Src_among q5 q6)
 let q8 := ((Option.isSome q0) && true)
 let q9 := ((own == true) && (((Option.isSome q3) && (own == true)) && ((own == true) && q8)))
 bif ((Option.isSome q7) && q9) then
 let q10 := (Option.getD q7 default)
 some (q10.1, [], q10.2, [], [])
 else
 none
 else
 let q2 := [(2 : Int), (3 : Int), (4 : Int), (5 : Int), (6 : Int), (7 : Int), (8 : Int), (9 : Int), (10 : Int), (11 : Int), (11 : Int)]
 let q3 := (Option.getD q0 default).2
 let q4 := (M.s_l00Src_among q2 q3)
 let q5 := ((Option.isSome q0) && true)
 bif ((Option.isSome q4) && ((own == false) && ((own == false) && ((own == false) && q5)))) then
 let q6 := (Option.getD q4 default)
 some (q6.1, [], q6.2, [], [])
 else
 none
 else
 let q2 := (q1 == (7 : Int))
 bif (bif q2 then q2 else (q1 == (8 : Int))) then
 let q3 := (Option.getD q0 default).2
 let q4 := (Option.isSome (rec_s_l03Draw (Go.IntKind.wrap Go.IntKind.i64 (deep - (1 : Int))) own borrow q3))
 let q5 := ((Option.isSome q0) && true)
 let q6 := ((q5 || (!q2)) && (q5 || q2))
 bif (q4 && q6) then
 let q7 := default
 let q8 := (Option.getD (rec_s_l03Draw (Go.IntKind.wrap Go.IntKind.i64 (deep - (1 : Int))) own borrow q3) q7)
 let q9 := q8.2
 let q10 := q9.2
 let q11 := q10.1
 let q12 := q10.2
 let q13 := [(M.SType.mk q8.1 q9.1 q12.1 q12.2)]
 some ((12 : Int), [], q11, [], q13)
 else
 none
 else
 let q3 := (q1 == (9 : Int))
 bif (bif q3 then q3 else (q1 == (10 : Int))) then
 let q4 := (Option.getD q0 default).2
 let q5 := (Option.isSome (rec_s_l03Draw (Go.IntKind.wrap Go.IntKind.i64 (deep - (1 : Int))) own borrow q4))
 let q6 := ((Option.isSome q0) && true)
 let q7 := ((q6 || (!q2)) && (q6 || q2))
 let q8 := ((q7 || (!q3)) && (q7 || q3))
 bif (q5 && q8) then
 let q9 := default
 let q10 := (Option.getD (rec_s_l03Draw (Go.IntKind.wrap Go.IntKind.i64 (deep - (1 : Int))) own borrow q4) q9)
 let q11 := q10.2
 let q12 := q11.2
 let q13 := q12.1
 let q14 := q12.2
 let q15 := [(M.SType.mk q10.1 q11.1 q14.1 q14.2)]
 some ((13 : Int), [], q13, [], q15)
 else
 none
 else
 let q4 := (q1 == (11 : Int))
 bif (bif q4 then q4 else (q1 == (12 : Int))) then
 let q5 := (Option.getD q0 default).2
 let q6 := (M.s_l03Some rec_s_l03Draw (Go.IntKind.wrap Go.IntKind.i64 (deep - (1 : Int))) own borrow q5)
 let q7 := default
 let q8 := (Option.getD q6 q7)
 let q9 := q8.2
 let q10 := q9.2
 let q11 := (M.s_l03Some rec_s_l03Draw (Go.IntKind.wrap Go.IntKind.i64 (deep - (1 : Int))) own borrow q10.1)
 let q12 := ((Option.isSome q0) && true)
 let q13 := ((q12 || (!q2)) && (q12 || q2))
 let q14 := ((q13 || (!q3)) && (q13 || q3))
 let q15 := ((q14 || (!q4)) && (q14 || q4))
 bif ((Option.isSome q11) && ((Option.isSome q6) && q15)) then
 let q16 := (Option.getD q11 q7)
 let q17 := q16.2
 let q18 := q17.2
 let q19 := q10.2
 let q20 := q18.2
 some ((14 : Int), [], q18.1, [], [(M.SType.mk q8.1 q9.1 q19.1 q19.2), (M.SType.mk q16.1 q17.1 q20.1 q20.2)])
 else
 none
 else
 bif (q1 == (13 : Int)) then
 let q5 := (Option.getD q0 default).2
 let q6 := (M.s_l00Src_pick (3 : Int) q5)
 let q7 := (Option.getD q6 default)
 let q8 := (Go.IntKind.wrap Go.IntKind.i64 ((1 : Int) + q7.1))
 let q9 := q7.2
 match (M.s_l03Draw_l0 rec_s_l03Draw deep own borrow (0 : Int) [] (15 : Int) [] [] [] [] Go.V.bigN q8 q9 []) with
 | none => none
 | some y10 =>
 let q11 := (Option.isSome q6)
 let q12 := ((Option.isSome q0) && true)
 let q13 := ((q12 || (!q2)) && (q12 || q2))
 let q14 := ((q13 || (!q3)) && (q13 || q3))
 let q15 := ((q14 || (!q4)) && (q14 || q4))
 bif (q11 && q15) then
 let q16 := y10.2
 let q17 := q16.2
 let q18 := q17.2.2.2
 let q19 := q18.2
 let q20 := q19.2.2.2
 some (q18.1, q19.1, (M.Sl00Src.mk y10.1 q16.1 q17.1), q20.1, q20.2)
 else
 none
 else
 let q5 := (q1 == (14 : Int))
 bif (bif q5 then q5 else (q1 == (15 : Int))) then
 let q6 := (Option.getD q0 default).2
 let q7 := (M.s_l00Src_pick (3 : Int) q6)
 let q8 := (Option.getD q7 default)
 let q9 := (Go.IntKind.wrap Go.IntKind.i64 ((1 : Int) + q8.1))
 let q10 := q8.2
 let q11 := (M.s_l03Unlike q9 q10)
 let q12 := (Option.getD q11 default)
 let q13 := q12.2
 let q14 := q12.1
 match (M.s_l03Draw_l1 rec_s_l03Draw deep own borrow (0 : Int) [] (16 : Int) [] [] [] q13 Go.V.bigN (0 : Int) q14 []) with
 | none => none
 | some y15 =>
 let q16 := (Option.isSome q11)
 let q17 := (Option.isSome q7)
 let q18 := ((Option.isSome q0) && true)
 let q19 := ((q18 || (!q2)) && (q18 || q2))
 let q20 := ((q19 || (!q3)) && (q19 || q3))
 let q21 := ((q20 || (!q4)) && (q20 || q4))
 let q22 := ((q21 || (!q5)) && (q21 || q5))
 bif (q16 && (q17 && q22)) then
 let q23 := y15.2
 let q24 := q23.2
 let q25 := q24.2.2.2
 let q26 := q25.2
 let q27 := q26.2.2.2
 some (q25.1, q26.1, (M.Sl00Src.mk y15.1 q23.1 q24.1), q27.1, q27.2)
 else
 none
 else
 let q6 := (q1 == (16 : Int))
 bif (bif q6 then q6 else (q1 == (17 : Int))) then
 let q7 := (Option.getD q0 default).2
 let q8 := (M.s_l00Src_pick (3 : Int) q7)
 let q9 := (Option.getD q8 default)
 let q10 := (Go.IntKind.wrap Go.IntKind.i64 ((1 : Int) + q9.1))
 let q11 := q9.2
 let q12 := (M.s_l03Unlike q10 q11)
 let q13 := (Option.getD q12 default)
 let q14 := q13.2
 let q15 := q13.1
 match (M.s_l03Draw_l2 rec_s_l03Draw deep own borrow (0 : Int) [] (17 : Int) [] [] [] q14 Go.V.bigN (0 : Int) q15 []) with
 | none => none
 | some y16 =>
 let q17 := (Option.isSome q12)
 let q18 := (Option.isSome q8)
 let q19 := ((Option.isSome q0) && true)
 let q20 := ((q19 || (!q2)) && (q19 || q2))
 let q21 := ((q20 || (!q3)) && (q20 || q3))
 let q22 := ((q21 || (!q4)) && (q21 || q4))
 let q23 := ((q22 || (!q5)) && (q22 || q5))
 let q24 := ((q23 || (!q6)) && (q23 || q6))
 bif (q17 && (q18 && q24)) then
 let q25 := y16.2
 let q26 := q25.2
 let q27 := q26.2.2.2
 let q28 := q27.2
 let q29 := q28.2.2.2
 some (q27.1, q28.1, (M.Sl00Src.mk y16.1 q25.1 q26.1), q29.1, q29.2)
 else
 none
 else
 bif (q1 == (18 : Int)) then
 let q7 := (Option.getD q0 default).2
 let q8 := (M.s_l00Src_pick (4 : Int) q7)
 let q9 := (Option.getD q8 default)
 let q10 := (M.s_l03Unlike (Go.IntKind.wrap Go.IntKind.i64 ((1 : Int) + q9.1)) q9.2)
 let q11 := ((Option.isSome q0) && true)
 let q12 := ((q11 || (!q2)) && (q11 || q2))
 let q13 := ((q12 || (!q3)) && (q12 || q3))
 let q14 := ((q13 || (!q4)) && (q13 || q4))
 let q15 := ((q14 || (!q5)) && (q14 || q5))
 let q16 := ((q15 || (!q6)) && (q15 || q6))
 let q17 := ((Option.isSome q10) && ((Option.isSome q8) && q16))
 bif q17 then
 let q18 := (Option.getD q10 default)
 let q19 := q18.1
 let q20 := q18.2
 some ((18 : Int), [], q19, q20, [])
 else
 none
 else
 let q7 := (Option.getD q0 default).2
 let q8 := (M.s_l00Src_pick (4 : Int) q7)
 let q9 := (Option.getD q8 default)
 let q10 := (M.s_l03Unlike (Go.IntKind.wrap Go.IntKind.i64 ((1 : Int) + q9.1)) q9.2)
 let q11 := ((Option.isSome q0) && true)
 let q12 := ((q11 || (!q2)) && (q11 || q2))
 let q13 := ((q12 || (!q3)) && (q12 || q3))
 let q14 := ((q13 || (!q4)) && (q13 || q4))
 let q15 := ((q14 || (!q5)) && (q14 || q5))
 let q16 := ((q15 || (!q6)) && (q15 || q6))
 let q17 := ((Option.isSome q10) && ((Option.isSome q8) && q16))
 bif q17 then
 let q18 := (Option.getD q10 default)
 let q19 := q18.1
 let q20 := q18.2
 some ((19 : Int), [], q19, q20, [])
 else
 none
def s_l03Draw_n : Nat → Int → Bool → Bool → M.Sl00Src → Option (Int × (List UInt8) × M.Sl00Src × (List (List UInt8)) × (List M.SType))
 | 0 => fun _ _ _ _ => none
 | n + 1 => s_l03Draw_b (s_l03Draw_n n)
def s_l03Draw : Int → Bool → Bool → M.Sl00Src → Option (Int × (List UInt8) × M.Sl00Src × (List (List UInt8)) × (List M.SType)) := s_l03Draw_n Go.V.bigN
def s_l03Any_l0 (t2 : Int) (t22 : (List UInt8)) (o6 : (List (List UInt8))) (o7 : (List M.SType)) : Nat → Int → Int → (List UInt8) → (List (List UInt8)) → (List M.SType) → Option (Int × (List UInt8) × Int × (List UInt8) × (List (List UInt8)) × (List M.SType) × (List (List UInt8)) × (List M.SType))
 | 0, _, _, _, _, _ => none
 | fuel + 1, k, t, t3, o8, o9 =>
 bif (decide ((0 : Int) ≤ k)) then
 M.s_l03Any_l0 t2 t22 o6 o7 fuel (Go.IntKind.wrap Go.IntKind.i64 (k - (1 : Int))) (13 : Int) [] [] [(M.SType.mk t t3 o8 o9)]
 else
 some ((t2, t22, t, t3, o6, o7, o8, o9))
def s_l03Any (s : M.Sl00Src) : Option (Int × (List UInt8) × M.Sl00Src × (List (List UInt8)) × (List M.SType)) :=
 let q0 := (M.s_l00Src_pick (4 : Int) s)
 let q1 := (M.s_l03Draw (Go.IntKind.wrap Go.IntKind.i64 ((1 : Int) + (Option.getD q0 default).1)) true true (Option.getD q0 default).2)
 let q2 := default
 let q3 := (Option.getD q1 q2)
 let q4 := q3.2
 let q5 := q4.2
 let q6 := (M.s_l00Src_pick (12 : Int) q5.1)
 let q7 := (Option.getD q6 default)
 let q8 := q7.1
 bif (q8 == (0 : Int)) then
 let q9 := q7.2
 let q10 := (M.s_l00Src_pick (25 : Int) q9)
 let q11 := ((Option.isSome q6) && ((Option.isSome q1) && ((Option.isSome q0) && true)))
 bif ((Option.isSome q10) && q11) then
 let q12 := (Option.getD q10 default)
 let q13 := q4.1
 let q14 := q5.2
 let q15 := q14.1
 let q16 := q14.2
 some (q12.1, q13, q12.2, q15, q16)
 else
 none
 else
 bif (q8 == (1 : Int)) then
 let q9 := q5.2
 let q10 := q9.2
 let q11 := q7.2
 let q12 := (M.s_l00Src_pick (24 : Int) q11)
 let q13 := (Option.getD q12 default)
 let q14 := [(M.SType.mk q13.1 [] [] [])]
 let q15 := ((Option.isSome q6) && ((Option.isSome q1) && ((Option.isSome q0) && true)))
 bif ((decide (((List.length q10) + (List.length q14)) ≤ 1073741824)) && ((Option.isSome q12) && q15)) then
 let q16 := q3.1
 let q17 := q4.1
 let q18 := q9.1
 some (q16, q17, q13.2, q18, (q10 ++ q14))
 else
 none
 else
 bif (q8 == (2 : Int)) then
 let q9 := q5.2
 let q10 := q9.1
 let q11 := q7.2
 let q12 := (M.s_l00Src_text [[(97 : UInt8)], [(66 : UInt8)], [(45 : UInt8)], [(113 : UInt8)]] q11)
 let q13 := (Option.getD q12 default)
 let q14 := [q13.1]
 let q15 := ((Option.isSome q6) && ((Option.isSome q1) && ((Option.isSome q0) && true)))
 bif ((decide (((List.length q10) + (List.length q14)) ≤ 1073741824)) && ((Option.isSome q12) && q15)) then
 let q16 := q3.1
 let q17 := q4.1
 let q18 := q9.2
 some (q16, q17, q13.2, (q10 ++ q14), q18)
 else
 none
 else
 bif (q8 == (3 : Int)) then
 let q9 := q7.2
 let q10 := (M.s_l00Src_text [[(114 : UInt8), (101 : UInt8), (115 : UInt8)], [(97 : UInt8), (45 : UInt8), (45 : UInt8), (98 : UInt8)], [(97 : UInt8), (45 : UInt8)]] q9)
 let q11 := ((Option.isSome q6) && ((Option.isSome q1) && ((Option.isSome q0) && true)))
 bif ((Option.isSome q10) && q11) then
 let q12 := q3.1
 let q13 := (Option.getD q10 default)
 let q14 := q5.2
 let q15 := q14.1
 let q16 := q14.2
 some (q12, q13.1, q13.2, q15, q16)
 else
 none
 else
 bif (q8 == (4 : Int)) then
 let q9 := q7.2
 let q10 := (M.s_l03Some M.s_l03Draw (2 : Int) true true q9)
 let q11 := ((Option.isSome q6) && ((Option.isSome q1) && ((Option.isSome q0) && true)))
 bif ((Option.isSome q10) && q11) then
 let q12 := (Option.getD q10 q2)
 let q13 := q12.2
 let q14 := q13.2
 let q15 := q14.2
 some ((22 : Int), [], q14.1, [], [(M.SType.mk q12.1 q13.1 q15.1 q15.2)])
 else
 none
 else
 bif (q8 == (5 : Int)) then
 let q9 := q7.2
 let q10 := (M.s_l00Src_pick (4 : Int) q9)
 let q11 := (Option.getD q10 default)
 let q12 := q3.1
 let q13 := q4.1
 let q14 := q5.2
 let q15 := q14.1
 let q16 := q14.2
 match (M.s_l03Any_l0 (0 : Int) [] [] [] Go.V.bigN q11.1 q12 q13 q15 q16) with
 | none => none
 | some y17 =>
 let q18 := ((Option.isSome q6) && ((Option.isSome q1) && ((Option.isSome q0) && true)))
 bif ((Option.isSome q10) && q18) then
 let q19 := y17.2.2
 let q20 := q19.2
 let q21 := q20.2.2.2
 some (q19.1, q20.1, q11.2, q21.1, q21.2)
 else
 none
 else
 bif (q8 == (6 : Int)) then
 let q9 := q7.2
 let q10 := (M.s_l00Src_pick (3 : Int) q9)
 let q11 := ((Option.isSome q6) && ((Option.isSome q1) && ((Option.isSome q0) && true)))
 bif ((Option.isSome q10) && q11) then
 let q12 := (Option.getD q10 default)
 some ((Go.IntKind.wrap Go.IntKind.i64 (q12.1 + (1 : Int))), [], q12.2, [], [])
 else
 none
 else
 let q9 := ((Option.isSome q6) && ((Option.isSome q1) && ((Option.isSome q0) && true)))
 bif q9 then
 let q10 := q3.1
 let q11 := q4.1
 let q12 := q7.2
 let q13 := q5.2
 let q14 := q13.1
 let q15 := q13.2
 some (q10, q11, q12, q14, q15)
 else
 none
def s_DrawTypeText (code : (List UInt8)) : Option (Int × (List UInt8) × (List (List UInt8)) × (List M.SType)) :=
 let q0 := (M.s_l03Any (M.Sl00Src.mk code (0 : Int) (0 : Int)))
 bif ((Option.isSome q0) && true) then
 let q1 := (Option.getD q0 default)
 let q2 := q1.2
 let q3 := q2.2.2
 some (q1.1, q2.1, q3.1, q3.2)
 else
 none
def s_l03Texts_l0 (a : (List (List UInt8))) (b : (List (List UInt8))) : Nat → Int → Option ((Bool) ⊕ (Unit))
 | 0, _ => none
 | fuel + 1, i =>
 bif (decide (i < ((List.length a) : Int))) then
 bif (!((List.getD a (Int.toNat i) []) == (List.getD b (Int.toNat i) []))) then
 let q0 := ((Go.V.inB i (List.length b)) && ((Go.V.inB i (List.length a)) && true))
 bif q0 then
 some (.inl false)
 else
 none
 else
 let q0 := ((Go.V.inB i (List.length b)) && ((Go.V.inB i (List.length a)) && true))
 bif q0 then
 M.s_l03Texts_l0 a b fuel (Go.IntKind.wrap Go.IntKind.i64 (i + (1 : Int)))
 else
 none
 else
 some ((.inr (())))
def s_l03Texts (a : (List (List UInt8))) (b : (List (List UInt8))) : Option (Bool) :=
 bif (((List.length a) : Int) != ((List.length b) : Int)) then
 some false
 else
 match (M.s_l03Texts_l0 a b Go.V.bigN (0 : Int)) with
 | none => none
 | some y0 =>
 (match y0 with
 | .inl a1 =>
 some a1
 | .inr b1 =>
 some true)
def s_l03Same_l0 (rec_s_l03Same : M.SType → M.SType → Int → Option (Bool)) (deep : Int) : Nat → Int → M.SType → M.SType → Option ((Bool) ⊕ (Unit))
 | 0, _, _, _ => none
 | fuel + 1, i, a, b =>
 bif (decide (i < ((List.length (M.SType.Kids a)) : Int))) then
 bif (!(Option.getD (rec_s_l03Same (M.SType.re (List.getD (M.SType.Kids a) (Int.toNat i) M.SType.zero)) (M.SType.re (List.getD (M.SType.Kids b) (Int.toNat i) M.SType.zero)) (Go.IntKind.wrap Go.IntKind.i64 (deep + (1 : Int)))) default)) then
 let q0 := ((Option.isSome (rec_s_l03Same (M.SType.re (List.getD (M.SType.Kids a) (Int.toNat i) M.SType.zero)) (M.SType.re (List.getD (M.SType.Kids b) (Int.toNat i) M.SType.zero)) (Go.IntKind.wrap Go.IntKind.i64 (deep + (1 : Int))))) && ((Go.V.inB i (List.length (M.SType.Kids b))) && ((Go.V.inB i (List.length (M.SType.Kids a))) && true)))
 bif q0 then
 some (.inl false)
 else
 none
 else
 let q0 := ((Option.isSome (rec_s_l03Same (M.SType.re (List.getD (M.SType.Kids a) (Int.toNat i) M.SType.zero)) (M.SType.re (List.getD (M.SType.Kids b) (Int.toNat i) M.SType.zero)) (Go.IntKind.wrap Go.IntKind.i64 (deep + (1 : Int))))) && ((Go.V.inB i (List.length (M.SType.Kids b))) && ((Go.V.inB i (List.length (M.SType.Kids a))) && true)))
 bif q0 then
 M.s_l03Same_l0 rec_s_l03Same deep fuel (Go.IntKind.wrap Go.IntKind.i64 (i + (1 : Int))) (M.SType.re a) (M.SType.re b)
 else
 none
 else
 some ((.inr (())))
def s_l03Same_b (rec_s_l03Same : M.SType → M.SType → Int → Option (Bool)) (a : M.SType) (b : M.SType) (deep : Int) : Option (Bool) :=
 let q0 := (((decide ((100 : Int) < deep)) || ((M.SType.Kind a) != (M.SType.Kind b))) || (!((M.SType.Name a) == (M.SType.Name b))))
 let q1 := (M.s_l03Texts (M.SType.Labels a) (M.SType.Labels b))
 bif ((q0 || (!(Option.getD q1 default))) || (((List.length (M.SType.Kids a)) : Int) != ((List.length (M.SType.Kids b)) : Int))) then
 let q2 := (((Option.isSome q1) || (!(q0 == false))) && true)
 bif q2 then
 some false
 else
 none
 else
 match (M.s_l03Same_l0 rec_s_l03Same deep Go.V.bigN (0 : Int) (M.SType.re a) (M.SType.re b)) with
 | none => none
 | some y2 =>
 (match y2 with
 | .inl a3 =>
 let q4 := (((Option.isSome q1) || (!(q0 == false))) && true)
 bif q4 then
 some a3
 else
 none
 | .inr b3 =>
 let q4 := (((Option.isSome q1) || (!(q0 == false))) && true)
 bif q4 then
 some true
 else
 none)
def s_l03Same_n : Nat → M.SType → M.SType → Int → Option (Bool)
 | 0 => fun _ _ _ => none
 | n + 1 => s_l03Same_b (s_l03Same_n n)
def s_l03Same : M.SType → M.SType → Int → Option (Bool) := s_l03Same_n Go.V.bigN
def s_SameType (a : M.SType) (b : M.SType) : Option (Bool) :=
 let q0 := (M.s_l03Same (M.SType.re a) (M.SType.re b) (1 : Int))
 bif ((Option.isSome q0) && true) then
 some (Option.getD q0 default)
 else
 none
def s_l03DrawFunc_l0 (own : Bool) (t4 : Int) (t42 : (List UInt8)) (t43 : Bool) (f : Int) (f2 : (List UInt8)) (f3 : Bool) (names : (List (List UInt8))) (o11 : (List M.SParam)) (o12 : (List (List UInt8))) (o13 : (List M.SType)) (o15 : (List (List UInt8))) (o16 : (List M.SType)) : Nat → Int → M.Sl00Src → (List M.SParam) → Option ((List UInt8) × Int × Int × Int × (List UInt8) × Bool × Int × (List UInt8) × Bool × (List M.SParam) × (List (List UInt8)) × (List M.SType) × (List M.SParam) × (List (List UInt8)) × (List M.SType))
 | 0, _, _, _ => none
 | fuel + 1, i, s, o14 =>
 bif (decide (i < ((List.length names) : Int))) then
 let q0 := (M.s_l03Draw (3 : Int) own own s)
 let q1 := (Option.getD q0 default)
 let q2 := q1.2
 let q3 := q2.2
 let q4 := q3.2
 let q5 := [(M.SParam.mk (List.getD names (Int.toNat i) []) (M.SType.mk q1.1 q2.1 q4.1 q4.2))]
 bif ((decide (((List.length o14) + (List.length q5)) ≤ 1073741824)) && ((Option.isSome q0) && ((Go.V.inB i (List.length names)) && true))) then
 M.s_l03DrawFunc_l0 own t4 t42 t43 f f2 f3 names o11 o12 o13 o15 o16 fuel (Go.IntKind.wrap Go.IntKind.i64 (i + (1 : Int))) q3.1 (o14 ++ q5)
 else
 none
 else
 some (((M.Sl00Src.code s), (M.Sl00Src.at_ s), (M.Sl00Src.seed s), t4, t42, t43, f, f2, f3, o11, o12, o13, o14, o15, o16))
def s_l03DrawFunc (own : Bool) (s : M.Sl00Src) : Option (Int × (List UInt8) × Bool × M.Sl00Src × (List M.SParam) × (List (List UInt8)) × (List M.SType)) :=
 let q0 := (M.s_l03Some M.s_l03Draw (3 : Int) own false s)
 let q1 := (Option.getD q0 default)
 let q2 := q1.2
 let q3 := q2.2
 let q4 := (M.s_l00Src_one (6 : Int) q3.1)
 let q5 := (Option.getD q4 default)
 let q6 := (M.s_l00Src_pick (4 : Int) q5.2)
 let q7 := (Option.getD q6 default)
 let q8 := (M.s_l03Unlike q7.1 q7.2)
 let q9 := (Option.getD q8 default)
 let q10 := q3.2
 match (M.s_l03DrawFunc_l0 own (0 : Int) [] false q1.1 q2.1 q5.1 q9.2 [] [] [] q10.1 q10.2 Go.V.bigN (0 : Int) q9.1 []) with
 | none => none
 | some y11 =>
 bif ((Option.isSome q8) && ((Option.isSome q6) && ((Option.isSome q4) && ((Option.isSome q0) && true)))) then
 let q12 := y11.2
 let q13 := q12.2
 let q14 := q13.2.2.2.2
 let q15 := q14.2
 let q16 := q15.2
 let q17 := q16.2.2.2.2
 let q18 := q17.2
 some (q14.1, q15.1, q16.1, (M.Sl00Src.mk y11.1 q12.1 q13.1), q17.1, q18.1, q18.2)
 else
 none
def s_l03AnyFunc (s : M.Sl00Src) : Option (Int × (List UInt8) × Bool × M.Sl00Src × (List M.SParam) × (List (List UInt8)) × (List M.SType)) :=
 let q0 := (M.s_l03DrawFunc true s)
 let q1 := (Option.getD q0 default)
 let q2 := q1.2
 let q3 := q2.2
 let q4 := q3.2
 let q5 := (M.s_l00Src_pick (10 : Int) q4.1)
 let q6 := (Option.getD q5 default)
 let q7 := q6.1
 bif (q7 == (0 : Int)) then
 let q8 := q6.2
 let q9 := (M.s_l03Any q8)
 let q10 := ((Option.isSome q5) && ((Option.isSome q0) && true))
 bif ((Option.isSome q9) && q10) then
 let q11 := default
 let q12 := (Option.getD q9 q11)
 let q13 := q12.2
 let q14 := q3.1
 let q15 := q13.2
 let q16 := q4.2
 let q17 := q16.1
 let q18 := q15.2
 some (q12.1, q13.1, q14, q15.1, q17, q18.1, q18.2)
 else
 none
 else
 bif (q7 == (1 : Int)) then
 let q8 := q4.2
 let q9 := q8.1
 let q10 := q6.2
 let q11 := (M.s_l00Src_text [[(97 : UInt8)], [(98 : UInt8)], []] q10)
 let q12 := (Option.getD q11 default)
 let q13 := (M.s_l03Any q12.2)
 let q14 := default
 let q15 := (Option.getD q13 q14)
 let q16 := q15.2
 let q17 := q16.2
 let q18 := q17.2
 let q19 := [(M.SParam.mk q12.1 (M.SType.mk q15.1 q16.1 q18.1 q18.2))]
 let q20 := ((Option.isSome q5) && ((Option.isSome q0) && true))
 bif ((decide (((List.length q9) + (List.length q19)) ≤ 1073741824)) && ((Option.isSome q13) && ((Option.isSome q11) && q20))) then
 let q21 := q1.1
 let q22 := q2.1
 let q23 := q3.1
 let q24 := q8.2
 let q25 := q24.1
 let q26 := q24.2
 some (q21, q22, q23, q17.1, (q9 ++ q19), q25, q26)
 else
 none
 else
 let q8 := ((Option.isSome q5) && ((Option.isSome q0) && true))
 bif q8 then
 let q9 := q1.1
 let q10 := q2.1
 let q11 := q3.1
 let q12 := q6.2
 let q13 := q4.2
 let q14 := q13.1
 let q15 := q13.2
 let q16 := q15.1
 let q17 := q15.2
 some (q9, q10, q11, q12, q14, q16, q17)
 else
 none
def s_DrawFuncText (code : (List UInt8)) : Option (Int × (List UInt8) × Bool × (List M.SParam) × (List (List UInt8)) × (List M.SType)) :=
 let q0 := (M.s_l03AnyFunc (M.Sl00Src.mk code (0 : Int) (0 : Int)))
 bif ((Option.isSome q0) && true) then
 let q1 := (Option.getD q0 default)
 let q2 := q1.2
 let q3 := q2.2
 let q4 := q3.2.2
 let q5 := q4.2
 some (q1.1, q2.1, q3.1, q4.1, q5.1, q5.2)
 else
 none
def s_FuncOk (f : M.SFuncType) : Option (Bool) :=
 let q0 := (M.s_l03Func (M.SFuncType.re f))
 bif ((Option.isSome q0) && true) then
 some (Option.getD q0 default)
 else
 none
def s_SameFunc_l0 : Nat → Int → M.SFuncType → M.SFuncType → Option ((Bool) ⊕ (Unit))
 | 0, _, _, _ => none
 | fuel + 1, i, a, b =>
 bif (decide (i < ((List.length (M.SFuncType.Params a)) : Int))) then
 let q0 := (!((M.SParam.Name (List.getD (M.SFuncType.Params a) (Int.toNat i) M.SParam.zero)) == (M.SParam.Name (List.getD (M.SFuncType.Params b) (Int.toNat i) M.SParam.zero))))
 let q1 := (M.s_SameType (M.SType.re (M.SParam.Type_ (List.getD (M.SFuncType.Params a) (Int.toNat i) M.SParam.zero))) (M.SType.re (M.SParam.Type_ (List.getD (M.SFuncType.Params b) (Int.toNat i) M.SParam.zero))))
 bif (q0 || (!(Option.getD q1 default))) then
 let q2 := (!(q0 == false))
 let q3 := (((Option.isSome q1) || q2) && (((Go.V.inB i (List.length (M.SFuncType.Params b))) || q2) && (((Go.V.inB i (List.length (M.SFuncType.Params a))) || q2) && ((Go.V.inB i (List.length (M.SFuncType.Params b))) && ((Go.V.inB i (List.length (M.SFuncType.Params a))) && true)))))
 bif q3 then
 some (.inl false)
 else
 none
 else
 let q2 := (!(q0 == false))
 let q3 := (((Option.isSome q1) || q2) && (((Go.V.inB i (List.length (M.SFuncType.Params b))) || q2) && (((Go.V.inB i (List.length (M.SFuncType.Params a))) || q2) && ((Go.V.inB i (List.length (M.SFuncType.Params b))) && ((Go.V.inB i (List.length (M.SFuncType.Params a))) && true)))))
 bif q3 then
 M.s_SameFunc_l0 fuel (Go.IntKind.wrap Go.IntKind.i64 (i + (1 : Int))) (M.SFuncType.re a) (M.SFuncType.re b)
 else
 none
 else
 some ((.inr (())))
def s_SameFunc (a : M.SFuncType) (b : M.SFuncType) : Option (Bool) :=
 let q0 := ((((List.length (M.SFuncType.Params a)) : Int) != ((List.length (M.SFuncType.Params b)) : Int)) || (!((M.SFuncType.Async a) == (M.SFuncType.Async b))))
 let q1 := (M.s_SameType (M.SType.re (M.SFuncType.Result a)) (M.SType.re (M.SFuncType.Result b)))
 bif (q0 || (!(Option.getD q1 default))) then
 let q2 := (((Option.isSome q1) || (!(q0 == false))) && true)
 bif q2 then
 some false
 else
 none
 else
 match (M.s_SameFunc_l0 Go.V.bigN (0 : Int) (M.SFuncType.re a) (M.SFuncType.re b)) with
 | none => none
 | some y2 =>
 (match y2 with
 | .inl a3 =>
 let q4 := (((Option.isSome q1) || (!(q0 == false))) && true)
 bif q4 then
 some a3
 else
 none
 | .inr b3 =>
 let q4 := (((Option.isSome q1) || (!(q0 == false))) && true)
 bif q4 then
 some true
 else
 none)
def s_TypeText (t : M.SType) : Option ((List UInt8)) :=
 let q0 := (M.s_l03Ok (M.SType.re t))
 bif (!(Option.getD q0 default)) then
 bif ((Option.isSome q0) && true) then
 some []
 else
 none
 else
 let q1 := (M.s_l03Text (M.SType.re t))
 bif ((Option.isSome q1) && ((Option.isSome q0) && true)) then
 some (Option.getD q1 default)
 else
 none
def s_DrawReadType (code : (List UInt8)) : Option ((List UInt8)) :=
 let q0 := (M.s_l03Any (M.Sl00Src.mk code (0 : Int) (0 : Int)))
 let q1 := (Option.getD q0 default)
 let q2 := q1.2
 let q3 := q2.2
 let q4 := (M.s_l00Src_pick (8 : Int) q3.1)
 let q5 := (Option.getD q4 default)
 let q6 := q5.1
 bif (q6 == (0 : Int)) then
 let q7 := q3.2
 let q8 := (M.s_TypeText (M.SType.mk q1.1 q2.1 q7.1 q7.2))
 let q9 := (Option.getD q8 default)
 let q10 := q5.2
 let q11 := (M.s_l00Src_text [[(32 : UInt8)], [(62 : UInt8)], [(44 : UInt8)], [(125 : UInt8)]] q10)
 let q12 := (Option.getD q11 default).1
 let q13 := ((Option.isSome q4) && ((Option.isSome q8) && ((Option.isSome q0) && true)))
 bif ((Go.V.catB q9 q12) && ((Option.isSome q11) && q13)) then
 some (q9 ++ q12)
 else
 none
 else
 bif (q6 == (1 : Int)) then
 let q7 := [(117 : UInt8), (110 : UInt8), (105 : UInt8), (116 : UInt8), (62 : UInt8)]
 let q8 := [(123 : UInt8), (97 : UInt8), (58 : UInt8), (117 : UInt8), (110 : UInt8), (105 : UInt8), (116 : UInt8), (125 : UInt8)]
 let q9 := q5.2
 let q10 := (M.s_l00Src_text [[], [(108 : UInt8), (105 : UInt8), (115 : UInt8), (116 : UInt8)], [(108 : UInt8), (105 : UInt8), (115 : UInt8), (116 : UInt8), (60 : UInt8), (62 : UInt8)], [(108 : UInt8), (105 : UInt8), (115 : UInt8), (116 : UInt8), (60 : UInt8), (117 : UInt8), (110 : UInt8), (105 : UInt8), (116 : UInt8), (62 : UInt8)], [(114 : UInt8), (101 : UInt8), (99 : UInt8), (111 : UInt8), (114 : UInt8), (100 : UInt8), (123 : UInt8), (125 : UInt8)], [(114 : UInt8), (101 : UInt8), (99 : UInt8), (111 : UInt8), (114 : UInt8), (100 : UInt8), (123 : UInt8), (97 : UInt8), (125 : UInt8)], [(114 : UInt8), (101 : UInt8), (99 : UInt8), (111 : UInt8), (114 : UInt8), (100 : UInt8), (123 : UInt8), (97 : UInt8), (58 : UInt8), (117 : UInt8), (110 : UInt8), (105 : UInt8), (116 : UInt8), (125 : UInt8)], [(118 : UInt8), (97 : UInt8), (114 : UInt8), (105 : UInt8), (97 : UInt8), (110 : UInt8), (116 : UInt8), (123 : UInt8), (97 : UInt8), (58 : UInt8), (117 : UInt8), (110 : UInt8), (105 : UInt8), (116 : UInt8), (125 : UInt8)], [(118 : UInt8), (97 : UInt8), (114 : UInt8), (105 : UInt8), (97 : UInt8), (110 : UInt8), (116 : UInt8), (123 : UInt8), (97 : UInt8), (44 : UInt8), (97 : UInt8), (125 : UInt8)], [(111 : UInt8), (119 : UInt8), (110 : UInt8), (60 : UInt8), (62 : UInt8)], [(111 : UInt8), (119 : UInt8), (110 : UInt8), (60 : UInt8), (65 : UInt8), (62 : UInt8)], [(114 : UInt8), (101 : UInt8), (115 : UInt8), (117 : UInt8), (108 : UInt8), (116 : UInt8), (60 : UInt8), (117 : UInt8), (110 : UInt8), (105 : UInt8), (116 : UInt8), (44 : UInt8), (117 : UInt8), (110 : UInt8), (105 : UInt8), (116 : UInt8), (62 : UInt8)], [(116 : UInt8), (117 : UInt8), (112 : UInt8), (108 : UInt8), (101 : UInt8), (60 : UInt8), (117 : UInt8), (56 : UInt8), (44 : UInt8), (62 : UInt8)], [(108 : UInt8), (105 : UInt8), (115 : UInt8), (116 : UInt8), (60 : UInt8), (108 : UInt8), (105 : UInt8), (115 : UInt8), (116 : UInt8), (60 : UInt8), (108 : UInt8), (105 : UInt8), (115 : UInt8), (116 : UInt8), (60 : UInt8), (108 : UInt8), (105 : UInt8), (115 : UInt8), (116 : UInt8), (60 : UInt8), (117 : UInt8), (56 : UInt8), (62 : UInt8), (62 : UInt8), (62 : UInt8), (62 : UInt8)], [(101 : UInt8), (110 : UInt8), (117 : UInt8), (109 : UInt8), (123 : UInt8), (97 : UInt8), (44 : UInt8), (98 : UInt8), (44 : UInt8), (125 : UInt8)], [(117 : UInt8), (56 : UInt8), (32 : UInt8)], [(115 : UInt8), (116 : UInt8), (114 : UInt8), (101 : UInt8), (97 : UInt8), (109 : UInt8), (60 : UInt8), (98 : UInt8), (111 : UInt8), (114 : UInt8), (114 : UInt8), (111 : UInt8), (119 : UInt8), (60 : UInt8), (114 : UInt8), (62 : UInt8), (62 : UInt8)]] q9)
 let q11 := q3.2
 let q12 := (M.s_TypeText (M.SType.mk q1.1 q2.1 q11.1 q11.2))
 let q13 := ((Option.isSome q4) && ((Option.isSome q12) && ((Option.isSome q0) && true)))
 bif ((Option.isSome q10) && q13) then
 some (Option.getD q10 default).1
 else
 none
 else
 let q7 := q3.2
 let q8 := (M.s_TypeText (M.SType.mk q1.1 q2.1 q7.1 q7.2))
 let q9 := ((Option.isSome q4) && ((Option.isSome q8) && ((Option.isSome q0) && true)))
 bif q9 then
 let q10 := (Option.getD q8 default)
 some q10
 else
 none
def l_FnTypes (code : (List UInt8)) : Option (Bool) :=
 let q0 := (M.l_c2Big code [])
 bif (Option.getD q0 default) then
 some true
 else
 let q1 := (M.s_DrawTypeText code)
 let q2 := (Option.getD q1 default)
 let q3 := q2.2
 let q4 := q3.2
 let q5 := (M.s_TypeOk (M.SType.mk q2.1 q3.1 q4.1 q4.2))
 let q6 := (Option.getD q5 default)
 let q7 := (M.i_TypeText (M.SType.mk q2.1 q3.1 q4.1 q4.2))
 let q8 := (Option.getD q7 default)
 let q9 := (M.i_ReadType q8)
 let q10 := default
 let q11 := (Option.getD q9 q10)
 let q12 := q11.2
 let q13 := q12.2
 let q14 := q13.1
 let q15 := (!q14)
 let q16 := q13.2
 let q17 := (M.s_SameType (M.SType.mk q11.1 q12.1 q16.1 q16.2) (M.SType.mk q2.1 q3.1 q4.1 q4.2))
 let q18 := (q6 && (q15 || (!(Option.getD q17 default))))
 bif (q18 || ((!q6) && ((!(q8 == [])) || q14))) then
 let q19 := (Option.isSome q5)
 let q20 := ((q19 || (!(q18 == false))) && (((Option.isSome q17) || (!((q6 == true) && (q15 == false)))) && (q19 && ((Option.isSome q9) && ((Option.isSome q7) && ((Option.isSome q1) && ((Option.isSome q0) && true)))))))
 bif q20 then
 some false
 else
 none
 else
 let q19 := (M.s_DrawFuncText code)
 let q20 := (Option.getD q19 default)
 let q21 := q20.2
 let q22 := q21.2
 let q23 := q22.2
 let q24 := q23.2
 let q25 := (M.s_FuncOk (M.SFuncType.mk q23.1 (M.SType.mk q20.1 q21.1 q24.1 q24.2) q22.1))
 let q26 := (Option.getD q25 default)
 let q27 := (M.i_FuncText (M.SFuncType.mk q23.1 (M.SType.mk q20.1 q21.1 q24.1 q24.2) q22.1))
 let q28 := (Option.getD q27 default)
 let q29 := (M.i_ReadFunc q28)
 let q30 := (Option.getD q29 default)
 let q31 := q30.2
 let q32 := q31.2
 let q33 := q32.2
 let q34 := q33.1
 let q35 := (!q34)
 let q36 := q33.2
 let q37 := q36.2
 let q38 := (M.s_SameFunc (M.SFuncType.mk q36.1 (M.SType.mk q30.1 q31.1 q37.1 q37.2) q32.1) (M.SFuncType.mk q23.1 (M.SType.mk q20.1 q21.1 q24.1 q24.2) q22.1))
 let q39 := (q26 && (q35 || (!(Option.getD q38 default))))
 bif (q39 || ((!q26) && ((!(q28 == [])) || q34))) then
 let q40 := (Option.isSome q25)
 let q41 := (Option.isSome q5)
 let q42 := ((q41 || (!(q18 == false))) && (((Option.isSome q17) || (!((q6 == true) && (q15 == false)))) && (q41 && ((Option.isSome q9) && ((Option.isSome q7) && ((Option.isSome q1) && ((Option.isSome q0) && true)))))))
 let q43 := ((q40 || (!(q39 == false))) && (((Option.isSome q38) || (!((q26 == true) && (q35 == false)))) && (q40 && ((Option.isSome q29) && ((Option.isSome q27) && ((Option.isSome q19) && q42))))))
 bif q43 then
 some false
 else
 none
 else
 let q40 := (M.s_DrawReadType code)
 let q41 := (M.i_ReadType (Option.getD q40 default))
 let q42 := (Option.getD q41 q10)
 let q43 := q42.2
 let q44 := q43.2
 let q45 := q44.2
 let q46 := (M.i_TypeText (M.SType.mk q42.1 q43.1 q45.1 q45.2))
 let q47 := q44.1
 let q48 := (M.s_ReadType (Option.getD q40 default))
 let q49 := (q47 == (Option.getD q48 default).2)
 let q50 := (!q47)
 let q51 := (Option.isSome q25)
 let q52 := (Option.isSome q5)
 let q53 := ((q52 || (!(q18 == false))) && (((Option.isSome q17) || (!((q6 == true) && (q15 == false)))) && (q52 && ((Option.isSome q9) && ((Option.isSome q7) && ((Option.isSome q1) && ((Option.isSome q0) && true)))))))
 let q54 := ((q51 || (!(q39 == false))) && (((Option.isSome q38) || (!((q26 == true) && (q35 == false)))) && (q51 && ((Option.isSome q29) && ((Option.isSome q27) && ((Option.isSome q19) && q53))))))
 bif (((Option.isSome q46) || (!((q49 == true) && (q50 == false)))) && ((Option.isSome q48) && ((Option.isSome q41) && ((Option.isSome q40) && q54)))) then
 some (q49 && (q50 || ((Option.getD q46 default) == (Option.getD q40 default))))
 else
 none
end M
