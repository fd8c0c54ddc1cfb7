/-
  Part of the proof of the claim.
-/
import Derived.Test.YtjdnmlhfiblhdaaGreatXNdata
import Derived.Test.YtjdnmlhfiblhdaaGreatXNHdKAop
import Derived.Test.YtjdnmlhfiblhdaaGreatXNHdKNote
set_option linter.unusedVariables false
set_option maxRecDepth 100000
noncomputable section
namespace M
def l_eqStringS_l0 (a : (List (List UInt8))) (b : (List (List UInt8))) : Nat → Int → Option ((Bool) ⊕ (Unit))
 | 0, _ => none
 | fuel + 1, i =>
 bif (decide (i < ((List.length a) : Int))) then
 bif (!((List.getD a (Int.toNat i) []) == (List.getD b (Int.toNat i) []))) then
 let q0 := ((Go.V.inB i (List.length b)) && ((Go.V.inB i (List.length a)) && true))
 bif q0 then
 some (.inl false)
 else
 none
 else
 let q0 := ((Go.V.inB i (List.length b)) && ((Go.V.inB i (List.length a)) && true))
 bif q0 then
 M.l_eqStringS_l0 a b fuel (Go.IntKind.wrap Go.IntKind.i64 (i + (1 : Int)))
 else
 none
 else
 some ((.inr (())))
def l_eqStringS (a : (List (List UInt8))) (b : (List (List UInt8))) : Option (Bool) :=
 bif (((List.length a) : Int) != ((List.length b) : Int)) then
 some false
 else
 match (M.l_eqStringS_l0 a b Go.V.bigN (0 : Int)) with
 | none => none
 | some y0 =>
 (match y0 with
 | .inl a1 =>
 some a1
 | .inr b1 =>
 some true)
def l_eqTypeS_l0 (rec_l_eqType : M.SType → M.SType → Option (Bool)) (a : (List M.SType)) (b : (List M.SType)) : Nat → Int → Option ((Bool) ⊕ (Unit))
 | 0, _ => none
 | fuel + 1, i =>
 bif (decide (i < ((List.length a) : Int))) then
 bif (!(Option.getD (rec_l_eqType (M.SType.re (List.getD a (Int.toNat i) M.SType.zero)) (M.SType.re (List.getD b (Int.toNat i) M.SType.zero))) default)) then
 let q0 := ((Option.isSome (rec_l_eqType (M.SType.re (List.getD a (Int.toNat i) M.SType.zero)) (M.SType.re (List.getD b (Int.toNat i) M.SType.zero)))) && ((Go.V.inB i (List.length b)) && ((Go.V.inB i (List.length a)) && true)))
 bif q0 then
 some (.inl false)
 else
 none
 else
 let q0 := ((Option.isSome (rec_l_eqType (M.SType.re (List.getD a (Int.toNat i) M.SType.zero)) (M.SType.re (List.getD b (Int.toNat i) M.SType.zero)))) && ((Go.V.inB i (List.length b)) && ((Go.V.inB i (List.length a)) && true)))
 bif q0 then
 M.l_eqTypeS_l0 rec_l_eqType a b fuel (Go.IntKind.wrap Go.IntKind.i64 (i + (1 : Int)))
 else
 none
 else
 some ((.inr (())))
def l_eqTypeS (rec_l_eqType : M.SType → M.SType → Option (Bool)) (a : (List M.SType)) (b : (List M.SType)) : Option (Bool) :=
 bif (((List.length a) : Int) != ((List.length b) : Int)) then
 some false
 else
 match (M.l_eqTypeS_l0 rec_l_eqType a b Go.V.bigN (0 : Int)) with
 | none => none
 | some y0 =>
 (match y0 with
 | .inl a1 =>
 some a1
 | .inr b1 =>
 some true)
def l_eqType_b (rec_l_eqType : M.SType → M.SType → Option (Bool)) (a : M.SType) (b : M.SType) : Option (Bool) :=
 bif ((M.SType.Kind a) != (M.SType.Kind b)) then
 some false
 else
 bif (!((M.SType.Name a) == (M.SType.Name b))) then
 some false
 else
 let q0 := (M.l_eqStringS (M.SType.Labels a) (M.SType.Labels b))
 bif (!(Option.getD q0 default)) then
 bif ((Option.isSome q0) && true) then
 some false
 else
 none
 else
 let q1 := (M.l_eqTypeS rec_l_eqType (M.SType.Kids a) (M.SType.Kids b))
 bif (!(Option.getD q1 default)) then
 bif ((Option.isSome q1) && ((Option.isSome q0) && true)) then
 some false
 else
 none
 else
 bif ((Option.isSome q1) && ((Option.isSome q0) && true)) then
 some true
 else
 none
def l_eqType_n : Nat → M.SType → M.SType → Option (Bool)
 | 0 => fun _ _ => none
 | n + 1 => l_eqType_b (l_eqType_n n)
def l_eqType : M.SType → M.SType → Option (Bool) := l_eqType_n Go.V.bigN
def s_l00Max (a : Int) (b : Int) : Option (Int) :=
 bif (decide (b < a)) then
 some a
 else
 some b
def s_l03Size_l0 (rec_s_l03Size : M.SType → Int → Option (Int × Int)) (deep : Int) : Nat → Int → Int → Int → M.SType → Option ((Int × Int) ⊕ (Int × Int))
 | 0, _, _, _, _ => none
 | fuel + 1, most, parts, i, t =>
 bif (decide (i < ((List.length (M.SType.Kids t)) : Int))) then
 let q0 := (Option.getD (rec_s_l03Size (M.SType.re (List.getD (M.SType.Kids t) (Int.toNat i) M.SType.zero)) (Go.IntKind.wrap Go.IntKind.i64 (deep + (1 : Int)))) default)
 let q1 := (Go.IntKind.wrap Go.IntKind.i64 (parts + q0.2))
 bif (decide ((24 : Int) < q1)) then
 let q2 := (M.s_l00Max most q0.1)
 let q3 := ((Option.isSome q2) && ((Option.isSome (rec_s_l03Size (M.SType.re (List.getD (M.SType.Kids t) (Int.toNat i) M.SType.zero)) (Go.IntKind.wrap Go.IntKind.i64 (deep + (1 : Int))))) && ((Go.V.inB i (List.length (M.SType.Kids t))) && true)))
 bif q3 then
 some (.inl ((5 : Int), (25 : Int)))
 else
 none
 else
 let q2 := (M.s_l00Max most q0.1)
 let q3 := ((Option.isSome q2) && ((Option.isSome (rec_s_l03Size (M.SType.re (List.getD (M.SType.Kids t) (Int.toNat i) M.SType.zero)) (Go.IntKind.wrap Go.IntKind.i64 (deep + (1 : Int))))) && ((Go.V.inB i (List.length (M.SType.Kids t))) && true)))
 bif q3 then
 M.s_l03Size_l0 rec_s_l03Size deep fuel (Option.getD q2 default) q1 (Go.IntKind.wrap Go.IntKind.i64 (i + (1 : Int))) (M.SType.re t)
 else
 none
 else
 some ((.inr ((most, parts))))
def s_l03Size_b (rec_s_l03Size : M.SType → Int → Option (Int × Int)) (t : M.SType) (deep : Int) : Option (Int × Int) :=
 bif ((decide ((4 : Int) < deep)) || (decide ((24 : Int) < ((List.length (M.SType.Kids t)) : Int)))) then
 some ((5 : Int), (25 : Int))
 else
 match (M.s_l03Size_l0 rec_s_l03Size deep Go.V.bigN (0 : Int) (1 : Int) (0 : Int) (M.SType.re t)) with
 | none => none
 | some y0 =>
 (match y0 with
 | .inl a1 =>
 some (a1.1, a1.2)
 | .inr b1 =>
 some ((Go.IntKind.wrap Go.IntKind.i64 (b1.1 + (1 : Int))), b1.2))
def s_l03Size_n : Nat → M.SType → Int → Option (Int × Int)
 | 0 => fun _ _ => none
 | n + 1 => s_l03Size_b (s_l03Size_n n)
def s_l03Size : M.SType → Int → Option (Int × Int) := s_l03Size_n Go.V.bigN
def s_l00In (n : Int) (low : Int) (high : Int) : Option (Bool) :=
 some ((decide (low ≤ n)) && (decide (n ≤ high)))
def s_l03Name_l0 (s : (List UInt8)) : Nat → Int → Option ((Bool) ⊕ (Unit))
 | 0, _ => none
 | fuel + 1, i =>
 bif (decide (i < ((List.length s) : Int))) then
 let q0 := ((((decide (((UInt8.toNat (List.getD s (Int.toNat i) (0 : UInt8))) : Int) < (97 : Int))) || (decide ((122 : Int) < ((UInt8.toNat (List.getD s (Int.toNat i) (0 : UInt8))) : Int)))) && ((decide (((UInt8.toNat (List.getD s (Int.toNat i) (0 : UInt8))) : Int) < (48 : Int))) || (decide ((57 : Int) < ((UInt8.toNat (List.getD s (Int.toNat i) (0 : UInt8))) : Int))))) && (((UInt8.toNat (List.getD s (Int.toNat i) (0 : UInt8))) : Int) != (45 : Int)))
 let q1 := (((UInt8.toNat (List.getD s (Int.toNat i) (0 : UInt8))) : Int) == (45 : Int))
 bif (q0 || (q1 && (((UInt8.toNat (List.getD s (Int.toNat (Go.IntKind.wrap Go.IntKind.i64 (i - (1 : Int)))) (0 : UInt8))) : Int) == (45 : Int)))) then
 let q2 := (((Go.V.inB (Go.IntKind.wrap Go.IntKind.i64 (i - (1 : Int))) (List.length s)) || (!((q0 == false) && (q1 == true)))) && ((Go.V.inB i (List.length s)) && true))
 bif q2 then
 some (.inl false)
 else
 none
 else
 let q2 := (((Go.V.inB (Go.IntKind.wrap Go.IntKind.i64 (i - (1 : Int))) (List.length s)) || (!((q0 == false) && (q1 == true)))) && ((Go.V.inB i (List.length s)) && true))
 bif q2 then
 M.s_l03Name_l0 s fuel (Go.IntKind.wrap Go.IntKind.i64 (i + (1 : Int)))
 else
 none
 else
 some ((.inr (())))
def s_l03Name (s : (List UInt8)) : Option (Bool) :=
 let q0 := ((decide (((List.length s) : Int) < (1 : Int))) || (decide ((12 : Int) < ((List.length s) : Int))))
 let q1 := (q0 || (decide (((UInt8.toNat (List.getD s (Int.toNat (0 : Int)) (0 : UInt8))) : Int) < (97 : Int))))
 let q2 := (q1 || (decide ((122 : Int) < ((UInt8.toNat (List.getD s (Int.toNat (0 : Int)) (0 : UInt8))) : Int))))
 bif (q2 || (((UInt8.toNat (List.getD s (Int.toNat (Go.IntKind.wrap Go.IntKind.i64 (((List.length s) : Int) - (1 : Int)))) (0 : UInt8))) : Int) == (45 : Int))) then
 let q3 := (((Go.V.inB (Go.IntKind.wrap Go.IntKind.i64 (((List.length s) : Int) - (1 : Int))) (List.length s)) || (!(q2 == false))) && (((Go.V.inB (0 : Int) (List.length s)) || (!(q1 == false))) && (((Go.V.inB (0 : Int) (List.length s)) || (!(q0 == false))) && true)))
 bif q3 then
 some false
 else
 none
 else
 match (M.s_l03Name_l0 s Go.V.bigN (0 : Int)) with
 | none => none
 | some y3 =>
 (match y3 with
 | .inl a4 =>
 let q5 := (((Go.V.inB (Go.IntKind.wrap Go.IntKind.i64 (((List.length s) : Int) - (1 : Int))) (List.length s)) || (!(q2 == false))) && (((Go.V.inB (0 : Int) (List.length s)) || (!(q1 == false))) && (((Go.V.inB (0 : Int) (List.length s)) || (!(q0 == false))) && true)))
 bif q5 then
 some a4
 else
 none
 | .inr b4 =>
 let q5 := (((Go.V.inB (Go.IntKind.wrap Go.IntKind.i64 (((List.length s) : Int) - (1 : Int))) (List.length s)) || (!(q2 == false))) && (((Go.V.inB (0 : Int) (List.length s)) || (!(q1 == false))) && (((Go.V.inB (0 : Int) (List.length s)) || (!(q0 == false))) && true)))
 bif q5 then
 some true
 else
 none)
def s_l03Labels_l0_0 (list : (List (List UInt8))) (i : Int) : Nat → Int → Option ((Bool) ⊕ ((List (List UInt8)) × Int))
 | 0, _ => none
 | fuel + 1, k =>
 bif (decide (k < i)) then
 bif ((List.getD list (Int.toNat k) []) == (List.getD list (Int.toNat i) [])) then
 let q0 := ((Go.V.inB i (List.length list)) && ((Go.V.inB k (List.length list)) && true))
 bif q0 then
 some (.inl false)
 else
 none
 else
 let q0 := ((Go.V.inB i (List.length list)) && ((Go.V.inB k (List.length list)) && true))
 bif q0 then
 M.s_l03Labels_l0_0 list i fuel (Go.IntKind.wrap Go.IntKind.i64 (k + (1 : Int)))
 else
 none
 else
 some ((.inr ((list, i))))
def s_l03Labels_l0 : Nat → (List (List UInt8)) → Int → Option ((Bool) ⊕ (Unit))
 | 0, _, _ => none
 | fuel + 1, list, i =>
 bif (decide (i < ((List.length list) : Int))) then
 let q0 := (M.s_l03Name (List.getD list (Int.toNat i) []))
 bif (!(Option.getD q0 default)) then
 let q1 := ((Option.isSome q0) && ((Go.V.inB i (List.length list)) && true))
 bif q1 then
 some (.inl false)
 else
 none
 else
 match (M.s_l03Labels_l0_0 list i Go.V.bigN (0 : Int)) with
 | none => none
 | some y1 =>
 (match y1 with
 | .inl a2 =>
 let q3 := ((Option.isSome q0) && ((Go.V.inB i (List.length list)) && true))
 bif q3 then
 some (.inl a2)
 else
 none
 | .inr b2 =>
 let q3 := ((Option.isSome q0) && ((Go.V.inB i (List.length list)) && true))
 bif q3 then
 M.s_l03Labels_l0 fuel b2.1 (Go.IntKind.wrap Go.IntKind.i64 (b2.2 + (1 : Int)))
 else
 none)
 else
 some ((.inr (())))
def s_l03Labels (list : (List (List UInt8))) : Option (Bool) :=
 bif ((decide (((List.length list) : Int) < (1 : Int))) || (decide ((16 : Int) < ((List.length list) : Int)))) then
 some false
 else
 match (M.s_l03Labels_l0 Go.V.bigN list (0 : Int)) with
 | none => none
 | some y0 =>
 (match y0 with
 | .inl a1 =>
 some a1
 | .inr b1 =>
 some true)
def s_l03Units_l0 : Nat → Int → M.SType → Option ((Bool) ⊕ (Unit))
 | 0, _, _ => none
 | fuel + 1, i, t =>
 bif (decide (i < ((List.length (M.SType.Kids t)) : Int))) then
 bif ((M.SType.Kind (List.getD (M.SType.Kids t) (Int.toNat i) M.SType.zero)) == (1 : Int)) then
 bif ((Go.V.inB i (List.length (M.SType.Kids t))) && true) then
 some (.inl true)
 else
 none
 else
 bif ((Go.V.inB i (List.length (M.SType.Kids t))) && true) then
 M.s_l03Units_l0 fuel (Go.IntKind.wrap Go.IntKind.i64 (i + (1 : Int))) (M.SType.re t)
 else
 none
 else
 some ((.inr (())))
def s_l03Units (t : M.SType) : Option (Bool) :=
 match (M.s_l03Units_l0 Go.V.bigN (0 : Int) (M.SType.re t)) with
 | none => none
 | some y0 =>
 (match y0 with
 | .inl a1 =>
 some a1
 | .inr b1 =>
 some false)
def s_l03Has_l0 (rec_s_l03Has : M.SType → Int → Int → Option (Bool)) (low : Int) (high : Int) : Nat → Int → M.SType → Option ((Bool) ⊕ (Unit))
 | 0, _, _ => none
 | fuel + 1, i, t =>
 bif (decide (i < ((List.length (M.SType.Kids t)) : Int))) then
 bif (Option.getD (rec_s_l03Has (M.SType.re (List.getD (M.SType.Kids t) (Int.toNat i) M.SType.zero)) low high) default) then
 let q0 := ((Option.isSome (rec_s_l03Has (M.SType.re (List.getD (M.SType.Kids t) (Int.toNat i) M.SType.zero)) low high)) && ((Go.V.inB i (List.length (M.SType.Kids t))) && true))
 bif q0 then
 some (.inl true)
 else
 none
 else
 let q0 := ((Option.isSome (rec_s_l03Has (M.SType.re (List.getD (M.SType.Kids t) (Int.toNat i) M.SType.zero)) low high)) && ((Go.V.inB i (List.length (M.SType.Kids t))) && true))
 bif q0 then
 M.s_l03Has_l0 rec_s_l03Has low high fuel (Go.IntKind.wrap Go.IntKind.i64 (i + (1 : Int))) (M.SType.re t)
 else
 none
 else
 some ((.inr (())))
def s_l03Has_b (rec_s_l03Has : M.SType → Int → Int → Option (Bool)) (t : M.SType) (low : Int) (high : Int) : Option (Bool) :=
 bif ((decide (low ≤ (M.SType.Kind t))) && (decide ((M.SType.Kind t) ≤ high))) then
 some true
 else
 match (M.s_l03Has_l0 rec_s_l03Has low high Go.V.bigN (0 : Int) (M.SType.re t)) with
 | none => none
 | some y0 =>
 (match y0 with
 | .inl a1 =>
 some a1
 | .inr b1 =>
 some false)
def s_l03Has_n : Nat → M.SType → Int → Int → Option (Bool)
 | 0 => fun _ _ _ => none
 | n + 1 => s_l03Has_b (s_l03Has_n n)
def s_l03Has : M.SType → Int → Int → Option (Bool) := s_l03Has_n Go.V.bigN
def s_l03Shape (t : M.SType) : Option (Bool) :=
 let q0 := (((M.SType.Kind t) == (20 : Int)) || ((M.SType.Kind t) == (21 : Int)))
 let q1 := (!(q0 == (!((M.SType.Name t) == []))))
 let q2 := (M.s_l03Name (M.SType.Name t))
 let q3 := ((decide ((16 : Int) ≤ (M.SType.Kind t))) && (decide ((M.SType.Kind t) ≤ (19 : Int))))
 let q4 := ((q1 || (q0 && (!(Option.getD q2 default)))) || (!(q3 == (decide ((0 : Int) < ((List.length (M.SType.Labels t)) : Int))))))
 let q5 := (M.s_l03Labels (M.SType.Labels t))
 bif (q4 || (q3 && (!(Option.getD q5 default)))) then
 let q6 := (((Option.isSome q5) || (!((q4 == false) && (q3 == true)))) && (((Option.isSome q2) || (!((q1 == false) && (q0 == true)))) && true))
 bif q6 then
 some false
 else
 none
 else
 bif (bif ((M.SType.Kind t) == (12 : Int)) then ((M.SType.Kind t) == (12 : Int)) else ((M.SType.Kind t) == (13 : Int))) then
 let q6 := (M.s_l03Units (M.SType.re t))
 let q7 := (!((((List.length (M.SType.Kids t)) : Int) == (1 : Int)) == true))
 let q8 := (((Option.isSome q5) || (!((q4 == false) && (q3 == true)))) && (((Option.isSome q2) || (!((q1 == false) && (q0 == true)))) && true))
 let q9 := ((q8 || (!((M.SType.Kind t) == (12 : Int)))) && (q8 || ((M.SType.Kind t) == (12 : Int))))
 bif (((Option.isSome q6) || q7) && q9) then
 some ((((List.length (M.SType.Kids t)) : Int) == (1 : Int)) && (!(Option.getD q6 default)))
 else
 none
 else
 bif (bif ((M.SType.Kind t) == (22 : Int)) then ((M.SType.Kind t) == (22 : Int)) else ((M.SType.Kind t) == (23 : Int))) then
 let q6 := (M.s_l03Has (M.SType.re (List.getD (M.SType.Kids t) (Int.toNat (0 : Int)) M.SType.zero)) (21 : Int) (21 : Int))
 let q7 := (!((((List.length (M.SType.Kids t)) : Int) == (1 : Int)) == true))
 let q8 := (((Option.isSome q5) || (!((q4 == false) && (q3 == true)))) && (((Option.isSome q2) || (!((q1 == false) && (q0 == true)))) && true))
 let q9 := ((q8 || (!((M.SType.Kind t) == (12 : Int)))) && (q8 || ((M.SType.Kind t) == (12 : Int))))
 let q10 := ((q9 || (!((M.SType.Kind t) == (22 : Int)))) && (q9 || ((M.SType.Kind t) == (22 : Int))))
 bif (((Option.isSome q6) || q7) && (((Go.V.inB (0 : Int) (List.length (M.SType.Kids t))) || q7) && q10)) then
 some ((((List.length (M.SType.Kids t)) : Int) == (1 : Int)) && (!(Option.getD q6 default)))
 else
 none
 else
 bif ((M.SType.Kind t) == (14 : Int)) then
 let q6 := (((Option.isSome q5) || (!((q4 == false) && (q3 == true)))) && (((Option.isSome q2) || (!((q1 == false) && (q0 == true)))) && true))
 let q7 := ((q6 || (!((M.SType.Kind t) == (12 : Int)))) && (q6 || ((M.SType.Kind t) == (12 : Int))))
 let q8 := ((q7 || (!((M.SType.Kind t) == (22 : Int)))) && (q7 || ((M.SType.Kind t) == (22 : Int))))
 bif q8 then
 some (((List.length (M.SType.Kids t)) : Int) == (2 : Int))
 else
 none
 else
 bif ((M.SType.Kind t) == (15 : Int)) then
 let q6 := (M.s_l03Units (M.SType.re t))
 let q7 := ((decide ((1 : Int) ≤ ((List.length (M.SType.Kids t)) : Int))) && (decide (((List.length (M.SType.Kids t)) : Int) ≤ (6 : Int))))
 let q8 := (((Option.isSome q5) || (!((q4 == false) && (q3 == true)))) && (((Option.isSome q2) || (!((q1 == false) && (q0 == true)))) && true))
 let q9 := ((q8 || (!((M.SType.Kind t) == (12 : Int)))) && (q8 || ((M.SType.Kind t) == (12 : Int))))
 let q10 := ((q9 || (!((M.SType.Kind t) == (22 : Int)))) && (q9 || ((M.SType.Kind t) == (22 : Int))))
 bif (((Option.isSome q6) || (!(q7 == true))) && q10) then
 some (q7 && (!(Option.getD q6 default)))
 else
 none
 else
 bif ((M.SType.Kind t) == (16 : Int)) then
 let q6 := (M.s_l03Units (M.SType.re t))
 let q7 := (((Option.isSome q5) || (!((q4 == false) && (q3 == true)))) && (((Option.isSome q2) || (!((q1 == false) && (q0 == true)))) && true))
 let q8 := ((q7 || (!((M.SType.Kind t) == (12 : Int)))) && (q7 || ((M.SType.Kind t) == (12 : Int))))
 let q9 := ((q8 || (!((M.SType.Kind t) == (22 : Int)))) && (q8 || ((M.SType.Kind t) == (22 : Int))))
 bif (((Option.isSome q6) || (!((((List.length (M.SType.Kids t)) : Int) == ((List.length (M.SType.Labels t)) : Int)) == true))) && q9) then
 some ((((List.length (M.SType.Kids t)) : Int) == ((List.length (M.SType.Labels t)) : Int)) && (!(Option.getD q6 default)))
 else
 none
 else
 bif ((M.SType.Kind t) == (17 : Int)) then
 let q6 := (((Option.isSome q5) || (!((q4 == false) && (q3 == true)))) && (((Option.isSome q2) || (!((q1 == false) && (q0 == true)))) && true))
 let q7 := ((q6 || (!((M.SType.Kind t) == (12 : Int)))) && (q6 || ((M.SType.Kind t) == (12 : Int))))
 let q8 := ((q7 || (!((M.SType.Kind t) == (22 : Int)))) && (q7 || ((M.SType.Kind t) == (22 : Int))))
 bif q8 then
 some (((List.length (M.SType.Kids t)) : Int) == ((List.length (M.SType.Labels t)) : Int))
 else
 none
 else
 let q6 := (((Option.isSome q5) || (!((q4 == false) && (q3 == true)))) && (((Option.isSome q2) || (!((q1 == false) && (q0 == true)))) && true))
 let q7 := ((q6 || (!((M.SType.Kind t) == (12 : Int)))) && (q6 || ((M.SType.Kind t) == (12 : Int))))
 let q8 := ((q7 || (!((M.SType.Kind t) == (22 : Int)))) && (q7 || ((M.SType.Kind t) == (22 : Int))))
 bif q8 then
 some (((decide ((1 : Int) ≤ (M.SType.Kind t))) && (decide ((M.SType.Kind t) ≤ (23 : Int)))) && (((List.length (M.SType.Kids t)) : Int) == (0 : Int)))
 else
 none
def s_l03Parts_l0 (rec_s_l03Parts : M.SType → Option (Bool)) : Nat → Int → M.SType → Option ((Bool) ⊕ (Unit))
 | 0, _, _ => none
 | fuel + 1, i, t =>
 bif (decide (i < ((List.length (M.SType.Kids t)) : Int))) then
 bif (!(Option.getD (rec_s_l03Parts (M.SType.re (List.getD (M.SType.Kids t) (Int.toNat i) M.SType.zero))) default)) then
 let q0 := ((Option.isSome (rec_s_l03Parts (M.SType.re (List.getD (M.SType.Kids t) (Int.toNat i) M.SType.zero)))) && ((Go.V.inB i (List.length (M.SType.Kids t))) && true))
 bif q0 then
 some (.inl false)
 else
 none
 else
 let q0 := ((Option.isSome (rec_s_l03Parts (M.SType.re (List.getD (M.SType.Kids t) (Int.toNat i) M.SType.zero)))) && ((Go.V.inB i (List.length (M.SType.Kids t))) && true))
 bif q0 then
 M.s_l03Parts_l0 rec_s_l03Parts fuel (Go.IntKind.wrap Go.IntKind.i64 (i + (1 : Int))) (M.SType.re t)
 else
 none
 else
 some ((.inr (())))
def s_l03Parts_b (rec_s_l03Parts : M.SType → Option (Bool)) (t : M.SType) : Option (Bool) :=
 let q0 := (M.s_l03Shape (M.SType.re t))
 bif (!(Option.getD q0 default)) then
 bif ((Option.isSome q0) && true) then
 some false
 else
 none
 else
 match (M.s_l03Parts_l0 rec_s_l03Parts Go.V.bigN (0 : Int) (M.SType.re t)) with
 | none => none
 | some y1 =>
 (match y1 with
 | .inl a2 =>
 bif ((Option.isSome q0) && true) then
 some a2
 else
 none
 | .inr b2 =>
 bif ((Option.isSome q0) && true) then
 some true
 else
 none)
def s_l03Parts_n : Nat → M.SType → Option (Bool)
 | 0 => fun _ => none
 | n + 1 => s_l03Parts_b (s_l03Parts_n n)
def s_l03Parts : M.SType → Option (Bool) := s_l03Parts_n Go.V.bigN
def i_deep_l0 (rec_i_deep : M.SType → Int → Option (Int)) (levels : Int) (t11 : (List M.SType)) (t12 : Int) : Nat → Int → Int → Option (Int)
 | 0, _, _ => none
 | fuel + 1, depth, t13 =>
 bif (decide (t13 < t12)) then
 bif ((Option.isSome (rec_i_deep (M.SType.re (List.getD t11 (Int.toNat t13) M.SType.zero)) (Go.IntKind.wrap Go.IntKind.i64 (levels - (1 : Int))))) && ((Go.V.inB t13 (List.length t11)) && true)) then
 let q0 := (Option.getD (rec_i_deep (M.SType.re (List.getD t11 (Int.toNat t13) M.SType.zero)) (Go.IntKind.wrap Go.IntKind.i64 (levels - (1 : Int)))) default)
 M.i_deep_l0 rec_i_deep levels t11 t12 fuel (bif (decide (depth < q0)) then q0 else depth) (Go.IntKind.wrap Go.IntKind.i64 (t13 + (1 : Int)))
 else
 none
 else
 some (depth)
def i_deep_b (rec_i_deep : M.SType → Int → Option (Int)) (t : M.SType) (levels : Int) : Option (Int) :=
 bif (levels == (0 : Int)) then
 some (1 : Int)
 else
 match (M.i_deep_l0 rec_i_deep levels (M.SType.Kids t) ((List.length (M.SType.Kids t)) : Int) Go.V.bigN (0 : Int) (0 : Int)) with
 | none => none
 | some y0 =>
 some (Go.IntKind.wrap Go.IntKind.i64 (y0 + (1 : Int)))
def i_deep_n : Nat → M.SType → Int → Option (Int)
 | 0 => fun _ _ => none
 | n + 1 => i_deep_b (i_deep_n n)
def i_deep : M.SType → Int → Option (Int) := i_deep_n Go.V.bigN
def i_parts_l0 (rec_i_parts : M.SType → Option (Int)) (t7 : (List M.SType)) (t8 : Int) : Nat → Int → Int → Option (Int)
 | 0, _, _ => none
 | fuel + 1, many, t9 =>
 bif (decide (t9 < t8)) then
 bif ((Option.isSome (rec_i_parts (M.SType.re (List.getD t7 (Int.toNat t9) M.SType.zero)))) && ((Go.V.inB t9 (List.length t7)) && true)) then
 M.i_parts_l0 rec_i_parts t7 t8 fuel (Go.IntKind.wrap Go.IntKind.i64 (many + (Option.getD (rec_i_parts (M.SType.re (List.getD t7 (Int.toNat t9) M.SType.zero))) default))) (Go.IntKind.wrap Go.IntKind.i64 (t9 + (1 : Int)))
 else
 none
 else
 some (many)
def i_parts_b (rec_i_parts : M.SType → Option (Int)) (t : M.SType) : Option (Int) :=
 match (M.i_parts_l0 rec_i_parts (M.SType.Kids t) ((List.length (M.SType.Kids t)) : Int) Go.V.bigN (1 : Int) (0 : Int)) with
 | none => none
 | some y0 =>
 some y0
def i_parts_n : Nat → M.SType → Option (Int)
 | 0 => fun _ => none
 | n + 1 => i_parts_b (i_parts_n n)
def i_parts : M.SType → Option (Int) := i_parts_n Go.V.bigN
def i_shapeOk_c1 (rec_i_shapeOk : M.SType → Option (Bool)) (kid : M.SType) : Option (Bool) :=
 bif ((Option.isSome (rec_i_shapeOk (M.SType.re kid))) && true) then
 some (!(Option.getD (rec_i_shapeOk (M.SType.re kid)) default))
 else
 none
def slices_IndexFunc_Type_Type_l0 (rec_i_shapeOk : M.SType → Option (Bool)) (s : (List M.SType)) (t7 : Int) : Nat → Int → Option ((Int) ⊕ (Unit))
 | 0, _ => none
 | fuel + 1, t8 =>
 bif (decide (t8 < t7)) then
 let q0 := (M.i_shapeOk_c1 rec_i_shapeOk (M.SType.re (List.getD s (Int.toNat t8) M.SType.zero)))
 bif (Option.getD q0 default) then
 let q1 := ((Option.isSome q0) && ((Go.V.inB t8 (List.length s)) && true))
 bif q1 then
 some (.inl t8)
 else
 none
 else
 let q1 := ((Option.isSome q0) && ((Go.V.inB t8 (List.length s)) && true))
 bif q1 then
 M.slices_IndexFunc_Type_Type_l0 rec_i_shapeOk s t7 fuel (Go.IntKind.wrap Go.IntKind.i64 (t8 + (1 : Int)))
 else
 none
 else
 some ((.inr (())))
def slices_IndexFunc_Type_Type (rec_i_shapeOk : M.SType → Option (Bool)) (s : (List M.SType)) : Option (Int) :=
 match (M.slices_IndexFunc_Type_Type_l0 rec_i_shapeOk s ((List.length s) : Int) Go.V.bigN (0 : Int)) with
 | none => none
 | some y0 =>
 (match y0 with
 | .inl a1 =>
 some a1
 | .inr b1 =>
 some (-(1 : Int)))
def slices_ContainsFunc_Type_Type (rec_i_shapeOk : M.SType → Option (Bool)) (s : (List M.SType)) : Option (Bool) :=
 let q0 := (M.slices_IndexFunc_Type_Type rec_i_shapeOk s)
 bif ((Option.isSome q0) && true) then
 some (decide ((0 : Int) ≤ (Option.getD q0 default)))
 else
 none
def i_within (n : Int) (low : Int) (high : Int) : Option (Bool) :=
 some ((decide (low ≤ n)) && (decide (n ≤ high)))
def i_size_string (list : (List (List UInt8))) : Option (Int) :=
 some ((List.length list) : Int)
def i_NameOk_l0 (s : (List UInt8)) (t7 : Int) : Nat → Int → Option ((Bool) ⊕ ((List UInt8)))
 | 0, _ => none
 | fuel + 1, t8 =>
 bif (decide (t8 < t7)) then
 bif ((decide ((97 : Int) ≤ ((UInt8.toNat (List.getD s (Int.toNat t8) (0 : UInt8))) : Int))) && (decide (((UInt8.toNat (List.getD s (Int.toNat t8) (0 : UInt8))) : Int) ≤ (122 : Int)))) then
 let q0 := (((Go.V.inB t8 (List.length s)) || (!((decide ((48 : Int) ≤ ((UInt8.toNat (List.getD s (Int.toNat t8) (0 : UInt8))) : Int))) == true))) && ((Go.V.inB t8 (List.length s)) && (((Go.V.inB t8 (List.length s)) || (!((decide ((97 : Int) ≤ ((UInt8.toNat (List.getD s (Int.toNat t8) (0 : UInt8))) : Int))) == true))) && ((Go.V.inB t8 (List.length s)) && true))))
 bif q0 then
 M.i_NameOk_l0 s t7 fuel (Go.IntKind.wrap Go.IntKind.i64 (t8 + (1 : Int)))
 else
 none
 else
 let q0 := (!((decide ((48 : Int) ≤ ((UInt8.toNat (List.getD s (Int.toNat t8) (0 : UInt8))) : Int))) && (decide (((UInt8.toNat (List.getD s (Int.toNat t8) (0 : UInt8))) : Int) ≤ (57 : Int)))))
 bif ((t8 == (0 : Int)) || (q0 && (((UInt8.toNat (List.getD s (Int.toNat t8) (0 : UInt8))) : Int) != (45 : Int)))) then
 let q1 := (((Go.V.inB t8 (List.length s)) || (!((decide ((48 : Int) ≤ ((UInt8.toNat (List.getD s (Int.toNat t8) (0 : UInt8))) : Int))) == true))) && ((Go.V.inB t8 (List.length s)) && (((Go.V.inB t8 (List.length s)) || (!((decide ((97 : Int) ≤ ((UInt8.toNat (List.getD s (Int.toNat t8) (0 : UInt8))) : Int))) == true))) && ((Go.V.inB t8 (List.length s)) && true))))
 let q2 := (((Go.V.inB t8 (List.length s)) || (!(((t8 == (0 : Int)) == false) && (q0 == true)))) && q1)
 bif q2 then
 some (.inl false)
 else
 none
 else
 let q1 := (((UInt8.toNat (List.getD s (Int.toNat t8) (0 : UInt8))) : Int) == (45 : Int))
 bif (q1 && (((UInt8.toNat (List.getD s (Int.toNat (Go.IntKind.wrap Go.IntKind.i64 (t8 - (1 : Int)))) (0 : UInt8))) : Int) == (45 : Int))) then
 let q2 := (((Go.V.inB t8 (List.length s)) || (!((decide ((48 : Int) ≤ ((UInt8.toNat (List.getD s (Int.toNat t8) (0 : UInt8))) : Int))) == true))) && ((Go.V.inB t8 (List.length s)) && (((Go.V.inB t8 (List.length s)) || (!((decide ((97 : Int) ≤ ((UInt8.toNat (List.getD s (Int.toNat t8) (0 : UInt8))) : Int))) == true))) && ((Go.V.inB t8 (List.length s)) && true))))
 let q3 := (((Go.V.inB t8 (List.length s)) || (!(((t8 == (0 : Int)) == false) && (q0 == true)))) && q2)
 let q4 := (((Go.V.inB (Go.IntKind.wrap Go.IntKind.i64 (t8 - (1 : Int))) (List.length s)) || (!(q1 == true))) && ((Go.V.inB t8 (List.length s)) && q3))
 bif q4 then
 some (.inl false)
 else
 none
 else
 let q2 := (((Go.V.inB t8 (List.length s)) || (!((decide ((48 : Int) ≤ ((UInt8.toNat (List.getD s (Int.toNat t8) (0 : UInt8))) : Int))) == true))) && ((Go.V.inB t8 (List.length s)) && (((Go.V.inB t8 (List.length s)) || (!((decide ((97 : Int) ≤ ((UInt8.toNat (List.getD s (Int.toNat t8) (0 : UInt8))) : Int))) == true))) && ((Go.V.inB t8 (List.length s)) && true))))
 let q3 := (((Go.V.inB t8 (List.length s)) || (!(((t8 == (0 : Int)) == false) && (q0 == true)))) && q2)
 let q4 := (((Go.V.inB (Go.IntKind.wrap Go.IntKind.i64 (t8 - (1 : Int))) (List.length s)) || (!(q1 == true))) && ((Go.V.inB t8 (List.length s)) && q3))
 bif q4 then
 M.i_NameOk_l0 s t7 fuel (Go.IntKind.wrap Go.IntKind.i64 (t8 + (1 : Int)))
 else
 none
 else
 some ((.inr (s)))
def i_NameOk (s : (List UInt8)) : Option (Bool) :=
 match (M.i_NameOk_l0 s ((List.length s) : Int) Go.V.bigN (0 : Int)) with
 | none => none
 | some y0 =>
 (match y0 with
 | .inl a1 =>
 some a1
 | .inr b1 =>
 let q2 := ((decide ((1 : Int) ≤ ((List.length b1) : Int))) && (decide (((List.length b1) : Int) ≤ (12 : Int))))
 bif (((Go.V.inB (Go.IntKind.wrap Go.IntKind.i64 (((List.length b1) : Int) - (1 : Int))) (List.length b1)) || (!(q2 == true))) && true) then
 some (q2 && (((UInt8.toNat (List.getD b1 (Int.toNat (Go.IntKind.wrap Go.IntKind.i64 (((List.length b1) : Int) - (1 : Int)))) (0 : UInt8))) : Int) != (45 : Int)))
 else
 none)
def i_labelsOk_c1 (name : (List UInt8)) : Option (Bool) :=
 let q0 := (M.i_NameOk name)
 bif ((Option.isSome q0) && true) then
 some (!(Option.getD q0 default))
 else
 none
def slices_IndexFunc_string_string_l0 (s : (List (List UInt8))) (t7 : Int) : Nat → Int → Option ((Int) ⊕ (Unit))
 | 0, _ => none
 | fuel + 1, t8 =>
 bif (decide (t8 < t7)) then
 let q0 := (M.i_labelsOk_c1 (List.getD s (Int.toNat t8) []))
 bif (Option.getD q0 default) then
 let q1 := ((Option.isSome q0) && ((Go.V.inB t8 (List.length s)) && true))
 bif q1 then
 some (.inl t8)
 else
 none
 else
 let q1 := ((Option.isSome q0) && ((Go.V.inB t8 (List.length s)) && true))
 bif q1 then
 M.slices_IndexFunc_string_string_l0 s t7 fuel (Go.IntKind.wrap Go.IntKind.i64 (t8 + (1 : Int)))
 else
 none
 else
 some ((.inr (())))
def slices_IndexFunc_string_string (s : (List (List UInt8))) : Option (Int) :=
 match (M.slices_IndexFunc_string_string_l0 s ((List.length s) : Int) Go.V.bigN (0 : Int)) with
 | none => none
 | some y0 =>
 (match y0 with
 | .inl a1 =>
 some a1
 | .inr b1 =>
 some (-(1 : Int)))
def slices_ContainsFunc_string_string (s : (List (List UInt8))) : Option (Bool) :=
 let q0 := (M.slices_IndexFunc_string_string s)
 bif ((Option.isSome q0) && true) then
 some (decide ((0 : Int) ≤ (Option.getD q0 default)))
 else
 none
def i_labelsOk (labels : (List (List UInt8))) : Option (Bool) :=
 let q0 := (M.slices_ContainsFunc_string_string labels)
 let q1 := ((decide ((1 : Int) ≤ ((List.length labels) : Int))) && (decide (((List.length labels) : Int) ≤ (16 : Int))))
 let q2 := (M.i_distinct labels)
 let q3 := (q1 && (Option.getD q2 default))
 bif (((Option.isSome q0) || (!(q3 == true))) && (((Option.isSome q2) || (!(q1 == true))) && true)) then
 some (q3 && (!(Option.getD q0 default)))
 else
 none
def i_size_Type (list : (List M.SType)) : Option (Int) :=
 some ((List.length list) : Int)
def i_isUnit (t : M.SType) : Option (Bool) :=
 some ((M.SType.Kind t) == (1 : Int))
def slices_IndexFunc_Type_Type_2_l0 (s : (List M.SType)) (t7 : Int) : Nat → Int → Option ((Int) ⊕ (Unit))
 | 0, _ => none
 | fuel + 1, t8 =>
 bif (decide (t8 < t7)) then
 bif ((M.SType.Kind (List.getD s (Int.toNat t8) M.SType.zero)) == (1 : Int)) then
 bif ((Go.V.inB t8 (List.length s)) && true) then
 some (.inl t8)
 else
 none
 else
 bif ((Go.V.inB t8 (List.length s)) && true) then
 M.slices_IndexFunc_Type_Type_2_l0 s t7 fuel (Go.IntKind.wrap Go.IntKind.i64 (t8 + (1 : Int)))
 else
 none
 else
 some ((.inr (())))
def slices_IndexFunc_Type_Type_2 (s : (List M.SType)) : Option (Int) :=
 match (M.slices_IndexFunc_Type_Type_2_l0 s ((List.length s) : Int) Go.V.bigN (0 : Int)) with
 | none => none
 | some y0 =>
 (match y0 with
 | .inl a1 =>
 some a1
 | .inr b1 =>
 some (-(1 : Int)))
def slices_ContainsFunc_Type_Type_2 (s : (List M.SType)) : Option (Bool) :=
 let q0 := (M.slices_IndexFunc_Type_Type_2 s)
 bif ((Option.isSome q0) && true) then
 some (decide ((0 : Int) ≤ (Option.getD q0 default)))
 else
 none
def i_kidsOk (t : M.SType) (many : Int) : Option (Bool) :=
 let q0 := (M.slices_ContainsFunc_Type_Type_2 (M.SType.Kids t))
 bif (((Option.isSome q0) || (!((((List.length (M.SType.Kids t)) : Int) == many) == true))) && true) then
 some ((((List.length (M.SType.Kids t)) : Int) == many) && (!(Option.getD q0 default)))
 else
 none
def slices_Index_int64_int64_l0 (s : (List Int)) (v : Int) (t7 : Int) : Nat → Int → Option ((Int) ⊕ (Unit))
 | 0, _ => none
 | fuel + 1, t8 =>
 bif (decide (t8 < t7)) then
 bif (v == (List.getD s (Int.toNat t8) (0 : Int))) then
 bif ((Go.V.inB t8 (List.length s)) && true) then
 some (.inl t8)
 else
 none
 else
 bif ((Go.V.inB t8 (List.length s)) && true) then
 M.slices_Index_int64_int64_l0 s v t7 fuel (Go.IntKind.wrap Go.IntKind.i64 (t8 + (1 : Int)))
 else
 none
 else
 some ((.inr (())))
def slices_Index_int64_int64 (s : (List Int)) (v : Int) : Option (Int) :=
 match (M.slices_Index_int64_int64_l0 s v ((List.length s) : Int) Go.V.bigN (0 : Int)) with
 | none => none
 | some y0 =>
 (match y0 with
 | .inl a1 =>
 some a1
 | .inr b1 =>
 some (-(1 : Int)))
def slices_Contains_int64_int64 (s : (List Int)) (v : Int) : Option (Bool) :=
 let q0 := (M.slices_Index_int64_int64 s v)
 bif ((Option.isSome q0) && true) then
 some (decide ((0 : Int) ≤ (Option.getD q0 default)))
 else
 none
def i_hasKind_c1 (rec_i_hasKind : M.SType → (List Int) → Option (Bool)) (kid : M.SType) (t1 : (List Int)) : Option (Bool) :=
 bif ((Option.isSome (rec_i_hasKind (M.SType.re kid) t1)) && true) then
 some (Option.getD (rec_i_hasKind (M.SType.re kid) t1) default)
 else
 none
def slices_IndexFunc_Type_Type_3_l0 (rec_i_hasKind : M.SType → (List Int) → Option (Bool)) (s : (List M.SType)) (f : (List Int)) (t7 : Int) : Nat → Int → Option ((Int) ⊕ (Unit))
 | 0, _ => none
 | fuel + 1, t8 =>
 bif (decide (t8 < t7)) then
 let q0 := (M.i_hasKind_c1 rec_i_hasKind (M.SType.re (List.getD s (Int.toNat t8) M.SType.zero)) f)
 bif (Option.getD q0 default) then
 let q1 := ((Option.isSome q0) && ((Go.V.inB t8 (List.length s)) && true))
 bif q1 then
 some (.inl t8)
 else
 none
 else
 let q1 := ((Option.isSome q0) && ((Go.V.inB t8 (List.length s)) && true))
 bif q1 then
 M.slices_IndexFunc_Type_Type_3_l0 rec_i_hasKind s f t7 fuel (Go.IntKind.wrap Go.IntKind.i64 (t8 + (1 : Int)))
 else
 none
 else
 some ((.inr (())))
def slices_IndexFunc_Type_Type_3 (rec_i_hasKind : M.SType → (List Int) → Option (Bool)) (s : (List M.SType)) (f : (List Int)) : Option (Int) :=
 match (M.slices_IndexFunc_Type_Type_3_l0 rec_i_hasKind s f ((List.length s) : Int) Go.V.bigN (0 : Int)) with
 | none => none
 | some y0 =>
 (match y0 with
 | .inl a1 =>
 some a1
 | .inr b1 =>
 some (-(1 : Int)))
def slices_ContainsFunc_Type_Type_3 (rec_i_hasKind : M.SType → (List Int) → Option (Bool)) (s : (List M.SType)) (f : (List Int)) : Option (Bool) :=
 let q0 := (M.slices_IndexFunc_Type_Type_3 rec_i_hasKind s f)
 bif ((Option.isSome q0) && true) then
 some (decide ((0 : Int) ≤ (Option.getD q0 default)))
 else
 none
def i_hasKind_b (rec_i_hasKind : M.SType → (List Int) → Option (Bool)) (t : M.SType) (kinds : (List Int)) : Option (Bool) :=
 let q0 := (M.slices_ContainsFunc_Type_Type_3 rec_i_hasKind (M.SType.Kids t) kinds)
 let q1 := (M.slices_Contains_int64_int64 kinds (M.SType.Kind t))
 bif (((Option.isSome q0) || (!((Option.getD q1 default) == false))) && ((Option.isSome q1) && true)) then
 some ((Option.getD q1 default) || (Option.getD q0 default))
 else
 none
def i_hasKind_n : Nat → M.SType → (List Int) → Option (Bool)
 | 0 => fun _ _ => none
 | n + 1 => i_hasKind_b (i_hasKind_n n)
def i_hasKind : M.SType → (List Int) → Option (Bool) := i_hasKind_n Go.V.bigN
def i_shapeOk_b (rec_i_shapeOk : M.SType → Option (Bool)) (t : M.SType) : Option (Bool) :=
 let q0 := (M.slices_ContainsFunc_Type_Type rec_i_shapeOk (M.SType.Kids t))
 bif (Option.getD q0 default) then
 bif ((Option.isSome q0) && true) then
 some false
 else
 none
 else
 let q1 := ((decide ((16 : Int) ≤ (M.SType.Kind t))) && (decide ((M.SType.Kind t) ≤ (19 : Int))))
 let q2 := (M.i_labelsOk (M.SType.Labels t))
 let q3 := ((q1 && (!(Option.getD q2 default))) || ((!q1) && (decide ((0 : Int) < ((List.length (M.SType.Labels t)) : Int)))))
 let q4 := (((M.SType.Kind t) == (20 : Int)) || ((M.SType.Kind t) == (21 : Int)))
 let q5 := (M.i_NameOk (M.SType.Name t))
 bif ((q3 || (q4 && (!(Option.getD q5 default)))) || ((!q4) && (!((M.SType.Name t) == [])))) then
 let q6 := (((Option.isSome q5) || (!((q3 == false) && (q4 == true)))) && (((Option.isSome q2) || (!(q1 == true))) && ((Option.isSome q0) && true)))
 bif q6 then
 some false
 else
 none
 else
 bif (bif ((M.SType.Kind t) == (12 : Int)) then ((M.SType.Kind t) == (12 : Int)) else ((M.SType.Kind t) == (13 : Int))) then
 let q6 := (M.i_kidsOk (M.SType.re t) (1 : Int))
 let q7 := (((Option.isSome q5) || (!((q3 == false) && (q4 == true)))) && (((Option.isSome q2) || (!(q1 == true))) && ((Option.isSome q0) && true)))
 let q8 := ((q7 || (!((M.SType.Kind t) == (12 : Int)))) && (q7 || ((M.SType.Kind t) == (12 : Int))))
 bif ((Option.isSome q6) && q8) then
 some (Option.getD q6 default)
 else
 none
 else
 bif ((M.SType.Kind t) == (14 : Int)) then
 let q6 := (((Option.isSome q5) || (!((q3 == false) && (q4 == true)))) && (((Option.isSome q2) || (!(q1 == true))) && ((Option.isSome q0) && true)))
 let q7 := ((q6 || (!((M.SType.Kind t) == (12 : Int)))) && (q6 || ((M.SType.Kind t) == (12 : Int))))
 bif q7 then
 some (((List.length (M.SType.Kids t)) : Int) == (2 : Int))
 else
 none
 else
 bif ((M.SType.Kind t) == (15 : Int)) then
 let q6 := (M.i_kidsOk (M.SType.re t) ((List.length (M.SType.Kids t)) : Int))
 let q7 := ((decide ((1 : Int) ≤ ((List.length (M.SType.Kids t)) : Int))) && (decide (((List.length (M.SType.Kids t)) : Int) ≤ (6 : Int))))
 let q8 := (((Option.isSome q5) || (!((q3 == false) && (q4 == true)))) && (((Option.isSome q2) || (!(q1 == true))) && ((Option.isSome q0) && true)))
 let q9 := ((q8 || (!((M.SType.Kind t) == (12 : Int)))) && (q8 || ((M.SType.Kind t) == (12 : Int))))
 bif (((Option.isSome q6) || (!(q7 == true))) && q9) then
 some (q7 && (Option.getD q6 default))
 else
 none
 else
 bif ((M.SType.Kind t) == (16 : Int)) then
 let q6 := (M.i_kidsOk (M.SType.re t) ((List.length (M.SType.Labels t)) : Int))
 let q7 := (((Option.isSome q5) || (!((q3 == false) && (q4 == true)))) && (((Option.isSome q2) || (!(q1 == true))) && ((Option.isSome q0) && true)))
 let q8 := ((q7 || (!((M.SType.Kind t) == (12 : Int)))) && (q7 || ((M.SType.Kind t) == (12 : Int))))
 bif ((Option.isSome q6) && q8) then
 some (Option.getD q6 default)
 else
 none
 else
 bif ((M.SType.Kind t) == (17 : Int)) then
 let q6 := (((Option.isSome q5) || (!((q3 == false) && (q4 == true)))) && (((Option.isSome q2) || (!(q1 == true))) && ((Option.isSome q0) && true)))
 let q7 := ((q6 || (!((M.SType.Kind t) == (12 : Int)))) && (q6 || ((M.SType.Kind t) == (12 : Int))))
 bif q7 then
 some (((List.length (M.SType.Kids t)) : Int) == ((List.length (M.SType.Labels t)) : Int))
 else
 none
 else
 bif (bif ((M.SType.Kind t) == (22 : Int)) then ((M.SType.Kind t) == (22 : Int)) else ((M.SType.Kind t) == (23 : Int))) then
 let q6 := (M.i_hasKind (M.SType.re (List.getD (M.SType.Kids t) (Int.toNat (0 : Int)) M.SType.zero)) [(21 : Int)])
 let q7 := (!((((List.length (M.SType.Kids t)) : Int) == (1 : Int)) == true))
 let q8 := (((Option.isSome q5) || (!((q3 == false) && (q4 == true)))) && (((Option.isSome q2) || (!(q1 == true))) && ((Option.isSome q0) && true)))
 let q9 := ((q8 || (!((M.SType.Kind t) == (12 : Int)))) && (q8 || ((M.SType.Kind t) == (12 : Int))))
 let q10 := ((q9 || (!((M.SType.Kind t) == (22 : Int)))) && (q9 || ((M.SType.Kind t) == (22 : Int))))
 bif (((Option.isSome q6) || q7) && (((Go.V.inB (0 : Int) (List.length (M.SType.Kids t))) || q7) && q10)) then
 some ((((List.length (M.SType.Kids t)) : Int) == (1 : Int)) && (!(Option.getD q6 default)))
 else
 none
 else
 let q6 := (((Option.isSome q5) || (!((q3 == false) && (q4 == true)))) && (((Option.isSome q2) || (!(q1 == true))) && ((Option.isSome q0) && true)))
 let q7 := ((q6 || (!((M.SType.Kind t) == (12 : Int)))) && (q6 || ((M.SType.Kind t) == (12 : Int))))
 let q8 := ((q7 || (!((M.SType.Kind t) == (22 : Int)))) && (q7 || ((M.SType.Kind t) == (22 : Int))))
 bif q8 then
 some (((decide ((1 : Int) ≤ (M.SType.Kind t))) && (decide ((M.SType.Kind t) ≤ (23 : Int)))) && (((List.length (M.SType.Kids t)) : Int) == (0 : Int)))
 else
 none
def i_shapeOk_n : Nat → M.SType → Option (Bool)
 | 0 => fun _ => none
 | n + 1 => i_shapeOk_b (i_shapeOk_n n)
def i_shapeOk : M.SType → Option (Bool) := i_shapeOk_n Go.V.bigN
def s_l03Ok (t : M.SType) : Option (Bool) :=
 let q0 := (M.s_l03Parts (M.SType.re t))
 let q1 := (M.s_l03Size (M.SType.re t) (1 : Int))
 let q2 := ((decide ((Option.getD q1 default).1 ≤ (4 : Int))) && (decide ((Option.getD q1 default).2 ≤ (24 : Int))))
 bif (((Option.isSome q0) || (!(q2 == true))) && ((Option.isSome q1) && true)) then
 some (q2 && (Option.getD q0 default))
 else
 none
def i_copyTypes_l0 (rec_i_copyType : M.SType → Option (Int × (List UInt8) × (List (List UInt8)) × (List M.SType))) (t7 : (List M.SType)) (t8 : Int) : Nat → Int → (List M.SType) → Option ((List M.SType))
 | 0, _, _ => none
 | fuel + 1, t9, out =>
 bif (decide (t9 < t8)) then
 let q0 := (Option.getD (rec_i_copyType (M.SType.re (List.getD t7 (Int.toNat t9) M.SType.zero))) default)
 let q1 := q0.2
 let q2 := q1.2
 let q3 := [(M.SType.mk q0.1 q1.1 q2.1 q2.2)]
 bif ((decide (((List.length out) + (List.length q3)) ≤ 1073741824)) && ((Option.isSome (rec_i_copyType (M.SType.re (List.getD t7 (Int.toNat t9) M.SType.zero)))) && ((Go.V.inB t9 (List.length t7)) && true))) then
 M.i_copyTypes_l0 rec_i_copyType t7 t8 fuel (Go.IntKind.wrap Go.IntKind.i64 (t9 + (1 : Int))) (out ++ q3)
 else
 none
 else
 some (out)
def i_copyTypes (rec_i_copyType : M.SType → Option (Int × (List UInt8) × (List (List UInt8)) × (List M.SType))) (list : (List M.SType)) : Option ((List M.SType)) :=
 match (M.i_copyTypes_l0 rec_i_copyType list ((List.length list) : Int) Go.V.bigN (0 : Int) []) with
 | none => none
 | some y0 =>
 some y0
def i_copyType_b (rec_i_copyType : M.SType → Option (Int × (List UInt8) × (List (List UInt8)) × (List M.SType))) (t : M.SType) : Option (Int × (List UInt8) × (List (List UInt8)) × (List M.SType)) :=
 let q0 := (M.i_copyTypes rec_i_copyType (M.SType.Kids t))
 let q1 := (M.slices_Clone_string_string (M.SType.Labels t))
 bif ((Option.isSome q0) && ((Option.isSome q1) && true)) then
 some ((M.SType.Kind t), (M.SType.Name t), (Option.getD q1 default), (Option.getD q0 default))
 else
 none
def i_copyType_n : Nat → M.SType → Option (Int × (List UInt8) × (List (List UInt8)) × (List M.SType))
 | 0 => fun _ => none
 | n + 1 => i_copyType_b (i_copyType_n n)
def i_copyType : M.SType → Option (Int × (List UInt8) × (List (List UInt8)) × (List M.SType)) := i_copyType_n Go.V.bigN
def s_l21Type (t : M.SType) : Option (Bool) :=
 let q0 := (M.s_l03Has (M.SType.re t) (20 : Int) (23 : Int))
 let q1 := (M.s_l03Ok (M.SType.re t))
 let q2 := ((Option.getD q1 default) && ((M.SType.Kind t) != (1 : Int)))
 bif (((Option.isSome q0) || (!(q2 == true))) && ((Option.isSome q1) && true)) then
 some (q2 && (!(Option.getD q0 default)))
 else
 none
def s_l03Own_l0 (rec_s_l03Own : M.SType → Option (M.SType)) (t2 : Int) (t22 : (List UInt8)) (out : Int) (out2 : (List UInt8)) (o7 : (List (List UInt8))) (o8 : (List M.SType)) (o9 : (List (List UInt8))) : Nat → Int → M.SType → (List M.SType) → Option (Int × (List UInt8) × Int × (List UInt8) × (List (List UInt8)) × (List M.SType) × (List (List UInt8)) × (List M.SType))
 | 0, _, _, _ => none
 | fuel + 1, i, t, o10 =>
 bif (decide (i < ((List.length (M.SType.Kids t)) : Int))) then
 let q0 := [(M.SType.re (Option.getD (rec_s_l03Own (M.SType.re (List.getD (M.SType.Kids t) (Int.toNat i) M.SType.zero))) default))]
 bif ((decide (((List.length o10) + (List.length q0)) ≤ 1073741824)) && ((Option.isSome (rec_s_l03Own (M.SType.re (List.getD (M.SType.Kids t) (Int.toNat i) M.SType.zero)))) && ((Go.V.inB i (List.length (M.SType.Kids t))) && true))) then
 M.s_l03Own_l0 rec_s_l03Own t2 t22 out out2 o7 o8 o9 fuel (Go.IntKind.wrap Go.IntKind.i64 (i + (1 : Int))) (M.SType.re t) (o10 ++ q0)
 else
 none
 else
 some ((t2, t22, out, out2, o7, o8, o9, o10))
def s_l03Own_b (rec_s_l03Own : M.SType → Option (M.SType)) (t : M.SType) : Option (M.SType) :=
 match (M.s_l03Own_l0 rec_s_l03Own (0 : Int) [] (M.SType.Kind t) (M.SType.Name t) [] [] ([] ++ (M.SType.Labels t)) Go.V.bigN (0 : Int) (M.SType.re t) []) with
 | none => none
 | some y0 =>
 bif ((decide ((0 + (List.length (M.SType.Labels t))) ≤ 1073741824)) && true) then
 let q1 := y0.2.2
 let q2 := q1.2
 let q3 := q2.2.2.2
 some (M.SType.mk q1.1 q2.1 q3.1 q3.2)
 else
 none
def s_l03Own_n : Nat → M.SType → Option (M.SType)
 | 0 => fun _ => none
 | n + 1 => s_l03Own_b (s_l03Own_n n)
def s_l03Own : M.SType → Option (M.SType) := s_l03Own_n Go.V.bigN
def i_TypeOk (t : M.SType) : Option (Bool) :=
 let q0 := (M.i_shapeOk (M.SType.re t))
 let q1 := (M.i_deep (M.SType.re t) (4 : Int))
 let q2 := (M.i_parts (M.SType.re t))
 let q3 := ((decide ((Option.getD q1 default) ≤ (4 : Int))) && (decide ((Option.getD q2 default) ≤ (24 : Int))))
 bif (((Option.isSome q0) || (!(q3 == true))) && (((Option.isSome q2) || (!((decide ((Option.getD q1 default) ≤ (4 : Int))) == true))) && ((Option.isSome q1) && true))) then
 some (q3 && (Option.getD q0 default))
 else
 none
def i_streamable (t : M.SType) : Option (Bool) :=
 let q0 := (M.i_hasKind (M.SType.re t) [(20 : Int), (21 : Int), (22 : Int), (23 : Int)])
 let q1 := (M.i_TypeOk (M.SType.re t))
 let q2 := ((Option.getD q1 default) && (!((M.SType.Kind t) == (1 : Int))))
 bif (((Option.isSome q0) || (!(q2 == true))) && ((Option.isSome q1) && true)) then
 some (q2 && (!(Option.getD q0 default)))
 else
 none
def l_markText_l0 : Nat → Int → (List UInt8) → Option ((List UInt8))
 | 0, _, _ => none
 | fuel + 1, k, out =>
 bif (decide ((0 : Int) < k)) then
 let q0 := (Go.IntKind.wrap Go.IntKind.u8 (Go.IntKind.wrap Go.IntKind.i64 ((48 : Int) + (Int.tmod k (10 : Int)))))
 let q1 := (List.map (fun a => a) [(Go.V.u8of q0)])
 bif (((10 : Int) != (0 : Int)) && ((Go.V.catB q1 out) && (((Go.V.u8ok q0) && true) && (((10 : Int) != (0 : Int)) && true)))) then
 M.l_markText_l0 fuel (Go.IntKind.wrap Go.IntKind.i64 (Int.tdiv k (10 : Int))) (q1 ++ out)
 else
 none
 else
 some (out)
def l_markText (k : Int) : Option ((List UInt8)) :=
 bif (decide (k ≤ (0 : Int))) then
 some [(109 : UInt8), (48 : UInt8)]
 else
 match (M.l_markText_l0 Go.V.bigN k []) with
 | none => none
 | some y0 =>
 bif ((Go.V.catB [(109 : UInt8)] y0) && true) then
 some ([(109 : UInt8)] ++ y0)
 else
 none
def l_markStringS_l0 : Nat → Int → Int → (List (List UInt8)) → Option (Int × (List (List UInt8)))
 | 0, _, _, _ => none
 | fuel + 1, k, i, a =>
 bif (decide (i < ((List.length a) : Int))) then
 let q0 := (M.l_markText k)
 bif ((Go.V.inB i (List.length a)) && (((Option.isSome q0) && true) && true)) then
 M.l_markStringS_l0 fuel (Go.IntKind.wrap Go.IntKind.i64 (k + (1 : Int))) (Go.IntKind.wrap Go.IntKind.i64 (i + (1 : Int))) (List.set a (Int.toNat i) (Option.getD q0 default))
 else
 none
 else
 some ((k, a))
def l_markStringS (k : Int) (a : (List (List UInt8))) : Option (Int × (List (List UInt8))) :=
 match (M.l_markStringS_l0 Go.V.bigN k (0 : Int) a) with
 | none => none
 | some y0 =>
 some (y0.1, y0.2)
def l_markTypeS_l0 (rec_l_markTypeS : Int → (List M.SType) → Option (Int × (List M.SType))) : Nat → Int → Int → (List M.SType) → Option (Int × (List M.SType))
 | 0, _, _, _ => none
 | fuel + 1, k, i, a =>
 bif (decide (i < ((List.length a) : Int))) then
 let q0 := (List.set a (Int.toNat i) (M.SType.mk k (M.SType.Name (List.getD a (Int.toNat i) M.SType.zero)) (M.SType.Labels (List.getD a (Int.toNat i) M.SType.zero)) (M.SType.Kids (List.getD a (Int.toNat i) M.SType.zero))))
 let q1 := (List.getD q0 (Int.toNat i) M.SType.zero)
 let q2 := (M.l_markText (Go.IntKind.wrap Go.IntKind.i64 (k + (1 : Int))))
 let q3 := (List.set q0 (Int.toNat i) (M.SType.mk (M.SType.Kind q1) (Option.getD q2 default) (M.SType.Labels q1) (M.SType.Kids q1)))
 let q4 := (List.getD q3 (Int.toNat i) M.SType.zero)
 let q5 := (M.l_markStringS (Go.IntKind.wrap Go.IntKind.i64 ((Go.IntKind.wrap Go.IntKind.i64 (k + (1 : Int))) + (1 : Int))) (M.SType.Labels q4))
 let q6 := (Option.getD q5 default)
 let q7 := (List.set q3 (Int.toNat i) (M.SType.mk (M.SType.Kind q4) (M.SType.Name q4) q6.2 (M.SType.Kids q4)))
 let q8 := (List.getD q7 (Int.toNat i) M.SType.zero)
 bif (((Option.isSome (rec_l_markTypeS q6.1 (M.SType.Kids q8))) && true) && ((Go.V.inB i (List.length q7)) && (((Option.isSome q5) && true) && ((Go.V.inB i (List.length q3)) && ((Go.V.inB i (List.length q0)) && (((Option.isSome q2) && true) && ((Go.V.inB i (List.length a)) && true))))))) then
 let q9 := (Option.getD (rec_l_markTypeS q6.1 (M.SType.Kids q8)) default)
 M.l_markTypeS_l0 rec_l_markTypeS fuel q9.1 (Go.IntKind.wrap Go.IntKind.i64 (i + (1 : Int))) (List.set q7 (Int.toNat i) (M.SType.mk (M.SType.Kind q8) (M.SType.Name q8) (M.SType.Labels q8) q9.2))
 else
 none
 else
 some ((k, a))
def l_markTypeS_b (rec_l_markTypeS : Int → (List M.SType) → Option (Int × (List M.SType))) (k : Int) (a : (List M.SType)) : Option (Int × (List M.SType)) :=
 match (M.l_markTypeS_l0 rec_l_markTypeS Go.V.bigN k (0 : Int) a) with
 | none => none
 | some y0 =>
 some (y0.1, y0.2)
def l_markTypeS_n : Nat → Int → (List M.SType) → Option (Int × (List M.SType))
 | 0 => fun _ _ => none
 | n + 1 => l_markTypeS_b (l_markTypeS_n n)
def l_markTypeS : Int → (List M.SType) → Option (Int × (List M.SType)) := l_markTypeS_n Go.V.bigN
def l_markValueS_l0 (rec_l_markValueS : Int → (List M.SValue) → Option (Int × (List M.SValue))) : Nat → Int → Int → (List M.SValue) → Option (Int × (List M.SValue))
 | 0, _, _, _ => none
 | fuel + 1, k, i, a =>
 bif (decide (i < ((List.length a) : Int))) then
 let q0 := (Go.IntKind.wrap Go.IntKind.i64 ((Go.IntKind.wrap Go.IntKind.i64 (k + (1 : Int))) + (1 : Int)))
 let q1 := (List.set a (Int.toNat i) (M.SValue.mk k (M.SValue.Num (List.getD a (Int.toNat i) M.SValue.zero)) (M.SValue.Text (List.getD a (Int.toNat i) M.SValue.zero)) (M.SValue.Kids (List.getD a (Int.toNat i) M.SValue.zero))))
 let q2 := (List.getD q1 (Int.toNat i) M.SValue.zero)
 let q3 := (List.set q1 (Int.toNat i) (M.SValue.mk (M.SValue.Kind q2) (Go.IntKind.wrap Go.IntKind.i64 (k + (1 : Int))) (M.SValue.Text q2) (M.SValue.Kids q2)))
 let q4 := (List.getD q3 (Int.toNat i) M.SValue.zero)
 let q5 := (M.l_markText q0)
 let q6 := (List.set q3 (Int.toNat i) (M.SValue.mk (M.SValue.Kind q4) (M.SValue.Num q4) (Option.getD q5 default) (M.SValue.Kids q4)))
 let q7 := (List.getD q6 (Int.toNat i) M.SValue.zero)
 bif (((Option.isSome (rec_l_markValueS (Go.IntKind.wrap Go.IntKind.i64 (q0 + (1 : Int))) (M.SValue.Kids q7))) && true) && ((Go.V.inB i (List.length q6)) && ((Go.V.inB i (List.length q3)) && (((Option.isSome q5) && true) && ((Go.V.inB i (List.length q1)) && ((Go.V.inB i (List.length a)) && true)))))) then
 let q8 := (Option.getD (rec_l_markValueS (Go.IntKind.wrap Go.IntKind.i64 (q0 + (1 : Int))) (M.SValue.Kids q7)) default)
 M.l_markValueS_l0 rec_l_markValueS fuel q8.1 (Go.IntKind.wrap Go.IntKind.i64 (i + (1 : Int))) (List.set q6 (Int.toNat i) (M.SValue.mk (M.SValue.Kind q7) (M.SValue.Num q7) (M.SValue.Text q7) q8.2))
 else
 none
 else
 some ((k, a))
def l_markValueS_b (rec_l_markValueS : Int → (List M.SValue) → Option (Int × (List M.SValue))) (k : Int) (a : (List M.SValue)) : Option (Int × (List M.SValue)) :=
 match (M.l_markValueS_l0 rec_l_markValueS Go.V.bigN k (0 : Int) a) with
 | none => none
 | some y0 =>
 some (y0.1, y0.2)
def l_markValueS_n : Nat → Int → (List M.SValue) → Option (Int × (List M.SValue))
 | 0 => fun _ _ => none
 | n + 1 => l_markValueS_b (l_markValueS_n n)
def l_markValueS : Int → (List M.SValue) → Option (Int × (List M.SValue)) := l_markValueS_n Go.V.bigN
def l_heldStringS_l0 (a : (List (List UInt8))) : Nat → Int → Int → Option ((Int) ⊕ (Int))
 | 0, _, _ => none
 | fuel + 1, k, i =>
 bif (decide (i < ((List.length a) : Int))) then
 let q0 := (M.l_markText k)
 bif (!((List.getD a (Int.toNat i) []) == (Option.getD q0 default))) then
 let q1 := ((Option.isSome q0) && ((Go.V.inB i (List.length a)) && true))
 bif q1 then
 some (.inl (-(1 : Int)))
 else
 none
 else
 let q1 := ((Option.isSome q0) && ((Go.V.inB i (List.length a)) && true))
 bif q1 then
 M.l_heldStringS_l0 a fuel (Go.IntKind.wrap Go.IntKind.i64 (k + (1 : Int))) (Go.IntKind.wrap Go.IntKind.i64 (i + (1 : Int)))
 else
 none
 else
 some ((.inr (k)))
def l_heldStringS (a : (List (List UInt8))) (k : Int) : Option (Int) :=
 match (M.l_heldStringS_l0 a Go.V.bigN k (0 : Int)) with
 | none => none
 | some y0 =>
 (match y0 with
 | .inl a1 =>
 some a1
 | .inr b1 =>
 some b1)
def l_heldTypeS_l0 (rec_l_heldTypeS : (List M.SType) → Int → Option (Int)) (a : (List M.SType)) : Nat → Int → Int → Option ((Int) ⊕ (Int))
 | 0, _, _ => none
 | fuel + 1, k, i =>
 bif (decide (i < ((List.length a) : Int))) then
 bif ((M.SType.Kind (List.getD a (Int.toNat i) M.SType.zero)) != k) then
 bif ((Go.V.inB i (List.length a)) && true) then
 some (.inl (-(1 : Int)))
 else
 none
 else
 let q0 := (M.l_markText (Go.IntKind.wrap Go.IntKind.i64 (k + (1 : Int))))
 bif (!((M.SType.Name (List.getD a (Int.toNat i) M.SType.zero)) == (Option.getD q0 default))) then
 let q1 := ((Option.isSome q0) && ((Go.V.inB i (List.length a)) && ((Go.V.inB i (List.length a)) && true)))
 bif q1 then
 some (.inl (-(1 : Int)))
 else
 none
 else
 let q1 := (M.l_heldStringS (M.SType.Labels (List.getD a (Int.toNat i) M.SType.zero)) (Go.IntKind.wrap Go.IntKind.i64 ((Go.IntKind.wrap Go.IntKind.i64 (k + (1 : Int))) + (1 : Int))))
 let q2 := (Option.getD q1 default)
 bif (decide (q2 < (0 : Int))) then
 let q3 := ((Option.isSome q0) && ((Go.V.inB i (List.length a)) && ((Go.V.inB i (List.length a)) && true)))
 let q4 := ((Option.isSome q1) && ((Go.V.inB i (List.length a)) && q3))
 bif q4 then
 some (.inl (-(1 : Int)))
 else
 none
 else
 let q3 := (Option.getD (rec_l_heldTypeS (M.SType.Kids (List.getD a (Int.toNat i) M.SType.zero)) q2) default)
 bif (decide (q3 < (0 : Int))) then
 let q4 := ((Option.isSome q0) && ((Go.V.inB i (List.length a)) && ((Go.V.inB i (List.length a)) && true)))
 let q5 := ((Option.isSome q1) && ((Go.V.inB i (List.length a)) && q4))
 let q6 := ((Option.isSome (rec_l_heldTypeS (M.SType.Kids (List.getD a (Int.toNat i) M.SType.zero)) q2)) && ((Go.V.inB i (List.length a)) && q5))
 bif q6 then
 some (.inl (-(1 : Int)))
 else
 none
 else
 let q4 := ((Option.isSome q0) && ((Go.V.inB i (List.length a)) && ((Go.V.inB i (List.length a)) && true)))
 let q5 := ((Option.isSome q1) && ((Go.V.inB i (List.length a)) && q4))
 let q6 := ((Option.isSome (rec_l_heldTypeS (M.SType.Kids (List.getD a (Int.toNat i) M.SType.zero)) q2)) && ((Go.V.inB i (List.length a)) && q5))
 bif q6 then
 M.l_heldTypeS_l0 rec_l_heldTypeS a fuel q3 (Go.IntKind.wrap Go.IntKind.i64 (i + (1 : Int)))
 else
 none
 else
 some ((.inr (k)))
def l_heldTypeS_b (rec_l_heldTypeS : (List M.SType) → Int → Option (Int)) (a : (List M.SType)) (k : Int) : Option (Int) :=
 match (M.l_heldTypeS_l0 rec_l_heldTypeS a Go.V.bigN k (0 : Int)) with
 | none => none
 | some y0 =>
 (match y0 with
 | .inl a1 =>
 some a1
 | .inr b1 =>
 some b1)
def l_heldTypeS_n : Nat → (List M.SType) → Int → Option (Int)
 | 0 => fun _ _ => none
 | n + 1 => l_heldTypeS_b (l_heldTypeS_n n)
def l_heldTypeS : (List M.SType) → Int → Option (Int) := l_heldTypeS_n Go.V.bigN
def l_heldValueS_l0 (rec_l_heldValueS : (List M.SValue) → Int → Option (Int)) (a : (List M.SValue)) : Nat → Int → Int → Option ((Int) ⊕ (Int))
 | 0, _, _ => none
 | fuel + 1, k, i =>
 bif (decide (i < ((List.length a) : Int))) then
 bif ((M.SValue.Kind (List.getD a (Int.toNat i) M.SValue.zero)) != k) then
 bif ((Go.V.inB i (List.length a)) && true) then
 some (.inl (-(1 : Int)))
 else
 none
 else
 bif ((M.SValue.Num (List.getD a (Int.toNat i) M.SValue.zero)) != (Go.IntKind.wrap Go.IntKind.i64 (k + (1 : Int)))) then
 let q0 := ((Go.V.inB i (List.length a)) && ((Go.V.inB i (List.length a)) && true))
 bif q0 then
 some (.inl (-(1 : Int)))
 else
 none
 else
 let q0 := (Go.IntKind.wrap Go.IntKind.i64 ((Go.IntKind.wrap Go.IntKind.i64 (k + (1 : Int))) + (1 : Int)))
 let q1 := (M.l_markText q0)
 bif (!((M.SValue.Text (List.getD a (Int.toNat i) M.SValue.zero)) == (Option.getD q1 default))) then
 let q2 := ((Go.V.inB i (List.length a)) && ((Go.V.inB i (List.length a)) && true))
 let q3 := ((Option.isSome q1) && ((Go.V.inB i (List.length a)) && q2))
 bif q3 then
 some (.inl (-(1 : Int)))
 else
 none
 else
 let q2 := (Option.getD (rec_l_heldValueS (M.SValue.Kids (List.getD a (Int.toNat i) M.SValue.zero)) (Go.IntKind.wrap Go.IntKind.i64 (q0 + (1 : Int)))) default)
 bif (decide (q2 < (0 : Int))) then
 let q3 := ((Go.V.inB i (List.length a)) && ((Go.V.inB i (List.length a)) && true))
 let q4 := ((Option.isSome q1) && ((Go.V.inB i (List.length a)) && q3))
 let q5 := ((Option.isSome (rec_l_heldValueS (M.SValue.Kids (List.getD a (Int.toNat i) M.SValue.zero)) (Go.IntKind.wrap Go.IntKind.i64 (q0 + (1 : Int))))) && ((Go.V.inB i (List.length a)) && q4))
 bif q5 then
 some (.inl (-(1 : Int)))
 else
 none
 else
 let q3 := ((Go.V.inB i (List.length a)) && ((Go.V.inB i (List.length a)) && true))
 let q4 := ((Option.isSome q1) && ((Go.V.inB i (List.length a)) && q3))
 let q5 := ((Option.isSome (rec_l_heldValueS (M.SValue.Kids (List.getD a (Int.toNat i) M.SValue.zero)) (Go.IntKind.wrap Go.IntKind.i64 (q0 + (1 : Int))))) && ((Go.V.inB i (List.length a)) && q4))
 bif q5 then
 M.l_heldValueS_l0 rec_l_heldValueS a fuel q2 (Go.IntKind.wrap Go.IntKind.i64 (i + (1 : Int)))
 else
 none
 else
 some ((.inr (k)))
def l_heldValueS_b (rec_l_heldValueS : (List M.SValue) → Int → Option (Int)) (a : (List M.SValue)) (k : Int) : Option (Int) :=
 match (M.l_heldValueS_l0 rec_l_heldValueS a Go.V.bigN k (0 : Int)) with
 | none => none
 | some y0 =>
 (match y0 with
 | .inl a1 =>
 some a1
 | .inr b1 =>
 some b1)
def l_heldValueS_n : Nat → (List M.SValue) → Int → Option (Int)
 | 0 => fun _ _ => none
 | n + 1 => l_heldValueS_b (l_heldValueS_n n)
def l_heldValueS : (List M.SValue) → Int → Option (Int) := l_heldValueS_n Go.V.bigN
def l_eqValueS_l0 (rec_l_eqValue : M.SValue → M.SValue → Option (Bool)) (a : (List M.SValue)) (b : (List M.SValue)) : Nat → Int → Option ((Bool) ⊕ (Unit))
 | 0, _ => none
 | fuel + 1, i =>
 bif (decide (i < ((List.length a) : Int))) then
 bif (!(Option.getD (rec_l_eqValue (M.SValue.re (List.getD a (Int.toNat i) M.SValue.zero)) (M.SValue.re (List.getD b (Int.toNat i) M.SValue.zero))) default)) then
 let q0 := ((Option.isSome (rec_l_eqValue (M.SValue.re (List.getD a (Int.toNat i) M.SValue.zero)) (M.SValue.re (List.getD b (Int.toNat i) M.SValue.zero)))) && ((Go.V.inB i (List.length b)) && ((Go.V.inB i (List.length a)) && true)))
 bif q0 then
 some (.inl false)
 else
 none
 else
 let q0 := ((Option.isSome (rec_l_eqValue (M.SValue.re (List.getD a (Int.toNat i) M.SValue.zero)) (M.SValue.re (List.getD b (Int.toNat i) M.SValue.zero)))) && ((Go.V.inB i (List.length b)) && ((Go.V.inB i (List.length a)) && true)))
 bif q0 then
 M.l_eqValueS_l0 rec_l_eqValue a b fuel (Go.IntKind.wrap Go.IntKind.i64 (i + (1 : Int)))
 else
 none
 else
 some ((.inr (())))
def l_eqValueS (rec_l_eqValue : M.SValue → M.SValue → Option (Bool)) (a : (List M.SValue)) (b : (List M.SValue)) : Option (Bool) :=
 bif (((List.length a) : Int) != ((List.length b) : Int)) then
 some false
 else
 match (M.l_eqValueS_l0 rec_l_eqValue a b Go.V.bigN (0 : Int)) with
 | none => none
 | some y0 =>
 (match y0 with
 | .inl a1 =>
 some a1
 | .inr b1 =>
 some true)
def l_eqValue_b (rec_l_eqValue : M.SValue → M.SValue → Option (Bool)) (a : M.SValue) (b : M.SValue) : Option (Bool) :=
 bif ((M.SValue.Kind a) != (M.SValue.Kind b)) then
 some false
 else
 bif ((M.SValue.Num a) != (M.SValue.Num b)) then
 some false
 else
 bif (!((M.SValue.Text a) == (M.SValue.Text b))) then
 some false
 else
 let q0 := (M.l_eqValueS rec_l_eqValue (M.SValue.Kids a) (M.SValue.Kids b))
 bif (!(Option.getD q0 default)) then
 bif ((Option.isSome q0) && true) then
 some false
 else
 none
 else
 bif ((Option.isSome q0) && true) then
 some true
 else
 none
def l_eqValue_n : Nat → M.SValue → M.SValue → Option (Bool)
 | 0 => fun _ _ => none
 | n + 1 => l_eqValue_b (l_eqValue_n n)
def l_eqValue : M.SValue → M.SValue → Option (Bool) := l_eqValue_n Go.V.bigN
def i_copyValues_l0 (rec_i_copyValue : M.SValue → Option (Int × Int × (List UInt8) × (List M.SValue))) (t7 : (List M.SValue)) (t8 : Int) : Nat → Int → (List M.SValue) → Option ((List M.SValue))
 | 0, _, _ => none
 | fuel + 1, t9, out =>
 bif (decide (t9 < t8)) then
 let q0 := (Option.getD (rec_i_copyValue (M.SValue.re (List.getD t7 (Int.toNat t9) M.SValue.zero))) default)
 let q1 := q0.2
 let q2 := q1.2
 let q3 := [(M.SValue.mk q0.1 q1.1 q2.1 q2.2)]
 bif ((decide (((List.length out) + (List.length q3)) ≤ 1073741824)) && ((Option.isSome (rec_i_copyValue (M.SValue.re (List.getD t7 (Int.toNat t9) M.SValue.zero)))) && ((Go.V.inB t9 (List.length t7)) && true))) then
 M.i_copyValues_l0 rec_i_copyValue t7 t8 fuel (Go.IntKind.wrap Go.IntKind.i64 (t9 + (1 : Int))) (out ++ q3)
 else
 none
 else
 some (out)
def i_copyValues (rec_i_copyValue : M.SValue → Option (Int × Int × (List UInt8) × (List M.SValue))) (list : (List M.SValue)) : Option ((List M.SValue)) :=
 match (M.i_copyValues_l0 rec_i_copyValue list ((List.length list) : Int) Go.V.bigN (0 : Int) []) with
 | none => none
 | some y0 =>
 some y0
def i_copyValue_b (rec_i_copyValue : M.SValue → Option (Int × Int × (List UInt8) × (List M.SValue))) (v : M.SValue) : Option (Int × Int × (List UInt8) × (List M.SValue)) :=
 let q0 := (M.i_copyValues rec_i_copyValue (M.SValue.Kids v))
 bif ((Option.isSome q0) && true) then
 some ((M.SValue.Kind v), (M.SValue.Num v), (M.SValue.Text v), (Option.getD q0 default))
 else
 none
def i_copyValue_n : Nat → M.SValue → Option (Int × Int × (List UInt8) × (List M.SValue))
 | 0 => fun _ => none
 | n + 1 => i_copyValue_b (i_copyValue_n n)
def i_copyValue : M.SValue → Option (Int × Int × (List UInt8) × (List M.SValue)) := i_copyValue_n Go.V.bigN
def i_copyStream (s : M.SStream) : Option (Int × (List UInt8) × Int × Bool × Int × Int × Bool × Bool × (List (List UInt8)) × (List M.SType) × (List M.SValue)) :=
 let q0 := (M.i_copyValues M.i_copyValue (M.SStream.Buffer s))
 let q1 := (M.i_copyType (M.SType.re (M.SStream.Type_ s)))
 bif ((Option.isSome q0) && ((Option.isSome q1) && true)) then
 let q2 := (Option.getD q1 default)
 let q3 := q2.2
 let q4 := q3.2
 some (q2.1, q3.1, (M.SStream.Room s), (M.SStream.Future s), (M.SStream.Put s), (M.SStream.Got s), (M.SStream.Shut s), (M.SStream.Gone s), q4.1, q4.2, (Option.getD q0 default))
 else
 none
def l_eqStream (a : M.SStream) (b : M.SStream) : Option (Bool) :=
 let q0 := (M.l_eqType (M.SType.re (M.SStream.Type_ a)) (M.SType.re (M.SStream.Type_ b)))
 bif (!(Option.getD q0 default)) then
 bif ((Option.isSome q0) && true) then
 some false
 else
 none
 else
 bif ((M.SStream.Room a) != (M.SStream.Room b)) then
 bif ((Option.isSome q0) && true) then
 some false
 else
 none
 else
 bif (!((M.SStream.Future a) == (M.SStream.Future b))) then
 bif ((Option.isSome q0) && true) then
 some false
 else
 none
 else
 let q1 := (M.l_eqValueS M.l_eqValue (M.SStream.Buffer a) (M.SStream.Buffer b))
 bif (!(Option.getD q1 default)) then
 let q2 := ((Option.isSome q1) && ((Option.isSome q0) && true))
 bif q2 then
 some false
 else
 none
 else
 bif ((M.SStream.Put a) != (M.SStream.Put b)) then
 let q2 := ((Option.isSome q1) && ((Option.isSome q0) && true))
 bif q2 then
 some false
 else
 none
 else
 bif ((M.SStream.Got a) != (M.SStream.Got b)) then
 let q2 := ((Option.isSome q1) && ((Option.isSome q0) && true))
 bif q2 then
 some false
 else
 none
 else
 bif (!((M.SStream.Shut a) == (M.SStream.Shut b))) then
 let q2 := ((Option.isSome q1) && ((Option.isSome q0) && true))
 bif q2 then
 some false
 else
 none
 else
 bif (!((M.SStream.Gone a) == (M.SStream.Gone b))) then
 let q2 := ((Option.isSome q1) && ((Option.isSome q0) && true))
 bif q2 then
 some false
 else
 none
 else
 let q2 := ((Option.isSome q1) && ((Option.isSome q0) && true))
 bif q2 then
 some true
 else
 none
def l_szAopS (a : (List M.SAop)) (left : Int) : Option (Int) :=
 bif (decide ((Go.IntKind.wrap Go.IntKind.i64 (left - ((List.length a) : Int))) < (0 : Int))) then
 some (-(1 : Int))
 else
 some (Go.IntKind.wrap Go.IntKind.i64 (left - ((List.length a) : Int)))
def l_szProg (a : M.SProg) (left : Int) : Option (Int) :=
 let q0 := (M.l_szAopS (M.SProg.Ops a) left)
 bif (decide ((Option.getD q0 default) < (0 : Int))) then
 bif ((Option.isSome q0) && true) then
 some (-(1 : Int))
 else
 none
 else
 bif ((Option.isSome q0) && true) then
 some (Option.getD q0 default)
 else
 none
def l_szProgS_l0 (a : (List M.SProg)) : Nat → Int → Int → Option ((Int) ⊕ (Int))
 | 0, _, _ => none
 | fuel + 1, left, i =>
 bif (decide (i < ((List.length a) : Int))) then
 let q0 := (M.l_szProg (List.getD a (Int.toNat i) M.SProg.zero) left)
 let q1 := (Option.getD q0 default)
 bif (decide (q1 < (0 : Int))) then
 let q2 := ((Option.isSome q0) && ((Go.V.inB i (List.length a)) && true))
 bif q2 then
 some (.inl (-(1 : Int)))
 else
 none
 else
 let q2 := ((Option.isSome q0) && ((Go.V.inB i (List.length a)) && true))
 bif q2 then
 M.l_szProgS_l0 a fuel q1 (Go.IntKind.wrap Go.IntKind.i64 (i + (1 : Int)))
 else
 none
 else
 some ((.inr (left)))
def l_szProgS (a : (List M.SProg)) (left : Int) : Option (Int) :=
 bif (decide ((Go.IntKind.wrap Go.IntKind.i64 (left - ((List.length a) : Int))) < (0 : Int))) then
 some (-(1 : Int))
 else
 match (M.l_szProgS_l0 a Go.V.bigN (Go.IntKind.wrap Go.IntKind.i64 (left - ((List.length a) : Int))) (0 : Int)) with
 | none => none
 | some y0 =>
 (match y0 with
 | .inl a1 =>
 some a1
 | .inr b1 =>
 some b1)
def l_toAop (a : M.SAop) : Option (M.SAop) :=
 some a
def l_toAopS_l0 (a : (List M.SAop)) : Nat → Int → (List M.SAop) → Option ((List M.SAop))
 | 0, _, _ => none
 | fuel + 1, i, out =>
 bif (decide (i < ((List.length a) : Int))) then
 bif ((Go.V.inB i (List.length out)) && ((Go.V.inB i (List.length a)) && true)) then
 M.l_toAopS_l0 a fuel (Go.IntKind.wrap Go.IntKind.i64 (i + (1 : Int))) (List.set out (Int.toNat i) (List.getD a (Int.toNat i) M.SAop.zero))
 else
 none
 else
 some (out)
def l_toAopS (a : (List M.SAop)) : Option ((List M.SAop)) :=
 match (M.l_toAopS_l0 a Go.V.bigN (0 : Int) (List.replicate (Int.toNat ((List.length a) : Int)) (M.SAop.mk (0 : Int) (0 : Int) (0 : Int)))) with
 | none => none
 | some y0 =>
 bif (((decide (((List.length a) : Int) ≤ ((List.length a) : Int))) && (decide (((List.length a) : Int) ≤ (1073741824 : Int)))) && true) then
 some y0
 else
 none
def l_toProg (a : M.SProg) : Option (Int × (List M.SAop)) :=
 let q0 := (M.l_toAopS (M.SProg.Ops a))
 bif ((Option.isSome q0) && true) then
 some ((M.SProg.Inst a), (Option.getD q0 default))
 else
 none
def l_toProgS_l0 (a : (List M.SProg)) : Nat → Int → (List M.SProg) → Option ((List M.SProg))
 | 0, _, _ => none
 | fuel + 1, i, out =>
 bif (decide (i < ((List.length a) : Int))) then
 let q0 := (M.l_toProg (List.getD a (Int.toNat i) M.SProg.zero))
 bif ((Go.V.inB i (List.length out)) && ((Option.isSome q0) && ((Go.V.inB i (List.length a)) && true))) then
 let q1 := (Option.getD q0 default)
 M.l_toProgS_l0 a fuel (Go.IntKind.wrap Go.IntKind.i64 (i + (1 : Int))) (List.set out (Int.toNat i) (M.SProg.mk q1.1 q1.2))
 else
 none
 else
 some (out)
def l_toProgS (a : (List M.SProg)) : Option ((List M.SProg)) :=
 match (M.l_toProgS_l0 a Go.V.bigN (0 : Int) (List.replicate (Int.toNat ((List.length a) : Int)) (M.SProg.mk (0 : Int) []))) with
 | none => none
 | some y0 =>
 bif (((decide (((List.length a) : Int) ≤ ((List.length a) : Int))) && (decide (((List.length a) : Int) ≤ (1073741824 : Int)))) && true) then
 some y0
 else
 none
def l_toInt64S_l0 (a : (List Int)) : Nat → Int → (List Int) → Option ((List Int))
 | 0, _, _ => none
 | fuel + 1, i, out =>
 bif (decide (i < ((List.length a) : Int))) then
 bif ((Go.V.inB i (List.length out)) && ((Go.V.inB i (List.length a)) && true)) then
 M.l_toInt64S_l0 a fuel (Go.IntKind.wrap Go.IntKind.i64 (i + (1 : Int))) (List.set out (Int.toNat i) (List.getD a (Int.toNat i) (0 : Int)))
 else
 none
 else
 some (out)
def l_toInt64S (a : (List Int)) : Option ((List Int)) :=
 match (M.l_toInt64S_l0 a Go.V.bigN (0 : Int) (List.replicate (Int.toNat ((List.length a) : Int)) (0 : Int))) with
 | none => none
 | some y0 =>
 bif (((decide (((List.length a) : Int) ≤ ((List.length a) : Int))) && (decide (((List.length a) : Int) ≤ (1073741824 : Int)))) && true) then
 some y0
 else
 none
def s_l22Aop (o : M.SAop) : Option (Bool) :=
 bif ((!((decide ((1 : Int) ≤ (M.SAop.Kind o))) && (decide ((M.SAop.Kind o) ≤ (12 : Int))))) || (!((decide ((0 : Int) ≤ (M.SAop.A o))) && (decide ((M.SAop.A o) ≤ (bif ((M.SAop.Kind o) == (1 : Int)) then (5 : Int) else (bif (bif ((M.SAop.Kind o) == (2 : Int)) then ((M.SAop.Kind o) == (2 : Int)) else ((M.SAop.Kind o) == (10 : Int))) then (7 : Int) else (bif (bif ((M.SAop.Kind o) == (5 : Int)) then ((M.SAop.Kind o) == (5 : Int)) else (bif ((M.SAop.Kind o) == (6 : Int)) then ((M.SAop.Kind o) == (6 : Int)) else (bif ((M.SAop.Kind o) == (7 : Int)) then ((M.SAop.Kind o) == (7 : Int)) else ((M.SAop.Kind o) == (8 : Int))))) then (3 : Int) else (bif ((M.SAop.Kind o) == (9 : Int)) then (999 : Int) else (bif ((M.SAop.Kind o) == (11 : Int)) then (1 : Int) else (0 : Int))))))))))) then
 some false
 else
 bif (((M.SAop.Kind o) == (5 : Int)) || ((M.SAop.Kind o) == (6 : Int))) then
 some ((decide ((1 : Int) ≤ (M.SAop.B o))) && (decide ((M.SAop.B o) ≤ (4 : Int))))
 else
 some ((M.SAop.B o) == (0 : Int))
def s_ProgOk_l0 (p : M.SProg) : Nat → Int → Option ((Bool) ⊕ (Unit))
 | 0, _ => none
 | fuel + 1, i =>
 bif (decide (i < ((List.length (M.SProg.Ops p)) : Int))) then
 let q0 := (M.s_l22Aop (List.getD (M.SProg.Ops p) (Int.toNat i) M.SAop.zero))
 bif (!(Option.getD q0 default)) then
 let q1 := ((Option.isSome q0) && ((Go.V.inB i (List.length (M.SProg.Ops p))) && true))
 bif q1 then
 some (.inl false)
 else
 none
 else
 let q1 := ((Option.isSome q0) && ((Go.V.inB i (List.length (M.SProg.Ops p))) && true))
 bif q1 then
 M.s_ProgOk_l0 p fuel (Go.IntKind.wrap Go.IntKind.i64 (i + (1 : Int)))
 else
 none
 else
 some ((.inr (())))
def s_ProgOk (p : M.SProg) : Option (Bool) :=
 bif ((!((decide ((1 : Int) ≤ (M.SProg.Inst p))) && (decide ((M.SProg.Inst p) ≤ (6 : Int))))) || (decide ((12 : Int) < ((List.length (M.SProg.Ops p)) : Int)))) then
 some false
 else
 match (M.s_ProgOk_l0 p Go.V.bigN (0 : Int)) with
 | none => none
 | some y0 =>
 (match y0 with
 | .inl a1 =>
 some a1
 | .inr b1 =>
 some true)
def s_l22Progs_l0 (list : (List M.SProg)) : Nat → Int → Option ((Bool) ⊕ (Unit))
 | 0, _ => none
 | fuel + 1, i =>
 bif (decide (i < ((List.length list) : Int))) then
 let q0 := (M.s_ProgOk (List.getD list (Int.toNat i) M.SProg.zero))
 bif (!(Option.getD q0 default)) then
 let q1 := ((Option.isSome q0) && ((Go.V.inB i (List.length list)) && true))
 bif q1 then
 some (.inl false)
 else
 none
 else
 let q1 := ((Option.isSome q0) && ((Go.V.inB i (List.length list)) && true))
 bif q1 then
 M.s_l22Progs_l0 list fuel (Go.IntKind.wrap Go.IntKind.i64 (i + (1 : Int)))
 else
 none
 else
 some ((.inr (())))
def s_l22Progs (list : (List M.SProg)) : Option (Bool) :=
 bif ((decide (((List.length list) : Int) < (1 : Int))) || (decide ((6 : Int) < ((List.length list) : Int)))) then
 some false
 else
 match (M.s_l22Progs_l0 list Go.V.bigN (0 : Int)) with
 | none => none
 | some y0 =>
 (match y0 with
 | .inl a1 =>
 some a1
 | .inr b1 =>
 some true)
def s_l22OwnProgs_l0 (list : (List M.SProg)) : Nat → Int → (List M.SProg) → Option ((List M.SProg))
 | 0, _, _ => none
 | fuel + 1, i, out =>
 bif (decide (i < ((List.length list) : Int))) then
 let q0 := [(M.SProg.mk (M.SProg.Inst (List.getD list (Int.toNat i) M.SProg.zero)) ([] ++ (M.SProg.Ops (List.getD list (Int.toNat i) M.SProg.zero))))]
 bif ((decide (((List.length out) + (List.length q0)) ≤ 1073741824)) && ((decide ((0 + (List.length (M.SProg.Ops (List.getD list (Int.toNat i) M.SProg.zero)))) ≤ 1073741824)) && ((Go.V.inB i (List.length list)) && ((Go.V.inB i (List.length list)) && true)))) then
 M.s_l22OwnProgs_l0 list fuel (Go.IntKind.wrap Go.IntKind.i64 (i + (1 : Int))) (out ++ q0)
 else
 none
 else
 some (out)
def s_l22OwnProgs (list : (List M.SProg)) : Option ((List M.SProg)) :=
 match (M.s_l22OwnProgs_l0 list Go.V.bigN (0 : Int) []) with
 | none => none
 | some y0 =>
 some y0
def s_NewStream (t : M.SType) (room : Int) : Option (M.SStream × Int) :=
 let q0 := (M.s_l21Type (M.SType.re t))
 bif (!(Option.getD q0 default)) then
 bif ((Option.isSome q0) && true) then
 some ((M.SStream.mk (M.SType.mk (0 : Int) [] [] []) (0 : Int) false [] (0 : Int) (0 : Int) false false), (7 : Int))
 else
 none
 else
 bif (!((decide ((1 : Int) ≤ room)) && (decide (room ≤ (6 : Int))))) then
 bif ((Option.isSome q0) && true) then
 some ((M.SStream.mk (M.SType.mk (0 : Int) [] [] []) (0 : Int) false [] (0 : Int) (0 : Int) false false), (2 : Int))
 else
 none
 else
 let q1 := (M.s_l03Own (M.SType.re t))
 bif ((Option.isSome q1) && ((Option.isSome q0) && true)) then
 some ((M.SStream.mk (M.SType.re (Option.getD q1 default)) room false [] (0 : Int) (0 : Int) false false), (0 : Int))
 else
 none
def s_NewAsync_l0 (rooms : (List Int)) (w : (List M.SProg)) (o11 : (List M.SProg)) (o12 : (List M.SStream)) (o13 : (List M.STask)) (o14 : (List Int)) (o15 : (List M.SNote)) (o17 : (List M.STask)) (o18 : (List Int)) (o19 : (List M.SNote)) : Nat → Int → (List M.SStream) → Option ((Int × (List M.SProg) × (List M.SStream) × (List M.STask) × (List Int) × (List M.SNote)) ⊕ ((List M.SProg) × (List M.SProg) × (List M.SStream) × (List M.STask) × (List Int) × (List M.SNote) × (List M.SStream) × (List M.STask) × (List Int) × (List M.SNote)))
 | 0, _, _ => none
 | fuel + 1, i, o16 =>
 bif (decide (i < ((List.length rooms) : Int))) then
 let q0 := (M.s_NewStream (M.SType.mk (9 : Int) [] [] []) (List.getD rooms (Int.toNat i) (0 : Int)))
 let q1 := (Option.getD q0 default)
 let q2 := q1.2
 bif (q2 != (0 : Int)) then
 let q3 := ((Option.isSome q0) && ((Go.V.inB i (List.length rooms)) && true))
 bif q3 then
 some (.inl (q2, [], [], [], [], []))
 else
 none
 else
 let q3 := [(M.SStream.re q1.1)]
 let q4 := ((Option.isSome q0) && ((Go.V.inB i (List.length rooms)) && true))
 bif ((decide (((List.length o16) + (List.length q3)) ≤ 1073741824)) && q4) then
 M.s_NewAsync_l0 rooms w o11 o12 o13 o14 o15 o17 o18 o19 fuel (Go.IntKind.wrap Go.IntKind.i64 (i + (1 : Int))) (o16 ++ q3)
 else
 none
 else
 some ((.inr ((w, o11, o12, o13, o14, o15, o16, o17, o18, o19))))
def s_NewAsync (progs : (List M.SProg)) (rooms : (List Int)) : Option (M.SAsync × Int) :=
 let q0 := (M.s_l22Progs progs)
 bif (!(Option.getD q0 default)) then
 bif ((Option.isSome q0) && true) then
 some ((M.SAsync.mk [] [] [] [] []), (1 : Int))
 else
 none
 else
 bif (decide ((4 : Int) < ((List.length rooms) : Int))) then
 bif ((Option.isSome q0) && true) then
 some ((M.SAsync.mk [] [] [] [] []), (4 : Int))
 else
 none
 else
 let q1 := (M.s_l22OwnProgs progs)
 match (M.s_NewAsync_l0 rooms (Option.getD q1 default) [] [] [] [] [] [] [] [] Go.V.bigN (0 : Int) []) with
 | none => none
 | some y2 =>
 (match y2 with
 | .inl a3 =>
 bif ((Option.isSome q1) && ((Option.isSome q0) && true)) then
 let q4 := a3.2
 let q5 := q4.2
 let q6 := q5.2
 let q7 := q6.2
 some ((M.SAsync.mk q4.1 q5.1 q6.1 q7.1 q7.2), a3.1)
 else
 none
 | .inr b3 =>
 bif ((Option.isSome q1) && ((Option.isSome q0) && true)) then
 let q4 := b3.2.2.2.2.2.2
 let q5 := q4.2
 let q6 := q5.2
 some ((M.SAsync.mk b3.1 q4.1 q5.1 q6.1 q6.2), (0 : Int))
 else
 none)
def i_size_Prog (list : (List M.SProg)) : Option (Int) :=
 some ((List.length list) : Int)
def i_aopOk (o : M.SAop) : Option (Bool) :=
 let q0 := (bif ((M.SAop.Kind o) == (2 : Int)) then ((M.SAop.Kind o) == (2 : Int)) else ((M.SAop.Kind o) == (10 : Int)))
 let q1 := (bif ((M.SAop.Kind o) == (5 : Int)) then ((M.SAop.Kind o) == (5 : Int)) else ((M.SAop.Kind o) == (6 : Int)))
 some ((((decide ((1 : Int) ≤ (M.SAop.Kind o))) && (decide ((M.SAop.Kind o) ≤ (12 : Int)))) && ((decide ((0 : Int) ≤ (M.SAop.A o))) && (decide ((M.SAop.A o) ≤ (bif ((M.SAop.Kind o) == (1 : Int)) then (5 : Int) else (bif q0 then (7 : Int) else (bif q1 then (3 : Int) else (bif (bif ((M.SAop.Kind o) == (7 : Int)) then ((M.SAop.Kind o) == (7 : Int)) else ((M.SAop.Kind o) == (8 : Int))) then (3 : Int) else (bif ((M.SAop.Kind o) == (9 : Int)) then (999 : Int) else (bif ((M.SAop.Kind o) == (11 : Int)) then (1 : Int) else (0 : Int))))))))))) && ((decide ((bif ((M.SAop.Kind o) == (1 : Int)) then (0 : Int) else (bif q0 then (0 : Int) else (bif q1 then (1 : Int) else (0 : Int)))) ≤ (M.SAop.B o))) && (decide ((M.SAop.B o) ≤ (bif ((M.SAop.Kind o) == (1 : Int)) then (0 : Int) else (bif q0 then (0 : Int) else (bif q1 then (4 : Int) else (0 : Int))))))))
def i_ProgOk_c1 (o : M.SAop) : Option (Bool) :=
 some (!(Option.getD (M.i_aopOk o) default))
def slices_IndexFunc_Aop_Aop_l0 (s : (List M.SAop)) (t7 : Int) : Nat → Int → Option ((Int) ⊕ (Unit))
 | 0, _ => none
 | fuel + 1, t8 =>
 bif (decide (t8 < t7)) then
 bif (!(Option.getD (M.i_aopOk (List.getD s (Int.toNat t8) M.SAop.zero)) default)) then
 bif ((Go.V.inB t8 (List.length s)) && true) then
 some (.inl t8)
 else
 none
 else
 bif ((Go.V.inB t8 (List.length s)) && true) then
 M.slices_IndexFunc_Aop_Aop_l0 s t7 fuel (Go.IntKind.wrap Go.IntKind.i64 (t8 + (1 : Int)))
 else
 none
 else
 some ((.inr (())))
def slices_IndexFunc_Aop_Aop (s : (List M.SAop)) : Option (Int) :=
 match (M.slices_IndexFunc_Aop_Aop_l0 s ((List.length s) : Int) Go.V.bigN (0 : Int)) with
 | none => none
 | some y0 =>
 (match y0 with
 | .inl a1 =>
 some a1
 | .inr b1 =>
 some (-(1 : Int)))
def slices_ContainsFunc_Aop_Aop (s : (List M.SAop)) : Option (Bool) :=
 let q0 := (M.slices_IndexFunc_Aop_Aop s)
 bif ((Option.isSome q0) && true) then
 some (decide ((0 : Int) ≤ (Option.getD q0 default)))
 else
 none
def i_ProgOk (p : M.SProg) : Option (Bool) :=
 let q0 := (M.slices_ContainsFunc_Aop_Aop (M.SProg.Ops p))
 let q1 := (((decide ((1 : Int) ≤ (M.SProg.Inst p))) && (decide ((M.SProg.Inst p) ≤ (6 : Int)))) && (decide (((List.length (M.SProg.Ops p)) : Int) ≤ (12 : Int))))
 bif (((Option.isSome q0) || (!(q1 == true))) && true) then
 some (q1 && (!(Option.getD q0 default)))
 else
 none
def i_progsOk_c1 (p : M.SProg) : Option (Bool) :=
 let q0 := (M.i_ProgOk p)
 bif ((Option.isSome q0) && true) then
 some (!(Option.getD q0 default))
 else
 none
def slices_IndexFunc_Prog_Prog_l0 (s : (List M.SProg)) (t7 : Int) : Nat → Int → Option ((Int) ⊕ (Unit))
 | 0, _ => none
 | fuel + 1, t8 =>
 bif (decide (t8 < t7)) then
 let q0 := (M.i_progsOk_c1 (List.getD s (Int.toNat t8) M.SProg.zero))
 bif (Option.getD q0 default) then
 let q1 := ((Option.isSome q0) && ((Go.V.inB t8 (List.length s)) && true))
 bif q1 then
 some (.inl t8)
 else
 none
 else
 let q1 := ((Option.isSome q0) && ((Go.V.inB t8 (List.length s)) && true))
 bif q1 then
 M.slices_IndexFunc_Prog_Prog_l0 s t7 fuel (Go.IntKind.wrap Go.IntKind.i64 (t8 + (1 : Int)))
 else
 none
 else
 some ((.inr (())))
def slices_IndexFunc_Prog_Prog (s : (List M.SProg)) : Option (Int) :=
 match (M.slices_IndexFunc_Prog_Prog_l0 s ((List.length s) : Int) Go.V.bigN (0 : Int)) with
 | none => none
 | some y0 =>
 (match y0 with
 | .inl a1 =>
 some a1
 | .inr b1 =>
 some (-(1 : Int)))
def slices_ContainsFunc_Prog_Prog (s : (List M.SProg)) : Option (Bool) :=
 let q0 := (M.slices_IndexFunc_Prog_Prog s)
 bif ((Option.isSome q0) && true) then
 some (decide ((0 : Int) ≤ (Option.getD q0 default)))
 else
 none
def i_progsOk (progs : (List M.SProg)) : Option (Bool) :=
 let q0 := (M.slices_ContainsFunc_Prog_Prog progs)
 let q1 := ((decide ((1 : Int) ≤ ((List.length progs) : Int))) && (decide (((List.length progs) : Int) ≤ (6 : Int))))
 bif (((Option.isSome q0) || (!(q1 == true))) && true) then
 some (q1 && (!(Option.getD q0 default)))
 else
 none
def i_copyAsync_l0 (t18 : (List M.SProg)) (t19 : Int) (w : M.SAsync) (o13 : (List M.SProg)) (o14 : (List M.SStream)) (o15 : (List M.STask)) (o16 : (List Int)) (o17 : (List M.SNote)) (o19 : (List M.SStream)) (o20 : (List M.STask)) (o21 : (List Int)) (o22 : (List M.SNote)) : Nat → Int → (List M.SProg) → Option (M.SAsync × (List M.SProg) × (List M.SStream) × (List M.STask) × (List Int) × (List M.SNote) × (List M.SProg) × (List M.SStream) × (List M.STask) × (List Int) × (List M.SNote))
 | 0, _, _ => none
 | fuel + 1, t20, o18 =>
 bif (decide (t20 < t19)) then
 let q0 := (M.slices_Clone_Aop_Aop (M.SProg.Ops (List.getD t18 (Int.toNat t20) M.SProg.zero)))
 let q1 := [(M.SProg.mk (M.SProg.Inst (List.getD t18 (Int.toNat t20) M.SProg.zero)) (Option.getD q0 default))]
 bif ((decide (((List.length o18) + (List.length q1)) ≤ 1073741824)) && ((Option.isSome q0) && ((Go.V.inB t20 (List.length t18)) && true))) then
 M.i_copyAsync_l0 t18 t19 w o13 o14 o15 o16 o17 o19 o20 o21 o22 fuel (Go.IntKind.wrap Go.IntKind.i64 (t20 + (1 : Int))) (o18 ++ q1)
 else
 none
 else
 some ((w, o13, o14, o15, o16, o17, o18, o19, o20, o21, o22))
def i_copyAsync_l1 (t37 : (List M.SStream)) (t38 : Int) (w : M.SAsync) (o13 : (List M.SProg)) (o14 : (List M.SStream)) (o15 : (List M.STask)) (o16 : (List Int)) (o17 : (List M.SNote)) (o18 : (List M.SProg)) (o20 : (List M.STask)) (o21 : (List Int)) (o22 : (List M.SNote)) : Nat → Int → (List M.SStream) → Option (M.SAsync × (List M.SProg) × (List M.SStream) × (List M.STask) × (List Int) × (List M.SNote) × (List M.SProg) × (List M.SStream) × (List M.STask) × (List Int) × (List M.SNote))
 | 0, _, _ => none
 | fuel + 1, t39, o19 =>
 bif (decide (t39 < t38)) then
 let q0 := (M.i_copyStream (M.SStream.re (List.getD t37 (Int.toNat t39) M.SStream.zero)))
 let q1 := (Option.getD q0 default)
 let q2 := q1.2
 let q3 := q2.2
 let q4 := q3.2
 let q5 := q4.2
 let q6 := q5.2
 let q7 := q6.2
 let q8 := q7.2
 let q9 := q8.2
 let q10 := q9.2
 let q11 := [(M.SStream.mk (M.SType.mk q1.1 q2.1 q9.1 q10.1) q3.1 q4.1 q10.2 q5.1 q6.1 q7.1 q8.1)]
 bif ((decide (((List.length o19) + (List.length q11)) ≤ 1073741824)) && ((Option.isSome q0) && ((Go.V.inB t39 (List.length t37)) && true))) then
 M.i_copyAsync_l1 t37 t38 w o13 o14 o15 o16 o17 o18 o20 o21 o22 fuel (Go.IntKind.wrap Go.IntKind.i64 (t39 + (1 : Int))) (o19 ++ q11)
 else
 none
 else
 some ((w, o13, o14, o15, o16, o17, o18, o19, o20, o21, o22))
def i_copyAsync_l2 (t52 : (List M.STask)) (t53 : Int) (o12 : (List M.SProg)) (o13 : (List M.SStream)) (o14 : (List M.STask)) (o15 : (List Int)) (o16 : (List M.SNote)) (o17 : (List M.SProg)) (o18 : (List M.SStream)) (o20 : (List Int)) (o21 : (List M.SNote)) : Nat → Int → (List M.STask) → Option ((List M.SProg) × (List M.SStream) × (List M.STask) × (List Int) × (List M.SNote) × (List M.SProg) × (List M.SStream) × (List M.STask) × (List Int) × (List M.SNote))
 | 0, _, _ => none
 | fuel + 1, t54, o19 =>
 bif (decide (t54 < t53)) then
 let q0 := (M.slices_Clone_int64_int64 (M.STask.Subs (List.getD t52 (Int.toNat t54) M.STask.zero)))
 let q1 := (M.slices_Clone_int64_int64 (M.STask.Set (List.getD t52 (Int.toNat t54) M.STask.zero)))
 let q2 := [(M.STask.mk (M.STask.Id (List.getD t52 (Int.toNat t54) M.STask.zero)) (M.STask.Prog (List.getD t52 (Int.toNat t54) M.STask.zero)) (M.STask.PC (List.getD t52 (Int.toNat t54) M.STask.zero)) (M.STask.Parent (List.getD t52 (Int.toNat t54) M.STask.zero)) (M.STask.Status (List.getD t52 (Int.toNat t54) M.STask.zero)) (M.STask.Result (List.getD t52 (Int.toNat t54) M.STask.zero)) (M.STask.Returned (List.getD t52 (Int.toNat t54) M.STask.zero)) (M.STask.Asked (List.getD t52 (Int.toNat t54) M.STask.zero)) (M.STask.Told (List.getD t52 (Int.toNat t54) M.STask.zero)) (Option.getD q0 default) (Option.getD q1 default))]
 bif ((decide (((List.length o19) + (List.length q2)) ≤ 1073741824)) && ((Option.isSome q1) && ((Option.isSome q0) && ((Go.V.inB t54 (List.length t52)) && true)))) then
 M.i_copyAsync_l2 t52 t53 o12 o13 o14 o15 o16 o17 o18 o20 o21 fuel (Go.IntKind.wrap Go.IntKind.i64 (t54 + (1 : Int))) (o19 ++ q2)
 else
 none
 else
 some ((o12, o13, o14, o15, o16, o17, o18, o19, o20, o21))
def i_copyAsync (w : M.SAsync) : Option ((List M.SProg) × (List M.SStream) × (List M.STask) × (List Int) × (List M.SNote)) :=
 let q0 := (M.slices_Clone_int64_int64 (M.SAsync.Back w))
 let q1 := (M.slices_Clone_Note_Note (M.SAsync.Notes w))
 match (M.i_copyAsync_l0 (M.SAsync.Progs w) ((List.length (M.SAsync.Progs w)) : Int) w [] [] [] [] [] [] [] (Option.getD q0 default) (Option.getD q1 default) Go.V.bigN (0 : Int) []) with
 | none => none
 | some y2 =>
 let q3 := y2.1
 let q4 := y2.2
 let q5 := q4.2
 let q6 := q5.2
 let q7 := q6.2
 let q8 := q7.2
 let q9 := q8.2
 let q10 := q9.2
 let q11 := q10.2
 let q12 := q11.2
 match (M.i_copyAsync_l1 (M.SAsync.Streams q3) ((List.length (M.SAsync.Streams q3)) : Int) q3 q4.1 q5.1 q6.1 q7.1 q8.1 q9.1 q11.1 q12.1 q12.2 Go.V.bigN (0 : Int) q10.1) with
 | none => none
 | some y13 =>
 let q14 := y13.2
 let q15 := q14.2
 let q16 := q15.2
 let q17 := q16.2
 let q18 := q17.2
 let q19 := q18.2
 let q20 := q19.2
 let q21 := q20.2
 let q22 := q21.2
 match (M.i_copyAsync_l2 (M.SAsync.Tasks y13.1) ((List.length (M.SAsync.Tasks y13.1)) : Int) q14.1 q15.1 q16.1 q17.1 q18.1 q19.1 q20.1 q22.1 q22.2 Go.V.bigN (0 : Int) q21.1) with
 | none => none
 | some y23 =>
 bif ((Option.isSome q1) && ((Option.isSome q0) && true)) then
 let q24 := y23.2.2.2.2.2
 let q25 := q24.2
 let q26 := q25.2
 let q27 := q26.2
 some (q24.1, q25.1, q26.1, q27.1, q27.2)
 else
 none
def i_NewStream (t : M.SType) (room : Int) : Option (Int × (List UInt8) × Int × Bool × Int × Int × Bool × Bool × Int × (List (List UInt8)) × (List M.SType) × (List M.SValue)) :=
 let q0 := (M.i_streamable (M.SType.re t))
 bif (!(Option.getD q0 default)) then
 bif ((Option.isSome q0) && true) then
 some ((0 : Int), [], (0 : Int), false, (0 : Int), (0 : Int), false, false, (7 : Int), [], [], [])
 else
 none
 else
 bif (!((decide ((1 : Int) ≤ room)) && (decide (room ≤ (6 : Int))))) then
 bif ((Option.isSome q0) && true) then
 some ((0 : Int), [], (0 : Int), false, (0 : Int), (0 : Int), false, false, (2 : Int), [], [], [])
 else
 none
 else
 let q1 := (M.i_copyType (M.SType.re t))
 bif ((Option.isSome q1) && ((Option.isSome q0) && true)) then
 let q2 := (Option.getD q1 default)
 let q3 := q2.2
 let q4 := q3.2
 some (q2.1, q3.1, room, false, (0 : Int), (0 : Int), false, false, (0 : Int), q4.1, q4.2, [])
 else
 none
def i_NewAsync_l0 (t24 : (List Int)) (t25 : Int) (o12 : (List M.SProg)) (o13 : (List M.SStream)) (o14 : (List M.STask)) (o15 : (List Int)) (o16 : (List M.SNote)) (o17 : (List M.SProg)) (o19 : (List M.STask)) (o20 : (List Int)) (o21 : (List M.SNote)) : Nat → Int → (List M.SStream) → Option ((Int × (List M.SProg) × (List M.SStream) × (List M.STask) × (List Int) × (List M.SNote)) ⊕ ((List M.SProg) × (List M.SStream) × (List M.STask) × (List Int) × (List M.SNote) × (List M.SProg) × (List M.SStream) × (List M.STask) × (List Int) × (List M.SNote)))
 | 0, _, _ => none
 | fuel + 1, t26, o18 =>
 bif (decide (t26 < t25)) then
 let q0 := (M.i_NewStream (M.SType.mk (9 : Int) [] [] []) (List.getD t24 (Int.toNat t26) (0 : Int)))
 let q1 := (Option.getD q0 default)
 let q2 := q1.2
 let q3 := q2.2
 let q4 := q3.2
 let q5 := q4.2
 let q6 := q5.2
 let q7 := q6.2
 let q8 := q7.2
 let q9 := q8.2
 let q10 := q9.1
 bif (q10 != (0 : Int)) then
 let q11 := ((Option.isSome q0) && ((Go.V.inB t26 (List.length t24)) && true))
 bif q11 then
 some (.inl (q10, [], [], [], [], []))
 else
 none
 else
 let q11 := q9.2
 let q12 := q11.2
 let q13 := [(M.SStream.mk (M.SType.mk q1.1 q2.1 q11.1 q12.1) q3.1 q4.1 q12.2 q5.1 q6.1 q7.1 q8.1)]
 let q14 := ((Option.isSome q0) && ((Go.V.inB t26 (List.length t24)) && true))
 bif ((decide (((List.length o18) + (List.length q13)) ≤ 1073741824)) && q14) then
 M.i_NewAsync_l0 t24 t25 o12 o13 o14 o15 o16 o17 o19 o20 o21 fuel (Go.IntKind.wrap Go.IntKind.i64 (t26 + (1 : Int))) (o18 ++ q13)
 else
 none
 else
 some ((.inr ((o12, o13, o14, o15, o16, o17, o18, o19, o20, o21))))
def i_NewAsync (progs : (List M.SProg)) (rooms : (List Int)) : Option (Int × (List M.SProg) × (List M.SStream) × (List M.STask) × (List Int) × (List M.SNote)) :=
 let q0 := (M.i_progsOk progs)
 bif (!(Option.getD q0 default)) then
 bif ((Option.isSome q0) && true) then
 some ((1 : Int), [], [], [], [], [])
 else
 none
 else
 bif (decide ((4 : Int) < ((List.length rooms) : Int))) then
 bif ((Option.isSome q0) && true) then
 some ((4 : Int), [], [], [], [], [])
 else
 none
 else
 let q1 := (M.i_copyAsync (M.SAsync.mk progs [] [] [] []))
 let q2 := (Option.getD q1 default)
 let q3 := q2.2
 let q4 := q3.2
 let q5 := q4.2
 match (M.i_NewAsync_l0 rooms ((List.length rooms) : Int) [] [] [] [] [] q2.1 q4.1 q5.1 q5.2 Go.V.bigN (0 : Int) q3.1) with
 | none => none
 | some y6 =>
 (match y6 with
 | .inl a7 =>
 let q8 := ((Option.isSome q1) && ((Option.isSome q0) && true))
 bif q8 then
 let q9 := a7.2
 let q10 := q9.2
 let q11 := q10.2
 let q12 := q11.2
 some (a7.1, q9.1, q10.1, q11.1, q12.1, q12.2)
 else
 none
 | .inr b7 =>
 let q8 := ((Option.isSome q1) && ((Option.isSome q0) && true))
 bif q8 then
 let q9 := b7.2.2.2.2.2
 let q10 := q9.2
 let q11 := q10.2
 let q12 := q11.2
 some ((0 : Int), q9.1, q10.1, q11.1, q12.1, q12.2)
 else
 none)
def l_eqAop (a : M.SAop) (b : M.SAop) : Option (Bool) :=
 bif ((M.SAop.Kind a) != (M.SAop.Kind b)) then
 some false
 else
 bif ((M.SAop.A a) != (M.SAop.A b)) then
 some false
 else
 bif ((M.SAop.B a) != (M.SAop.B b)) then
 some false
 else
 some true
def l_eqAopS_l0 (a : (List M.SAop)) (b : (List M.SAop)) : Nat → Int → Option ((Bool) ⊕ (Unit))
 | 0, _ => none
 | fuel + 1, i =>
 bif (decide (i < ((List.length a) : Int))) then
 let q0 := (M.l_eqAop (List.getD a (Int.toNat i) M.SAop.zero) (List.getD b (Int.toNat i) M.SAop.zero))
 bif (!(Option.getD q0 default)) then
 let q1 := ((Option.isSome q0) && ((Go.V.inB i (List.length b)) && ((Go.V.inB i (List.length a)) && true)))
 bif q1 then
 some (.inl false)
 else
 none
 else
 let q1 := ((Option.isSome q0) && ((Go.V.inB i (List.length b)) && ((Go.V.inB i (List.length a)) && true)))
 bif q1 then
 M.l_eqAopS_l0 a b fuel (Go.IntKind.wrap Go.IntKind.i64 (i + (1 : Int)))
 else
 none
 else
 some ((.inr (())))
def l_eqAopS (a : (List M.SAop)) (b : (List M.SAop)) : Option (Bool) :=
 bif (((List.length a) : Int) != ((List.length b) : Int)) then
 some false
 else
 match (M.l_eqAopS_l0 a b Go.V.bigN (0 : Int)) with
 | none => none
 | some y0 =>
 (match y0 with
 | .inl a1 =>
 some a1
 | .inr b1 =>
 some true)
def l_eqProg (a : M.SProg) (b : M.SProg) : Option (Bool) :=
 bif ((M.SProg.Inst a) != (M.SProg.Inst b)) then
 some false
 else
 let q0 := (M.l_eqAopS (M.SProg.Ops a) (M.SProg.Ops b))
 bif (!(Option.getD q0 default)) then
 bif ((Option.isSome q0) && true) then
 some false
 else
 none
 else
 bif ((Option.isSome q0) && true) then
 some true
 else
 none
def l_eqProgS_l0 (a : (List M.SProg)) (b : (List M.SProg)) : Nat → Int → Option ((Bool) ⊕ (Unit))
 | 0, _ => none
 | fuel + 1, i =>
 bif (decide (i < ((List.length a) : Int))) then
 let q0 := (M.l_eqProg (List.getD a (Int.toNat i) M.SProg.zero) (List.getD b (Int.toNat i) M.SProg.zero))
 bif (!(Option.getD q0 default)) then
 let q1 := ((Option.isSome q0) && ((Go.V.inB i (List.length b)) && ((Go.V.inB i (List.length a)) && true)))
 bif q1 then
 some (.inl false)
 else
 none
 else
 let q1 := ((Option.isSome q0) && ((Go.V.inB i (List.length b)) && ((Go.V.inB i (List.length a)) && true)))
 bif q1 then
 M.l_eqProgS_l0 a b fuel (Go.IntKind.wrap Go.IntKind.i64 (i + (1 : Int)))
 else
 none
 else
 some ((.inr (())))
def l_eqProgS (a : (List M.SProg)) (b : (List M.SProg)) : Option (Bool) :=
 bif (((List.length a) : Int) != ((List.length b) : Int)) then
 some false
 else
 match (M.l_eqProgS_l0 a b Go.V.bigN (0 : Int)) with
 | none => none
 | some y0 =>
 (match y0 with
 | .inl a1 =>
 some a1
 | .inr b1 =>
 some true)
def l_eqStreamS_l0 (a : (List M.SStream)) (b : (List M.SStream)) : Nat → Int → Option ((Bool) ⊕ (Unit))
 | 0, _ => none
 | fuel + 1, i =>
 bif (decide (i < ((List.length a) : Int))) then
 let q0 := (M.l_eqStream (M.SStream.re (List.getD a (Int.toNat i) M.SStream.zero)) (M.SStream.re (List.getD b (Int.toNat i) M.SStream.zero)))
 bif (!(Option.getD q0 default)) then
 let q1 := ((Option.isSome q0) && ((Go.V.inB i (List.length b)) && ((Go.V.inB i (List.length a)) && true)))
 bif q1 then
 some (.inl false)
 else
 none
 else
 let q1 := ((Option.isSome q0) && ((Go.V.inB i (List.length b)) && ((Go.V.inB i (List.length a)) && true)))
 bif q1 then
 M.l_eqStreamS_l0 a b fuel (Go.IntKind.wrap Go.IntKind.i64 (i + (1 : Int)))
 else
 none
 else
 some ((.inr (())))
def l_eqStreamS (a : (List M.SStream)) (b : (List M.SStream)) : Option (Bool) :=
 bif (((List.length a) : Int) != ((List.length b) : Int)) then
 some false
 else
 match (M.l_eqStreamS_l0 a b Go.V.bigN (0 : Int)) with
 | none => none
 | some y0 =>
 (match y0 with
 | .inl a1 =>
 some a1
 | .inr b1 =>
 some true)
def l_eqInt64S_l0 (a : (List Int)) (b : (List Int)) : Nat → Int → Option ((Bool) ⊕ (Unit))
 | 0, _ => none
 | fuel + 1, i =>
 bif (decide (i < ((List.length a) : Int))) then
 bif ((List.getD a (Int.toNat i) (0 : Int)) != (List.getD b (Int.toNat i) (0 : Int))) then
 let q0 := ((Go.V.inB i (List.length b)) && ((Go.V.inB i (List.length a)) && true))
 bif q0 then
 some (.inl false)
 else
 none
 else
 let q0 := ((Go.V.inB i (List.length b)) && ((Go.V.inB i (List.length a)) && true))
 bif q0 then
 M.l_eqInt64S_l0 a b fuel (Go.IntKind.wrap Go.IntKind.i64 (i + (1 : Int)))
 else
 none
 else
 some ((.inr (())))
def l_eqInt64S (a : (List Int)) (b : (List Int)) : Option (Bool) :=
 bif (((List.length a) : Int) != ((List.length b) : Int)) then
 some false
 else
 match (M.l_eqInt64S_l0 a b Go.V.bigN (0 : Int)) with
 | none => none
 | some y0 =>
 (match y0 with
 | .inl a1 =>
 some a1
 | .inr b1 =>
 some true)
def l_eqTask (a : M.STask) (b : M.STask) : Option (Bool) :=
 bif ((M.STask.Id a) != (M.STask.Id b)) then
 some false
 else
 bif ((M.STask.Prog a) != (M.STask.Prog b)) then
 some false
 else
 bif ((M.STask.PC a) != (M.STask.PC b)) then
 some false
 else
 bif ((M.STask.Parent a) != (M.STask.Parent b)) then
 some false
 else
 bif ((M.STask.Status a) != (M.STask.Status b)) then
 some false
 else
 bif ((M.STask.Result a) != (M.STask.Result b)) then
 some false
 else
 bif (!((M.STask.Returned a) == (M.STask.Returned b))) then
 some false
 else
 bif (!((M.STask.Asked a) == (M.STask.Asked b))) then
 some false
 else
 bif (!((M.STask.Told a) == (M.STask.Told b))) then
 some false
 else
 let q0 := (M.l_eqInt64S (M.STask.Subs a) (M.STask.Subs b))
 bif (!(Option.getD q0 default)) then
 bif ((Option.isSome q0) && true) then
 some false
 else
 none
 else
 let q1 := (M.l_eqInt64S (M.STask.Set a) (M.STask.Set b))
 bif (!(Option.getD q1 default)) then
 bif ((Option.isSome q1) && ((Option.isSome q0) && true)) then
 some false
 else
 none
 else
 bif ((Option.isSome q1) && ((Option.isSome q0) && true)) then
 some true
 else
 none
def l_eqTaskS_l0 (a : (List M.STask)) (b : (List M.STask)) : Nat → Int → Option ((Bool) ⊕ (Unit))
 | 0, _ => none
 | fuel + 1, i =>
 bif (decide (i < ((List.length a) : Int))) then
 let q0 := (M.l_eqTask (List.getD a (Int.toNat i) M.STask.zero) (List.getD b (Int.toNat i) M.STask.zero))
 bif (!(Option.getD q0 default)) then
 let q1 := ((Option.isSome q0) && ((Go.V.inB i (List.length b)) && ((Go.V.inB i (List.length a)) && true)))
 bif q1 then
 some (.inl false)
 else
 none
 else
 let q1 := ((Option.isSome q0) && ((Go.V.inB i (List.length b)) && ((Go.V.inB i (List.length a)) && true)))
 bif q1 then
 M.l_eqTaskS_l0 a b fuel (Go.IntKind.wrap Go.IntKind.i64 (i + (1 : Int)))
 else
 none
 else
 some ((.inr (())))
def l_eqTaskS (a : (List M.STask)) (b : (List M.STask)) : Option (Bool) :=
 bif (((List.length a) : Int) != ((List.length b) : Int)) then
 some false
 else
 match (M.l_eqTaskS_l0 a b Go.V.bigN (0 : Int)) with
 | none => none
 | some y0 =>
 (match y0 with
 | .inl a1 =>
 some a1
 | .inr b1 =>
 some true)
def l_eqNote (a : M.SNote) (b : M.SNote) : Option (Bool) :=
 bif ((M.SNote.Task a) != (M.SNote.Task b)) then
 some false
 else
 bif ((M.SNote.Kind a) != (M.SNote.Kind b)) then
 some false
 else
 bif ((M.SNote.A a) != (M.SNote.A b)) then
 some false
 else
 bif ((M.SNote.B a) != (M.SNote.B b)) then
 some false
 else
 some true
def l_eqNoteS_l0 (a : (List M.SNote)) (b : (List M.SNote)) : Nat → Int → Option ((Bool) ⊕ (Unit))
 | 0, _ => none
 | fuel + 1, i =>
 bif (decide (i < ((List.length a) : Int))) then
 let q0 := (M.l_eqNote (List.getD a (Int.toNat i) M.SNote.zero) (List.getD b (Int.toNat i) M.SNote.zero))
 bif (!(Option.getD q0 default)) then
 let q1 := ((Option.isSome q0) && ((Go.V.inB i (List.length b)) && ((Go.V.inB i (List.length a)) && true)))
 bif q1 then
 some (.inl false)
 else
 none
 else
 let q1 := ((Option.isSome q0) && ((Go.V.inB i (List.length b)) && ((Go.V.inB i (List.length a)) && true)))
 bif q1 then
 M.l_eqNoteS_l0 a b fuel (Go.IntKind.wrap Go.IntKind.i64 (i + (1 : Int)))
 else
 none
 else
 some ((.inr (())))
def l_eqNoteS (a : (List M.SNote)) (b : (List M.SNote)) : Option (Bool) :=
 bif (((List.length a) : Int) != ((List.length b) : Int)) then
 some false
 else
 match (M.l_eqNoteS_l0 a b Go.V.bigN (0 : Int)) with
 | none => none
 | some y0 =>
 (match y0 with
 | .inl a1 =>
 some a1
 | .inr b1 =>
 some true)
def l_eqAsync (a : M.SAsync) (b : M.SAsync) : Option (Bool) :=
 let q0 := (M.l_eqProgS (M.SAsync.Progs a) (M.SAsync.Progs b))
 bif (!(Option.getD q0 default)) then
 bif ((Option.isSome q0) && true) then
 some false
 else
 none
 else
 let q1 := (M.l_eqStreamS (M.SAsync.Streams a) (M.SAsync.Streams b))
 bif (!(Option.getD q1 default)) then
 bif ((Option.isSome q1) && ((Option.isSome q0) && true)) then
 some false
 else
 none
 else
 let q2 := (M.l_eqTaskS (M.SAsync.Tasks a) (M.SAsync.Tasks b))
 bif (!(Option.getD q2 default)) then
 let q3 := ((Option.isSome q2) && ((Option.isSome q1) && ((Option.isSome q0) && true)))
 bif q3 then
 some false
 else
 none
 else
 let q3 := (M.l_eqInt64S (M.SAsync.Back a) (M.SAsync.Back b))
 bif (!(Option.getD q3 default)) then
 let q4 := ((Option.isSome q2) && ((Option.isSome q1) && ((Option.isSome q0) && true)))
 let q5 := ((Option.isSome q3) && q4)
 bif q5 then
 some false
 else
 none
 else
 let q4 := (M.l_eqNoteS (M.SAsync.Notes a) (M.SAsync.Notes b))
 bif (!(Option.getD q4 default)) then
 let q5 := ((Option.isSome q2) && ((Option.isSome q1) && ((Option.isSome q0) && true)))
 let q6 := ((Option.isSome q3) && q5)
 let q7 := ((Option.isSome q4) && q6)
 bif q7 then
 some false
 else
 none
 else
 let q5 := ((Option.isSome q2) && ((Option.isSome q1) && ((Option.isSome q0) && true)))
 let q6 := ((Option.isSome q3) && q5)
 let q7 := ((Option.isSome q4) && q6)
 bif q7 then
 some true
 else
 none
def l_markAopS_l0 : Nat → Int → Int → (List M.SAop) → Option (Int × (List M.SAop))
 | 0, _, _, _ => none
 | fuel + 1, k, i, a =>
 bif (decide (i < ((List.length a) : Int))) then
 let q0 := (List.set a (Int.toNat i) (M.SAop.mk k (M.SAop.A (List.getD a (Int.toNat i) M.SAop.zero)) (M.SAop.B (List.getD a (Int.toNat i) M.SAop.zero))))
 let q1 := (List.getD q0 (Int.toNat i) M.SAop.zero)
 let q2 := (List.set q0 (Int.toNat i) (M.SAop.mk (M.SAop.Kind q1) (Go.IntKind.wrap Go.IntKind.i64 (k + (1 : Int))) (M.SAop.B q1)))
 bif ((Go.V.inB i (List.length q2)) && ((Go.V.inB i (List.length q0)) && ((Go.V.inB i (List.length a)) && true))) then
 let q3 := (Go.IntKind.wrap Go.IntKind.i64 ((Go.IntKind.wrap Go.IntKind.i64 (k + (1 : Int))) + (1 : Int)))
 let q4 := (List.getD q2 (Int.toNat i) M.SAop.zero)
 M.l_markAopS_l0 fuel (Go.IntKind.wrap Go.IntKind.i64 (q3 + (1 : Int))) (Go.IntKind.wrap Go.IntKind.i64 (i + (1 : Int))) (List.set q2 (Int.toNat i) (M.SAop.mk (M.SAop.Kind q4) (M.SAop.A q4) q3))
 else
 none
 else
 some ((k, a))
def l_markAopS (k : Int) (a : (List M.SAop)) : Option (Int × (List M.SAop)) :=
 match (M.l_markAopS_l0 Go.V.bigN k (0 : Int) a) with
 | none => none
 | some y0 =>
 some (y0.1, y0.2)
def l_markProgS_l0 : Nat → Int → Int → (List M.SProg) → Option (Int × (List M.SProg))
 | 0, _, _, _ => none
 | fuel + 1, k, i, a =>
 bif (decide (i < ((List.length a) : Int))) then
 let q0 := (List.set a (Int.toNat i) (M.SProg.mk k (M.SProg.Ops (List.getD a (Int.toNat i) M.SProg.zero))))
 let q1 := (List.getD q0 (Int.toNat i) M.SProg.zero)
 let q2 := (M.l_markAopS (Go.IntKind.wrap Go.IntKind.i64 (k + (1 : Int))) (M.SProg.Ops q1))
 bif (((Option.isSome q2) && true) && ((Go.V.inB i (List.length q0)) && ((Go.V.inB i (List.length a)) && true))) then
 let q3 := (Option.getD q2 default)
 M.l_markProgS_l0 fuel q3.1 (Go.IntKind.wrap Go.IntKind.i64 (i + (1 : Int))) (List.set q0 (Int.toNat i) (M.SProg.mk (M.SProg.Inst q1) q3.2))
 else
 none
 else
 some ((k, a))
def l_markProgS (k : Int) (a : (List M.SProg)) : Option (Int × (List M.SProg)) :=
 match (M.l_markProgS_l0 Go.V.bigN k (0 : Int) a) with
 | none => none
 | some y0 =>
 some (y0.1, y0.2)
def l_markInt64S_l0 : Nat → Int → Int → (List Int) → Option (Int × (List Int))
 | 0, _, _, _ => none
 | fuel + 1, k, i, a =>
 bif (decide (i < ((List.length a) : Int))) then
 bif ((Go.V.inB i (List.length a)) && true) then
 M.l_markInt64S_l0 fuel (Go.IntKind.wrap Go.IntKind.i64 (k + (1 : Int))) (Go.IntKind.wrap Go.IntKind.i64 (i + (1 : Int))) (List.set a (Int.toNat i) k)
 else
 none
 else
 some ((k, a))
def l_markInt64S (k : Int) (a : (List Int)) : Option (Int × (List Int)) :=
 match (M.l_markInt64S_l0 Go.V.bigN k (0 : Int) a) with
 | none => none
 | some y0 =>
 some (y0.1, y0.2)
def l_markStreamS_l0 : Nat → Int → Int → (List M.SStream) → Option (Int × (List M.SStream))
 | 0, _, _, _ => none
 | fuel + 1, k, i, a =>
 bif (decide (i < ((List.length a) : Int))) then
 let q0 := (List.set a (Int.toNat i) (M.SStream.mk (M.SType.mk k (M.SType.Name (M.SStream.Type_ (List.getD a (Int.toNat i) M.SStream.zero))) (M.SType.Labels (M.SStream.Type_ (List.getD a (Int.toNat i) M.SStream.zero))) (M.SType.Kids (M.SStream.Type_ (List.getD a (Int.toNat i) M.SStream.zero)))) (M.SStream.Room (List.getD a (Int.toNat i) M.SStream.zero)) (M.SStream.Future (List.getD a (Int.toNat i) M.SStream.zero)) (M.SStream.Buffer (List.getD a (Int.toNat i) M.SStream.zero)) (M.SStream.Put (List.getD a (Int.toNat i) M.SStream.zero)) (M.SStream.Got (List.getD a (Int.toNat i) M.SStream.zero)) (M.SStream.Shut (List.getD a (Int.toNat i) M.SStream.zero)) (M.SStream.Gone (List.getD a (Int.toNat i) M.SStream.zero))))
 let q1 := (List.getD q0 (Int.toNat i) M.SStream.zero)
 let q2 := (M.l_markText (Go.IntKind.wrap Go.IntKind.i64 (k + (1 : Int))))
 let q3 := (List.set q0 (Int.toNat i) (M.SStream.mk (M.SType.mk (M.SType.Kind (M.SStream.Type_ q1)) (Option.getD q2 default) (M.SType.Labels (M.SStream.Type_ q1)) (M.SType.Kids (M.SStream.Type_ q1))) (M.SStream.Room q1) (M.SStream.Future q1) (M.SStream.Buffer q1) (M.SStream.Put q1) (M.SStream.Got q1) (M.SStream.Shut q1) (M.SStream.Gone q1)))
 let q4 := (List.getD q3 (Int.toNat i) M.SStream.zero)
 let q5 := (M.l_markStringS (Go.IntKind.wrap Go.IntKind.i64 ((Go.IntKind.wrap Go.IntKind.i64 (k + (1 : Int))) + (1 : Int))) (M.SType.Labels (M.SStream.Type_ q4)))
 let q6 := (Option.getD q5 default)
 let q7 := (List.set q3 (Int.toNat i) (M.SStream.mk (M.SType.mk (M.SType.Kind (M.SStream.Type_ q4)) (M.SType.Name (M.SStream.Type_ q4)) q6.2 (M.SType.Kids (M.SStream.Type_ q4))) (M.SStream.Room q4) (M.SStream.Future q4) (M.SStream.Buffer q4) (M.SStream.Put q4) (M.SStream.Got q4) (M.SStream.Shut q4) (M.SStream.Gone q4)))
 let q8 := (List.getD q7 (Int.toNat i) M.SStream.zero)
 let q9 := (M.l_markTypeS q6.1 (M.SType.Kids (M.SStream.Type_ q8)))
 let q10 := (Option.getD q9 default)
 let q11 := (List.set q7 (Int.toNat i) (M.SStream.mk (M.SType.mk (M.SType.Kind (M.SStream.Type_ q8)) (M.SType.Name (M.SStream.Type_ q8)) (M.SType.Labels (M.SStream.Type_ q8)) q10.2) (M.SStream.Room q8) (M.SStream.Future q8) (M.SStream.Buffer q8) (M.SStream.Put q8) (M.SStream.Got q8) (M.SStream.Shut q8) (M.SStream.Gone q8)))
 let q12 := (List.getD q11 (Int.toNat i) M.SStream.zero)
 let q13 := q10.1
 let q14 := (List.set q11 (Int.toNat i) (M.SStream.mk (M.SType.re (M.SStream.Type_ q12)) q13 (M.SStream.Future q12) (M.SStream.Buffer q12) (M.SStream.Put q12) (M.SStream.Got q12) (M.SStream.Shut q12) (M.SStream.Gone q12)))
 let q15 := (List.getD q14 (Int.toNat i) M.SStream.zero)
 let q16 := (Go.IntKind.wrap Go.IntKind.i64 (q13 + (1 : Int)))
 let q17 := (List.set q14 (Int.toNat i) (M.SStream.mk (M.SType.re (M.SStream.Type_ q15)) (M.SStream.Room q15) ((Int.tmod q16 (3 : Int)) == (0 : Int)) (M.SStream.Buffer q15) (M.SStream.Put q15) (M.SStream.Got q15) (M.SStream.Shut q15) (M.SStream.Gone q15)))
 let q18 := (List.getD q17 (Int.toNat i) M.SStream.zero)
 let q19 := (M.l_markValueS (Go.IntKind.wrap Go.IntKind.i64 (q16 + (1 : Int))) (M.SStream.Buffer q18))
 let q20 := (Option.getD q19 default)
 let q21 := (List.set q17 (Int.toNat i) (M.SStream.mk (M.SType.re (M.SStream.Type_ q18)) (M.SStream.Room q18) (M.SStream.Future q18) q20.2 (M.SStream.Put q18) (M.SStream.Got q18) (M.SStream.Shut q18) (M.SStream.Gone q18)))
 let q22 := (List.getD q21 (Int.toNat i) M.SStream.zero)
 let q23 := q20.1
 let q24 := (List.set q21 (Int.toNat i) (M.SStream.mk (M.SType.re (M.SStream.Type_ q22)) (M.SStream.Room q22) (M.SStream.Future q22) (M.SStream.Buffer q22) q23 (M.SStream.Got q22) (M.SStream.Shut q22) (M.SStream.Gone q22)))
 let q25 := (List.getD q24 (Int.toNat i) M.SStream.zero)
 let q26 := (Go.IntKind.wrap Go.IntKind.i64 (q23 + (1 : Int)))
 let q27 := (List.set q24 (Int.toNat i) (M.SStream.mk (M.SType.re (M.SStream.Type_ q25)) (M.SStream.Room q25) (M.SStream.Future q25) (M.SStream.Buffer q25) (M.SStream.Put q25) q26 (M.SStream.Shut q25) (M.SStream.Gone q25)))
 let q28 := (List.getD q27 (Int.toNat i) M.SStream.zero)
 let q29 := (Go.IntKind.wrap Go.IntKind.i64 (q26 + (1 : Int)))
 let q30 := (List.set q27 (Int.toNat i) (M.SStream.mk (M.SType.re (M.SStream.Type_ q28)) (M.SStream.Room q28) (M.SStream.Future q28) (M.SStream.Buffer q28) (M.SStream.Put q28) (M.SStream.Got q28) ((Int.tmod q29 (3 : Int)) == (0 : Int)) (M.SStream.Gone q28)))
 bif ((Go.V.inB i (List.length q30)) && (((3 : Int) != (0 : Int)) && ((Go.V.inB i (List.length q27)) && (((3 : Int) != (0 : Int)) && ((Go.V.inB i (List.length q24)) && ((Go.V.inB i (List.length q21)) && (((Option.isSome q19) && true) && ((Go.V.inB i (List.length q17)) && ((Go.V.inB i (List.length q14)) && (((3 : Int) != (0 : Int)) && ((Go.V.inB i (List.length q11)) && (((Option.isSome q9) && true) && ((Go.V.inB i (List.length q7)) && (((Option.isSome q5) && true) && ((Go.V.inB i (List.length q3)) && ((Go.V.inB i (List.length q0)) && (((Option.isSome q2) && true) && ((Go.V.inB i (List.length a)) && true)))))))))))))))))) then
 let q31 := (Go.IntKind.wrap Go.IntKind.i64 (q29 + (1 : Int)))
 let q32 := (List.getD q30 (Int.toNat i) M.SStream.zero)
 M.l_markStreamS_l0 fuel (Go.IntKind.wrap Go.IntKind.i64 (q31 + (1 : Int))) (Go.IntKind.wrap Go.IntKind.i64 (i + (1 : Int))) (List.set q30 (Int.toNat i) (M.SStream.mk (M.SType.re (M.SStream.Type_ q32)) (M.SStream.Room q32) (M.SStream.Future q32) (M.SStream.Buffer q32) (M.SStream.Put q32) (M.SStream.Got q32) (M.SStream.Shut q32) ((Int.tmod q31 (3 : Int)) == (0 : Int))))
 else
 none
 else
 some ((k, a))
def l_markStreamS (k : Int) (a : (List M.SStream)) : Option (Int × (List M.SStream)) :=
 match (M.l_markStreamS_l0 Go.V.bigN k (0 : Int) a) with
 | none => none
 | some y0 =>
 some (y0.1, y0.2)
def l_markTaskS_l0 : Nat → Int → Int → (List M.STask) → Option (Int × (List M.STask))
 | 0, _, _, _ => none
 | fuel + 1, k, i, a =>
 bif (decide (i < ((List.length a) : Int))) then
 let q0 := (Go.IntKind.wrap Go.IntKind.i64 ((Go.IntKind.wrap Go.IntKind.i64 (k + (1 : Int))) + (1 : Int)))
 let q1 := (Go.IntKind.wrap Go.IntKind.i64 (q0 + (1 : Int)))
 let q2 := (Go.IntKind.wrap Go.IntKind.i64 (q1 + (1 : Int)))
 let q3 := (Go.IntKind.wrap Go.IntKind.i64 (q2 + (1 : Int)))
 let q4 := (Go.IntKind.wrap Go.IntKind.i64 (q3 + (1 : Int)))
 let q5 := (Go.IntKind.wrap Go.IntKind.i64 (q4 + (1 : Int)))
 let q6 := (Go.IntKind.wrap Go.IntKind.i64 (q5 + (1 : Int)))
 let q7 := (List.set a (Int.toNat i) (M.STask.mk k (M.STask.Prog (List.getD a (Int.toNat i) M.STask.zero)) (M.STask.PC (List.getD a (Int.toNat i) M.STask.zero)) (M.STask.Parent (List.getD a (Int.toNat i) M.STask.zero)) (M.STask.Status (List.getD a (Int.toNat i) M.STask.zero)) (M.STask.Result (List.getD a (Int.toNat i) M.STask.zero)) (M.STask.Returned (List.getD a (Int.toNat i) M.STask.zero)) (M.STask.Asked (List.getD a (Int.toNat i) M.STask.zero)) (M.STask.Told (List.getD a (Int.toNat i) M.STask.zero)) (M.STask.Subs (List.getD a (Int.toNat i) M.STask.zero)) (M.STask.Set (List.getD a (Int.toNat i) M.STask.zero))))
 let q8 := (List.getD q7 (Int.toNat i) M.STask.zero)
 let q9 := (List.set q7 (Int.toNat i) (M.STask.mk (M.STask.Id q8) (Go.IntKind.wrap Go.IntKind.i64 (k + (1 : Int))) (M.STask.PC q8) (M.STask.Parent q8) (M.STask.Status q8) (M.STask.Result q8) (M.STask.Returned q8) (M.STask.Asked q8) (M.STask.Told q8) (M.STask.Subs q8) (M.STask.Set q8)))
 let q10 := (List.getD q9 (Int.toNat i) M.STask.zero)
 let q11 := (List.set q9 (Int.toNat i) (M.STask.mk (M.STask.Id q10) (M.STask.Prog q10) q0 (M.STask.Parent q10) (M.STask.Status q10) (M.STask.Result q10) (M.STask.Returned q10) (M.STask.Asked q10) (M.STask.Told q10) (M.STask.Subs q10) (M.STask.Set q10)))
 let q12 := (List.getD q11 (Int.toNat i) M.STask.zero)
 let q13 := (List.set q11 (Int.toNat i) (M.STask.mk (M.STask.Id q12) (M.STask.Prog q12) (M.STask.PC q12) q1 (M.STask.Status q12) (M.STask.Result q12) (M.STask.Returned q12) (M.STask.Asked q12) (M.STask.Told q12) (M.STask.Subs q12) (M.STask.Set q12)))
 let q14 := (List.getD q13 (Int.toNat i) M.STask.zero)
 let q15 := (List.set q13 (Int.toNat i) (M.STask.mk (M.STask.Id q14) (M.STask.Prog q14) (M.STask.PC q14) (M.STask.Parent q14) q2 (M.STask.Result q14) (M.STask.Returned q14) (M.STask.Asked q14) (M.STask.Told q14) (M.STask.Subs q14) (M.STask.Set q14)))
 let q16 := (List.getD q15 (Int.toNat i) M.STask.zero)
 let q17 := (List.set q15 (Int.toNat i) (M.STask.mk (M.STask.Id q16) (M.STask.Prog q16) (M.STask.PC q16) (M.STask.Parent q16) (M.STask.Status q16) q3 (M.STask.Returned q16) (M.STask.Asked q16) (M.STask.Told q16) (M.STask.Subs q16) (M.STask.Set q16)))
 let q18 := (List.getD q17 (Int.toNat i) M.STask.zero)
 let q19 := (List.set q17 (Int.toNat i) (M.STask.mk (M.STask.Id q18) (M.STask.Prog q18) (M.STask.PC q18) (M.STask.Parent q18) (M.STask.Status q18) (M.STask.Result q18) ((Int.tmod q4 (3 : Int)) == (0 : Int)) (M.STask.Asked q18) (M.STask.Told q18) (M.STask.Subs q18) (M.STask.Set q18)))
 let q20 := (List.getD q19 (Int.toNat i) M.STask.zero)
 let q21 := (List.set q19 (Int.toNat i) (M.STask.mk (M.STask.Id q20) (M.STask.Prog q20) (M.STask.PC q20) (M.STask.Parent q20) (M.STask.Status q20) (M.STask.Result q20) (M.STask.Returned q20) ((Int.tmod q5 (3 : Int)) == (0 : Int)) (M.STask.Told q20) (M.STask.Subs q20) (M.STask.Set q20)))
 let q22 := (List.getD q21 (Int.toNat i) M.STask.zero)
 let q23 := (List.set q21 (Int.toNat i) (M.STask.mk (M.STask.Id q22) (M.STask.Prog q22) (M.STask.PC q22) (M.STask.Parent q22) (M.STask.Status q22) (M.STask.Result q22) (M.STask.Returned q22) (M.STask.Asked q22) ((Int.tmod q6 (3 : Int)) == (0 : Int)) (M.STask.Subs q22) (M.STask.Set q22)))
 let q24 := (List.getD q23 (Int.toNat i) M.STask.zero)
 let q25 := (M.l_markInt64S (Go.IntKind.wrap Go.IntKind.i64 (q6 + (1 : Int))) (M.STask.Subs q24))
 let q26 := (Option.getD q25 default)
 let q27 := (List.set q23 (Int.toNat i) (M.STask.mk (M.STask.Id q24) (M.STask.Prog q24) (M.STask.PC q24) (M.STask.Parent q24) (M.STask.Status q24) (M.STask.Result q24) (M.STask.Returned q24) (M.STask.Asked q24) (M.STask.Told q24) q26.2 (M.STask.Set q24)))
 let q28 := (List.getD q27 (Int.toNat i) M.STask.zero)
 let q29 := (M.l_markInt64S q26.1 (M.STask.Set q28))
 bif (((Option.isSome q29) && true) && ((Go.V.inB i (List.length q27)) && (((Option.isSome q25) && true) && ((Go.V.inB i (List.length q23)) && ((Go.V.inB i (List.length q21)) && (((3 : Int) != (0 : Int)) && ((Go.V.inB i (List.length q19)) && (((3 : Int) != (0 : Int)) && ((Go.V.inB i (List.length q17)) && (((3 : Int) != (0 : Int)) && ((Go.V.inB i (List.length q15)) && ((Go.V.inB i (List.length q13)) && ((Go.V.inB i (List.length q11)) && ((Go.V.inB i (List.length q9)) && ((Go.V.inB i (List.length q7)) && ((Go.V.inB i (List.length a)) && true)))))))))))))))) then
 let q30 := (Option.getD q29 default)
 M.l_markTaskS_l0 fuel q30.1 (Go.IntKind.wrap Go.IntKind.i64 (i + (1 : Int))) (List.set q27 (Int.toNat i) (M.STask.mk (M.STask.Id q28) (M.STask.Prog q28) (M.STask.PC q28) (M.STask.Parent q28) (M.STask.Status q28) (M.STask.Result q28) (M.STask.Returned q28) (M.STask.Asked q28) (M.STask.Told q28) (M.STask.Subs q28) q30.2))
 else
 none
 else
 some ((k, a))
def l_markTaskS (k : Int) (a : (List M.STask)) : Option (Int × (List M.STask)) :=
 match (M.l_markTaskS_l0 Go.V.bigN k (0 : Int) a) with
 | none => none
 | some y0 =>
 some (y0.1, y0.2)
def l_markNoteS_l0 : Nat → Int → Int → (List M.SNote) → Option (Int × (List M.SNote))
 | 0, _, _, _ => none
 | fuel + 1, k, i, a =>
 bif (decide (i < ((List.length a) : Int))) then
 let q0 := (List.set a (Int.toNat i) (M.SNote.mk k (M.SNote.Kind (List.getD a (Int.toNat i) M.SNote.zero)) (M.SNote.A (List.getD a (Int.toNat i) M.SNote.zero)) (M.SNote.B (List.getD a (Int.toNat i) M.SNote.zero))))
 let q1 := (List.getD q0 (Int.toNat i) M.SNote.zero)
 let q2 := (List.set q0 (Int.toNat i) (M.SNote.mk (M.SNote.Task q1) (Go.IntKind.wrap Go.IntKind.i64 (k + (1 : Int))) (M.SNote.A q1) (M.SNote.B q1)))
 let q3 := (List.getD q2 (Int.toNat i) M.SNote.zero)
 let q4 := (Go.IntKind.wrap Go.IntKind.i64 ((Go.IntKind.wrap Go.IntKind.i64 (k + (1 : Int))) + (1 : Int)))
 let q5 := (List.set q2 (Int.toNat i) (M.SNote.mk (M.SNote.Task q3) (M.SNote.Kind q3) q4 (M.SNote.B q3)))
 bif ((Go.V.inB i (List.length q5)) && ((Go.V.inB i (List.length q2)) && ((Go.V.inB i (List.length q0)) && ((Go.V.inB i (List.length a)) && true)))) then
 let q6 := (Go.IntKind.wrap Go.IntKind.i64 (q4 + (1 : Int)))
 let q7 := (List.getD q5 (Int.toNat i) M.SNote.zero)
 M.l_markNoteS_l0 fuel (Go.IntKind.wrap Go.IntKind.i64 (q6 + (1 : Int))) (Go.IntKind.wrap Go.IntKind.i64 (i + (1 : Int))) (List.set q5 (Int.toNat i) (M.SNote.mk (M.SNote.Task q7) (M.SNote.Kind q7) (M.SNote.A q7) q6))
 else
 none
 else
 some ((k, a))
def l_markNoteS (k : Int) (a : (List M.SNote)) : Option (Int × (List M.SNote)) :=
 match (M.l_markNoteS_l0 Go.V.bigN k (0 : Int) a) with
 | none => none
 | some y0 =>
 some (y0.1, y0.2)
def l_heldAopS_l0 (a : (List M.SAop)) : Nat → Int → Int → Option ((Int) ⊕ (Int))
 | 0, _, _ => none
 | fuel + 1, k, i =>
 bif (decide (i < ((List.length a) : Int))) then
 bif ((M.SAop.Kind (List.getD a (Int.toNat i) M.SAop.zero)) != k) then
 bif ((Go.V.inB i (List.length a)) && true) then
 some (.inl (-(1 : Int)))
 else
 none
 else
 bif ((M.SAop.A (List.getD a (Int.toNat i) M.SAop.zero)) != (Go.IntKind.wrap Go.IntKind.i64 (k + (1 : Int)))) then
 let q0 := ((Go.V.inB i (List.length a)) && ((Go.V.inB i (List.length a)) && true))
 bif q0 then
 some (.inl (-(1 : Int)))
 else
 none
 else
 let q0 := (Go.IntKind.wrap Go.IntKind.i64 ((Go.IntKind.wrap Go.IntKind.i64 (k + (1 : Int))) + (1 : Int)))
 bif ((M.SAop.B (List.getD a (Int.toNat i) M.SAop.zero)) != q0) then
 let q1 := ((Go.V.inB i (List.length a)) && ((Go.V.inB i (List.length a)) && true))
 let q2 := ((Go.V.inB i (List.length a)) && q1)
 bif q2 then
 some (.inl (-(1 : Int)))
 else
 none
 else
 let q1 := ((Go.V.inB i (List.length a)) && ((Go.V.inB i (List.length a)) && true))
 let q2 := ((Go.V.inB i (List.length a)) && q1)
 bif q2 then
 M.l_heldAopS_l0 a fuel (Go.IntKind.wrap Go.IntKind.i64 (q0 + (1 : Int))) (Go.IntKind.wrap Go.IntKind.i64 (i + (1 : Int)))
 else
 none
 else
 some ((.inr (k)))
def l_heldAopS (a : (List M.SAop)) (k : Int) : Option (Int) :=
 match (M.l_heldAopS_l0 a Go.V.bigN k (0 : Int)) with
 | none => none
 | some y0 =>
 (match y0 with
 | .inl a1 =>
 some a1
 | .inr b1 =>
 some b1)
def l_heldProgS_l0 (a : (List M.SProg)) : Nat → Int → Int → Option ((Int) ⊕ (Int))
 | 0, _, _ => none
 | fuel + 1, k, i =>
 bif (decide (i < ((List.length a) : Int))) then
 bif ((M.SProg.Inst (List.getD a (Int.toNat i) M.SProg.zero)) != k) then
 bif ((Go.V.inB i (List.length a)) && true) then
 some (.inl (-(1 : Int)))
 else
 none
 else
 let q0 := (M.l_heldAopS (M.SProg.Ops (List.getD a (Int.toNat i) M.SProg.zero)) (Go.IntKind.wrap Go.IntKind.i64 (k + (1 : Int))))
 let q1 := (Option.getD q0 default)
 bif (decide (q1 < (0 : Int))) then
 let q2 := ((Option.isSome q0) && ((Go.V.inB i (List.length a)) && ((Go.V.inB i (List.length a)) && true)))
 bif q2 then
 some (.inl (-(1 : Int)))
 else
 none
 else
 let q2 := ((Option.isSome q0) && ((Go.V.inB i (List.length a)) && ((Go.V.inB i (List.length a)) && true)))
 bif q2 then
 M.l_heldProgS_l0 a fuel q1 (Go.IntKind.wrap Go.IntKind.i64 (i + (1 : Int)))
 else
 none
 else
 some ((.inr (k)))
def l_heldProgS (a : (List M.SProg)) (k : Int) : Option (Int) :=
 match (M.l_heldProgS_l0 a Go.V.bigN k (0 : Int)) with
 | none => none
 | some y0 =>
 (match y0 with
 | .inl a1 =>
 some a1
 | .inr b1 =>
 some b1)
def l_heldStreamS_l0 (a : (List M.SStream)) : Nat → Int → Int → Option ((Int) ⊕ (Int))
 | 0, _, _ => none
 | fuel + 1, k, i =>
 bif (decide (i < ((List.length a) : Int))) then
 bif ((M.SType.Kind (M.SStream.Type_ (List.getD a (Int.toNat i) M.SStream.zero))) != k) then
 bif ((Go.V.inB i (List.length a)) && true) then
 some (.inl (-(1 : Int)))
 else
 none
 else
 let q0 := (M.l_markText (Go.IntKind.wrap Go.IntKind.i64 (k + (1 : Int))))
 bif (!((M.SType.Name (M.SStream.Type_ (List.getD a (Int.toNat i) M.SStream.zero))) == (Option.getD q0 default))) then
 let q1 := ((Option.isSome q0) && ((Go.V.inB i (List.length a)) && ((Go.V.inB i (List.length a)) && true)))
 bif q1 then
 some (.inl (-(1 : Int)))
 else
 none
 else
 let q1 := (M.l_heldStringS (M.SType.Labels (M.SStream.Type_ (List.getD a (Int.toNat i) M.SStream.zero))) (Go.IntKind.wrap Go.IntKind.i64 ((Go.IntKind.wrap Go.IntKind.i64 (k + (1 : Int))) + (1 : Int))))
 let q2 := (Option.getD q1 default)
 bif (decide (q2 < (0 : Int))) then
 let q3 := ((Option.isSome q0) && ((Go.V.inB i (List.length a)) && ((Go.V.inB i (List.length a)) && true)))
 let q4 := ((Option.isSome q1) && ((Go.V.inB i (List.length a)) && q3))
 bif q4 then
 some (.inl (-(1 : Int)))
 else
 none
 else
 let q3 := (M.l_heldTypeS (M.SType.Kids (M.SStream.Type_ (List.getD a (Int.toNat i) M.SStream.zero))) q2)
 let q4 := (Option.getD q3 default)
 bif (decide (q4 < (0 : Int))) then
 let q5 := ((Option.isSome q0) && ((Go.V.inB i (List.length a)) && ((Go.V.inB i (List.length a)) && true)))
 let q6 := ((Option.isSome q1) && ((Go.V.inB i (List.length a)) && q5))
 let q7 := ((Option.isSome q3) && ((Go.V.inB i (List.length a)) && q6))
 bif q7 then
 some (.inl (-(1 : Int)))
 else
 none
 else
 bif ((M.SStream.Room (List.getD a (Int.toNat i) M.SStream.zero)) != q4) then
 let q5 := ((Option.isSome q0) && ((Go.V.inB i (List.length a)) && ((Go.V.inB i (List.length a)) && true)))
 let q6 := ((Option.isSome q1) && ((Go.V.inB i (List.length a)) && q5))
 let q7 := ((Option.isSome q3) && ((Go.V.inB i (List.length a)) && q6))
 let q8 := ((Go.V.inB i (List.length a)) && q7)
 bif q8 then
 some (.inl (-(1 : Int)))
 else
 none
 else
 let q5 := (Go.IntKind.wrap Go.IntKind.i64 (q4 + (1 : Int)))
 bif (!((M.SStream.Future (List.getD a (Int.toNat i) M.SStream.zero)) == ((Int.tmod q5 (3 : Int)) == (0 : Int)))) then
 let q6 := ((Option.isSome q0) && ((Go.V.inB i (List.length a)) && ((Go.V.inB i (List.length a)) && true)))
 let q7 := ((Option.isSome q1) && ((Go.V.inB i (List.length a)) && q6))
 let q8 := ((Option.isSome q3) && ((Go.V.inB i (List.length a)) && q7))
 let q9 := ((Go.V.inB i (List.length a)) && q8)
 let q10 := (((3 : Int) != (0 : Int)) && ((Go.V.inB i (List.length a)) && q9))
 bif q10 then
 some (.inl (-(1 : Int)))
 else
 none
 else
 let q6 := (M.l_heldValueS (M.SStream.Buffer (List.getD a (Int.toNat i) M.SStream.zero)) (Go.IntKind.wrap Go.IntKind.i64 (q5 + (1 : Int))))
 let q7 := (Option.getD q6 default)
 bif (decide (q7 < (0 : Int))) then
 let q8 := ((Option.isSome q0) && ((Go.V.inB i (List.length a)) && ((Go.V.inB i (List.length a)) && true)))
 let q9 := ((Option.isSome q1) && ((Go.V.inB i (List.length a)) && q8))
 let q10 := ((Option.isSome q3) && ((Go.V.inB i (List.length a)) && q9))
 let q11 := ((Go.V.inB i (List.length a)) && q10)
 let q12 := (((3 : Int) != (0 : Int)) && ((Go.V.inB i (List.length a)) && q11))
 let q13 := ((Option.isSome q6) && ((Go.V.inB i (List.length a)) && q12))
 bif q13 then
 some (.inl (-(1 : Int)))
 else
 none
 else
 bif ((M.SStream.Put (List.getD a (Int.toNat i) M.SStream.zero)) != q7) then
 let q8 := ((Option.isSome q0) && ((Go.V.inB i (List.length a)) && ((Go.V.inB i (List.length a)) && true)))
 let q9 := ((Option.isSome q1) && ((Go.V.inB i (List.length a)) && q8))
 let q10 := ((Option.isSome q3) && ((Go.V.inB i (List.length a)) && q9))
 let q11 := ((Go.V.inB i (List.length a)) && q10)
 let q12 := (((3 : Int) != (0 : Int)) && ((Go.V.inB i (List.length a)) && q11))
 let q13 := ((Option.isSome q6) && ((Go.V.inB i (List.length a)) && q12))
 let q14 := ((Go.V.inB i (List.length a)) && q13)
 bif q14 then
 some (.inl (-(1 : Int)))
 else
 none
 else
 let q8 := (Go.IntKind.wrap Go.IntKind.i64 (q7 + (1 : Int)))
 bif ((M.SStream.Got (List.getD a (Int.toNat i) M.SStream.zero)) != q8) then
 let q9 := ((Option.isSome q0) && ((Go.V.inB i (List.length a)) && ((Go.V.inB i (List.length a)) && true)))
 let q10 := ((Option.isSome q1) && ((Go.V.inB i (List.length a)) && q9))
 let q11 := ((Option.isSome q3) && ((Go.V.inB i (List.length a)) && q10))
 let q12 := ((Go.V.inB i (List.length a)) && q11)
 let q13 := (((3 : Int) != (0 : Int)) && ((Go.V.inB i (List.length a)) && q12))
 let q14 := ((Option.isSome q6) && ((Go.V.inB i (List.length a)) && q13))
 let q15 := ((Go.V.inB i (List.length a)) && q14)
 let q16 := ((Go.V.inB i (List.length a)) && q15)
 bif q16 then
 some (.inl (-(1 : Int)))
 else
 none
 else
 let q9 := (Go.IntKind.wrap Go.IntKind.i64 (q8 + (1 : Int)))
 bif (!((M.SStream.Shut (List.getD a (Int.toNat i) M.SStream.zero)) == ((Int.tmod q9 (3 : Int)) == (0 : Int)))) then
 let q10 := ((Option.isSome q0) && ((Go.V.inB i (List.length a)) && ((Go.V.inB i (List.length a)) && true)))
 let q11 := ((Option.isSome q1) && ((Go.V.inB i (List.length a)) && q10))
 let q12 := ((Option.isSome q3) && ((Go.V.inB i (List.length a)) && q11))
 let q13 := ((Go.V.inB i (List.length a)) && q12)
 let q14 := (((3 : Int) != (0 : Int)) && ((Go.V.inB i (List.length a)) && q13))
 let q15 := ((Option.isSome q6) && ((Go.V.inB i (List.length a)) && q14))
 let q16 := ((Go.V.inB i (List.length a)) && q15)
 let q17 := ((Go.V.inB i (List.length a)) && q16)
 let q18 := (((3 : Int) != (0 : Int)) && ((Go.V.inB i (List.length a)) && q17))
 bif q18 then
 some (.inl (-(1 : Int)))
 else
 none
 else
 let q10 := (Go.IntKind.wrap Go.IntKind.i64 (q9 + (1 : Int)))
 bif (!((M.SStream.Gone (List.getD a (Int.toNat i) M.SStream.zero)) == ((Int.tmod q10 (3 : Int)) == (0 : Int)))) then
 let q11 := ((Option.isSome q0) && ((Go.V.inB i (List.length a)) && ((Go.V.inB i (List.length a)) && true)))
 let q12 := ((Option.isSome q1) && ((Go.V.inB i (List.length a)) && q11))
 let q13 := ((Option.isSome q3) && ((Go.V.inB i (List.length a)) && q12))
 let q14 := ((Go.V.inB i (List.length a)) && q13)
 let q15 := (((3 : Int) != (0 : Int)) && ((Go.V.inB i (List.length a)) && q14))
 let q16 := ((Option.isSome q6) && ((Go.V.inB i (List.length a)) && q15))
 let q17 := ((Go.V.inB i (List.length a)) && q16)
 let q18 := ((Go.V.inB i (List.length a)) && q17)
 let q19 := (((3 : Int) != (0 : Int)) && ((Go.V.inB i (List.length a)) && q18))
 let q20 := (((3 : Int) != (0 : Int)) && ((Go.V.inB i (List.length a)) && q19))
 bif q20 then
 some (.inl (-(1 : Int)))
 else
 none
 else
 let q11 := ((Option.isSome q0) && ((Go.V.inB i (List.length a)) && ((Go.V.inB i (List.length a)) && true)))
 let q12 := ((Option.isSome q1) && ((Go.V.inB i (List.length a)) && q11))
 let q13 := ((Option.isSome q3) && ((Go.V.inB i (List.length a)) && q12))
 let q14 := ((Go.V.inB i (List.length a)) && q13)
 let q15 := (((3 : Int) != (0 : Int)) && ((Go.V.inB i (List.length a)) && q14))
 let q16 := ((Option.isSome q6) && ((Go.V.inB i (List.length a)) && q15))
 let q17 := ((Go.V.inB i (List.length a)) && q16)
 let q18 := ((Go.V.inB i (List.length a)) && q17)
 let q19 := (((3 : Int) != (0 : Int)) && ((Go.V.inB i (List.length a)) && q18))
 let q20 := (((3 : Int) != (0 : Int)) && ((Go.V.inB i (List.length a)) && q19))
 bif q20 then
 M.l_heldStreamS_l0 a fuel (Go.IntKind.wrap Go.IntKind.i64 (q10 + (1 : Int))) (Go.IntKind.wrap Go.IntKind.i64 (i + (1 : Int)))
 else
 none
 else
 some ((.inr (k)))
def l_heldStreamS (a : (List M.SStream)) (k : Int) : Option (Int) :=
 match (M.l_heldStreamS_l0 a Go.V.bigN k (0 : Int)) with
 | none => none
 | some y0 =>
 (match y0 with
 | .inl a1 =>
 some a1
 | .inr b1 =>
 some b1)
def l_heldInt64S_l0 (a : (List Int)) : Nat → Int → Int → Option ((Int) ⊕ (Int))
 | 0, _, _ => none
 | fuel + 1, k, i =>
 bif (decide (i < ((List.length a) : Int))) then
 bif ((List.getD a (Int.toNat i) (0 : Int)) != k) then
 bif ((Go.V.inB i (List.length a)) && true) then
 some (.inl (-(1 : Int)))
 else
 none
 else
 bif ((Go.V.inB i (List.length a)) && true) then
 M.l_heldInt64S_l0 a fuel (Go.IntKind.wrap Go.IntKind.i64 (k + (1 : Int))) (Go.IntKind.wrap Go.IntKind.i64 (i + (1 : Int)))
 else
 none
 else
 some ((.inr (k)))
def l_heldInt64S (a : (List Int)) (k : Int) : Option (Int) :=
 match (M.l_heldInt64S_l0 a Go.V.bigN k (0 : Int)) with
 | none => none
 | some y0 =>
 (match y0 with
 | .inl a1 =>
 some a1
 | .inr b1 =>
 some b1)
def l_heldTaskS_l0 (a : (List M.STask)) : Nat → Int → Int → Option ((Int) ⊕ (Int))
 | 0, _, _ => none
 | fuel + 1, k, i =>
 bif (decide (i < ((List.length a) : Int))) then
 bif ((M.STask.Id (List.getD a (Int.toNat i) M.STask.zero)) != k) then
 bif ((Go.V.inB i (List.length a)) && true) then
 some (.inl (-(1 : Int)))
 else
 none
 else
 bif ((M.STask.Prog (List.getD a (Int.toNat i) M.STask.zero)) != (Go.IntKind.wrap Go.IntKind.i64 (k + (1 : Int)))) then
 let q0 := ((Go.V.inB i (List.length a)) && ((Go.V.inB i (List.length a)) && true))
 bif q0 then
 some (.inl (-(1 : Int)))
 else
 none
 else
 let q0 := (Go.IntKind.wrap Go.IntKind.i64 ((Go.IntKind.wrap Go.IntKind.i64 (k + (1 : Int))) + (1 : Int)))
 bif ((M.STask.PC (List.getD a (Int.toNat i) M.STask.zero)) != q0) then
 let q1 := ((Go.V.inB i (List.length a)) && ((Go.V.inB i (List.length a)) && true))
 let q2 := ((Go.V.inB i (List.length a)) && q1)
 bif q2 then
 some (.inl (-(1 : Int)))
 else
 none
 else
 let q1 := (Go.IntKind.wrap Go.IntKind.i64 (q0 + (1 : Int)))
 bif ((M.STask.Parent (List.getD a (Int.toNat i) M.STask.zero)) != q1) then
 let q2 := ((Go.V.inB i (List.length a)) && ((Go.V.inB i (List.length a)) && true))
 let q3 := ((Go.V.inB i (List.length a)) && q2)
 let q4 := ((Go.V.inB i (List.length a)) && q3)
 bif q4 then
 some (.inl (-(1 : Int)))
 else
 none
 else
 let q2 := (Go.IntKind.wrap Go.IntKind.i64 (q1 + (1 : Int)))
 bif ((M.STask.Status (List.getD a (Int.toNat i) M.STask.zero)) != q2) then
 let q3 := ((Go.V.inB i (List.length a)) && ((Go.V.inB i (List.length a)) && true))
 let q4 := ((Go.V.inB i (List.length a)) && q3)
 let q5 := ((Go.V.inB i (List.length a)) && q4)
 let q6 := ((Go.V.inB i (List.length a)) && q5)
 bif q6 then
 some (.inl (-(1 : Int)))
 else
 none
 else
 let q3 := (Go.IntKind.wrap Go.IntKind.i64 (q2 + (1 : Int)))
 bif ((M.STask.Result (List.getD a (Int.toNat i) M.STask.zero)) != q3) then
 let q4 := ((Go.V.inB i (List.length a)) && ((Go.V.inB i (List.length a)) && true))
 let q5 := ((Go.V.inB i (List.length a)) && q4)
 let q6 := ((Go.V.inB i (List.length a)) && q5)
 let q7 := ((Go.V.inB i (List.length a)) && q6)
 let q8 := ((Go.V.inB i (List.length a)) && q7)
 bif q8 then
 some (.inl (-(1 : Int)))
 else
 none
 else
 let q4 := (Go.IntKind.wrap Go.IntKind.i64 (q3 + (1 : Int)))
 bif (!((M.STask.Returned (List.getD a (Int.toNat i) M.STask.zero)) == ((Int.tmod q4 (3 : Int)) == (0 : Int)))) then
 let q5 := ((Go.V.inB i (List.length a)) && ((Go.V.inB i (List.length a)) && true))
 let q6 := ((Go.V.inB i (List.length a)) && q5)
 let q7 := ((Go.V.inB i (List.length a)) && q6)
 let q8 := ((Go.V.inB i (List.length a)) && q7)
 let q9 := ((Go.V.inB i (List.length a)) && q8)
 let q10 := (((3 : Int) != (0 : Int)) && ((Go.V.inB i (List.length a)) && q9))
 bif q10 then
 some (.inl (-(1 : Int)))
 else
 none
 else
 let q5 := (Go.IntKind.wrap Go.IntKind.i64 (q4 + (1 : Int)))
 bif (!((M.STask.Asked (List.getD a (Int.toNat i) M.STask.zero)) == ((Int.tmod q5 (3 : Int)) == (0 : Int)))) then
 let q6 := ((Go.V.inB i (List.length a)) && ((Go.V.inB i (List.length a)) && true))
 let q7 := ((Go.V.inB i (List.length a)) && q6)
 let q8 := ((Go.V.inB i (List.length a)) && q7)
 let q9 := ((Go.V.inB i (List.length a)) && q8)
 let q10 := ((Go.V.inB i (List.length a)) && q9)
 let q11 := (((3 : Int) != (0 : Int)) && ((Go.V.inB i (List.length a)) && q10))
 let q12 := (((3 : Int) != (0 : Int)) && ((Go.V.inB i (List.length a)) && q11))
 bif q12 then
 some (.inl (-(1 : Int)))
 else
 none
 else
 let q6 := (Go.IntKind.wrap Go.IntKind.i64 (q5 + (1 : Int)))
 bif (!((M.STask.Told (List.getD a (Int.toNat i) M.STask.zero)) == ((Int.tmod q6 (3 : Int)) == (0 : Int)))) then
 let q7 := ((Go.V.inB i (List.length a)) && ((Go.V.inB i (List.length a)) && true))
 let q8 := ((Go.V.inB i (List.length a)) && q7)
 let q9 := ((Go.V.inB i (List.length a)) && q8)
 let q10 := ((Go.V.inB i (List.length a)) && q9)
 let q11 := ((Go.V.inB i (List.length a)) && q10)
 let q12 := (((3 : Int) != (0 : Int)) && ((Go.V.inB i (List.length a)) && q11))
 let q13 := (((3 : Int) != (0 : Int)) && ((Go.V.inB i (List.length a)) && q12))
 let q14 := (((3 : Int) != (0 : Int)) && ((Go.V.inB i (List.length a)) && q13))
 bif q14 then
 some (.inl (-(1 : Int)))
 else
 none
 else
 let q7 := (M.l_heldInt64S (M.STask.Subs (List.getD a (Int.toNat i) M.STask.zero)) (Go.IntKind.wrap Go.IntKind.i64 (q6 + (1 : Int))))
 let q8 := (Option.getD q7 default)
 bif (decide (q8 < (0 : Int))) then
 let q9 := ((Go.V.inB i (List.length a)) && ((Go.V.inB i (List.length a)) && true))
 let q10 := ((Go.V.inB i (List.length a)) && q9)
 let q11 := ((Go.V.inB i (List.length a)) && q10)
 let q12 := ((Go.V.inB i (List.length a)) && q11)
 let q13 := ((Go.V.inB i (List.length a)) && q12)
 let q14 := (((3 : Int) != (0 : Int)) && ((Go.V.inB i (List.length a)) && q13))
 let q15 := (((3 : Int) != (0 : Int)) && ((Go.V.inB i (List.length a)) && q14))
 let q16 := (((3 : Int) != (0 : Int)) && ((Go.V.inB i (List.length a)) && q15))
 let q17 := ((Option.isSome q7) && ((Go.V.inB i (List.length a)) && q16))
 bif q17 then
 some (.inl (-(1 : Int)))
 else
 none
 else
 let q9 := (M.l_heldInt64S (M.STask.Set (List.getD a (Int.toNat i) M.STask.zero)) q8)
 let q10 := (Option.getD q9 default)
 bif (decide (q10 < (0 : Int))) then
 let q11 := ((Go.V.inB i (List.length a)) && ((Go.V.inB i (List.length a)) && true))
 let q12 := ((Go.V.inB i (List.length a)) && q11)
 let q13 := ((Go.V.inB i (List.length a)) && q12)
 let q14 := ((Go.V.inB i (List.length a)) && q13)
 let q15 := ((Go.V.inB i (List.length a)) && q14)
 let q16 := (((3 : Int) != (0 : Int)) && ((Go.V.inB i (List.length a)) && q15))
 let q17 := (((3 : Int) != (0 : Int)) && ((Go.V.inB i (List.length a)) && q16))
 let q18 := (((3 : Int) != (0 : Int)) && ((Go.V.inB i (List.length a)) && q17))
 let q19 := ((Option.isSome q7) && ((Go.V.inB i (List.length a)) && q18))
 let q20 := ((Option.isSome q9) && ((Go.V.inB i (List.length a)) && q19))
 bif q20 then
 some (.inl (-(1 : Int)))
 else
 none
 else
 let q11 := ((Go.V.inB i (List.length a)) && ((Go.V.inB i (List.length a)) && true))
 let q12 := ((Go.V.inB i (List.length a)) && q11)
 let q13 := ((Go.V.inB i (List.length a)) && q12)
 let q14 := ((Go.V.inB i (List.length a)) && q13)
 let q15 := ((Go.V.inB i (List.length a)) && q14)
 let q16 := (((3 : Int) != (0 : Int)) && ((Go.V.inB i (List.length a)) && q15))
 let q17 := (((3 : Int) != (0 : Int)) && ((Go.V.inB i (List.length a)) && q16))
 let q18 := (((3 : Int) != (0 : Int)) && ((Go.V.inB i (List.length a)) && q17))
 let q19 := ((Option.isSome q7) && ((Go.V.inB i (List.length a)) && q18))
 let q20 := ((Option.isSome q9) && ((Go.V.inB i (List.length a)) && q19))
 bif q20 then
 M.l_heldTaskS_l0 a fuel q10 (Go.IntKind.wrap Go.IntKind.i64 (i + (1 : Int)))
 else
 none
 else
 some ((.inr (k)))
def l_heldTaskS (a : (List M.STask)) (k : Int) : Option (Int) :=
 match (M.l_heldTaskS_l0 a Go.V.bigN k (0 : Int)) with
 | none => none
 | some y0 =>
 (match y0 with
 | .inl a1 =>
 some a1
 | .inr b1 =>
 some b1)
def l_heldNoteS_l0 (a : (List M.SNote)) : Nat → Int → Int → Option ((Int) ⊕ (Int))
 | 0, _, _ => none
 | fuel + 1, k, i =>
 bif (decide (i < ((List.length a) : Int))) then
 bif ((M.SNote.Task (List.getD a (Int.toNat i) M.SNote.zero)) != k) then
 bif ((Go.V.inB i (List.length a)) && true) then
 some (.inl (-(1 : Int)))
 else
 none
 else
 bif ((M.SNote.Kind (List.getD a (Int.toNat i) M.SNote.zero)) != (Go.IntKind.wrap Go.IntKind.i64 (k + (1 : Int)))) then
 let q0 := ((Go.V.inB i (List.length a)) && ((Go.V.inB i (List.length a)) && true))
 bif q0 then
 some (.inl (-(1 : Int)))
 else
 none
 else
 let q0 := (Go.IntKind.wrap Go.IntKind.i64 ((Go.IntKind.wrap Go.IntKind.i64 (k + (1 : Int))) + (1 : Int)))
 bif ((M.SNote.A (List.getD a (Int.toNat i) M.SNote.zero)) != q0) then
 let q1 := ((Go.V.inB i (List.length a)) && ((Go.V.inB i (List.length a)) && true))
 let q2 := ((Go.V.inB i (List.length a)) && q1)
 bif q2 then
 some (.inl (-(1 : Int)))
 else
 none
 else
 let q1 := (Go.IntKind.wrap Go.IntKind.i64 (q0 + (1 : Int)))
 bif ((M.SNote.B (List.getD a (Int.toNat i) M.SNote.zero)) != q1) then
 let q2 := ((Go.V.inB i (List.length a)) && ((Go.V.inB i (List.length a)) && true))
 let q3 := ((Go.V.inB i (List.length a)) && q2)
 let q4 := ((Go.V.inB i (List.length a)) && q3)
 bif q4 then
 some (.inl (-(1 : Int)))
 else
 none
 else
 let q2 := ((Go.V.inB i (List.length a)) && ((Go.V.inB i (List.length a)) && true))
 let q3 := ((Go.V.inB i (List.length a)) && q2)
 let q4 := ((Go.V.inB i (List.length a)) && q3)
 bif q4 then
 M.l_heldNoteS_l0 a fuel (Go.IntKind.wrap Go.IntKind.i64 (q1 + (1 : Int))) (Go.IntKind.wrap Go.IntKind.i64 (i + (1 : Int)))
 else
 none
 else
 some ((.inr (k)))
def l_heldNoteS (a : (List M.SNote)) (k : Int) : Option (Int) :=
 match (M.l_heldNoteS_l0 a Go.V.bigN k (0 : Int)) with
 | none => none
 | some y0 =>
 (match y0 with
 | .inl a1 =>
 some a1
 | .inr b1 =>
 some b1)
def l_markAsync (k : Int) (o0 : (List M.SProg)) (o1 : (List M.SStream)) (o2 : (List M.STask)) (o3 : (List Int)) (o4 : (List M.SNote)) : Option (Int × (List M.SProg) × (List M.SStream) × (List M.STask) × (List Int) × (List M.SNote)) :=
 let q0 := (M.l_markProgS k o0)
 let q1 := (M.l_markStreamS (Option.getD q0 default).1 o1)
 let q2 := (Option.getD q1 default)
 let q3 := (M.l_markTaskS q2.1 o2)
 let q4 := (Option.getD q3 default)
 let q5 := (M.l_markInt64S q4.1 o3)
 let q6 := (Option.getD q5 default)
 let q7 := (M.l_markNoteS q6.1 o4)
 bif (((Option.isSome q7) && true) && (((Option.isSome q5) && true) && (((Option.isSome q3) && true) && (((Option.isSome q1) && true) && (((Option.isSome q0) && true) && true))))) then
 let q8 := (Option.getD q7 default)
 some (q8.1, (Option.getD q0 default).2, q2.2, q4.2, q6.2, q8.2)
 else
 none
def l_heldAsync (a : M.SAsync) (k : Int) : Option (Int) :=
 let q0 := (M.l_heldProgS (M.SAsync.Progs a) k)
 bif (decide ((Option.getD q0 default) < (0 : Int))) then
 bif ((Option.isSome q0) && true) then
 some (-(1 : Int))
 else
 none
 else
 let q1 := (M.l_heldStreamS (M.SAsync.Streams a) (Option.getD q0 default))
 let q2 := (Option.getD q1 default)
 bif (decide (q2 < (0 : Int))) then
 let q3 := ((Option.isSome q1) && ((Option.isSome q0) && true))
 bif q3 then
 some (-(1 : Int))
 else
 none
 else
 let q3 := (M.l_heldTaskS (M.SAsync.Tasks a) q2)
 let q4 := (Option.getD q3 default)
 bif (decide (q4 < (0 : Int))) then
 let q5 := ((Option.isSome q1) && ((Option.isSome q0) && true))
 let q6 := ((Option.isSome q3) && q5)
 bif q6 then
 some (-(1 : Int))
 else
 none
 else
 let q5 := (M.l_heldInt64S (M.SAsync.Back a) q4)
 let q6 := (Option.getD q5 default)
 bif (decide (q6 < (0 : Int))) then
 let q7 := ((Option.isSome q1) && ((Option.isSome q0) && true))
 let q8 := ((Option.isSome q3) && q7)
 let q9 := ((Option.isSome q5) && q8)
 bif q9 then
 some (-(1 : Int))
 else
 none
 else
 let q7 := (M.l_heldNoteS (M.SAsync.Notes a) q6)
 let q8 := (Option.getD q7 default)
 bif (decide (q8 < (0 : Int))) then
 let q9 := ((Option.isSome q1) && ((Option.isSome q0) && true))
 let q10 := ((Option.isSome q3) && q9)
 let q11 := ((Option.isSome q5) && q10)
 let q12 := ((Option.isSome q7) && q11)
 bif q12 then
 some (-(1 : Int))
 else
 none
 else
 let q9 := ((Option.isSome q1) && ((Option.isSome q0) && true))
 let q10 := ((Option.isSome q3) && q9)
 let q11 := ((Option.isSome q5) && q10)
 let q12 := ((Option.isSome q7) && q11)
 bif q12 then
 some q8
 else
 none
def l_FnExactNewAsync (aProgs : (List M.SProg)) (aRooms : (List Int)) : Option (Bool) :=
 bif (decide ((1048576 : Int) < ((List.length aRooms) : Int))) then
 some true
 else
 let q0 := (M.l_szProgS aProgs (1048576 : Int))
 bif (decide ((Option.getD q0 default) < (0 : Int))) then
 bif ((Option.isSome q0) && true) then
 some true
 else
 none
 else
 let q1 := (M.l_toProgS aProgs)
 let q2 := (M.l_toInt64S aRooms)
 let q3 := (M.i_NewAsync (Option.getD q1 default) (Option.getD q2 default))
 let q4 := default
 let q5 := (Option.getD q3 q4)
 let q6 := q5.2
 let q7 := q6.1
 let q8 := q6.2
 let q9 := q8.1
 let q10 := q8.2
 let q11 := q10.1
 let q12 := q10.2
 let q13 := q12.1
 let q14 := q12.2
 let q15 := (M.s_NewAsync (Option.getD q1 default) (Option.getD q2 default))
 let q16 := (Option.getD q15 default)
 let q17 := (M.l_eqAsync (M.SAsync.mk q7 q9 q11 q13 q14) q16.1)
 let q18 := (!(Option.getD q17 default))
 let q19 := (q5.1 != q16.2)
 let q20 := (q18 || q19)
 bif q20 then
 let q21 := (Option.isSome q17)
 let q22 := (Option.isSome q3)
 let q23 := (q21 && (q22 && ((Option.isSome q2) && ((Option.isSome q1) && ((Option.isSome q15) && ((Option.isSome q2) && ((Option.isSome q1) && ((Option.isSome q0) && true))))))))
 bif q23 then
 some false
 else
 none
 else
 let q21 := (M.l_eqProgS (Option.getD q1 default) (Option.getD q1 default))
 bif (!(Option.getD q21 default)) then
 let q22 := (Option.isSome q17)
 let q23 := (Option.isSome q3)
 let q24 := (q22 && (q23 && ((Option.isSome q2) && ((Option.isSome q1) && ((Option.isSome q15) && ((Option.isSome q2) && ((Option.isSome q1) && ((Option.isSome q0) && true))))))))
 let q25 := ((Option.isSome q21) && ((Option.isSome q1) && q24))
 bif q25 then
 some false
 else
 none
 else
 let q22 := (M.l_eqInt64S (Option.getD q2 default) (Option.getD q2 default))
 bif (!(Option.getD q22 default)) then
 let q23 := (Option.isSome q17)
 let q24 := (Option.isSome q3)
 let q25 := (q23 && (q24 && ((Option.isSome q2) && ((Option.isSome q1) && ((Option.isSome q15) && ((Option.isSome q2) && ((Option.isSome q1) && ((Option.isSome q0) && true))))))))
 let q26 := ((Option.isSome q21) && ((Option.isSome q1) && q25))
 let q27 := ((Option.isSome q22) && ((Option.isSome q2) && q26))
 bif q27 then
 some false
 else
 none
 else
 let q23 := (M.l_markProgS (1 : Int) (Option.getD q1 default))
 let q24 := (M.l_markInt64S (Option.getD q23 default).1 (Option.getD q2 default))
 bif (((decide ((Option.getD q24 default).1 < (0 : Int))) || q18) || q19) then
 let q25 := (Option.isSome q17)
 let q26 := (Option.isSome q3)
 let q27 := (q25 && (q26 && ((Option.isSome q2) && ((Option.isSome q1) && ((Option.isSome q15) && ((Option.isSome q2) && ((Option.isSome q1) && ((Option.isSome q0) && true))))))))
 let q28 := ((Option.isSome q21) && ((Option.isSome q1) && q27))
 let q29 := ((Option.isSome q22) && ((Option.isSome q2) && q28))
 let q30 := ((q25 || (!((decide ((Option.getD q24 default).1 < (0 : Int))) == false))) && ((Option.isSome q24) && ((Option.isSome q23) && q29)))
 bif q30 then
 some false
 else
 none
 else
 let q25 := (M.l_markAsync (1 : Int) q7 q9 q11 q13 q14)
 let q26 := (Option.getD q25 q4)
 let q27 := q26.2
 let q28 := q27.2
 let q29 := q28.2
 let q30 := q29.2
 let q31 := (M.l_heldAsync (M.SAsync.mk q27.1 q28.1 q29.1 q30.1 q30.2) (1 : Int))
 let q32 := (Option.getD q31 default)
 bif (decide (q32 < (0 : Int))) then
 let q33 := (Option.isSome q31)
 let q34 := (Option.isSome q17)
 let q35 := (Option.isSome q3)
 let q36 := (q34 && (q35 && ((Option.isSome q2) && ((Option.isSome q1) && ((Option.isSome q15) && ((Option.isSome q2) && ((Option.isSome q1) && ((Option.isSome q0) && true))))))))
 let q37 := ((Option.isSome q21) && ((Option.isSome q1) && q36))
 let q38 := ((Option.isSome q22) && ((Option.isSome q2) && q37))
 let q39 := ((q34 || (!((decide ((Option.getD q24 default).1 < (0 : Int))) == false))) && ((Option.isSome q24) && ((Option.isSome q23) && q38)))
 let q40 := (q33 && ((Option.isSome q25) && q39))
 bif q40 then
 some false
 else
 none
 else
 let q33 := (q32 != q26.1)
 bif q33 then
 let q34 := (Option.isSome q31)
 let q35 := (Option.isSome q17)
 let q36 := (Option.isSome q3)
 let q37 := (q35 && (q36 && ((Option.isSome q2) && ((Option.isSome q1) && ((Option.isSome q15) && ((Option.isSome q2) && ((Option.isSome q1) && ((Option.isSome q0) && true))))))))
 let q38 := ((Option.isSome q21) && ((Option.isSome q1) && q37))
 let q39 := ((Option.isSome q22) && ((Option.isSome q2) && q38))
 let q40 := ((q35 || (!((decide ((Option.getD q24 default).1 < (0 : Int))) == false))) && ((Option.isSome q24) && ((Option.isSome q23) && q39)))
 let q41 := (q34 && ((Option.isSome q25) && q40))
 bif q41 then
 some false
 else
 none
 else
 bif q20 then
 let q34 := (Option.isSome q17)
 let q35 := (Option.isSome q3)
 let q36 := (Option.isSome q31)
 let q37 := (q34 && (q35 && ((Option.isSome q2) && ((Option.isSome q1) && ((Option.isSome q15) && ((Option.isSome q2) && ((Option.isSome q1) && ((Option.isSome q0) && true))))))))
 let q38 := ((Option.isSome q21) && ((Option.isSome q1) && q37))
 let q39 := ((Option.isSome q22) && ((Option.isSome q2) && q38))
 let q40 := ((q34 || (!((decide ((Option.getD q24 default).1 < (0 : Int))) == false))) && ((Option.isSome q24) && ((Option.isSome q23) && q39)))
 let q41 := (q36 && ((Option.isSome q25) && q40))
 let q42 := (q34 && (q35 && ((Option.isSome q2) && ((Option.isSome q1) && q41))))
 bif q42 then
 some false
 else
 none
 else
 bif (decide (q32 < (0 : Int))) then
 let q34 := (Option.isSome q31)
 let q35 := (Option.isSome q17)
 let q36 := (Option.isSome q3)
 let q37 := (q35 && (q36 && ((Option.isSome q2) && ((Option.isSome q1) && ((Option.isSome q15) && ((Option.isSome q2) && ((Option.isSome q1) && ((Option.isSome q0) && true))))))))
 let q38 := ((Option.isSome q21) && ((Option.isSome q1) && q37))
 let q39 := ((Option.isSome q22) && ((Option.isSome q2) && q38))
 let q40 := ((q35 || (!((decide ((Option.getD q24 default).1 < (0 : Int))) == false))) && ((Option.isSome q24) && ((Option.isSome q23) && q39)))
 let q41 := (q34 && ((Option.isSome q25) && q40))
 let q42 := (q35 && (q36 && ((Option.isSome q2) && ((Option.isSome q1) && q41))))
 let q43 := (q34 && q42)
 bif q43 then
 some false
 else
 none
 else
 bif q33 then
 let q34 := (Option.isSome q31)
 let q35 := (Option.isSome q17)
 let q36 := (Option.isSome q3)
 let q37 := (q35 && (q36 && ((Option.isSome q2) && ((Option.isSome q1) && ((Option.isSome q15) && ((Option.isSome q2) && ((Option.isSome q1) && ((Option.isSome q0) && true))))))))
 let q38 := ((Option.isSome q21) && ((Option.isSome q1) && q37))
 let q39 := ((Option.isSome q22) && ((Option.isSome q2) && q38))
 let q40 := ((q35 || (!((decide ((Option.getD q24 default).1 < (0 : Int))) == false))) && ((Option.isSome q24) && ((Option.isSome q23) && q39)))
 let q41 := (q34 && ((Option.isSome q25) && q40))
 let q42 := (q35 && (q36 && ((Option.isSome q2) && ((Option.isSome q1) && q41))))
 let q43 := (q34 && q42)
 bif q43 then
 some false
 else
 none
 else
 let q34 := (Option.isSome q31)
 let q35 := (Option.isSome q17)
 let q36 := (Option.isSome q3)
 let q37 := (q35 && (q36 && ((Option.isSome q2) && ((Option.isSome q1) && ((Option.isSome q15) && ((Option.isSome q2) && ((Option.isSome q1) && ((Option.isSome q0) && true))))))))
 let q38 := ((Option.isSome q21) && ((Option.isSome q1) && q37))
 let q39 := ((Option.isSome q22) && ((Option.isSome q2) && q38))
 let q40 := ((q35 || (!((decide ((Option.getD q24 default).1 < (0 : Int))) == false))) && ((Option.isSome q24) && ((Option.isSome q23) && q39)))
 let q41 := (q34 && ((Option.isSome q25) && q40))
 let q42 := (q35 && (q36 && ((Option.isSome q2) && ((Option.isSome q1) && q41))))
 let q43 := (q34 && q42)
 bif q43 then
 some true
 else
 none
end M
