/-
  Part of the proof of the claim.
-/
import Derived.Test.YtjlkjnhhpmoenaaGreatDoorXQdata
import Derived.Test.YtjlkjnhhpmoenaaGreatDoorXQhand3
set_option linter.unusedVariables false
set_option maxRecDepth 100000
noncomputable section
namespace M
def l_szStringS_l0 (a : (List (List UInt8))) : Nat → Int → Int → Option ((Int) ⊕ (Int))
 | 0, _, _ => none
 | fuel + 1, left, i =>
 bif (decide (i < ((List.length a) : Int))) then
 let q0 := (Go.IntKind.wrap Go.IntKind.i64 (left - ((List.length (List.getD a (Int.toNat i) [])) : Int)))
 bif (decide (q0 < (0 : Int))) then
 bif ((Go.V.inB i (List.length a)) && true) then
 some (.inl (-(1 : Int)))
 else
 none
 else
 bif ((Go.V.inB i (List.length a)) && true) then
 M.l_szStringS_l0 a fuel q0 (Go.IntKind.wrap Go.IntKind.i64 (i + (1 : Int)))
 else
 none
 else
 some ((.inr (left)))
def l_szStringS (a : (List (List UInt8))) (left : Int) : Option (Int) :=
 bif (decide ((Go.IntKind.wrap Go.IntKind.i64 (left - ((List.length a) : Int))) < (0 : Int))) then
 some (-(1 : Int))
 else
 match (M.l_szStringS_l0 a Go.V.bigN (Go.IntKind.wrap Go.IntKind.i64 (left - ((List.length a) : Int))) (0 : Int)) with
 | none => none
 | some y0 =>
 (match y0 with
 | .inl a1 =>
 some a1
 | .inr b1 =>
 some b1)
def l_szTypeS_l0 (rec_l_szType : M.SType → Int → Option (Int)) (a : (List M.SType)) : Nat → Int → Int → Option ((Int) ⊕ (Int))
 | 0, _, _ => none
 | fuel + 1, left, i =>
 bif (decide (i < ((List.length a) : Int))) then
 let q0 := (Option.getD (rec_l_szType (M.SType.re (List.getD a (Int.toNat i) M.SType.zero)) left) default)
 bif (decide (q0 < (0 : Int))) then
 let q1 := ((Option.isSome (rec_l_szType (M.SType.re (List.getD a (Int.toNat i) M.SType.zero)) left)) && ((Go.V.inB i (List.length a)) && true))
 bif q1 then
 some (.inl (-(1 : Int)))
 else
 none
 else
 let q1 := ((Option.isSome (rec_l_szType (M.SType.re (List.getD a (Int.toNat i) M.SType.zero)) left)) && ((Go.V.inB i (List.length a)) && true))
 bif q1 then
 M.l_szTypeS_l0 rec_l_szType a fuel q0 (Go.IntKind.wrap Go.IntKind.i64 (i + (1 : Int)))
 else
 none
 else
 some ((.inr (left)))
def l_szTypeS (rec_l_szType : M.SType → Int → Option (Int)) (a : (List M.SType)) (left : Int) : Option (Int) :=
 bif (decide ((Go.IntKind.wrap Go.IntKind.i64 (left - ((List.length a) : Int))) < (0 : Int))) then
 some (-(1 : Int))
 else
 match (M.l_szTypeS_l0 rec_l_szType a Go.V.bigN (Go.IntKind.wrap Go.IntKind.i64 (left - ((List.length a) : Int))) (0 : Int)) with
 | none => none
 | some y0 =>
 (match y0 with
 | .inl a1 =>
 some a1
 | .inr b1 =>
 some b1)
def l_szType_b (rec_l_szType : M.SType → Int → Option (Int)) (a : M.SType) (left : Int) : Option (Int) :=
 bif (decide ((Go.IntKind.wrap Go.IntKind.i64 (left - ((List.length (M.SType.Name a)) : Int))) < (0 : Int))) then
 some (-(1 : Int))
 else
 let q0 := (M.l_szStringS (M.SType.Labels a) (Go.IntKind.wrap Go.IntKind.i64 (left - ((List.length (M.SType.Name a)) : Int))))
 let q1 := (Option.getD q0 default)
 bif (decide (q1 < (0 : Int))) then
 let q2 := ((Option.isSome q0) && true)
 bif q2 then
 some (-(1 : Int))
 else
 none
 else
 let q2 := (M.l_szTypeS rec_l_szType (M.SType.Kids a) q1)
 let q3 := (Option.getD q2 default)
 bif (decide (q3 < (0 : Int))) then
 let q4 := ((Option.isSome q0) && true)
 let q5 := ((Option.isSome q2) && q4)
 bif q5 then
 some (-(1 : Int))
 else
 none
 else
 let q4 := ((Option.isSome q0) && true)
 let q5 := ((Option.isSome q2) && q4)
 bif q5 then
 some q3
 else
 none
def l_szType_n : Nat → M.SType → Int → Option (Int)
 | 0 => fun _ _ => none
 | n + 1 => l_szType_b (l_szType_n n)
def l_szType : M.SType → Int → Option (Int) := l_szType_n Go.V.bigN
def l_toStringS_l0 (a : (List (List UInt8))) : Nat → Int → (List (List UInt8)) → Option ((List (List UInt8)))
 | 0, _, _ => none
 | fuel + 1, i, out =>
 bif (decide (i < ((List.length a) : Int))) then
 bif ((Go.V.inB i (List.length out)) && ((Go.V.inB i (List.length a)) && true)) then
 M.l_toStringS_l0 a fuel (Go.IntKind.wrap Go.IntKind.i64 (i + (1 : Int))) (List.set out (Int.toNat i) (List.getD a (Int.toNat i) []))
 else
 none
 else
 some (out)
def l_toStringS (a : (List (List UInt8))) : Option ((List (List UInt8))) :=
 match (M.l_toStringS_l0 a Go.V.bigN (0 : Int) (List.replicate (Int.toNat ((List.length a) : Int)) [])) with
 | none => none
 | some y0 =>
 bif (((decide (((List.length a) : Int) ≤ ((List.length a) : Int))) && (decide (((List.length a) : Int) ≤ (1073741824 : Int)))) && true) then
 some y0
 else
 none
def l_toTypeS_l0 (rec_l_toType : M.SType → Option (Int × (List UInt8) × (List (List UInt8)) × (List M.SType))) (a : (List M.SType)) : Nat → Int → (List M.SType) → Option ((List M.SType))
 | 0, _, _ => none
 | fuel + 1, i, out =>
 bif (decide (i < ((List.length a) : Int))) then
 bif ((Go.V.inB i (List.length out)) && ((Option.isSome (rec_l_toType (M.SType.re (List.getD a (Int.toNat i) M.SType.zero)))) && ((Go.V.inB i (List.length a)) && true))) then
 let q0 := (Option.getD (rec_l_toType (M.SType.re (List.getD a (Int.toNat i) M.SType.zero))) default)
 let q1 := q0.2
 let q2 := q1.2
 M.l_toTypeS_l0 rec_l_toType a fuel (Go.IntKind.wrap Go.IntKind.i64 (i + (1 : Int))) (List.set out (Int.toNat i) (M.SType.mk q0.1 q1.1 q2.1 q2.2))
 else
 none
 else
 some (out)
def l_toTypeS (rec_l_toType : M.SType → Option (Int × (List UInt8) × (List (List UInt8)) × (List M.SType))) (a : (List M.SType)) : Option ((List M.SType)) :=
 match (M.l_toTypeS_l0 rec_l_toType a Go.V.bigN (0 : Int) (List.replicate (Int.toNat ((List.length a) : Int)) (M.SType.mk (0 : Int) [] [] []))) with
 | none => none
 | some y0 =>
 bif (((decide (((List.length a) : Int) ≤ ((List.length a) : Int))) && (decide (((List.length a) : Int) ≤ (1073741824 : Int)))) && true) then
 some y0
 else
 none
def l_toType_b (rec_l_toType : M.SType → Option (Int × (List UInt8) × (List (List UInt8)) × (List M.SType))) (a : M.SType) : Option (Int × (List UInt8) × (List (List UInt8)) × (List M.SType)) :=
 let q0 := (M.l_toTypeS rec_l_toType (M.SType.Kids a))
 let q1 := (M.l_toStringS (M.SType.Labels a))
 bif ((Option.isSome q0) && ((Option.isSome q1) && true)) then
 some ((M.SType.Kind a), (M.SType.Name a), (Option.getD q1 default), (Option.getD q0 default))
 else
 none
def l_toType_n : Nat → M.SType → Option (Int × (List UInt8) × (List (List UInt8)) × (List M.SType))
 | 0 => fun _ => none
 | n + 1 => l_toType_b (l_toType_n n)
def l_toType : M.SType → Option (Int × (List UInt8) × (List (List UInt8)) × (List M.SType)) := l_toType_n Go.V.bigN
def l_eqStringS_l0 (a : (List (List UInt8))) (b : (List (List UInt8))) : Nat → Int → Option ((Bool) ⊕ (Unit))
 | 0, _ => none
 | fuel + 1, i =>
 bif (decide (i < ((List.length a) : Int))) then
 bif (!((List.getD a (Int.toNat i) []) == (List.getD b (Int.toNat i) []))) then
 let q0 := ((Go.V.inB i (List.length b)) && ((Go.V.inB i (List.length a)) && true))
 bif q0 then
 some (.inl false)
 else
 none
 else
 let q0 := ((Go.V.inB i (List.length b)) && ((Go.V.inB i (List.length a)) && true))
 bif q0 then
 M.l_eqStringS_l0 a b fuel (Go.IntKind.wrap Go.IntKind.i64 (i + (1 : Int)))
 else
 none
 else
 some ((.inr (())))
def l_eqStringS (a : (List (List UInt8))) (b : (List (List UInt8))) : Option (Bool) :=
 bif (((List.length a) : Int) != ((List.length b) : Int)) then
 some false
 else
 match (M.l_eqStringS_l0 a b Go.V.bigN (0 : Int)) with
 | none => none
 | some y0 =>
 (match y0 with
 | .inl a1 =>
 some a1
 | .inr b1 =>
 some true)
def l_eqTypeS_l0 (rec_l_eqType : M.SType → M.SType → Option (Bool)) (a : (List M.SType)) (b : (List M.SType)) : Nat → Int → Option ((Bool) ⊕ (Unit))
 | 0, _ => none
 | fuel + 1, i =>
 bif (decide (i < ((List.length a) : Int))) then
 bif (!(Option.getD (rec_l_eqType (M.SType.re (List.getD a (Int.toNat i) M.SType.zero)) (M.SType.re (List.getD b (Int.toNat i) M.SType.zero))) default)) then
 let q0 := ((Option.isSome (rec_l_eqType (M.SType.re (List.getD a (Int.toNat i) M.SType.zero)) (M.SType.re (List.getD b (Int.toNat i) M.SType.zero)))) && ((Go.V.inB i (List.length b)) && ((Go.V.inB i (List.length a)) && true)))
 bif q0 then
 some (.inl false)
 else
 none
 else
 let q0 := ((Option.isSome (rec_l_eqType (M.SType.re (List.getD a (Int.toNat i) M.SType.zero)) (M.SType.re (List.getD b (Int.toNat i) M.SType.zero)))) && ((Go.V.inB i (List.length b)) && ((Go.V.inB i (List.length a)) && true)))
 bif q0 then
 M.l_eqTypeS_l0 rec_l_eqType a b fuel (Go.IntKind.wrap Go.IntKind.i64 (i + (1 : Int)))
 else
 none
 else
 some ((.inr (())))
def l_eqTypeS (rec_l_eqType : M.SType → M.SType → Option (Bool)) (a : (List M.SType)) (b : (List M.SType)) : Option (Bool) :=
 bif (((List.length a) : Int) != ((List.length b) : Int)) then
 some false
 else
 match (M.l_eqTypeS_l0 rec_l_eqType a b Go.V.bigN (0 : Int)) with
 | none => none
 | some y0 =>
 (match y0 with
 | .inl a1 =>
 some a1
 | .inr b1 =>
 some true)
def l_eqType_b (rec_l_eqType : M.SType → M.SType → Option (Bool)) (a : M.SType) (b : M.SType) : Option (Bool) :=
 bif ((M.SType.Kind a) != (M.SType.Kind b)) then
 some false
 else
 bif (!((M.SType.Name a) == (M.SType.Name b))) then
 some false
 else
 let q0 := (M.l_eqStringS (M.SType.Labels a) (M.SType.Labels b))
 bif (!(Option.getD q0 default)) then
 bif ((Option.isSome q0) && true) then
 some false
 else
 none
 else
 let q1 := (M.l_eqTypeS rec_l_eqType (M.SType.Kids a) (M.SType.Kids b))
 bif (!(Option.getD q1 default)) then
 bif ((Option.isSome q1) && ((Option.isSome q0) && true)) then
 some false
 else
 none
 else
 bif ((Option.isSome q1) && ((Option.isSome q0) && true)) then
 some true
 else
 none
def l_eqType_n : Nat → M.SType → M.SType → Option (Bool)
 | 0 => fun _ _ => none
 | n + 1 => l_eqType_b (l_eqType_n n)
def l_eqType : M.SType → M.SType → Option (Bool) := l_eqType_n Go.V.bigN
def s_l00Max (a : Int) (b : Int) : Option (Int) :=
 bif (decide (b < a)) then
 some a
 else
 some b
def s_l03Size_l0 (rec_s_l03Size : M.SType → Int → Option (Int × Int)) (deep : Int) : Nat → Int → Int → Int → M.SType → Option ((Int × Int) ⊕ (Int × Int))
 | 0, _, _, _, _ => none
 | fuel + 1, most, parts, i, t =>
 bif (decide (i < ((List.length (M.SType.Kids t)) : Int))) then
 let q0 := (Option.getD (rec_s_l03Size (M.SType.re (List.getD (M.SType.Kids t) (Int.toNat i) M.SType.zero)) (Go.IntKind.wrap Go.IntKind.i64 (deep + (1 : Int)))) default)
 let q1 := (Go.IntKind.wrap Go.IntKind.i64 (parts + q0.2))
 bif (decide ((24 : Int) < q1)) then
 let q2 := (M.s_l00Max most q0.1)
 let q3 := ((Option.isSome q2) && ((Option.isSome (rec_s_l03Size (M.SType.re (List.getD (M.SType.Kids t) (Int.toNat i) M.SType.zero)) (Go.IntKind.wrap Go.IntKind.i64 (deep + (1 : Int))))) && ((Go.V.inB i (List.length (M.SType.Kids t))) && true)))
 bif q3 then
 some (.inl ((5 : Int), (25 : Int)))
 else
 none
 else
 let q2 := (M.s_l00Max most q0.1)
 let q3 := ((Option.isSome q2) && ((Option.isSome (rec_s_l03Size (M.SType.re (List.getD (M.SType.Kids t) (Int.toNat i) M.SType.zero)) (Go.IntKind.wrap Go.IntKind.i64 (deep + (1 : Int))))) && ((Go.V.inB i (List.length (M.SType.Kids t))) && true)))
 bif q3 then
 M.s_l03Size_l0 rec_s_l03Size deep fuel (Option.getD q2 default) q1 (Go.IntKind.wrap Go.IntKind.i64 (i + (1 : Int))) (M.SType.re t)
 else
 none
 else
 some ((.inr ((most, parts))))
def s_l03Size_b (rec_s_l03Size : M.SType → Int → Option (Int × Int)) (t : M.SType) (deep : Int) : Option (Int × Int) :=
 bif ((decide ((4 : Int) < deep)) || (decide ((24 : Int) < ((List.length (M.SType.Kids t)) : Int)))) then
 some ((5 : Int), (25 : Int))
 else
 match (M.s_l03Size_l0 rec_s_l03Size deep Go.V.bigN (0 : Int) (1 : Int) (0 : Int) (M.SType.re t)) with
 | none => none
 | some y0 =>
 (match y0 with
 | .inl a1 =>
 some (a1.1, a1.2)
 | .inr b1 =>
 some ((Go.IntKind.wrap Go.IntKind.i64 (b1.1 + (1 : Int))), b1.2))
def s_l03Size_n : Nat → M.SType → Int → Option (Int × Int)
 | 0 => fun _ _ => none
 | n + 1 => s_l03Size_b (s_l03Size_n n)
def s_l03Size : M.SType → Int → Option (Int × Int) := s_l03Size_n Go.V.bigN
def s_l00In (n : Int) (low : Int) (high : Int) : Option (Bool) :=
 some ((decide (low ≤ n)) && (decide (n ≤ high)))
def s_l03Name_l0 (s : (List UInt8)) : Nat → Int → Option ((Bool) ⊕ (Unit))
 | 0, _ => none
 | fuel + 1, i =>
 bif (decide (i < ((List.length s) : Int))) then
 let q0 := ((((decide (((UInt8.toNat (List.getD s (Int.toNat i) (0 : UInt8))) : Int) < (97 : Int))) || (decide ((122 : Int) < ((UInt8.toNat (List.getD s (Int.toNat i) (0 : UInt8))) : Int)))) && ((decide (((UInt8.toNat (List.getD s (Int.toNat i) (0 : UInt8))) : Int) < (48 : Int))) || (decide ((57 : Int) < ((UInt8.toNat (List.getD s (Int.toNat i) (0 : UInt8))) : Int))))) && (((UInt8.toNat (List.getD s (Int.toNat i) (0 : UInt8))) : Int) != (45 : Int)))
 let q1 := (((UInt8.toNat (List.getD s (Int.toNat i) (0 : UInt8))) : Int) == (45 : Int))
 bif (q0 || (q1 && (((UInt8.toNat (List.getD s (Int.toNat (Go.IntKind.wrap Go.IntKind.i64 (i - (1 : Int)))) (0 : UInt8))) : Int) == (45 : Int)))) then
 let q2 := (((Go.V.inB (Go.IntKind.wrap Go.IntKind.i64 (i - (1 : Int))) (List.length s)) || (!((q0 == false) && (q1 == true)))) && ((Go.V.inB i (List.length s)) && true))
 bif q2 then
 some (.inl false)
 else
 none
 else
 let q2 := (((Go.V.inB (Go.IntKind.wrap Go.IntKind.i64 (i - (1 : Int))) (List.length s)) || (!((q0 == false) && (q1 == true)))) && ((Go.V.inB i (List.length s)) && true))
 bif q2 then
 M.s_l03Name_l0 s fuel (Go.IntKind.wrap Go.IntKind.i64 (i + (1 : Int)))
 else
 none
 else
 some ((.inr (())))
def s_l03Name (s : (List UInt8)) : Option (Bool) :=
 let q0 := ((decide (((List.length s) : Int) < (1 : Int))) || (decide ((12 : Int) < ((List.length s) : Int))))
 let q1 := (q0 || (decide (((UInt8.toNat (List.getD s (Int.toNat (0 : Int)) (0 : UInt8))) : Int) < (97 : Int))))
 let q2 := (q1 || (decide ((122 : Int) < ((UInt8.toNat (List.getD s (Int.toNat (0 : Int)) (0 : UInt8))) : Int))))
 bif (q2 || (((UInt8.toNat (List.getD s (Int.toNat (Go.IntKind.wrap Go.IntKind.i64 (((List.length s) : Int) - (1 : Int)))) (0 : UInt8))) : Int) == (45 : Int))) then
 let q3 := (((Go.V.inB (Go.IntKind.wrap Go.IntKind.i64 (((List.length s) : Int) - (1 : Int))) (List.length s)) || (!(q2 == false))) && (((Go.V.inB (0 : Int) (List.length s)) || (!(q1 == false))) && (((Go.V.inB (0 : Int) (List.length s)) || (!(q0 == false))) && true)))
 bif q3 then
 some false
 else
 none
 else
 match (M.s_l03Name_l0 s Go.V.bigN (0 : Int)) with
 | none => none
 | some y3 =>
 (match y3 with
 | .inl a4 =>
 let q5 := (((Go.V.inB (Go.IntKind.wrap Go.IntKind.i64 (((List.length s) : Int) - (1 : Int))) (List.length s)) || (!(q2 == false))) && (((Go.V.inB (0 : Int) (List.length s)) || (!(q1 == false))) && (((Go.V.inB (0 : Int) (List.length s)) || (!(q0 == false))) && true)))
 bif q5 then
 some a4
 else
 none
 | .inr b4 =>
 let q5 := (((Go.V.inB (Go.IntKind.wrap Go.IntKind.i64 (((List.length s) : Int) - (1 : Int))) (List.length s)) || (!(q2 == false))) && (((Go.V.inB (0 : Int) (List.length s)) || (!(q1 == false))) && (((Go.V.inB (0 : Int) (List.length s)) || (!(q0 == false))) && true)))
 bif q5 then
 some true
 else
 none)
def s_l03Labels_l0_0 (list : (List (List UInt8))) (i : Int) : Nat → Int → Option ((Bool) ⊕ ((List (List UInt8)) × Int))
 | 0, _ => none
 | fuel + 1, k =>
 bif (decide (k < i)) then
 bif ((List.getD list (Int.toNat k) []) == (List.getD list (Int.toNat i) [])) then
 let q0 := ((Go.V.inB i (List.length list)) && ((Go.V.inB k (List.length list)) && true))
 bif q0 then
 some (.inl false)
 else
 none
 else
 let q0 := ((Go.V.inB i (List.length list)) && ((Go.V.inB k (List.length list)) && true))
 bif q0 then
 M.s_l03Labels_l0_0 list i fuel (Go.IntKind.wrap Go.IntKind.i64 (k + (1 : Int)))
 else
 none
 else
 some ((.inr ((list, i))))
def s_l03Labels_l0 : Nat → (List (List UInt8)) → Int → Option ((Bool) ⊕ (Unit))
 | 0, _, _ => none
 | fuel + 1, list, i =>
 bif (decide (i < ((List.length list) : Int))) then
 let q0 := (M.s_l03Name (List.getD list (Int.toNat i) []))
 bif (!(Option.getD q0 default)) then
 let q1 := ((Option.isSome q0) && ((Go.V.inB i (List.length list)) && true))
 bif q1 then
 some (.inl false)
 else
 none
 else
 match (M.s_l03Labels_l0_0 list i Go.V.bigN (0 : Int)) with
 | none => none
 | some y1 =>
 (match y1 with
 | .inl a2 =>
 let q3 := ((Option.isSome q0) && ((Go.V.inB i (List.length list)) && true))
 bif q3 then
 some (.inl a2)
 else
 none
 | .inr b2 =>
 let q3 := ((Option.isSome q0) && ((Go.V.inB i (List.length list)) && true))
 bif q3 then
 M.s_l03Labels_l0 fuel b2.1 (Go.IntKind.wrap Go.IntKind.i64 (b2.2 + (1 : Int)))
 else
 none)
 else
 some ((.inr (())))
def s_l03Labels (list : (List (List UInt8))) : Option (Bool) :=
 bif ((decide (((List.length list) : Int) < (1 : Int))) || (decide ((16 : Int) < ((List.length list) : Int)))) then
 some false
 else
 match (M.s_l03Labels_l0 Go.V.bigN list (0 : Int)) with
 | none => none
 | some y0 =>
 (match y0 with
 | .inl a1 =>
 some a1
 | .inr b1 =>
 some true)
def s_l03Units_l0 : Nat → Int → M.SType → Option ((Bool) ⊕ (Unit))
 | 0, _, _ => none
 | fuel + 1, i, t =>
 bif (decide (i < ((List.length (M.SType.Kids t)) : Int))) then
 bif ((M.SType.Kind (List.getD (M.SType.Kids t) (Int.toNat i) M.SType.zero)) == (1 : Int)) then
 bif ((Go.V.inB i (List.length (M.SType.Kids t))) && true) then
 some (.inl true)
 else
 none
 else
 bif ((Go.V.inB i (List.length (M.SType.Kids t))) && true) then
 M.s_l03Units_l0 fuel (Go.IntKind.wrap Go.IntKind.i64 (i + (1 : Int))) (M.SType.re t)
 else
 none
 else
 some ((.inr (())))
def s_l03Units (t : M.SType) : Option (Bool) :=
 match (M.s_l03Units_l0 Go.V.bigN (0 : Int) (M.SType.re t)) with
 | none => none
 | some y0 =>
 (match y0 with
 | .inl a1 =>
 some a1
 | .inr b1 =>
 some false)
def s_l03Has_l0 (rec_s_l03Has : M.SType → Int → Int → Option (Bool)) (low : Int) (high : Int) : Nat → Int → M.SType → Option ((Bool) ⊕ (Unit))
 | 0, _, _ => none
 | fuel + 1, i, t =>
 bif (decide (i < ((List.length (M.SType.Kids t)) : Int))) then
 bif (Option.getD (rec_s_l03Has (M.SType.re (List.getD (M.SType.Kids t) (Int.toNat i) M.SType.zero)) low high) default) then
 let q0 := ((Option.isSome (rec_s_l03Has (M.SType.re (List.getD (M.SType.Kids t) (Int.toNat i) M.SType.zero)) low high)) && ((Go.V.inB i (List.length (M.SType.Kids t))) && true))
 bif q0 then
 some (.inl true)
 else
 none
 else
 let q0 := ((Option.isSome (rec_s_l03Has (M.SType.re (List.getD (M.SType.Kids t) (Int.toNat i) M.SType.zero)) low high)) && ((Go.V.inB i (List.length (M.SType.Kids t))) && true))
 bif q0 then
 M.s_l03Has_l0 rec_s_l03Has low high fuel (Go.IntKind.wrap Go.IntKind.i64 (i + (1 : Int))) (M.SType.re t)
 else
 none
 else
 some ((.inr (())))
def s_l03Has_b (rec_s_l03Has : M.SType → Int → Int → Option (Bool)) (t : M.SType) (low : Int) (high : Int) : Option (Bool) :=
 bif ((decide (low ≤ (M.SType.Kind t))) && (decide ((M.SType.Kind t) ≤ high))) then
 some true
 else
 match (M.s_l03Has_l0 rec_s_l03Has low high Go.V.bigN (0 : Int) (M.SType.re t)) with
 | none => none
 | some y0 =>
 (match y0 with
 | .inl a1 =>
 some a1
 | .inr b1 =>
 some false)
def s_l03Has_n : Nat → M.SType → Int → Int → Option (Bool)
 | 0 => fun _ _ _ => none
 | n + 1 => s_l03Has_b (s_l03Has_n n)
def s_l03Has : M.SType → Int → Int → Option (Bool) := s_l03Has_n Go.V.bigN
def s_l03Shape (t : M.SType) : Option (Bool) :=
 let q0 := (((M.SType.Kind t) == (20 : Int)) || ((M.SType.Kind t) == (21 : Int)))
 let q1 := (!(q0 == (!((M.SType.Name t) == []))))
 let q2 := (M.s_l03Name (M.SType.Name t))
 let q3 := ((decide ((16 : Int) ≤ (M.SType.Kind t))) && (decide ((M.SType.Kind t) ≤ (19 : Int))))
 let q4 := ((q1 || (q0 && (!(Option.getD q2 default)))) || (!(q3 == (decide ((0 : Int) < ((List.length (M.SType.Labels t)) : Int))))))
 let q5 := (M.s_l03Labels (M.SType.Labels t))
 bif (q4 || (q3 && (!(Option.getD q5 default)))) then
 let q6 := (((Option.isSome q5) || (!((q4 == false) && (q3 == true)))) && (((Option.isSome q2) || (!((q1 == false) && (q0 == true)))) && true))
 bif q6 then
 some false
 else
 none
 else
 bif (bif ((M.SType.Kind t) == (12 : Int)) then ((M.SType.Kind t) == (12 : Int)) else ((M.SType.Kind t) == (13 : Int))) then
 let q6 := (M.s_l03Units (M.SType.re t))
 let q7 := (!((((List.length (M.SType.Kids t)) : Int) == (1 : Int)) == true))
 let q8 := (((Option.isSome q5) || (!((q4 == false) && (q3 == true)))) && (((Option.isSome q2) || (!((q1 == false) && (q0 == true)))) && true))
 let q9 := ((q8 || (!((M.SType.Kind t) == (12 : Int)))) && (q8 || ((M.SType.Kind t) == (12 : Int))))
 bif (((Option.isSome q6) || q7) && q9) then
 some ((((List.length (M.SType.Kids t)) : Int) == (1 : Int)) && (!(Option.getD q6 default)))
 else
 none
 else
 bif (bif ((M.SType.Kind t) == (22 : Int)) then ((M.SType.Kind t) == (22 : Int)) else ((M.SType.Kind t) == (23 : Int))) then
 let q6 := (M.s_l03Has (M.SType.re (List.getD (M.SType.Kids t) (Int.toNat (0 : Int)) M.SType.zero)) (21 : Int) (21 : Int))
 let q7 := (!((((List.length (M.SType.Kids t)) : Int) == (1 : Int)) == true))
 let q8 := (((Option.isSome q5) || (!((q4 == false) && (q3 == true)))) && (((Option.isSome q2) || (!((q1 == false) && (q0 == true)))) && true))
 let q9 := ((q8 || (!((M.SType.Kind t) == (12 : Int)))) && (q8 || ((M.SType.Kind t) == (12 : Int))))
 let q10 := ((q9 || (!((M.SType.Kind t) == (22 : Int)))) && (q9 || ((M.SType.Kind t) == (22 : Int))))
 bif (((Option.isSome q6) || q7) && (((Go.V.inB (0 : Int) (List.length (M.SType.Kids t))) || q7) && q10)) then
 some ((((List.length (M.SType.Kids t)) : Int) == (1 : Int)) && (!(Option.getD q6 default)))
 else
 none
 else
 bif ((M.SType.Kind t) == (14 : Int)) then
 let q6 := (((Option.isSome q5) || (!((q4 == false) && (q3 == true)))) && (((Option.isSome q2) || (!((q1 == false) && (q0 == true)))) && true))
 let q7 := ((q6 || (!((M.SType.Kind t) == (12 : Int)))) && (q6 || ((M.SType.Kind t) == (12 : Int))))
 let q8 := ((q7 || (!((M.SType.Kind t) == (22 : Int)))) && (q7 || ((M.SType.Kind t) == (22 : Int))))
 bif q8 then
 some (((List.length (M.SType.Kids t)) : Int) == (2 : Int))
 else
 none
 else
 bif ((M.SType.Kind t) == (15 : Int)) then
 let q6 := (M.s_l03Units (M.SType.re t))
 let q7 := ((decide ((1 : Int) ≤ ((List.length (M.SType.Kids t)) : Int))) && (decide (((List.length (M.SType.Kids t)) : Int) ≤ (6 : Int))))
 let q8 := (((Option.isSome q5) || (!((q4 == false) && (q3 == true)))) && (((Option.isSome q2) || (!((q1 == false) && (q0 == true)))) && true))
 let q9 := ((q8 || (!((M.SType.Kind t) == (12 : Int)))) && (q8 || ((M.SType.Kind t) == (12 : Int))))
 let q10 := ((q9 || (!((M.SType.Kind t) == (22 : Int)))) && (q9 || ((M.SType.Kind t) == (22 : Int))))
 bif (((Option.isSome q6) || (!(q7 == true))) && q10) then
 some (q7 && (!(Option.getD q6 default)))
 else
 none
 else
 bif ((M.SType.Kind t) == (16 : Int)) then
 let q6 := (M.s_l03Units (M.SType.re t))
 let q7 := (((Option.isSome q5) || (!((q4 == false) && (q3 == true)))) && (((Option.isSome q2) || (!((q1 == false) && (q0 == true)))) && true))
 let q8 := ((q7 || (!((M.SType.Kind t) == (12 : Int)))) && (q7 || ((M.SType.Kind t) == (12 : Int))))
 let q9 := ((q8 || (!((M.SType.Kind t) == (22 : Int)))) && (q8 || ((M.SType.Kind t) == (22 : Int))))
 bif (((Option.isSome q6) || (!((((List.length (M.SType.Kids t)) : Int) == ((List.length (M.SType.Labels t)) : Int)) == true))) && q9) then
 some ((((List.length (M.SType.Kids t)) : Int) == ((List.length (M.SType.Labels t)) : Int)) && (!(Option.getD q6 default)))
 else
 none
 else
 bif ((M.SType.Kind t) == (17 : Int)) then
 let q6 := (((Option.isSome q5) || (!((q4 == false) && (q3 == true)))) && (((Option.isSome q2) || (!((q1 == false) && (q0 == true)))) && true))
 let q7 := ((q6 || (!((M.SType.Kind t) == (12 : Int)))) && (q6 || ((M.SType.Kind t) == (12 : Int))))
 let q8 := ((q7 || (!((M.SType.Kind t) == (22 : Int)))) && (q7 || ((M.SType.Kind t) == (22 : Int))))
 bif q8 then
 some (((List.length (M.SType.Kids t)) : Int) == ((List.length (M.SType.Labels t)) : Int))
 else
 none
 else
 let q6 := (((Option.isSome q5) || (!((q4 == false) && (q3 == true)))) && (((Option.isSome q2) || (!((q1 == false) && (q0 == true)))) && true))
 let q7 := ((q6 || (!((M.SType.Kind t) == (12 : Int)))) && (q6 || ((M.SType.Kind t) == (12 : Int))))
 let q8 := ((q7 || (!((M.SType.Kind t) == (22 : Int)))) && (q7 || ((M.SType.Kind t) == (22 : Int))))
 bif q8 then
 some (((decide ((1 : Int) ≤ (M.SType.Kind t))) && (decide ((M.SType.Kind t) ≤ (23 : Int)))) && (((List.length (M.SType.Kids t)) : Int) == (0 : Int)))
 else
 none
def s_l03Parts_l0 (rec_s_l03Parts : M.SType → Option (Bool)) : Nat → Int → M.SType → Option ((Bool) ⊕ (Unit))
 | 0, _, _ => none
 | fuel + 1, i, t =>
 bif (decide (i < ((List.length (M.SType.Kids t)) : Int))) then
 bif (!(Option.getD (rec_s_l03Parts (M.SType.re (List.getD (M.SType.Kids t) (Int.toNat i) M.SType.zero))) default)) then
 let q0 := ((Option.isSome (rec_s_l03Parts (M.SType.re (List.getD (M.SType.Kids t) (Int.toNat i) M.SType.zero)))) && ((Go.V.inB i (List.length (M.SType.Kids t))) && true))
 bif q0 then
 some (.inl false)
 else
 none
 else
 let q0 := ((Option.isSome (rec_s_l03Parts (M.SType.re (List.getD (M.SType.Kids t) (Int.toNat i) M.SType.zero)))) && ((Go.V.inB i (List.length (M.SType.Kids t))) && true))
 bif q0 then
 M.s_l03Parts_l0 rec_s_l03Parts fuel (Go.IntKind.wrap Go.IntKind.i64 (i + (1 : Int))) (M.SType.re t)
 else
 none
 else
 some ((.inr (())))
def s_l03Parts_b (rec_s_l03Parts : M.SType → Option (Bool)) (t : M.SType) : Option (Bool) :=
 let q0 := (M.s_l03Shape (M.SType.re t))
 bif (!(Option.getD q0 default)) then
 bif ((Option.isSome q0) && true) then
 some false
 else
 none
 else
 match (M.s_l03Parts_l0 rec_s_l03Parts Go.V.bigN (0 : Int) (M.SType.re t)) with
 | none => none
 | some y1 =>
 (match y1 with
 | .inl a2 =>
 bif ((Option.isSome q0) && true) then
 some a2
 else
 none
 | .inr b2 =>
 bif ((Option.isSome q0) && true) then
 some true
 else
 none)
def s_l03Parts_n : Nat → M.SType → Option (Bool)
 | 0 => fun _ => none
 | n + 1 => s_l03Parts_b (s_l03Parts_n n)
def s_l03Parts : M.SType → Option (Bool) := s_l03Parts_n Go.V.bigN
def i_deep_l0 (rec_i_deep : M.SType → Int → Option (Int)) (levels : Int) (t11 : (List M.SType)) (t12 : Int) : Nat → Int → Int → Option (Int)
 | 0, _, _ => none
 | fuel + 1, depth, t13 =>
 bif (decide (t13 < t12)) then
 bif ((Option.isSome (rec_i_deep (M.SType.re (List.getD t11 (Int.toNat t13) M.SType.zero)) (Go.IntKind.wrap Go.IntKind.i64 (levels - (1 : Int))))) && ((Go.V.inB t13 (List.length t11)) && true)) then
 let q0 := (Option.getD (rec_i_deep (M.SType.re (List.getD t11 (Int.toNat t13) M.SType.zero)) (Go.IntKind.wrap Go.IntKind.i64 (levels - (1 : Int)))) default)
 M.i_deep_l0 rec_i_deep levels t11 t12 fuel (bif (decide (depth < q0)) then q0 else depth) (Go.IntKind.wrap Go.IntKind.i64 (t13 + (1 : Int)))
 else
 none
 else
 some (depth)
def i_deep_b (rec_i_deep : M.SType → Int → Option (Int)) (t : M.SType) (levels : Int) : Option (Int) :=
 bif (levels == (0 : Int)) then
 some (1 : Int)
 else
 match (M.i_deep_l0 rec_i_deep levels (M.SType.Kids t) ((List.length (M.SType.Kids t)) : Int) Go.V.bigN (0 : Int) (0 : Int)) with
 | none => none
 | some y0 =>
 some (Go.IntKind.wrap Go.IntKind.i64 (y0 + (1 : Int)))
def i_deep_n : Nat → M.SType → Int → Option (Int)
 | 0 => fun _ _ => none
 | n + 1 => i_deep_b (i_deep_n n)
def i_deep : M.SType → Int → Option (Int) := i_deep_n Go.V.bigN
def i_parts_l0 (rec_i_parts : M.SType → Option (Int)) (t7 : (List M.SType)) (t8 : Int) : Nat → Int → Int → Option (Int)
 | 0, _, _ => none
 | fuel + 1, many, t9 =>
 bif (decide (t9 < t8)) then
 bif ((Option.isSome (rec_i_parts (M.SType.re (List.getD t7 (Int.toNat t9) M.SType.zero)))) && ((Go.V.inB t9 (List.length t7)) && true)) then
 M.i_parts_l0 rec_i_parts t7 t8 fuel (Go.IntKind.wrap Go.IntKind.i64 (many + (Option.getD (rec_i_parts (M.SType.re (List.getD t7 (Int.toNat t9) M.SType.zero))) default))) (Go.IntKind.wrap Go.IntKind.i64 (t9 + (1 : Int)))
 else
 none
 else
 some (many)
def i_parts_b (rec_i_parts : M.SType → Option (Int)) (t : M.SType) : Option (Int) :=
 match (M.i_parts_l0 rec_i_parts (M.SType.Kids t) ((List.length (M.SType.Kids t)) : Int) Go.V.bigN (1 : Int) (0 : Int)) with
 | none => none
 | some y0 =>
 some y0
def i_parts_n : Nat → M.SType → Option (Int)
 | 0 => fun _ => none
 | n + 1 => i_parts_b (i_parts_n n)
def i_parts : M.SType → Option (Int) := i_parts_n Go.V.bigN
def i_shapeOk_c1 (rec_i_shapeOk : M.SType → Option (Bool)) (kid : M.SType) : Option (Bool) :=
 bif ((Option.isSome (rec_i_shapeOk (M.SType.re kid))) && true) then
 some (!(Option.getD (rec_i_shapeOk (M.SType.re kid)) default))
 else
 none
def slices_IndexFunc_Type_Type_l0 (rec_i_shapeOk : M.SType → Option (Bool)) (s : (List M.SType)) (t7 : Int) : Nat → Int → Option ((Int) ⊕ (Unit))
 | 0, _ => none
 | fuel + 1, t8 =>
 bif (decide (t8 < t7)) then
 let q0 := (M.i_shapeOk_c1 rec_i_shapeOk (M.SType.re (List.getD s (Int.toNat t8) M.SType.zero)))
 bif (Option.getD q0 default) then
 let q1 := ((Option.isSome q0) && ((Go.V.inB t8 (List.length s)) && true))
 bif q1 then
 some (.inl t8)
 else
 none
 else
 let q1 := ((Option.isSome q0) && ((Go.V.inB t8 (List.length s)) && true))
 bif q1 then
 M.slices_IndexFunc_Type_Type_l0 rec_i_shapeOk s t7 fuel (Go.IntKind.wrap Go.IntKind.i64 (t8 + (1 : Int)))
 else
 none
 else
 some ((.inr (())))
def slices_IndexFunc_Type_Type (rec_i_shapeOk : M.SType → Option (Bool)) (s : (List M.SType)) : Option (Int) :=
 match (M.slices_IndexFunc_Type_Type_l0 rec_i_shapeOk s ((List.length s) : Int) Go.V.bigN (0 : Int)) with
 | none => none
 | some y0 =>
 (match y0 with
 | .inl a1 =>
 some a1
 | .inr b1 =>
 some (-(1 : Int)))
def slices_ContainsFunc_Type_Type (rec_i_shapeOk : M.SType → Option (Bool)) (s : (List M.SType)) : Option (Bool) :=
 let q0 := (M.slices_IndexFunc_Type_Type rec_i_shapeOk s)
 bif ((Option.isSome q0) && true) then
 some (decide ((0 : Int) ≤ (Option.getD q0 default)))
 else
 none
def i_within (n : Int) (low : Int) (high : Int) : Option (Bool) :=
 some ((decide (low ≤ n)) && (decide (n ≤ high)))
def i_size_string (list : (List (List UInt8))) : Option (Int) :=
 some ((List.length list) : Int)
def i_NameOk_l0 (s : (List UInt8)) (t7 : Int) : Nat → Int → Option ((Bool) ⊕ ((List UInt8)))
 | 0, _ => none
 | fuel + 1, t8 =>
 bif (decide (t8 < t7)) then
 bif ((decide ((97 : Int) ≤ ((UInt8.toNat (List.getD s (Int.toNat t8) (0 : UInt8))) : Int))) && (decide (((UInt8.toNat (List.getD s (Int.toNat t8) (0 : UInt8))) : Int) ≤ (122 : Int)))) then
 let q0 := (((Go.V.inB t8 (List.length s)) || (!((decide ((48 : Int) ≤ ((UInt8.toNat (List.getD s (Int.toNat t8) (0 : UInt8))) : Int))) == true))) && ((Go.V.inB t8 (List.length s)) && (((Go.V.inB t8 (List.length s)) || (!((decide ((97 : Int) ≤ ((UInt8.toNat (List.getD s (Int.toNat t8) (0 : UInt8))) : Int))) == true))) && ((Go.V.inB t8 (List.length s)) && true))))
 bif q0 then
 M.i_NameOk_l0 s t7 fuel (Go.IntKind.wrap Go.IntKind.i64 (t8 + (1 : Int)))
 else
 none
 else
 let q0 := (!((decide ((48 : Int) ≤ ((UInt8.toNat (List.getD s (Int.toNat t8) (0 : UInt8))) : Int))) && (decide (((UInt8.toNat (List.getD s (Int.toNat t8) (0 : UInt8))) : Int) ≤ (57 : Int)))))
 bif ((t8 == (0 : Int)) || (q0 && (((UInt8.toNat (List.getD s (Int.toNat t8) (0 : UInt8))) : Int) != (45 : Int)))) then
 let q1 := (((Go.V.inB t8 (List.length s)) || (!((decide ((48 : Int) ≤ ((UInt8.toNat (List.getD s (Int.toNat t8) (0 : UInt8))) : Int))) == true))) && ((Go.V.inB t8 (List.length s)) && (((Go.V.inB t8 (List.length s)) || (!((decide ((97 : Int) ≤ ((UInt8.toNat (List.getD s (Int.toNat t8) (0 : UInt8))) : Int))) == true))) && ((Go.V.inB t8 (List.length s)) && true))))
 let q2 := (((Go.V.inB t8 (List.length s)) || (!(((t8 == (0 : Int)) == false) && (q0 == true)))) && q1)
 bif q2 then
 some (.inl false)
 else
 none
 else
 let q1 := (((UInt8.toNat (List.getD s (Int.toNat t8) (0 : UInt8))) : Int) == (45 : Int))
 bif (q1 && (((UInt8.toNat (List.getD s (Int.toNat (Go.IntKind.wrap Go.IntKind.i64 (t8 - (1 : Int)))) (0 : UInt8))) : Int) == (45 : Int))) then
 let q2 := (((Go.V.inB t8 (List.length s)) || (!((decide ((48 : Int) ≤ ((UInt8.toNat (List.getD s (Int.toNat t8) (0 : UInt8))) : Int))) == true))) && ((Go.V.inB t8 (List.length s)) && (((Go.V.inB t8 (List.length s)) || (!((decide ((97 : Int) ≤ ((UInt8.toNat (List.getD s (Int.toNat t8) (0 : UInt8))) : Int))) == true))) && ((Go.V.inB t8 (List.length s)) && true))))
 let q3 := (((Go.V.inB t8 (List.length s)) || (!(((t8 == (0 : Int)) == false) && (q0 == true)))) && q2)
 let q4 := (((Go.V.inB (Go.IntKind.wrap Go.IntKind.i64 (t8 - (1 : Int))) (List.length s)) || (!(q1 == true))) && ((Go.V.inB t8 (List.length s)) && q3))
 bif q4 then
 some (.inl false)
 else
 none
 else
 let q2 := (((Go.V.inB t8 (List.length s)) || (!((decide ((48 : Int) ≤ ((UInt8.toNat (List.getD s (Int.toNat t8) (0 : UInt8))) : Int))) == true))) && ((Go.V.inB t8 (List.length s)) && (((Go.V.inB t8 (List.length s)) || (!((decide ((97 : Int) ≤ ((UInt8.toNat (List.getD s (Int.toNat t8) (0 : UInt8))) : Int))) == true))) && ((Go.V.inB t8 (List.length s)) && true))))
 let q3 := (((Go.V.inB t8 (List.length s)) || (!(((t8 == (0 : Int)) == false) && (q0 == true)))) && q2)
 let q4 := (((Go.V.inB (Go.IntKind.wrap Go.IntKind.i64 (t8 - (1 : Int))) (List.length s)) || (!(q1 == true))) && ((Go.V.inB t8 (List.length s)) && q3))
 bif q4 then
 M.i_NameOk_l0 s t7 fuel (Go.IntKind.wrap Go.IntKind.i64 (t8 + (1 : Int)))
 else
 none
 else
 some ((.inr (s)))
def i_NameOk (s : (List UInt8)) : Option (Bool) :=
 match (M.i_NameOk_l0 s ((List.length s) : Int) Go.V.bigN (0 : Int)) with
 | none => none
 | some y0 =>
 (match y0 with
 | .inl a1 =>
 some a1
 | .inr b1 =>
 let q2 := ((decide ((1 : Int) ≤ ((List.length b1) : Int))) && (decide (((List.length b1) : Int) ≤ (12 : Int))))
 bif (((Go.V.inB (Go.IntKind.wrap Go.IntKind.i64 (((List.length b1) : Int) - (1 : Int))) (List.length b1)) || (!(q2 == true))) && true) then
 some (q2 && (((UInt8.toNat (List.getD b1 (Int.toNat (Go.IntKind.wrap Go.IntKind.i64 (((List.length b1) : Int) - (1 : Int)))) (0 : UInt8))) : Int) != (45 : Int)))
 else
 none)
def i_labelsOk_c1 (name : (List UInt8)) : Option (Bool) :=
 let q0 := (M.i_NameOk name)
 bif ((Option.isSome q0) && true) then
 some (!(Option.getD q0 default))
 else
 none
def slices_IndexFunc_string_string_l0 (s : (List (List UInt8))) (t7 : Int) : Nat → Int → Option ((Int) ⊕ (Unit))
 | 0, _ => none
 | fuel + 1, t8 =>
 bif (decide (t8 < t7)) then
 let q0 := (M.i_labelsOk_c1 (List.getD s (Int.toNat t8) []))
 bif (Option.getD q0 default) then
 let q1 := ((Option.isSome q0) && ((Go.V.inB t8 (List.length s)) && true))
 bif q1 then
 some (.inl t8)
 else
 none
 else
 let q1 := ((Option.isSome q0) && ((Go.V.inB t8 (List.length s)) && true))
 bif q1 then
 M.slices_IndexFunc_string_string_l0 s t7 fuel (Go.IntKind.wrap Go.IntKind.i64 (t8 + (1 : Int)))
 else
 none
 else
 some ((.inr (())))
def slices_IndexFunc_string_string (s : (List (List UInt8))) : Option (Int) :=
 match (M.slices_IndexFunc_string_string_l0 s ((List.length s) : Int) Go.V.bigN (0 : Int)) with
 | none => none
 | some y0 =>
 (match y0 with
 | .inl a1 =>
 some a1
 | .inr b1 =>
 some (-(1 : Int)))
def slices_ContainsFunc_string_string (s : (List (List UInt8))) : Option (Bool) :=
 let q0 := (M.slices_IndexFunc_string_string s)
 bif ((Option.isSome q0) && true) then
 some (decide ((0 : Int) ≤ (Option.getD q0 default)))
 else
 none
def i_labelsOk (labels : (List (List UInt8))) : Option (Bool) :=
 let q0 := (M.slices_ContainsFunc_string_string labels)
 let q1 := ((decide ((1 : Int) ≤ ((List.length labels) : Int))) && (decide (((List.length labels) : Int) ≤ (16 : Int))))
 let q2 := (M.i_distinct labels)
 let q3 := (q1 && (Option.getD q2 default))
 bif (((Option.isSome q0) || (!(q3 == true))) && (((Option.isSome q2) || (!(q1 == true))) && true)) then
 some (q3 && (!(Option.getD q0 default)))
 else
 none
def i_size_Type (list : (List M.SType)) : Option (Int) :=
 some ((List.length list) : Int)
def i_isUnit (t : M.SType) : Option (Bool) :=
 some ((M.SType.Kind t) == (1 : Int))
def slices_IndexFunc_Type_Type_2_l0 (s : (List M.SType)) (t7 : Int) : Nat → Int → Option ((Int) ⊕ (Unit))
 | 0, _ => none
 | fuel + 1, t8 =>
 bif (decide (t8 < t7)) then
 bif ((M.SType.Kind (List.getD s (Int.toNat t8) M.SType.zero)) == (1 : Int)) then
 bif ((Go.V.inB t8 (List.length s)) && true) then
 some (.inl t8)
 else
 none
 else
 bif ((Go.V.inB t8 (List.length s)) && true) then
 M.slices_IndexFunc_Type_Type_2_l0 s t7 fuel (Go.IntKind.wrap Go.IntKind.i64 (t8 + (1 : Int)))
 else
 none
 else
 some ((.inr (())))
def slices_IndexFunc_Type_Type_2 (s : (List M.SType)) : Option (Int) :=
 match (M.slices_IndexFunc_Type_Type_2_l0 s ((List.length s) : Int) Go.V.bigN (0 : Int)) with
 | none => none
 | some y0 =>
 (match y0 with
 | .inl a1 =>
 some a1
 | .inr b1 =>
 some (-(1 : Int)))
def slices_ContainsFunc_Type_Type_2 (s : (List M.SType)) : Option (Bool) :=
 let q0 := (M.slices_IndexFunc_Type_Type_2 s)
 bif ((Option.isSome q0) && true) then
 some (decide ((0 : Int) ≤ (Option.getD q0 default)))
 else
 none
def i_kidsOk (t : M.SType) (many : Int) : Option (Bool) :=
 let q0 := (M.slices_ContainsFunc_Type_Type_2 (M.SType.Kids t))
 bif (((Option.isSome q0) || (!((((List.length (M.SType.Kids t)) : Int) == many) == true))) && true) then
 some ((((List.length (M.SType.Kids t)) : Int) == many) && (!(Option.getD q0 default)))
 else
 none
def slices_Index_int64_int64_l0 (s : (List Int)) (v : Int) (t7 : Int) : Nat → Int → Option ((Int) ⊕ (Unit))
 | 0, _ => none
 | fuel + 1, t8 =>
 bif (decide (t8 < t7)) then
 bif (v == (List.getD s (Int.toNat t8) (0 : Int))) then
 bif ((Go.V.inB t8 (List.length s)) && true) then
 some (.inl t8)
 else
 none
 else
 bif ((Go.V.inB t8 (List.length s)) && true) then
 M.slices_Index_int64_int64_l0 s v t7 fuel (Go.IntKind.wrap Go.IntKind.i64 (t8 + (1 : Int)))
 else
 none
 else
 some ((.inr (())))
def slices_Index_int64_int64 (s : (List Int)) (v : Int) : Option (Int) :=
 match (M.slices_Index_int64_int64_l0 s v ((List.length s) : Int) Go.V.bigN (0 : Int)) with
 | none => none
 | some y0 =>
 (match y0 with
 | .inl a1 =>
 some a1
 | .inr b1 =>
 some (-(1 : Int)))
def slices_Contains_int64_int64 (s : (List Int)) (v : Int) : Option (Bool) :=
 let q0 := (M.slices_Index_int64_int64 s v)
 bif ((Option.isSome q0) && true) then
 some (decide ((0 : Int) ≤ (Option.getD q0 default)))
 else
 none
def i_hasKind_c1 (rec_i_hasKind : M.SType → (List Int) → Option (Bool)) (kid : M.SType) (t1 : (List Int)) : Option (Bool) :=
 bif ((Option.isSome (rec_i_hasKind (M.SType.re kid) t1)) && true) then
 some (Option.getD (rec_i_hasKind (M.SType.re kid) t1) default)
 else
 none
def slices_IndexFunc_Type_Type_3_l0 (rec_i_hasKind : M.SType → (List Int) → Option (Bool)) (s : (List M.SType)) (f : (List Int)) (t7 : Int) : Nat → Int → Option ((Int) ⊕ (Unit))
 | 0, _ => none
 | fuel + 1, t8 =>
 bif (decide (t8 < t7)) then
 let q0 := (M.i_hasKind_c1 rec_i_hasKind (M.SType.re (List.getD s (Int.toNat t8) M.SType.zero)) f)
 bif (Option.getD q0 default) then
 let q1 := ((Option.isSome q0) && ((Go.V.inB t8 (List.length s)) && true))
 bif q1 then
 some (.inl t8)
 else
 none
 else
 let q1 := ((Option.isSome q0) && ((Go.V.inB t8 (List.length s)) && true))
 bif q1 then
 M.slices_IndexFunc_Type_Type_3_l0 rec_i_hasKind s f t7 fuel (Go.IntKind.wrap Go.IntKind.i64 (t8 + (1 : Int)))
 else
 none
 else
 some ((.inr (())))
def slices_IndexFunc_Type_Type_3 (rec_i_hasKind : M.SType → (List Int) → Option (Bool)) (s : (List M.SType)) (f : (List Int)) : Option (Int) :=
 match (M.slices_IndexFunc_Type_Type_3_l0 rec_i_hasKind s f ((List.length s) : Int) Go.V.bigN (0 : Int)) with
 | none => none
 | some y0 =>
 (match y0 with
 | .inl a1 =>
 some a1
 | .inr b1 =>
 some (-(1 : Int)))
def slices_ContainsFunc_Type_Type_3 (rec_i_hasKind : M.SType → (List Int) → Option (Bool)) (s : (List M.SType)) (f : (List Int)) : Option (Bool) :=
 let q0 := (M.slices_IndexFunc_Type_Type_3 rec_i_hasKind s f)
 bif ((Option.isSome q0) && true) then
 some (decide ((0 : Int) ≤ (Option.getD q0 default)))
 else
 none
def i_hasKind_b (rec_i_hasKind : M.SType → (List Int) → Option (Bool)) (t : M.SType) (kinds : (List Int)) : Option (Bool) :=
 let q0 := (M.slices_ContainsFunc_Type_Type_3 rec_i_hasKind (M.SType.Kids t) kinds)
 let q1 := (M.slices_Contains_int64_int64 kinds (M.SType.Kind t))
 bif (((Option.isSome q0) || (!((Option.getD q1 default) == false))) && ((Option.isSome q1) && true)) then
 some ((Option.getD q1 default) || (Option.getD q0 default))
 else
 none
def i_hasKind_n : Nat → M.SType → (List Int) → Option (Bool)
 | 0 => fun _ _ => none
 | n + 1 => i_hasKind_b (i_hasKind_n n)
def i_hasKind : M.SType → (List Int) → Option (Bool) := i_hasKind_n Go.V.bigN
def i_shapeOk_b (rec_i_shapeOk : M.SType → Option (Bool)) (t : M.SType) : Option (Bool) :=
 let q0 := (M.slices_ContainsFunc_Type_Type rec_i_shapeOk (M.SType.Kids t))
 bif (Option.getD q0 default) then
 bif ((Option.isSome q0) && true) then
 some false
 else
 none
 else
 let q1 := ((decide ((16 : Int) ≤ (M.SType.Kind t))) && (decide ((M.SType.Kind t) ≤ (19 : Int))))
 let q2 := (M.i_labelsOk (M.SType.Labels t))
 let q3 := ((q1 && (!(Option.getD q2 default))) || ((!q1) && (decide ((0 : Int) < ((List.length (M.SType.Labels t)) : Int)))))
 let q4 := (((M.SType.Kind t) == (20 : Int)) || ((M.SType.Kind t) == (21 : Int)))
 let q5 := (M.i_NameOk (M.SType.Name t))
 bif ((q3 || (q4 && (!(Option.getD q5 default)))) || ((!q4) && (!((M.SType.Name t) == [])))) then
 let q6 := (((Option.isSome q5) || (!((q3 == false) && (q4 == true)))) && (((Option.isSome q2) || (!(q1 == true))) && ((Option.isSome q0) && true)))
 bif q6 then
 some false
 else
 none
 else
 bif (bif ((M.SType.Kind t) == (12 : Int)) then ((M.SType.Kind t) == (12 : Int)) else ((M.SType.Kind t) == (13 : Int))) then
 let q6 := (M.i_kidsOk (M.SType.re t) (1 : Int))
 let q7 := (((Option.isSome q5) || (!((q3 == false) && (q4 == true)))) && (((Option.isSome q2) || (!(q1 == true))) && ((Option.isSome q0) && true)))
 let q8 := ((q7 || (!((M.SType.Kind t) == (12 : Int)))) && (q7 || ((M.SType.Kind t) == (12 : Int))))
 bif ((Option.isSome q6) && q8) then
 some (Option.getD q6 default)
 else
 none
 else
 bif ((M.SType.Kind t) == (14 : Int)) then
 let q6 := (((Option.isSome q5) || (!((q3 == false) && (q4 == true)))) && (((Option.isSome q2) || (!(q1 == true))) && ((Option.isSome q0) && true)))
 let q7 := ((q6 || (!((M.SType.Kind t) == (12 : Int)))) && (q6 || ((M.SType.Kind t) == (12 : Int))))
 bif q7 then
 some (((List.length (M.SType.Kids t)) : Int) == (2 : Int))
 else
 none
 else
 bif ((M.SType.Kind t) == (15 : Int)) then
 let q6 := (M.i_kidsOk (M.SType.re t) ((List.length (M.SType.Kids t)) : Int))
 let q7 := ((decide ((1 : Int) ≤ ((List.length (M.SType.Kids t)) : Int))) && (decide (((List.length (M.SType.Kids t)) : Int) ≤ (6 : Int))))
 let q8 := (((Option.isSome q5) || (!((q3 == false) && (q4 == true)))) && (((Option.isSome q2) || (!(q1 == true))) && ((Option.isSome q0) && true)))
 let q9 := ((q8 || (!((M.SType.Kind t) == (12 : Int)))) && (q8 || ((M.SType.Kind t) == (12 : Int))))
 bif (((Option.isSome q6) || (!(q7 == true))) && q9) then
 some (q7 && (Option.getD q6 default))
 else
 none
 else
 bif ((M.SType.Kind t) == (16 : Int)) then
 let q6 := (M.i_kidsOk (M.SType.re t) ((List.length (M.SType.Labels t)) : Int))
 let q7 := (((Option.isSome q5) || (!((q3 == false) && (q4 == true)))) && (((Option.isSome q2) || (!(q1 == true))) && ((Option.isSome q0) && true)))
 let q8 := ((q7 || (!((M.SType.Kind t) == (12 : Int)))) && (q7 || ((M.SType.Kind t) == (12 : Int))))
 bif ((Option.isSome q6) && q8) then
 some (Option.getD q6 default)
 else
 none
 else
 bif ((M.SType.Kind t) == (17 : Int)) then
 let q6 := (((Option.isSome q5) || (!((q3 == false) && (q4 == true)))) && (((Option.isSome q2) || (!(q1 == true))) && ((Option.isSome q0) && true)))
 let q7 := ((q6 || (!((M.SType.Kind t) == (12 : Int)))) && (q6 || ((M.SType.Kind t) == (12 : Int))))
 bif q7 then
 some (((List.length (M.SType.Kids t)) : Int) == ((List.length (M.SType.Labels t)) : Int))
 else
 none
 else
 bif (bif ((M.SType.Kind t) == (22 : Int)) then ((M.SType.Kind t) == (22 : Int)) else ((M.SType.Kind t) == (23 : Int))) then
 let q6 := (M.i_hasKind (M.SType.re (List.getD (M.SType.Kids t) (Int.toNat (0 : Int)) M.SType.zero)) [(21 : Int)])
 let q7 := (!((((List.length (M.SType.Kids t)) : Int) == (1 : Int)) == true))
 let q8 := (((Option.isSome q5) || (!((q3 == false) && (q4 == true)))) && (((Option.isSome q2) || (!(q1 == true))) && ((Option.isSome q0) && true)))
 let q9 := ((q8 || (!((M.SType.Kind t) == (12 : Int)))) && (q8 || ((M.SType.Kind t) == (12 : Int))))
 let q10 := ((q9 || (!((M.SType.Kind t) == (22 : Int)))) && (q9 || ((M.SType.Kind t) == (22 : Int))))
 bif (((Option.isSome q6) || q7) && (((Go.V.inB (0 : Int) (List.length (M.SType.Kids t))) || q7) && q10)) then
 some ((((List.length (M.SType.Kids t)) : Int) == (1 : Int)) && (!(Option.getD q6 default)))
 else
 none
 else
 let q6 := (((Option.isSome q5) || (!((q3 == false) && (q4 == true)))) && (((Option.isSome q2) || (!(q1 == true))) && ((Option.isSome q0) && true)))
 let q7 := ((q6 || (!((M.SType.Kind t) == (12 : Int)))) && (q6 || ((M.SType.Kind t) == (12 : Int))))
 let q8 := ((q7 || (!((M.SType.Kind t) == (22 : Int)))) && (q7 || ((M.SType.Kind t) == (22 : Int))))
 bif q8 then
 some (((decide ((1 : Int) ≤ (M.SType.Kind t))) && (decide ((M.SType.Kind t) ≤ (23 : Int)))) && (((List.length (M.SType.Kids t)) : Int) == (0 : Int)))
 else
 none
def i_shapeOk_n : Nat → M.SType → Option (Bool)
 | 0 => fun _ => none
 | n + 1 => i_shapeOk_b (i_shapeOk_n n)
def i_shapeOk : M.SType → Option (Bool) := i_shapeOk_n Go.V.bigN
def s_l03Ok (t : M.SType) : Option (Bool) :=
 let q0 := (M.s_l03Parts (M.SType.re t))
 let q1 := (M.s_l03Size (M.SType.re t) (1 : Int))
 let q2 := ((decide ((Option.getD q1 default).1 ≤ (4 : Int))) && (decide ((Option.getD q1 default).2 ≤ (24 : Int))))
 bif (((Option.isSome q0) || (!(q2 == true))) && ((Option.isSome q1) && true)) then
 some (q2 && (Option.getD q0 default))
 else
 none
def i_copyTypes_l0 (rec_i_copyType : M.SType → Option (Int × (List UInt8) × (List (List UInt8)) × (List M.SType))) (t7 : (List M.SType)) (t8 : Int) : Nat → Int → (List M.SType) → Option ((List M.SType))
 | 0, _, _ => none
 | fuel + 1, t9, out =>
 bif (decide (t9 < t8)) then
 let q0 := (Option.getD (rec_i_copyType (M.SType.re (List.getD t7 (Int.toNat t9) M.SType.zero))) default)
 let q1 := q0.2
 let q2 := q1.2
 let q3 := [(M.SType.mk q0.1 q1.1 q2.1 q2.2)]
 bif ((decide (((List.length out) + (List.length q3)) ≤ 1073741824)) && ((Option.isSome (rec_i_copyType (M.SType.re (List.getD t7 (Int.toNat t9) M.SType.zero)))) && ((Go.V.inB t9 (List.length t7)) && true))) then
 M.i_copyTypes_l0 rec_i_copyType t7 t8 fuel (Go.IntKind.wrap Go.IntKind.i64 (t9 + (1 : Int))) (out ++ q3)
 else
 none
 else
 some (out)
def i_copyTypes (rec_i_copyType : M.SType → Option (Int × (List UInt8) × (List (List UInt8)) × (List M.SType))) (list : (List M.SType)) : Option ((List M.SType)) :=
 match (M.i_copyTypes_l0 rec_i_copyType list ((List.length list) : Int) Go.V.bigN (0 : Int) []) with
 | none => none
 | some y0 =>
 some y0
def i_copyType_b (rec_i_copyType : M.SType → Option (Int × (List UInt8) × (List (List UInt8)) × (List M.SType))) (t : M.SType) : Option (Int × (List UInt8) × (List (List UInt8)) × (List M.SType)) :=
 let q0 := (M.i_copyTypes rec_i_copyType (M.SType.Kids t))
 let q1 := (M.slices_Clone_string_string (M.SType.Labels t))
 bif ((Option.isSome q0) && ((Option.isSome q1) && true)) then
 some ((M.SType.Kind t), (M.SType.Name t), (Option.getD q1 default), (Option.getD q0 default))
 else
 none
def i_copyType_n : Nat → M.SType → Option (Int × (List UInt8) × (List (List UInt8)) × (List M.SType))
 | 0 => fun _ => none
 | n + 1 => i_copyType_b (i_copyType_n n)
def i_copyType : M.SType → Option (Int × (List UInt8) × (List (List UInt8)) × (List M.SType)) := i_copyType_n Go.V.bigN
def s_l21Type (t : M.SType) : Option (Bool) :=
 let q0 := (M.s_l03Has (M.SType.re t) (20 : Int) (23 : Int))
 let q1 := (M.s_l03Ok (M.SType.re t))
 let q2 := ((Option.getD q1 default) && ((M.SType.Kind t) != (1 : Int)))
 bif (((Option.isSome q0) || (!(q2 == true))) && ((Option.isSome q1) && true)) then
 some (q2 && (!(Option.getD q0 default)))
 else
 none
def s_TypeOk (t : M.SType) : Option (Bool) :=
 let q0 := (M.s_l03Ok (M.SType.re t))
 bif ((Option.isSome q0) && true) then
 some (Option.getD q0 default)
 else
 none
def s_l04Case (rec_s_l04Fits : M.SValue → M.SType → Option (Bool)) (kids : (List M.SValue)) (t : M.SType) : Option (Bool) :=
 bif ((M.SType.Kind t) == (1 : Int)) then
 some (((List.length kids) : Int) == (0 : Int))
 else
 let q0 := (!((((List.length kids) : Int) == (1 : Int)) == true))
 bif (((Option.isSome (rec_s_l04Fits (M.SValue.re (List.getD kids (Int.toNat (0 : Int)) M.SValue.zero)) (M.SType.re t))) || q0) && (((Go.V.inB (0 : Int) (List.length kids)) || q0) && true)) then
 some ((((List.length kids) : Int) == (1 : Int)) && (Option.getD (rec_s_l04Fits (M.SValue.re (List.getD kids (Int.toNat (0 : Int)) M.SValue.zero)) (M.SType.re t)) default))
 else
 none
def s_l04Items_l0 (rec_s_l04Fits : M.SValue → M.SType → Option (Bool)) (kids : (List M.SValue)) : Nat → Int → M.SType → Option ((Bool) ⊕ (Unit))
 | 0, _, _ => none
 | fuel + 1, i, t =>
 bif (decide (i < ((List.length kids) : Int))) then
 bif (!(Option.getD (rec_s_l04Fits (M.SValue.re (List.getD kids (Int.toNat i) M.SValue.zero)) (M.SType.re t)) default)) then
 let q0 := ((Option.isSome (rec_s_l04Fits (M.SValue.re (List.getD kids (Int.toNat i) M.SValue.zero)) (M.SType.re t))) && ((Go.V.inB i (List.length kids)) && true))
 bif q0 then
 some (.inl false)
 else
 none
 else
 let q0 := ((Option.isSome (rec_s_l04Fits (M.SValue.re (List.getD kids (Int.toNat i) M.SValue.zero)) (M.SType.re t))) && ((Go.V.inB i (List.length kids)) && true))
 bif q0 then
 M.s_l04Items_l0 rec_s_l04Fits kids fuel (Go.IntKind.wrap Go.IntKind.i64 (i + (1 : Int))) (M.SType.re t)
 else
 none
 else
 some ((.inr (())))
def s_l04Items (rec_s_l04Fits : M.SValue → M.SType → Option (Bool)) (kids : (List M.SValue)) (most : Int) (t : M.SType) : Option (Bool) :=
 bif (decide (most < ((List.length kids) : Int))) then
 some false
 else
 match (M.s_l04Items_l0 rec_s_l04Fits kids Go.V.bigN (0 : Int) (M.SType.re t)) with
 | none => none
 | some y0 =>
 (match y0 with
 | .inl a1 =>
 some a1
 | .inr b1 =>
 some true)
def s_CharOk (n : Int) : Option (Bool) :=
 some (((decide ((0 : Int) ≤ n)) && (decide (n ≤ (55295 : Int)))) || ((decide ((57344 : Int) ≤ n)) && (decide (n ≤ (1114111 : Int)))))
def s_l04Point_l0 (s : (List UInt8)) (many : Int) : Nat → Int → Int → Option ((List UInt8) × Int × Int)
 | 0, _, _ => none
 | fuel + 1, n, i =>
 bif (decide (i < many)) then
 bif ((Go.V.inB i (List.length s)) && true) then
 M.s_l04Point_l0 s many fuel (Go.V.bitsV Go.BinOp.or Go.IntKind.i64 (Go.V.shlV Go.IntKind.i64 n (6 : Int)) (Go.IntKind.wrap Go.IntKind.i64 (Go.V.bitsV Go.BinOp.and Go.IntKind.u8 ((UInt8.toNat (List.getD s (Int.toNat i) (0 : UInt8))) : Int) (63 : Int)))) (Go.IntKind.wrap Go.IntKind.i64 (i + (1 : Int)))
 else
 none
 else
 some ((s, many, n))
def s_l04Char (n : Int) : Option ((List UInt8)) :=
 bif (decide (n < (128 : Int))) then
 bif (((Go.V.u8ok (Go.IntKind.wrap Go.IntKind.u8 n)) && true) && true) then
 some (List.map (fun a => a) [(Go.V.u8of (Go.IntKind.wrap Go.IntKind.u8 n))])
 else
 none
 else
 bif (decide (n < (2048 : Int))) then
 let q0 := (Go.IntKind.wrap Go.IntKind.u8 (Go.IntKind.wrap Go.IntKind.i64 ((192 : Int) + (Go.V.shrV Go.IntKind.i64 n (6 : Int)))))
 let q1 := (Go.IntKind.wrap Go.IntKind.u8 (Go.IntKind.wrap Go.IntKind.i64 ((128 : Int) + (Go.V.bitsV Go.BinOp.and Go.IntKind.i64 n (63 : Int)))))
 let q2 := ((Go.V.u8ok q1) && true)
 bif (((Go.V.u8ok q0) && q2) && true) then
 let q3 := [(Go.V.u8of q1)]
 some (List.map (fun a => a) [(Go.V.u8of q0), (Go.V.u8of q1)])
 else
 none
 else
 bif (decide (n < (65536 : Int))) then
 let q0 := (Go.IntKind.wrap Go.IntKind.u8 (Go.IntKind.wrap Go.IntKind.i64 ((224 : Int) + (Go.V.shrV Go.IntKind.i64 n (12 : Int)))))
 let q1 := (Go.IntKind.wrap Go.IntKind.u8 (Go.IntKind.wrap Go.IntKind.i64 ((128 : Int) + (Go.V.bitsV Go.BinOp.and Go.IntKind.i64 (Go.V.shrV Go.IntKind.i64 n (6 : Int)) (63 : Int)))))
 let q2 := (Go.IntKind.wrap Go.IntKind.u8 (Go.IntKind.wrap Go.IntKind.i64 ((128 : Int) + (Go.V.bitsV Go.BinOp.and Go.IntKind.i64 n (63 : Int)))))
 let q3 := ((Go.V.u8ok q2) && true)
 let q4 := ((Go.V.u8ok q1) && q3)
 bif (((Go.V.u8ok q0) && q4) && true) then
 let q5 := [(Go.V.u8of q2)]
 let q6 := [(Go.V.u8of q1), (Go.V.u8of q2)]
 some (List.map (fun a => a) [(Go.V.u8of q0), (Go.V.u8of q1), (Go.V.u8of q2)])
 else
 none
 else
 let q0 := (Go.IntKind.wrap Go.IntKind.u8 (Go.IntKind.wrap Go.IntKind.i64 ((240 : Int) + (Go.V.shrV Go.IntKind.i64 n (18 : Int)))))
 let q1 := (Go.IntKind.wrap Go.IntKind.u8 (Go.IntKind.wrap Go.IntKind.i64 ((128 : Int) + (Go.V.bitsV Go.BinOp.and Go.IntKind.i64 (Go.V.shrV Go.IntKind.i64 n (12 : Int)) (63 : Int)))))
 let q2 := (Go.IntKind.wrap Go.IntKind.u8 (Go.IntKind.wrap Go.IntKind.i64 ((128 : Int) + (Go.V.bitsV Go.BinOp.and Go.IntKind.i64 (Go.V.shrV Go.IntKind.i64 n (6 : Int)) (63 : Int)))))
 let q3 := (Go.IntKind.wrap Go.IntKind.u8 (Go.IntKind.wrap Go.IntKind.i64 ((128 : Int) + (Go.V.bitsV Go.BinOp.and Go.IntKind.i64 n (63 : Int)))))
 let q4 := ((Go.V.u8ok q3) && true)
 let q5 := ((Go.V.u8ok q2) && q4)
 bif (((Go.V.u8ok q0) && ((Go.V.u8ok q1) && q5)) && true) then
 let q6 := [(Go.V.u8of q3)]
 let q7 := [(Go.V.u8of q2), (Go.V.u8of q3)]
 some (List.map (fun a => a) [(Go.V.u8of q0), (Go.V.u8of q1), (Go.V.u8of q2), (Go.V.u8of q3)])
 else
 none
def s_l04Point (s : (List UInt8)) : Option (Int × Int) :=
 bif (s == []) then
 some ((0 : Int), (0 : Int))
 else
 let q0 := (bif (decide ((240 : Int) ≤ ((UInt8.toNat (List.getD s (Int.toNat (0 : Int)) (0 : UInt8))) : Int))) then (4 : Int) else (bif (decide ((224 : Int) ≤ ((UInt8.toNat (List.getD s (Int.toNat (0 : Int)) (0 : UInt8))) : Int))) then (3 : Int) else (bif (decide ((192 : Int) ≤ ((UInt8.toNat (List.getD s (Int.toNat (0 : Int)) (0 : UInt8))) : Int))) then (2 : Int) else (1 : Int))))
 bif (decide (((List.length s) : Int) < q0)) then
 let q1 := ((Go.V.inB (0 : Int) (List.length s)) && ((Go.V.inB (0 : Int) (List.length s)) && ((Go.V.inB (0 : Int) (List.length s)) && true)))
 let q2 := ((Go.V.inB (0 : Int) (List.length s)) && q1)
 let q3 := ((q1 || (!(decide ((240 : Int) ≤ ((UInt8.toNat (List.getD s (Int.toNat (0 : Int)) (0 : UInt8))) : Int))))) && (((q2 || (!(decide ((224 : Int) ≤ ((UInt8.toNat (List.getD s (Int.toNat (0 : Int)) (0 : UInt8))) : Int))))) && (((((Go.V.inB (0 : Int) (List.length s)) && q2) || (!(decide ((192 : Int) ≤ ((UInt8.toNat (List.getD s (Int.toNat (0 : Int)) (0 : UInt8))) : Int))))) && (q2 || (decide ((192 : Int) ≤ ((UInt8.toNat (List.getD s (Int.toNat (0 : Int)) (0 : UInt8))) : Int))))) || (decide ((224 : Int) ≤ ((UInt8.toNat (List.getD s (Int.toNat (0 : Int)) (0 : UInt8))) : Int))))) || (decide ((240 : Int) ≤ ((UInt8.toNat (List.getD s (Int.toNat (0 : Int)) (0 : UInt8))) : Int)))))
 bif q3 then
 some ((0 : Int), (0 : Int))
 else
 none
 else
 let q1 := (Go.IntKind.wrap Go.IntKind.i64 ((UInt8.toNat (List.getD s (Int.toNat (0 : Int)) (0 : UInt8))) : Int))
 match (M.s_l04Point_l0 s q0 Go.V.bigN (bif (decide ((240 : Int) ≤ ((UInt8.toNat (List.getD s (Int.toNat (0 : Int)) (0 : UInt8))) : Int))) then (Go.IntKind.wrap Go.IntKind.i64 (q1 - (240 : Int))) else (bif (decide ((224 : Int) ≤ ((UInt8.toNat (List.getD s (Int.toNat (0 : Int)) (0 : UInt8))) : Int))) then (Go.IntKind.wrap Go.IntKind.i64 (q1 - (224 : Int))) else (bif (decide ((192 : Int) ≤ ((UInt8.toNat (List.getD s (Int.toNat (0 : Int)) (0 : UInt8))) : Int))) then (Go.IntKind.wrap Go.IntKind.i64 (q1 - (192 : Int))) else q1))) (1 : Int)) with
 | none => none
 | some y2 =>
 let q3 := (M.s_CharOk y2.2.2)
 let q4 := (!(Option.getD q3 default))
 let q5 := (M.s_l04Char y2.2.2)
 bif (q4 || (!((Option.getD q5 default) == (List.drop (Int.toNat (0 : Int)) (List.take (Int.toNat y2.2.1) y2.1))))) then
 let q6 := (!(q4 == false))
 let q7 := ((Go.V.inB (0 : Int) (List.length s)) && ((Go.V.inB (0 : Int) (List.length s)) && ((Go.V.inB (0 : Int) (List.length s)) && true)))
 let q8 := ((Go.V.inB (0 : Int) (List.length s)) && q7)
 let q9 := ((q7 || (!(decide ((240 : Int) ≤ ((UInt8.toNat (List.getD s (Int.toNat (0 : Int)) (0 : UInt8))) : Int))))) && (((q8 || (!(decide ((224 : Int) ≤ ((UInt8.toNat (List.getD s (Int.toNat (0 : Int)) (0 : UInt8))) : Int))))) && (((((Go.V.inB (0 : Int) (List.length s)) && q8) || (!(decide ((192 : Int) ≤ ((UInt8.toNat (List.getD s (Int.toNat (0 : Int)) (0 : UInt8))) : Int))))) && (q8 || (decide ((192 : Int) ≤ ((UInt8.toNat (List.getD s (Int.toNat (0 : Int)) (0 : UInt8))) : Int))))) || (decide ((224 : Int) ≤ ((UInt8.toNat (List.getD s (Int.toNat (0 : Int)) (0 : UInt8))) : Int))))) || (decide ((240 : Int) ≤ ((UInt8.toNat (List.getD s (Int.toNat (0 : Int)) (0 : UInt8))) : Int)))))
 let q10 := (((Go.V.slB (0 : Int) y2.2.1 (List.length y2.1)) || q6) && (((Option.isSome q5) || q6) && ((Option.isSome q3) && q9)))
 bif q10 then
 some ((0 : Int), (0 : Int))
 else
 none
 else
 let q6 := (!(q4 == false))
 let q7 := ((Go.V.inB (0 : Int) (List.length s)) && ((Go.V.inB (0 : Int) (List.length s)) && ((Go.V.inB (0 : Int) (List.length s)) && true)))
 let q8 := ((Go.V.inB (0 : Int) (List.length s)) && q7)
 let q9 := ((q7 || (!(decide ((240 : Int) ≤ ((UInt8.toNat (List.getD s (Int.toNat (0 : Int)) (0 : UInt8))) : Int))))) && (((q8 || (!(decide ((224 : Int) ≤ ((UInt8.toNat (List.getD s (Int.toNat (0 : Int)) (0 : UInt8))) : Int))))) && (((((Go.V.inB (0 : Int) (List.length s)) && q8) || (!(decide ((192 : Int) ≤ ((UInt8.toNat (List.getD s (Int.toNat (0 : Int)) (0 : UInt8))) : Int))))) && (q8 || (decide ((192 : Int) ≤ ((UInt8.toNat (List.getD s (Int.toNat (0 : Int)) (0 : UInt8))) : Int))))) || (decide ((224 : Int) ≤ ((UInt8.toNat (List.getD s (Int.toNat (0 : Int)) (0 : UInt8))) : Int))))) || (decide ((240 : Int) ≤ ((UInt8.toNat (List.getD s (Int.toNat (0 : Int)) (0 : UInt8))) : Int)))))
 let q10 := (((Go.V.slB (0 : Int) y2.2.1 (List.length y2.1)) || q6) && (((Option.isSome q5) || q6) && ((Option.isSome q3) && q9)))
 bif q10 then
 some (y2.2.2, y2.2.1)
 else
 none
def s_l04Points_l0 : Nat → (List UInt8) → (List Int) → Option ((Bool × (List Int)) ⊕ ((List Int)))
 | 0, _, _ => none
 | fuel + 1, s, out =>
 bif (decide ((0 : Int) < ((List.length s) : Int))) then
 let q0 := (M.s_l04Point s)
 bif ((Option.getD q0 default).2 == (0 : Int)) then
 bif ((Option.isSome q0) && true) then
 some (.inl (false, []))
 else
 none
 else
 let q1 := [(Option.getD q0 default).1]
 bif ((Go.V.slB (Option.getD q0 default).2 ((List.length s) : Int) (List.length s)) && ((decide (((List.length out) + (List.length q1)) ≤ 1073741824)) && ((Option.isSome q0) && true))) then
 M.s_l04Points_l0 fuel (List.drop (Int.toNat (Option.getD q0 default).2) (List.take (Int.toNat ((List.length s) : Int)) s)) (out ++ q1)
 else
 none
 else
 some ((.inr (out)))
def s_l04Points (s : (List UInt8)) : Option ((List Int) × Bool) :=
 match (M.s_l04Points_l0 Go.V.bigN s []) with
 | none => none
 | some y0 =>
 (match y0 with
 | .inl a1 =>
 some (a1.2, a1.1)
 | .inr b1 =>
 some (b1, true))
def s_TextOk (s : (List UInt8)) : Option (Bool) :=
 bif (decide ((24 : Int) < ((List.length s) : Int))) then
 some false
 else
 let q0 := (M.s_l04Points s)
 bif ((Option.isSome q0) && true) then
 some (Option.getD q0 default).2
 else
 none
def s_l04All_l0 (rec_s_l04Fits : M.SValue → M.SType → Option (Bool)) (kids : (List M.SValue)) (ts : (List M.SType)) : Nat → Int → Option ((Bool) ⊕ (Unit))
 | 0, _ => none
 | fuel + 1, i =>
 bif (decide (i < ((List.length kids) : Int))) then
 bif (!(Option.getD (rec_s_l04Fits (M.SValue.re (List.getD kids (Int.toNat i) M.SValue.zero)) (M.SType.re (List.getD ts (Int.toNat i) M.SType.zero))) default)) then
 let q0 := ((Option.isSome (rec_s_l04Fits (M.SValue.re (List.getD kids (Int.toNat i) M.SValue.zero)) (M.SType.re (List.getD ts (Int.toNat i) M.SType.zero)))) && ((Go.V.inB i (List.length ts)) && ((Go.V.inB i (List.length kids)) && true)))
 bif q0 then
 some (.inl false)
 else
 none
 else
 let q0 := ((Option.isSome (rec_s_l04Fits (M.SValue.re (List.getD kids (Int.toNat i) M.SValue.zero)) (M.SType.re (List.getD ts (Int.toNat i) M.SType.zero)))) && ((Go.V.inB i (List.length ts)) && ((Go.V.inB i (List.length kids)) && true)))
 bif q0 then
 M.s_l04All_l0 rec_s_l04Fits kids ts fuel (Go.IntKind.wrap Go.IntKind.i64 (i + (1 : Int)))
 else
 none
 else
 some ((.inr (())))
def s_l04All (rec_s_l04Fits : M.SValue → M.SType → Option (Bool)) (kids : (List M.SValue)) (ts : (List M.SType)) : Option (Bool) :=
 bif (((List.length kids) : Int) != ((List.length ts) : Int)) then
 some false
 else
 match (M.s_l04All_l0 rec_s_l04Fits kids ts Go.V.bigN (0 : Int)) with
 | none => none
 | some y0 =>
 (match y0 with
 | .inl a1 =>
 some a1
 | .inr b1 =>
 some true)
def s_NumRange (kind : Int) : Option (Int × Int × Bool) :=
 bif (kind == (3 : Int)) then
 some ((0 : Int), (255 : Int), true)
 else
 bif (kind == (4 : Int)) then
 some ((-(128 : Int)), (127 : Int), true)
 else
 bif (kind == (5 : Int)) then
 some ((0 : Int), (65535 : Int), true)
 else
 bif (kind == (6 : Int)) then
 some ((-(32768 : Int)), (32767 : Int), true)
 else
 bif (kind == (7 : Int)) then
 some ((0 : Int), (4294967295 : Int), true)
 else
 bif (kind == (8 : Int)) then
 some ((-(2147483648 : Int)), (2147483647 : Int), true)
 else
 bif (kind == (9 : Int)) then
 some ((-(9223372036854775808 : Int)), (9223372036854775807 : Int), true)
 else
 some ((0 : Int), (0 : Int), false)
def s_l04Fits_b (rec_s_l04Fits : M.SValue → M.SType → Option (Bool)) (v : M.SValue) (t : M.SType) : Option (Bool) :=
 bif (((M.SValue.Kind v) != (M.SType.Kind t)) || (((M.SType.Kind t) != (11 : Int)) && (!((M.SValue.Text v) == [])))) then
 some false
 else
 bif (bif ((M.SType.Kind t) == (2 : Int)) then ((M.SType.Kind t) == (2 : Int)) else ((M.SType.Kind t) == (14 : Int))) then
 bif (!((decide ((0 : Int) ≤ (M.SValue.Num v))) && (decide ((M.SValue.Num v) ≤ (1 : Int))))) then
 some false
 else
 let q0 := (((M.SType.Kind t) == (14 : Int)) || ((M.SType.Kind t) == (17 : Int)))
 bif q0 then
 let q1 := (M.s_l04Case rec_s_l04Fits (M.SValue.Kids v) (M.SType.re (List.getD (M.SType.Kids t) (Int.toNat (M.SValue.Num v)) M.SType.zero)))
 let q2 := (Option.isSome q1)
 bif (q2 && ((Go.V.inB (M.SValue.Num v) (List.length (M.SType.Kids t))) && true)) then
 let q3 := (Option.getD q1 default)
 some q3
 else
 none
 else
 some (((List.length (M.SValue.Kids v)) : Int) == (0 : Int))
 else
 bif ((M.SType.Kind t) == (13 : Int)) then
 let q0 := (M.s_l04Items rec_s_l04Fits (M.SValue.Kids v) (1 : Int) (M.SType.re (List.getD (M.SType.Kids t) (Int.toNat (0 : Int)) M.SType.zero)))
 let q1 := (!(((M.SValue.Num v) == ((List.length (M.SValue.Kids v)) : Int)) == true))
 bif (((Option.isSome q0) || q1) && (((Go.V.inB (0 : Int) (List.length (M.SType.Kids t))) || q1) && true)) then
 some (((M.SValue.Num v) == ((List.length (M.SValue.Kids v)) : Int)) && (Option.getD q0 default))
 else
 none
 else
 bif ((M.SType.Kind t) == (10 : Int)) then
 some ((Option.getD (M.s_CharOk (M.SValue.Num v)) default) && (((List.length (M.SValue.Kids v)) : Int) == (0 : Int)))
 else
 bif ((M.SType.Kind t) == (11 : Int)) then
 let q0 := (M.s_TextOk (M.SValue.Text v))
 bif ((Option.isSome q0) && true) then
 some (((Option.getD q0 default) && ((M.SValue.Num v) == (0 : Int))) && (((List.length (M.SValue.Kids v)) : Int) == (0 : Int)))
 else
 none
 else
 bif ((M.SType.Kind t) == (12 : Int)) then
 let q0 := (M.s_l04Items rec_s_l04Fits (M.SValue.Kids v) (8 : Int) (M.SType.re (List.getD (M.SType.Kids t) (Int.toNat (0 : Int)) M.SType.zero)))
 let q1 := (!(((M.SValue.Num v) == (0 : Int)) == true))
 bif (((Option.isSome q0) || q1) && (((Go.V.inB (0 : Int) (List.length (M.SType.Kids t))) || q1) && true)) then
 some (((M.SValue.Num v) == (0 : Int)) && (Option.getD q0 default))
 else
 none
 else
 bif (bif ((M.SType.Kind t) == (15 : Int)) then ((M.SType.Kind t) == (15 : Int)) else ((M.SType.Kind t) == (16 : Int))) then
 let q0 := (M.s_l04All rec_s_l04Fits (M.SValue.Kids v) (M.SType.Kids t))
 let q1 := (!(((M.SValue.Num v) == (0 : Int)) == true))
 bif (((Option.isSome q0) || q1) && true) then
 some (((M.SValue.Num v) == (0 : Int)) && (Option.getD q0 default))
 else
 none
 else
 let q0 := (bif ((M.SType.Kind t) == (17 : Int)) then ((M.SType.Kind t) == (17 : Int)) else ((M.SType.Kind t) == (18 : Int)))
 let q1 := (bif ((M.SType.Kind t) == (20 : Int)) then ((M.SType.Kind t) == (20 : Int)) else (bif ((M.SType.Kind t) == (21 : Int)) then ((M.SType.Kind t) == (21 : Int)) else (bif ((M.SType.Kind t) == (22 : Int)) then ((M.SType.Kind t) == (22 : Int)) else ((M.SType.Kind t) == (23 : Int)))))
 let q2 := (M.s_NumRange (M.SType.Kind t))
 bif (!((decide ((bif q0 then (0 : Int) else (bif ((M.SType.Kind t) == (19 : Int)) then (0 : Int) else (bif q1 then (0 : Int) else (Option.getD q2 default).1))) ≤ (M.SValue.Num v))) && (decide ((M.SValue.Num v) ≤ (bif q0 then (Go.IntKind.wrap Go.IntKind.i64 (((List.length (M.SType.Labels t)) : Int) - (1 : Int))) else (bif ((M.SType.Kind t) == (19 : Int)) then (Go.IntKind.wrap Go.IntKind.i64 ((Go.V.shlV Go.IntKind.i64 (1 : Int) (Go.IntKind.wrap Go.IntKind.u64 ((List.length (M.SType.Labels t)) : Int))) - (1 : Int))) else (bif q1 then (2147483647 : Int) else (Option.getD q2 default).2.1))))))) then
 let q3 := (((((Option.isSome q2) && true) || q1) || ((M.SType.Kind t) == (19 : Int))) || q0)
 bif q3 then
 some false
 else
 none
 else
 let q3 := (((M.SType.Kind t) == (14 : Int)) || ((M.SType.Kind t) == (17 : Int)))
 bif q3 then
 let q4 := (M.s_l04Case rec_s_l04Fits (M.SValue.Kids v) (M.SType.re (List.getD (M.SType.Kids t) (Int.toNat (M.SValue.Num v)) M.SType.zero)))
 let q5 := (Option.isSome q4)
 let q6 := (((((Option.isSome q2) && true) || q1) || ((M.SType.Kind t) == (19 : Int))) || q0)
 bif (q5 && ((Go.V.inB (M.SValue.Num v) (List.length (M.SType.Kids t))) && q6)) then
 let q7 := (Option.getD q4 default)
 some q7
 else
 none
 else
 let q4 := (((((Option.isSome q2) && true) || q1) || ((M.SType.Kind t) == (19 : Int))) || q0)
 bif q4 then
 some (((List.length (M.SValue.Kids v)) : Int) == (0 : Int))
 else
 none
def s_l04Fits_n : Nat → M.SValue → M.SType → Option (Bool)
 | 0 => fun _ _ => none
 | n + 1 => s_l04Fits_b (s_l04Fits_n n)
def s_l04Fits : M.SValue → M.SType → Option (Bool) := s_l04Fits_n Go.V.bigN
def s_Fits (v : M.SValue) (t : M.SType) : Option (Bool) :=
 let q0 := (M.s_l04Fits (M.SValue.re v) (M.SType.re t))
 let q1 := (M.s_TypeOk (M.SType.re t))
 bif (((Option.isSome q0) || (!((Option.getD q1 default) == true))) && ((Option.isSome q1) && true)) then
 some ((Option.getD q1 default) && (Option.getD q0 default))
 else
 none
def s_l21Fits_l0 (list : (List M.SValue)) : Nat → Int → M.SType → Option ((Bool) ⊕ (Unit))
 | 0, _, _ => none
 | fuel + 1, i, t =>
 bif (decide (i < ((List.length list) : Int))) then
 let q0 := (M.s_Fits (M.SValue.re (List.getD list (Int.toNat i) M.SValue.zero)) (M.SType.re t))
 bif (!(Option.getD q0 default)) then
 let q1 := ((Option.isSome q0) && ((Go.V.inB i (List.length list)) && true))
 bif q1 then
 some (.inl false)
 else
 none
 else
 let q1 := ((Option.isSome q0) && ((Go.V.inB i (List.length list)) && true))
 bif q1 then
 M.s_l21Fits_l0 list fuel (Go.IntKind.wrap Go.IntKind.i64 (i + (1 : Int))) (M.SType.re t)
 else
 none
 else
 some ((.inr (())))
def s_l21Fits (list : (List M.SValue)) (t : M.SType) (most : Int) : Option (Bool) :=
 bif (decide (most < ((List.length list) : Int))) then
 some false
 else
 match (M.s_l21Fits_l0 list Go.V.bigN (0 : Int) (M.SType.re t)) with
 | none => none
 | some y0 =>
 (match y0 with
 | .inl a1 =>
 some a1
 | .inr b1 =>
 some true)
def s_StreamOk (s : M.SStream) : Option (Bool) :=
 let q0 := (M.s_l21Type (M.SType.re (M.SStream.Type_ s)))
 let q1 := (((!(Option.getD q0 default)) || (!((decide ((1 : Int) ≤ (M.SStream.Room s))) && (decide ((M.SStream.Room s) ≤ (6 : Int)))))) || ((M.SStream.Future s) && ((M.SStream.Room s) != (1 : Int))))
 let q2 := (M.s_l21Fits (M.SStream.Buffer s) (M.SType.re (M.SStream.Type_ s)) (M.SStream.Room s))
 bif (q1 || (!(Option.getD q2 default))) then
 let q3 := (((Option.isSome q2) || (!(q1 == false))) && ((Option.isSome q0) && true))
 bif q3 then
 some false
 else
 none
 else
 bif (((decide ((M.SStream.Got s) < (0 : Int))) || (!((decide ((M.SStream.Got s) ≤ (M.SStream.Put s))) && (decide ((M.SStream.Put s) ≤ (1000000 : Int)))))) || ((M.SStream.Future s) && (decide ((1 : Int) < (M.SStream.Put s))))) then
 let q3 := (((Option.isSome q2) || (!(q1 == false))) && ((Option.isSome q0) && true))
 bif q3 then
 some false
 else
 none
 else
 bif (((M.SStream.Gone s) && (decide ((0 : Int) < ((List.length (M.SStream.Buffer s)) : Int)))) || ((!(M.SStream.Gone s)) && ((Go.IntKind.wrap Go.IntKind.i64 ((M.SStream.Put s) - (M.SStream.Got s))) != ((List.length (M.SStream.Buffer s)) : Int)))) then
 let q3 := (((Option.isSome q2) || (!(q1 == false))) && ((Option.isSome q0) && true))
 bif q3 then
 some false
 else
 none
 else
 let q3 := (((Option.isSome q2) || (!(q1 == false))) && ((Option.isSome q0) && true))
 bif q3 then
 some ((((!(M.SStream.Future s)) || (!(M.SStream.Shut s))) || ((M.SStream.Put s) == (1 : Int))) || (M.SStream.Gone s))
 else
 none
def s_l03Own_l0 (rec_s_l03Own : M.SType → Option (M.SType)) (t2 : Int) (t22 : (List UInt8)) (out : Int) (out2 : (List UInt8)) (o7 : (List (List UInt8))) (o8 : (List M.SType)) (o9 : (List (List UInt8))) : Nat → Int → M.SType → (List M.SType) → Option (Int × (List UInt8) × Int × (List UInt8) × (List (List UInt8)) × (List M.SType) × (List (List UInt8)) × (List M.SType))
 | 0, _, _, _ => none
 | fuel + 1, i, t, o10 =>
 bif (decide (i < ((List.length (M.SType.Kids t)) : Int))) then
 let q0 := [(M.SType.re (Option.getD (rec_s_l03Own (M.SType.re (List.getD (M.SType.Kids t) (Int.toNat i) M.SType.zero))) default))]
 bif ((decide (((List.length o10) + (List.length q0)) ≤ 1073741824)) && ((Option.isSome (rec_s_l03Own (M.SType.re (List.getD (M.SType.Kids t) (Int.toNat i) M.SType.zero)))) && ((Go.V.inB i (List.length (M.SType.Kids t))) && true))) then
 M.s_l03Own_l0 rec_s_l03Own t2 t22 out out2 o7 o8 o9 fuel (Go.IntKind.wrap Go.IntKind.i64 (i + (1 : Int))) (M.SType.re t) (o10 ++ q0)
 else
 none
 else
 some ((t2, t22, out, out2, o7, o8, o9, o10))
def s_l03Own_b (rec_s_l03Own : M.SType → Option (M.SType)) (t : M.SType) : Option (M.SType) :=
 match (M.s_l03Own_l0 rec_s_l03Own (0 : Int) [] (M.SType.Kind t) (M.SType.Name t) [] [] ([] ++ (M.SType.Labels t)) Go.V.bigN (0 : Int) (M.SType.re t) []) with
 | none => none
 | some y0 =>
 bif ((decide ((0 + (List.length (M.SType.Labels t))) ≤ 1073741824)) && true) then
 let q1 := y0.2.2
 let q2 := q1.2
 let q3 := q2.2.2.2
 some (M.SType.mk q1.1 q2.1 q3.1 q3.2)
 else
 none
def s_l03Own_n : Nat → M.SType → Option (M.SType)
 | 0 => fun _ => none
 | n + 1 => s_l03Own_b (s_l03Own_n n)
def s_l03Own : M.SType → Option (M.SType) := s_l03Own_n Go.V.bigN
def s_l21Value_l0 (rec_s_l21Value : M.SValue → Option (M.SValue)) (t2 : Int) (t22 : Int) (t23 : (List UInt8)) (out : Int) (out2 : Int) (out3 : (List UInt8)) (o5 : (List M.SValue)) : Nat → Int → M.SValue → (List M.SValue) → Option (Int × Int × (List UInt8) × Int × Int × (List UInt8) × (List M.SValue) × (List M.SValue))
 | 0, _, _, _ => none
 | fuel + 1, i, v, o6 =>
 bif (decide (i < ((List.length (M.SValue.Kids v)) : Int))) then
 let q0 := [(M.SValue.re (Option.getD (rec_s_l21Value (M.SValue.re (List.getD (M.SValue.Kids v) (Int.toNat i) M.SValue.zero))) default))]
 bif ((decide (((List.length o6) + (List.length q0)) ≤ 1073741824)) && ((Option.isSome (rec_s_l21Value (M.SValue.re (List.getD (M.SValue.Kids v) (Int.toNat i) M.SValue.zero)))) && ((Go.V.inB i (List.length (M.SValue.Kids v))) && true))) then
 M.s_l21Value_l0 rec_s_l21Value t2 t22 t23 out out2 out3 o5 fuel (Go.IntKind.wrap Go.IntKind.i64 (i + (1 : Int))) (M.SValue.re v) (o6 ++ q0)
 else
 none
 else
 some ((t2, t22, t23, out, out2, out3, o5, o6))
def s_l21Value_b (rec_s_l21Value : M.SValue → Option (M.SValue)) (v : M.SValue) : Option (M.SValue) :=
 match (M.s_l21Value_l0 rec_s_l21Value (0 : Int) (0 : Int) [] (M.SValue.Kind v) (M.SValue.Num v) (M.SValue.Text v) [] Go.V.bigN (0 : Int) (M.SValue.re v) []) with
 | none => none
 | some y0 =>
 let q1 := y0.2.2.2
 let q2 := q1.2
 let q3 := q2.2
 some (M.SValue.mk q1.1 q2.1 q3.1 q3.2.2)
def s_l21Value_n : Nat → M.SValue → Option (M.SValue)
 | 0 => fun _ => none
 | n + 1 => s_l21Value_b (s_l21Value_n n)
def s_l21Value : M.SValue → Option (M.SValue) := s_l21Value_n Go.V.bigN
def s_l21Leave (s : M.SStream) : Option (M.SStream × Int) :=
 bif (M.SStream.Gone s) then
 some ((M.SStream.mk (M.SType.mk (0 : Int) [] [] []) (0 : Int) false [] (0 : Int) (0 : Int) false false), (5 : Int))
 else
 some ((M.SStream.mk (M.SType.re (M.SStream.Type_ s)) (M.SStream.Room s) (M.SStream.Future s) [] (M.SStream.Put s) (M.SStream.Got s) (M.SStream.Shut s) true), (0 : Int))
def i_TypeOk (t : M.SType) : Option (Bool) :=
 let q0 := (M.i_shapeOk (M.SType.re t))
 let q1 := (M.i_deep (M.SType.re t) (4 : Int))
 let q2 := (M.i_parts (M.SType.re t))
 let q3 := ((decide ((Option.getD q1 default) ≤ (4 : Int))) && (decide ((Option.getD q2 default) ≤ (24 : Int))))
 bif (((Option.isSome q0) || (!(q3 == true))) && (((Option.isSome q2) || (!((decide ((Option.getD q1 default) ≤ (4 : Int))) == true))) && ((Option.isSome q1) && true))) then
 some (q3 && (Option.getD q0 default))
 else
 none
def i_streamable (t : M.SType) : Option (Bool) :=
 let q0 := (M.i_hasKind (M.SType.re t) [(20 : Int), (21 : Int), (22 : Int), (23 : Int)])
 let q1 := (M.i_TypeOk (M.SType.re t))
 let q2 := ((Option.getD q1 default) && (!((M.SType.Kind t) == (1 : Int))))
 bif (((Option.isSome q0) || (!(q2 == true))) && ((Option.isSome q1) && true)) then
 some (q2 && (!(Option.getD q0 default)))
 else
 none
def i_size_Value (list : (List M.SValue)) : Option (Int) :=
 some ((List.length list) : Int)
def i_numRange (kind : Int) : Option (Int × Int × Bool) :=
 bif (kind == (3 : Int)) then
 some ((0 : Int), (255 : Int), true)
 else
 bif (kind == (4 : Int)) then
 some ((-(128 : Int)), (127 : Int), true)
 else
 bif (kind == (5 : Int)) then
 some ((0 : Int), (65535 : Int), true)
 else
 bif (kind == (6 : Int)) then
 some ((-(32768 : Int)), (32767 : Int), true)
 else
 bif (kind == (7 : Int)) then
 some ((0 : Int), (4294967295 : Int), true)
 else
 bif (kind == (8 : Int)) then
 some ((-(2147483648 : Int)), (2147483647 : Int), true)
 else
 bif (kind == (9 : Int)) then
 some ((-(9223372036854775808 : Int)), (9223372036854775807 : Int), true)
 else
 some ((0 : Int), (0 : Int), false)
def i_CharOk (n : Int) : Option (Bool) :=
 some (((decide ((0 : Int) ≤ n)) && (decide (n ≤ (55295 : Int)))) || ((decide ((57344 : Int) ≤ n)) && (decide (n ≤ (1114111 : Int)))))
def i_numOk (v : M.SValue) (t : M.SType) : Option (Bool) :=
 bif (bif ((M.SType.Kind t) == (2 : Int)) then ((M.SType.Kind t) == (2 : Int)) else (bif ((M.SType.Kind t) == (13 : Int)) then ((M.SType.Kind t) == (13 : Int)) else ((M.SType.Kind t) == (14 : Int)))) then
 some ((decide ((0 : Int) ≤ (M.SValue.Num v))) && (decide ((M.SValue.Num v) ≤ (1 : Int))))
 else
 bif (bif ((M.SType.Kind t) == (3 : Int)) then ((M.SType.Kind t) == (3 : Int)) else (bif ((M.SType.Kind t) == (4 : Int)) then ((M.SType.Kind t) == (4 : Int)) else (bif ((M.SType.Kind t) == (5 : Int)) then ((M.SType.Kind t) == (5 : Int)) else (bif ((M.SType.Kind t) == (6 : Int)) then ((M.SType.Kind t) == (6 : Int)) else (bif ((M.SType.Kind t) == (7 : Int)) then ((M.SType.Kind t) == (7 : Int)) else (bif ((M.SType.Kind t) == (8 : Int)) then ((M.SType.Kind t) == (8 : Int)) else ((M.SType.Kind t) == (9 : Int)))))))) then
 let q0 := (M.i_numRange (M.SType.Kind t))
 bif ((Option.isSome q0) && true) then
 some ((decide ((Option.getD q0 default).1 ≤ (M.SValue.Num v))) && (decide ((M.SValue.Num v) ≤ (Option.getD q0 default).2.1)))
 else
 none
 else
 bif ((M.SType.Kind t) == (10 : Int)) then
 some (Option.getD (M.i_CharOk (M.SValue.Num v)) default)
 else
 some ((decide ((0 : Int) ≤ (M.SValue.Num v))) && (decide ((M.SValue.Num v) ≤ (bif (bif ((M.SType.Kind t) == (17 : Int)) then ((M.SType.Kind t) == (17 : Int)) else ((M.SType.Kind t) == (18 : Int))) then (Go.IntKind.wrap Go.IntKind.i64 (((List.length (M.SType.Labels t)) : Int) - (1 : Int))) else (bif ((M.SType.Kind t) == (19 : Int)) then (Go.IntKind.wrap Go.IntKind.i64 ((Go.V.shlV Go.IntKind.i64 (1 : Int) ((List.length (M.SType.Labels t)) : Int)) - (1 : Int))) else (bif (bif ((M.SType.Kind t) == (20 : Int)) then ((M.SType.Kind t) == (20 : Int)) else (bif ((M.SType.Kind t) == (21 : Int)) then ((M.SType.Kind t) == (21 : Int)) else (bif ((M.SType.Kind t) == (22 : Int)) then ((M.SType.Kind t) == (22 : Int)) else ((M.SType.Kind t) == (23 : Int))))) then (2147483647 : Int) else (0 : Int)))))))
def i_TextOk (s : (List UInt8)) : Option (Bool) :=
 let q0 := (M.unicode_utf8_ValidString s)
 bif (((Option.isSome q0) || (!((decide (((List.length s) : Int) ≤ (24 : Int))) == true))) && true) then
 some ((decide (((List.length s) : Int) ≤ (24 : Int))) && (Option.getD q0 default))
 else
 none
def i_caseType (t : M.SType) (num : Int) : Option (M.SType × Bool) :=
 bif ((M.SType.Kind t) == (13 : Int)) then
 bif (num == (0 : Int)) then
 some ((M.SType.mk (1 : Int) [] [] []), true)
 else
 bif (!((decide ((0 : Int) ≤ (Go.IntKind.wrap Go.IntKind.i64 (num - (1 : Int))))) && (decide ((Go.IntKind.wrap Go.IntKind.i64 (num - (1 : Int))) ≤ (Go.IntKind.wrap Go.IntKind.i64 (((List.length (M.SType.Kids t)) : Int) - (1 : Int))))))) then
 some ((M.SType.mk (0 : Int) [] [] []), false)
 else
 bif ((Go.V.inB (Go.IntKind.wrap Go.IntKind.i64 (num - (1 : Int))) (List.length (M.SType.Kids t))) && true) then
 some ((M.SType.re (List.getD (M.SType.Kids t) (Int.toNat (Go.IntKind.wrap Go.IntKind.i64 (num - (1 : Int)))) M.SType.zero)), true)
 else
 none
 else
 bif (!((decide ((0 : Int) ≤ num)) && (decide (num ≤ (Go.IntKind.wrap Go.IntKind.i64 (((List.length (M.SType.Kids t)) : Int) - (1 : Int))))))) then
 some ((M.SType.mk (0 : Int) [] [] []), false)
 else
 bif ((Go.V.inB num (List.length (M.SType.Kids t))) && true) then
 some ((M.SType.re (List.getD (M.SType.Kids t) (Int.toNat num) M.SType.zero)), true)
 else
 none
def i_kidTypes (v : M.SValue) (t : M.SType) : Option ((List M.SType) × Bool) :=
 bif ((M.SType.Kind t) == (12 : Int)) then
 let q0 := (M.slices_Repeat_Type_Type (M.SType.Kids t) (bif (decide ((8 : Int) < ((List.length (M.SValue.Kids v)) : Int))) then (8 : Int) else ((List.length (M.SValue.Kids v)) : Int)))
 bif ((Option.isSome q0) && true) then
 some ((Option.getD q0 default), true)
 else
 none
 else
 bif (bif ((M.SType.Kind t) == (15 : Int)) then ((M.SType.Kind t) == (15 : Int)) else ((M.SType.Kind t) == (16 : Int))) then
 some ((M.SType.Kids t), true)
 else
 bif (bif ((M.SType.Kind t) == (13 : Int)) then ((M.SType.Kind t) == (13 : Int)) else (bif ((M.SType.Kind t) == (14 : Int)) then ((M.SType.Kind t) == (14 : Int)) else ((M.SType.Kind t) == (17 : Int)))) then
 let q0 := (M.i_caseType (M.SType.re t) (M.SValue.Num v))
 bif ((M.SType.Kind (Option.getD q0 default).1) == (1 : Int)) then
 bif ((Option.isSome q0) && true) then
 some ([], (Option.getD q0 default).2)
 else
 none
 else
 bif ((Option.isSome q0) && true) then
 some ([(M.SType.re (Option.getD q0 default).1)], (Option.getD q0 default).2)
 else
 none
 else
 some ([], true)
def i_fits_l0 (rec_i_fits : M.SValue → M.SType → Option (Bool)) (kids : (List M.SType)) (t53 : (List M.SValue)) (t54 : Int) : Nat → Int → Option ((Bool) ⊕ (Unit))
 | 0, _ => none
 | fuel + 1, t55 =>
 bif (decide (t55 < t54)) then
 bif (!(Option.getD (rec_i_fits (M.SValue.re (List.getD t53 (Int.toNat t55) M.SValue.zero)) (M.SType.re (List.getD kids (Int.toNat t55) M.SType.zero))) default)) then
 let q0 := ((Option.isSome (rec_i_fits (M.SValue.re (List.getD t53 (Int.toNat t55) M.SValue.zero)) (M.SType.re (List.getD kids (Int.toNat t55) M.SType.zero)))) && ((Go.V.inB t55 (List.length kids)) && ((Go.V.inB t55 (List.length t53)) && true)))
 bif q0 then
 some (.inl false)
 else
 none
 else
 let q0 := ((Option.isSome (rec_i_fits (M.SValue.re (List.getD t53 (Int.toNat t55) M.SValue.zero)) (M.SType.re (List.getD kids (Int.toNat t55) M.SType.zero)))) && ((Go.V.inB t55 (List.length kids)) && ((Go.V.inB t55 (List.length t53)) && true)))
 bif q0 then
 M.i_fits_l0 rec_i_fits kids t53 t54 fuel (Go.IntKind.wrap Go.IntKind.i64 (t55 + (1 : Int)))
 else
 none
 else
 some ((.inr (())))
def i_fits_b (rec_i_fits : M.SValue → M.SType → Option (Bool)) (v : M.SValue) (t : M.SType) : Option (Bool) :=
 let q0 := (M.i_numOk (M.SValue.re v) (M.SType.re t))
 let q1 := ((((M.SValue.Kind v) != (M.SType.Kind t)) || (!(Option.getD q0 default))) || ((!((M.SValue.Text v) == [])) && ((M.SType.Kind t) != (11 : Int))))
 let q2 := (M.i_TextOk (M.SValue.Text v))
 bif (q1 || (!(Option.getD q2 default))) then
 let q3 := (((Option.isSome q2) || (!(q1 == false))) && (((Option.isSome q0) || (!(((M.SValue.Kind v) != (M.SType.Kind t)) == false))) && true))
 bif q3 then
 some false
 else
 none
 else
 let q3 := (M.i_kidTypes (M.SValue.re v) (M.SType.re t))
 let q4 := (Option.getD q3 default).1
 bif ((!(Option.getD q3 default).2) || (((List.length q4) : Int) != ((List.length (M.SValue.Kids v)) : Int))) then
 let q5 := (((Option.isSome q2) || (!(q1 == false))) && (((Option.isSome q0) || (!(((M.SValue.Kind v) != (M.SType.Kind t)) == false))) && true))
 let q6 := ((Option.isSome q3) && q5)
 bif q6 then
 some false
 else
 none
 else
 match (M.i_fits_l0 rec_i_fits q4 (M.SValue.Kids v) ((List.length (M.SValue.Kids v)) : Int) Go.V.bigN (0 : Int)) with
 | none => none
 | some y5 =>
 (match y5 with
 | .inl a6 =>
 let q7 := (((Option.isSome q2) || (!(q1 == false))) && (((Option.isSome q0) || (!(((M.SValue.Kind v) != (M.SType.Kind t)) == false))) && true))
 let q8 := ((Option.isSome q3) && q7)
 bif q8 then
 some a6
 else
 none
 | .inr b6 =>
 let q7 := (((Option.isSome q2) || (!(q1 == false))) && (((Option.isSome q0) || (!(((M.SValue.Kind v) != (M.SType.Kind t)) == false))) && true))
 let q8 := ((Option.isSome q3) && q7)
 bif q8 then
 some true
 else
 none)
def i_fits_n : Nat → M.SValue → M.SType → Option (Bool)
 | 0 => fun _ _ => none
 | n + 1 => i_fits_b (i_fits_n n)
def i_fits : M.SValue → M.SType → Option (Bool) := i_fits_n Go.V.bigN
def i_StreamOk_c1 (v : M.SValue) (t1 : M.SStream) : Option (Bool) :=
 let q0 := (M.i_fits (M.SValue.re v) (M.SType.re (M.SStream.Type_ t1)))
 bif ((Option.isSome q0) && true) then
 some (!(Option.getD q0 default))
 else
 none
def slices_IndexFunc_Value_Value_l0 (s : (List M.SValue)) (f : M.SStream) (t7 : Int) : Nat → Int → Option ((Int) ⊕ (Unit))
 | 0, _ => none
 | fuel + 1, t8 =>
 bif (decide (t8 < t7)) then
 let q0 := (M.i_StreamOk_c1 (M.SValue.re (List.getD s (Int.toNat t8) M.SValue.zero)) f)
 bif (Option.getD q0 default) then
 let q1 := ((Option.isSome q0) && ((Go.V.inB t8 (List.length s)) && true))
 bif q1 then
 some (.inl t8)
 else
 none
 else
 let q1 := ((Option.isSome q0) && ((Go.V.inB t8 (List.length s)) && true))
 bif q1 then
 M.slices_IndexFunc_Value_Value_l0 s f t7 fuel (Go.IntKind.wrap Go.IntKind.i64 (t8 + (1 : Int)))
 else
 none
 else
 some ((.inr (())))
def slices_IndexFunc_Value_Value (s : (List M.SValue)) (f : M.SStream) : Option (Int) :=
 match (M.slices_IndexFunc_Value_Value_l0 s f ((List.length s) : Int) Go.V.bigN (0 : Int)) with
 | none => none
 | some y0 =>
 (match y0 with
 | .inl a1 =>
 some a1
 | .inr b1 =>
 some (-(1 : Int)))
def slices_ContainsFunc_Value_Value (s : (List M.SValue)) (f : M.SStream) : Option (Bool) :=
 let q0 := (M.slices_IndexFunc_Value_Value s f)
 bif ((Option.isSome q0) && true) then
 some (decide ((0 : Int) ≤ (Option.getD q0 default)))
 else
 none
def i_mostOf (s : M.SStream) : Option (Int) :=
 bif (M.SStream.Future s) then
 some (1 : Int)
 else
 some (1000000 : Int)
def i_StreamOk (s : M.SStream) : Option (Bool) :=
 let q0 := (M.i_streamable (M.SType.re (M.SStream.Type_ s)))
 bif ((((!(Option.getD q0 default)) || (!((decide ((1 : Int) ≤ (M.SStream.Room s))) && (decide ((M.SStream.Room s) ≤ (6 : Int)))))) || ((M.SStream.Future s) && ((M.SStream.Room s) != (1 : Int)))) || (decide ((M.SStream.Room s) < ((List.length (M.SStream.Buffer s)) : Int)))) then
 bif ((Option.isSome q0) && true) then
 some false
 else
 none
 else
 let q1 := (M.slices_ContainsFunc_Value_Value (M.SStream.Buffer s) (M.SStream.re s))
 let q2 := ((Option.getD q1 default) || (decide ((M.SStream.Got s) < (0 : Int))))
 let q3 := (M.i_mostOf (M.SStream.re s))
 bif (q2 || (!((decide ((M.SStream.Got s) ≤ (M.SStream.Put s))) && (decide ((M.SStream.Put s) ≤ (Option.getD q3 default)))))) then
 let q4 := (((Option.isSome q3) || (!(q2 == false))) && ((Option.isSome q1) && ((Option.isSome q0) && true)))
 bif q4 then
 some false
 else
 none
 else
 bif (((M.SStream.Gone s) && (decide ((0 : Int) < ((List.length (M.SStream.Buffer s)) : Int)))) || ((!(M.SStream.Gone s)) && ((Go.IntKind.wrap Go.IntKind.i64 ((M.SStream.Put s) - (M.SStream.Got s))) != ((List.length (M.SStream.Buffer s)) : Int)))) then
 let q4 := (((Option.isSome q3) || (!(q2 == false))) && ((Option.isSome q1) && ((Option.isSome q0) && true)))
 bif q4 then
 some false
 else
 none
 else
 let q4 := (((Option.isSome q3) || (!(q2 == false))) && ((Option.isSome q1) && ((Option.isSome q0) && true)))
 bif q4 then
 some ((((!(M.SStream.Future s)) || (!(M.SStream.Shut s))) || ((M.SStream.Put s) == (1 : Int))) || (M.SStream.Gone s))
 else
 none
def i_Stream_leave_2 (s : Int) (s2 : (List UInt8)) (s3 : Int) (s4 : Bool) (s5 : Int) (s6 : Int) (s7 : Bool) (s8 : Bool) (o1 : (List (List UInt8))) (o2 : (List M.SType)) (o3 : (List M.SValue)) : Option (Int × Int × (List UInt8) × Int × Bool × Int × Int × Bool × Bool × (List (List UInt8)) × (List M.SType) × (List M.SValue)) :=
 bif s8 then
 some ((5 : Int), s, s2, s3, s4, s5, s6, s7, s8, o1, o2, o3)
 else
 some ((0 : Int), s, s2, s3, s4, s5, s6, s7, true, o1, o2, [])
def l_markText_l0 : Nat → Int → (List UInt8) → Option ((List UInt8))
 | 0, _, _ => none
 | fuel + 1, k, out =>
 bif (decide ((0 : Int) < k)) then
 let q0 := (Go.IntKind.wrap Go.IntKind.u8 (Go.IntKind.wrap Go.IntKind.i64 ((48 : Int) + (Int.tmod k (10 : Int)))))
 let q1 := (List.map (fun a => a) [(Go.V.u8of q0)])
 bif (((10 : Int) != (0 : Int)) && ((Go.V.catB q1 out) && (((Go.V.u8ok q0) && true) && (((10 : Int) != (0 : Int)) && true)))) then
 M.l_markText_l0 fuel (Go.IntKind.wrap Go.IntKind.i64 (Int.tdiv k (10 : Int))) (q1 ++ out)
 else
 none
 else
 some (out)
def l_markText (k : Int) : Option ((List UInt8)) :=
 bif (decide (k ≤ (0 : Int))) then
 some [(109 : UInt8), (48 : UInt8)]
 else
 match (M.l_markText_l0 Go.V.bigN k []) with
 | none => none
 | some y0 =>
 bif ((Go.V.catB [(109 : UInt8)] y0) && true) then
 some ([(109 : UInt8)] ++ y0)
 else
 none
def l_markStringS_l0 : Nat → Int → Int → (List (List UInt8)) → Option (Int × (List (List UInt8)))
 | 0, _, _, _ => none
 | fuel + 1, k, i, a =>
 bif (decide (i < ((List.length a) : Int))) then
 let q0 := (M.l_markText k)
 bif ((Go.V.inB i (List.length a)) && (((Option.isSome q0) && true) && true)) then
 M.l_markStringS_l0 fuel (Go.IntKind.wrap Go.IntKind.i64 (k + (1 : Int))) (Go.IntKind.wrap Go.IntKind.i64 (i + (1 : Int))) (List.set a (Int.toNat i) (Option.getD q0 default))
 else
 none
 else
 some ((k, a))
def l_markStringS (k : Int) (a : (List (List UInt8))) : Option (Int × (List (List UInt8))) :=
 match (M.l_markStringS_l0 Go.V.bigN k (0 : Int) a) with
 | none => none
 | some y0 =>
 some (y0.1, y0.2)
def l_markTypeS_l0 (rec_l_markTypeS : Int → (List M.SType) → Option (Int × (List M.SType))) : Nat → Int → Int → (List M.SType) → Option (Int × (List M.SType))
 | 0, _, _, _ => none
 | fuel + 1, k, i, a =>
 bif (decide (i < ((List.length a) : Int))) then
 let q0 := (List.set a (Int.toNat i) (M.SType.mk k (M.SType.Name (List.getD a (Int.toNat i) M.SType.zero)) (M.SType.Labels (List.getD a (Int.toNat i) M.SType.zero)) (M.SType.Kids (List.getD a (Int.toNat i) M.SType.zero))))
 let q1 := (List.getD q0 (Int.toNat i) M.SType.zero)
 let q2 := (M.l_markText (Go.IntKind.wrap Go.IntKind.i64 (k + (1 : Int))))
 let q3 := (List.set q0 (Int.toNat i) (M.SType.mk (M.SType.Kind q1) (Option.getD q2 default) (M.SType.Labels q1) (M.SType.Kids q1)))
 let q4 := (List.getD q3 (Int.toNat i) M.SType.zero)
 let q5 := (M.l_markStringS (Go.IntKind.wrap Go.IntKind.i64 ((Go.IntKind.wrap Go.IntKind.i64 (k + (1 : Int))) + (1 : Int))) (M.SType.Labels q4))
 let q6 := (Option.getD q5 default)
 let q7 := (List.set q3 (Int.toNat i) (M.SType.mk (M.SType.Kind q4) (M.SType.Name q4) q6.2 (M.SType.Kids q4)))
 let q8 := (List.getD q7 (Int.toNat i) M.SType.zero)
 bif (((Option.isSome (rec_l_markTypeS q6.1 (M.SType.Kids q8))) && true) && ((Go.V.inB i (List.length q7)) && (((Option.isSome q5) && true) && ((Go.V.inB i (List.length q3)) && ((Go.V.inB i (List.length q0)) && (((Option.isSome q2) && true) && ((Go.V.inB i (List.length a)) && true))))))) then
 let q9 := (Option.getD (rec_l_markTypeS q6.1 (M.SType.Kids q8)) default)
 M.l_markTypeS_l0 rec_l_markTypeS fuel q9.1 (Go.IntKind.wrap Go.IntKind.i64 (i + (1 : Int))) (List.set q7 (Int.toNat i) (M.SType.mk (M.SType.Kind q8) (M.SType.Name q8) (M.SType.Labels q8) q9.2))
 else
 none
 else
 some ((k, a))
def l_markTypeS_b (rec_l_markTypeS : Int → (List M.SType) → Option (Int × (List M.SType))) (k : Int) (a : (List M.SType)) : Option (Int × (List M.SType)) :=
 match (M.l_markTypeS_l0 rec_l_markTypeS Go.V.bigN k (0 : Int) a) with
 | none => none
 | some y0 =>
 some (y0.1, y0.2)
def l_markTypeS_n : Nat → Int → (List M.SType) → Option (Int × (List M.SType))
 | 0 => fun _ _ => none
 | n + 1 => l_markTypeS_b (l_markTypeS_n n)
def l_markTypeS : Int → (List M.SType) → Option (Int × (List M.SType)) := l_markTypeS_n Go.V.bigN
def l_markType (a : Int) (a2 : (List UInt8)) (k : Int) (o0 : (List (List UInt8))) (o1 : (List M.SType)) : Option (Int × (List (List UInt8)) × (List M.SType)) :=
 let q0 := (M.l_markStringS k o0)
 let q1 := (M.l_markTypeS (Option.getD q0 default).1 o1)
 bif (((Option.isSome q1) && true) && (((Option.isSome q0) && true) && true)) then
 let q2 := (Option.getD q1 default)
 some (q2.1, (Option.getD q0 default).2, q2.2)
 else
 none
def l_markValueS_l0 (rec_l_markValueS : Int → (List M.SValue) → Option (Int × (List M.SValue))) : Nat → Int → Int → (List M.SValue) → Option (Int × (List M.SValue))
 | 0, _, _, _ => none
 | fuel + 1, k, i, a =>
 bif (decide (i < ((List.length a) : Int))) then
 let q0 := (Go.IntKind.wrap Go.IntKind.i64 ((Go.IntKind.wrap Go.IntKind.i64 (k + (1 : Int))) + (1 : Int)))
 let q1 := (List.set a (Int.toNat i) (M.SValue.mk k (M.SValue.Num (List.getD a (Int.toNat i) M.SValue.zero)) (M.SValue.Text (List.getD a (Int.toNat i) M.SValue.zero)) (M.SValue.Kids (List.getD a (Int.toNat i) M.SValue.zero))))
 let q2 := (List.getD q1 (Int.toNat i) M.SValue.zero)
 let q3 := (List.set q1 (Int.toNat i) (M.SValue.mk (M.SValue.Kind q2) (Go.IntKind.wrap Go.IntKind.i64 (k + (1 : Int))) (M.SValue.Text q2) (M.SValue.Kids q2)))
 let q4 := (List.getD q3 (Int.toNat i) M.SValue.zero)
 let q5 := (M.l_markText q0)
 let q6 := (List.set q3 (Int.toNat i) (M.SValue.mk (M.SValue.Kind q4) (M.SValue.Num q4) (Option.getD q5 default) (M.SValue.Kids q4)))
 let q7 := (List.getD q6 (Int.toNat i) M.SValue.zero)
 bif (((Option.isSome (rec_l_markValueS (Go.IntKind.wrap Go.IntKind.i64 (q0 + (1 : Int))) (M.SValue.Kids q7))) && true) && ((Go.V.inB i (List.length q6)) && ((Go.V.inB i (List.length q3)) && (((Option.isSome q5) && true) && ((Go.V.inB i (List.length q1)) && ((Go.V.inB i (List.length a)) && true)))))) then
 let q8 := (Option.getD (rec_l_markValueS (Go.IntKind.wrap Go.IntKind.i64 (q0 + (1 : Int))) (M.SValue.Kids q7)) default)
 M.l_markValueS_l0 rec_l_markValueS fuel q8.1 (Go.IntKind.wrap Go.IntKind.i64 (i + (1 : Int))) (List.set q6 (Int.toNat i) (M.SValue.mk (M.SValue.Kind q7) (M.SValue.Num q7) (M.SValue.Text q7) q8.2))
 else
 none
 else
 some ((k, a))
def l_markValueS_b (rec_l_markValueS : Int → (List M.SValue) → Option (Int × (List M.SValue))) (k : Int) (a : (List M.SValue)) : Option (Int × (List M.SValue)) :=
 match (M.l_markValueS_l0 rec_l_markValueS Go.V.bigN k (0 : Int) a) with
 | none => none
 | some y0 =>
 some (y0.1, y0.2)
def l_markValueS_n : Nat → Int → (List M.SValue) → Option (Int × (List M.SValue))
 | 0 => fun _ _ => none
 | n + 1 => l_markValueS_b (l_markValueS_n n)
def l_markValueS : Int → (List M.SValue) → Option (Int × (List M.SValue)) := l_markValueS_n Go.V.bigN
def l_markStream (a : Int) (a2 : (List UInt8)) (a3 : Int) (a4 : Bool) (a5 : Int) (a6 : Int) (a7 : Bool) (a8 : Bool) (k : Int) (o0 : (List (List UInt8))) (o1 : (List M.SType)) (o2 : (List M.SValue)) : Option (Int × (List (List UInt8)) × (List M.SType) × (List M.SValue)) :=
 let q0 := (M.l_markType a a2 k o0 o1)
 let q1 := (Option.getD q0 default)
 let q2 := (M.l_markValueS q1.1 o2)
 bif (((Option.isSome q2) && true) && (((Option.isSome q0) && true) && true)) then
 let q3 := (Option.getD q2 default)
 let q4 := q1.2
 some (q3.1, q4.1, q4.2, q3.2)
 else
 none
def l_heldStringS_l0 (a : (List (List UInt8))) : Nat → Int → Int → Option ((Int) ⊕ (Int))
 | 0, _, _ => none
 | fuel + 1, k, i =>
 bif (decide (i < ((List.length a) : Int))) then
 let q0 := (M.l_markText k)
 bif (!((List.getD a (Int.toNat i) []) == (Option.getD q0 default))) then
 let q1 := ((Option.isSome q0) && ((Go.V.inB i (List.length a)) && true))
 bif q1 then
 some (.inl (-(1 : Int)))
 else
 none
 else
 let q1 := ((Option.isSome q0) && ((Go.V.inB i (List.length a)) && true))
 bif q1 then
 M.l_heldStringS_l0 a fuel (Go.IntKind.wrap Go.IntKind.i64 (k + (1 : Int))) (Go.IntKind.wrap Go.IntKind.i64 (i + (1 : Int)))
 else
 none
 else
 some ((.inr (k)))
def l_heldStringS (a : (List (List UInt8))) (k : Int) : Option (Int) :=
 match (M.l_heldStringS_l0 a Go.V.bigN k (0 : Int)) with
 | none => none
 | some y0 =>
 (match y0 with
 | .inl a1 =>
 some a1
 | .inr b1 =>
 some b1)
def l_heldTypeS_l0 (rec_l_heldTypeS : (List M.SType) → Int → Option (Int)) (a : (List M.SType)) : Nat → Int → Int → Option ((Int) ⊕ (Int))
 | 0, _, _ => none
 | fuel + 1, k, i =>
 bif (decide (i < ((List.length a) : Int))) then
 bif ((M.SType.Kind (List.getD a (Int.toNat i) M.SType.zero)) != k) then
 bif ((Go.V.inB i (List.length a)) && true) then
 some (.inl (-(1 : Int)))
 else
 none
 else
 let q0 := (M.l_markText (Go.IntKind.wrap Go.IntKind.i64 (k + (1 : Int))))
 bif (!((M.SType.Name (List.getD a (Int.toNat i) M.SType.zero)) == (Option.getD q0 default))) then
 let q1 := ((Option.isSome q0) && ((Go.V.inB i (List.length a)) && ((Go.V.inB i (List.length a)) && true)))
 bif q1 then
 some (.inl (-(1 : Int)))
 else
 none
 else
 let q1 := (M.l_heldStringS (M.SType.Labels (List.getD a (Int.toNat i) M.SType.zero)) (Go.IntKind.wrap Go.IntKind.i64 ((Go.IntKind.wrap Go.IntKind.i64 (k + (1 : Int))) + (1 : Int))))
 let q2 := (Option.getD q1 default)
 bif (decide (q2 < (0 : Int))) then
 let q3 := ((Option.isSome q0) && ((Go.V.inB i (List.length a)) && ((Go.V.inB i (List.length a)) && true)))
 let q4 := ((Option.isSome q1) && ((Go.V.inB i (List.length a)) && q3))
 bif q4 then
 some (.inl (-(1 : Int)))
 else
 none
 else
 let q3 := (Option.getD (rec_l_heldTypeS (M.SType.Kids (List.getD a (Int.toNat i) M.SType.zero)) q2) default)
 bif (decide (q3 < (0 : Int))) then
 let q4 := ((Option.isSome q0) && ((Go.V.inB i (List.length a)) && ((Go.V.inB i (List.length a)) && true)))
 let q5 := ((Option.isSome q1) && ((Go.V.inB i (List.length a)) && q4))
 let q6 := ((Option.isSome (rec_l_heldTypeS (M.SType.Kids (List.getD a (Int.toNat i) M.SType.zero)) q2)) && ((Go.V.inB i (List.length a)) && q5))
 bif q6 then
 some (.inl (-(1 : Int)))
 else
 none
 else
 let q4 := ((Option.isSome q0) && ((Go.V.inB i (List.length a)) && ((Go.V.inB i (List.length a)) && true)))
 let q5 := ((Option.isSome q1) && ((Go.V.inB i (List.length a)) && q4))
 let q6 := ((Option.isSome (rec_l_heldTypeS (M.SType.Kids (List.getD a (Int.toNat i) M.SType.zero)) q2)) && ((Go.V.inB i (List.length a)) && q5))
 bif q6 then
 M.l_heldTypeS_l0 rec_l_heldTypeS a fuel q3 (Go.IntKind.wrap Go.IntKind.i64 (i + (1 : Int)))
 else
 none
 else
 some ((.inr (k)))
def l_heldTypeS_b (rec_l_heldTypeS : (List M.SType) → Int → Option (Int)) (a : (List M.SType)) (k : Int) : Option (Int) :=
 match (M.l_heldTypeS_l0 rec_l_heldTypeS a Go.V.bigN k (0 : Int)) with
 | none => none
 | some y0 =>
 (match y0 with
 | .inl a1 =>
 some a1
 | .inr b1 =>
 some b1)
def l_heldTypeS_n : Nat → (List M.SType) → Int → Option (Int)
 | 0 => fun _ _ => none
 | n + 1 => l_heldTypeS_b (l_heldTypeS_n n)
def l_heldTypeS : (List M.SType) → Int → Option (Int) := l_heldTypeS_n Go.V.bigN
def l_heldType (a : M.SType) (k : Int) : Option (Int) :=
 let q0 := (M.l_heldStringS (M.SType.Labels a) k)
 bif (decide ((Option.getD q0 default) < (0 : Int))) then
 bif ((Option.isSome q0) && true) then
 some (-(1 : Int))
 else
 none
 else
 let q1 := (M.l_heldTypeS (M.SType.Kids a) (Option.getD q0 default))
 let q2 := (Option.getD q1 default)
 bif (decide (q2 < (0 : Int))) then
 let q3 := ((Option.isSome q1) && ((Option.isSome q0) && true))
 bif q3 then
 some (-(1 : Int))
 else
 none
 else
 let q3 := ((Option.isSome q1) && ((Option.isSome q0) && true))
 bif q3 then
 some q2
 else
 none
def l_heldValueS_l0 (rec_l_heldValueS : (List M.SValue) → Int → Option (Int)) (a : (List M.SValue)) : Nat → Int → Int → Option ((Int) ⊕ (Int))
 | 0, _, _ => none
 | fuel + 1, k, i =>
 bif (decide (i < ((List.length a) : Int))) then
 bif ((M.SValue.Kind (List.getD a (Int.toNat i) M.SValue.zero)) != k) then
 bif ((Go.V.inB i (List.length a)) && true) then
 some (.inl (-(1 : Int)))
 else
 none
 else
 bif ((M.SValue.Num (List.getD a (Int.toNat i) M.SValue.zero)) != (Go.IntKind.wrap Go.IntKind.i64 (k + (1 : Int)))) then
 let q0 := ((Go.V.inB i (List.length a)) && ((Go.V.inB i (List.length a)) && true))
 bif q0 then
 some (.inl (-(1 : Int)))
 else
 none
 else
 let q0 := (Go.IntKind.wrap Go.IntKind.i64 ((Go.IntKind.wrap Go.IntKind.i64 (k + (1 : Int))) + (1 : Int)))
 let q1 := (M.l_markText q0)
 bif (!((M.SValue.Text (List.getD a (Int.toNat i) M.SValue.zero)) == (Option.getD q1 default))) then
 let q2 := ((Go.V.inB i (List.length a)) && ((Go.V.inB i (List.length a)) && true))
 let q3 := ((Option.isSome q1) && ((Go.V.inB i (List.length a)) && q2))
 bif q3 then
 some (.inl (-(1 : Int)))
 else
 none
 else
 let q2 := (Option.getD (rec_l_heldValueS (M.SValue.Kids (List.getD a (Int.toNat i) M.SValue.zero)) (Go.IntKind.wrap Go.IntKind.i64 (q0 + (1 : Int)))) default)
 bif (decide (q2 < (0 : Int))) then
 let q3 := ((Go.V.inB i (List.length a)) && ((Go.V.inB i (List.length a)) && true))
 let q4 := ((Option.isSome q1) && ((Go.V.inB i (List.length a)) && q3))
 let q5 := ((Option.isSome (rec_l_heldValueS (M.SValue.Kids (List.getD a (Int.toNat i) M.SValue.zero)) (Go.IntKind.wrap Go.IntKind.i64 (q0 + (1 : Int))))) && ((Go.V.inB i (List.length a)) && q4))
 bif q5 then
 some (.inl (-(1 : Int)))
 else
 none
 else
 let q3 := ((Go.V.inB i (List.length a)) && ((Go.V.inB i (List.length a)) && true))
 let q4 := ((Option.isSome q1) && ((Go.V.inB i (List.length a)) && q3))
 let q5 := ((Option.isSome (rec_l_heldValueS (M.SValue.Kids (List.getD a (Int.toNat i) M.SValue.zero)) (Go.IntKind.wrap Go.IntKind.i64 (q0 + (1 : Int))))) && ((Go.V.inB i (List.length a)) && q4))
 bif q5 then
 M.l_heldValueS_l0 rec_l_heldValueS a fuel q2 (Go.IntKind.wrap Go.IntKind.i64 (i + (1 : Int)))
 else
 none
 else
 some ((.inr (k)))
def l_heldValueS_b (rec_l_heldValueS : (List M.SValue) → Int → Option (Int)) (a : (List M.SValue)) (k : Int) : Option (Int) :=
 match (M.l_heldValueS_l0 rec_l_heldValueS a Go.V.bigN k (0 : Int)) with
 | none => none
 | some y0 =>
 (match y0 with
 | .inl a1 =>
 some a1
 | .inr b1 =>
 some b1)
def l_heldValueS_n : Nat → (List M.SValue) → Int → Option (Int)
 | 0 => fun _ _ => none
 | n + 1 => l_heldValueS_b (l_heldValueS_n n)
def l_heldValueS : (List M.SValue) → Int → Option (Int) := l_heldValueS_n Go.V.bigN
def l_heldStream (a : M.SStream) (k : Int) : Option (Int) :=
 let q0 := (M.l_heldType (M.SType.re (M.SStream.Type_ a)) k)
 bif (decide ((Option.getD q0 default) < (0 : Int))) then
 bif ((Option.isSome q0) && true) then
 some (-(1 : Int))
 else
 none
 else
 let q1 := (M.l_heldValueS (M.SStream.Buffer a) (Option.getD q0 default))
 let q2 := (Option.getD q1 default)
 bif (decide (q2 < (0 : Int))) then
 let q3 := ((Option.isSome q1) && ((Option.isSome q0) && true))
 bif q3 then
 some (-(1 : Int))
 else
 none
 else
 let q3 := ((Option.isSome q1) && ((Option.isSome q0) && true))
 bif q3 then
 some q2
 else
 none
def s_l21Shut (s : M.SStream) : Option (M.SStream × Int) :=
 bif (M.SStream.Shut s) then
 some ((M.SStream.mk (M.SType.mk (0 : Int) [] [] []) (0 : Int) false [] (0 : Int) (0 : Int) false false), (5 : Int))
 else
 bif (((M.SStream.Future s) && (!(M.SStream.Gone s))) && ((M.SStream.Put s) == (0 : Int))) then
 some ((M.SStream.mk (M.SType.mk (0 : Int) [] [] []) (0 : Int) false [] (0 : Int) (0 : Int) false false), (3 : Int))
 else
 some ((M.SStream.mk (M.SType.re (M.SStream.Type_ s)) (M.SStream.Room s) (M.SStream.Future s) (M.SStream.Buffer s) (M.SStream.Put s) (M.SStream.Got s) true (M.SStream.Gone s)), (0 : Int))
def i_Stream_shut_2 (s : Int) (s2 : (List UInt8)) (s3 : Int) (s4 : Bool) (s5 : Int) (s6 : Int) (s7 : Bool) (s8 : Bool) (o1 : (List (List UInt8))) (o2 : (List M.SType)) (o3 : (List M.SValue)) : Option (Int × Int × (List UInt8) × Int × Bool × Int × Int × Bool × Bool × (List (List UInt8)) × (List M.SType) × (List M.SValue)) :=
 bif s7 then
 some ((5 : Int), s, s2, s3, s4, s5, s6, s7, s8, o1, o2, o3)
 else
 bif ((s4 && (s5 == (0 : Int))) && (!s8)) then
 some ((3 : Int), s, s2, s3, s4, s5, s6, s7, s8, o1, o2, o3)
 else
 some ((0 : Int), s, s2, s3, s4, s5, s6, true, s8, o1, o2, o3)
def s_l21Most (s : M.SStream) : Option (Int) :=
 bif (M.SStream.Future s) then
 some (1 : Int)
 else
 some (1000000 : Int)
def s_l00Min (a : Int) (b : Int) : Option (Int) :=
 bif (decide (a < b)) then
 some a
 else
 some b
def l_szStreamActS (a : (List M.SStreamAct)) (left : Int) : Option (Int) :=
 bif (decide ((Go.IntKind.wrap Go.IntKind.i64 (left - ((List.length a) : Int))) < (0 : Int))) then
 some (-(1 : Int))
 else
 some (Go.IntKind.wrap Go.IntKind.i64 (left - ((List.length a) : Int)))
def l_toStreamAct (a : M.SStreamAct) : Option (M.SStreamAct) :=
 some a
def l_toStreamActS_l0 (a : (List M.SStreamAct)) : Nat → Int → (List M.SStreamAct) → Option ((List M.SStreamAct))
 | 0, _, _ => none
 | fuel + 1, i, out =>
 bif (decide (i < ((List.length a) : Int))) then
 bif ((Go.V.inB i (List.length out)) && ((Go.V.inB i (List.length a)) && true)) then
 M.l_toStreamActS_l0 a fuel (Go.IntKind.wrap Go.IntKind.i64 (i + (1 : Int))) (List.set out (Int.toNat i) (List.getD a (Int.toNat i) M.SStreamAct.zero))
 else
 none
 else
 some (out)
def l_toStreamActS (a : (List M.SStreamAct)) : Option ((List M.SStreamAct)) :=
 match (M.l_toStreamActS_l0 a Go.V.bigN (0 : Int) (List.replicate (Int.toNat ((List.length a) : Int)) (M.SStreamAct.mk false false (0 : Int)))) with
 | none => none
 | some y0 =>
 bif (((decide (((List.length a) : Int) ≤ ((List.length a) : Int))) && (decide (((List.length a) : Int) ≤ (1073741824 : Int)))) && true) then
 some y0
 else
 none
def s_l21Numbers_l0 (first : Int) (many : Int) : Nat → Int → (List M.SValue) → Option ((List M.SValue))
 | 0, _, _ => none
 | fuel + 1, k, out =>
 bif (decide (k < many)) then
 let q0 := [(M.SValue.mk (9 : Int) (Go.IntKind.wrap Go.IntKind.i64 (first + k)) [] [])]
 bif ((decide (((List.length out) + (List.length q0)) ≤ 1073741824)) && true) then
 M.s_l21Numbers_l0 first many fuel (Go.IntKind.wrap Go.IntKind.i64 (k + (1 : Int))) (out ++ q0)
 else
 none
 else
 some (out)
def s_l21Numbers (first : Int) (many : Int) : Option ((List M.SValue)) :=
 match (M.s_l21Numbers_l0 first many Go.V.bigN (0 : Int) []) with
 | none => none
 | some y0 =>
 some y0
def i_PlayStream_c1 (a : M.SStreamAct) : Option (Bool) :=
 some ((!((decide ((0 : Int) ≤ (M.SStreamAct.Many a))) && (decide ((M.SStreamAct.Many a) ≤ (8 : Int))))) || ((M.SStreamAct.Close a) && ((M.SStreamAct.Many a) != (0 : Int))))
def slices_IndexFunc_StreamAct_StreamAct_l0 (s : (List M.SStreamAct)) (t7 : Int) : Nat → Int → Option ((Int) ⊕ (Unit))
 | 0, _ => none
 | fuel + 1, t8 =>
 bif (decide (t8 < t7)) then
 let q0 := (M.i_PlayStream_c1 (List.getD s (Int.toNat t8) M.SStreamAct.zero))
 bif (Option.getD q0 default) then
 let q1 := ((Option.isSome q0) && ((Go.V.inB t8 (List.length s)) && true))
 bif q1 then
 some (.inl t8)
 else
 none
 else
 let q1 := ((Option.isSome q0) && ((Go.V.inB t8 (List.length s)) && true))
 bif q1 then
 M.slices_IndexFunc_StreamAct_StreamAct_l0 s t7 fuel (Go.IntKind.wrap Go.IntKind.i64 (t8 + (1 : Int)))
 else
 none
 else
 some ((.inr (())))
def slices_IndexFunc_StreamAct_StreamAct (s : (List M.SStreamAct)) : Option (Int) :=
 match (M.slices_IndexFunc_StreamAct_StreamAct_l0 s ((List.length s) : Int) Go.V.bigN (0 : Int)) with
 | none => none
 | some y0 =>
 (match y0 with
 | .inl a1 =>
 some a1
 | .inr b1 =>
 some (-(1 : Int)))
def slices_ContainsFunc_StreamAct_StreamAct (s : (List M.SStreamAct)) : Option (Bool) :=
 let q0 := (M.slices_IndexFunc_StreamAct_StreamAct s)
 bif ((Option.isSome q0) && true) then
 some (decide ((0 : Int) ≤ (Option.getD q0 default)))
 else
 none
def l_eqStreamAct (a : M.SStreamAct) (b : M.SStreamAct) : Option (Bool) :=
 bif (!((M.SStreamAct.Write a) == (M.SStreamAct.Write b))) then
 some false
 else
 bif (!((M.SStreamAct.Close a) == (M.SStreamAct.Close b))) then
 some false
 else
 bif ((M.SStreamAct.Many a) != (M.SStreamAct.Many b)) then
 some false
 else
 some true
def l_eqStreamActS_l0 (a : (List M.SStreamAct)) (b : (List M.SStreamAct)) : Nat → Int → Option ((Bool) ⊕ (Unit))
 | 0, _ => none
 | fuel + 1, i =>
 bif (decide (i < ((List.length a) : Int))) then
 let q0 := (M.l_eqStreamAct (List.getD a (Int.toNat i) M.SStreamAct.zero) (List.getD b (Int.toNat i) M.SStreamAct.zero))
 bif (!(Option.getD q0 default)) then
 let q1 := ((Option.isSome q0) && ((Go.V.inB i (List.length b)) && ((Go.V.inB i (List.length a)) && true)))
 bif q1 then
 some (.inl false)
 else
 none
 else
 let q1 := ((Option.isSome q0) && ((Go.V.inB i (List.length b)) && ((Go.V.inB i (List.length a)) && true)))
 bif q1 then
 M.l_eqStreamActS_l0 a b fuel (Go.IntKind.wrap Go.IntKind.i64 (i + (1 : Int)))
 else
 none
 else
 some ((.inr (())))
def l_eqStreamActS (a : (List M.SStreamAct)) (b : (List M.SStreamAct)) : Option (Bool) :=
 bif (((List.length a) : Int) != ((List.length b) : Int)) then
 some false
 else
 match (M.l_eqStreamActS_l0 a b Go.V.bigN (0 : Int)) with
 | none => none
 | some y0 =>
 (match y0 with
 | .inl a1 =>
 some a1
 | .inr b1 =>
 some true)
def l_markStreamActS_l0 : Nat → Int → Int → (List M.SStreamAct) → Option (Int × (List M.SStreamAct))
 | 0, _, _, _ => none
 | fuel + 1, k, i, a =>
 bif (decide (i < ((List.length a) : Int))) then
 let q0 := (List.set a (Int.toNat i) (M.SStreamAct.mk ((Int.tmod k (3 : Int)) == (0 : Int)) (M.SStreamAct.Close (List.getD a (Int.toNat i) M.SStreamAct.zero)) (M.SStreamAct.Many (List.getD a (Int.toNat i) M.SStreamAct.zero))))
 let q1 := (List.getD q0 (Int.toNat i) M.SStreamAct.zero)
 let q2 := (List.set q0 (Int.toNat i) (M.SStreamAct.mk (M.SStreamAct.Write q1) ((Int.tmod (Go.IntKind.wrap Go.IntKind.i64 (k + (1 : Int))) (3 : Int)) == (0 : Int)) (M.SStreamAct.Many q1)))
 bif ((Go.V.inB i (List.length q2)) && ((Go.V.inB i (List.length q0)) && (((3 : Int) != (0 : Int)) && ((Go.V.inB i (List.length a)) && (((3 : Int) != (0 : Int)) && true))))) then
 let q3 := (Go.IntKind.wrap Go.IntKind.i64 ((Go.IntKind.wrap Go.IntKind.i64 (k + (1 : Int))) + (1 : Int)))
 let q4 := (List.getD q2 (Int.toNat i) M.SStreamAct.zero)
 M.l_markStreamActS_l0 fuel (Go.IntKind.wrap Go.IntKind.i64 (q3 + (1 : Int))) (Go.IntKind.wrap Go.IntKind.i64 (i + (1 : Int))) (List.set q2 (Int.toNat i) (M.SStreamAct.mk (M.SStreamAct.Write q4) (M.SStreamAct.Close q4) q3))
 else
 none
 else
 some ((k, a))
def l_markStreamActS (k : Int) (a : (List M.SStreamAct)) : Option (Int × (List M.SStreamAct)) :=
 match (M.l_markStreamActS_l0 Go.V.bigN k (0 : Int) a) with
 | none => none
 | some y0 =>
 some (y0.1, y0.2)
def l_szValueS_l0 (rec_l_szValue : M.SValue → Int → Option (Int)) (a : (List M.SValue)) : Nat → Int → Int → Option ((Int) ⊕ (Int))
 | 0, _, _ => none
 | fuel + 1, left, i =>
 bif (decide (i < ((List.length a) : Int))) then
 let q0 := (Option.getD (rec_l_szValue (M.SValue.re (List.getD a (Int.toNat i) M.SValue.zero)) left) default)
 bif (decide (q0 < (0 : Int))) then
 let q1 := ((Option.isSome (rec_l_szValue (M.SValue.re (List.getD a (Int.toNat i) M.SValue.zero)) left)) && ((Go.V.inB i (List.length a)) && true))
 bif q1 then
 some (.inl (-(1 : Int)))
 else
 none
 else
 let q1 := ((Option.isSome (rec_l_szValue (M.SValue.re (List.getD a (Int.toNat i) M.SValue.zero)) left)) && ((Go.V.inB i (List.length a)) && true))
 bif q1 then
 M.l_szValueS_l0 rec_l_szValue a fuel q0 (Go.IntKind.wrap Go.IntKind.i64 (i + (1 : Int)))
 else
 none
 else
 some ((.inr (left)))
def l_szValueS (rec_l_szValue : M.SValue → Int → Option (Int)) (a : (List M.SValue)) (left : Int) : Option (Int) :=
 bif (decide ((Go.IntKind.wrap Go.IntKind.i64 (left - ((List.length a) : Int))) < (0 : Int))) then
 some (-(1 : Int))
 else
 match (M.l_szValueS_l0 rec_l_szValue a Go.V.bigN (Go.IntKind.wrap Go.IntKind.i64 (left - ((List.length a) : Int))) (0 : Int)) with
 | none => none
 | some y0 =>
 (match y0 with
 | .inl a1 =>
 some a1
 | .inr b1 =>
 some b1)
def l_szValue_b (rec_l_szValue : M.SValue → Int → Option (Int)) (a : M.SValue) (left : Int) : Option (Int) :=
 bif (decide ((Go.IntKind.wrap Go.IntKind.i64 (left - ((List.length (M.SValue.Text a)) : Int))) < (0 : Int))) then
 some (-(1 : Int))
 else
 let q0 := (M.l_szValueS rec_l_szValue (M.SValue.Kids a) (Go.IntKind.wrap Go.IntKind.i64 (left - ((List.length (M.SValue.Text a)) : Int))))
 let q1 := (Option.getD q0 default)
 bif (decide (q1 < (0 : Int))) then
 let q2 := ((Option.isSome q0) && true)
 bif q2 then
 some (-(1 : Int))
 else
 none
 else
 let q2 := ((Option.isSome q0) && true)
 bif q2 then
 some q1
 else
 none
def l_szValue_n : Nat → M.SValue → Int → Option (Int)
 | 0 => fun _ _ => none
 | n + 1 => l_szValue_b (l_szValue_n n)
def l_szValue : M.SValue → Int → Option (Int) := l_szValue_n Go.V.bigN
def l_toValueS_l0 (rec_l_toValue : M.SValue → Option (Int × Int × (List UInt8) × (List M.SValue))) (a : (List M.SValue)) : Nat → Int → (List M.SValue) → Option ((List M.SValue))
 | 0, _, _ => none
 | fuel + 1, i, out =>
 bif (decide (i < ((List.length a) : Int))) then
 bif ((Go.V.inB i (List.length out)) && ((Option.isSome (rec_l_toValue (M.SValue.re (List.getD a (Int.toNat i) M.SValue.zero)))) && ((Go.V.inB i (List.length a)) && true))) then
 let q0 := (Option.getD (rec_l_toValue (M.SValue.re (List.getD a (Int.toNat i) M.SValue.zero))) default)
 let q1 := q0.2
 let q2 := q1.2
 M.l_toValueS_l0 rec_l_toValue a fuel (Go.IntKind.wrap Go.IntKind.i64 (i + (1 : Int))) (List.set out (Int.toNat i) (M.SValue.mk q0.1 q1.1 q2.1 q2.2))
 else
 none
 else
 some (out)
def l_toValueS (rec_l_toValue : M.SValue → Option (Int × Int × (List UInt8) × (List M.SValue))) (a : (List M.SValue)) : Option ((List M.SValue)) :=
 match (M.l_toValueS_l0 rec_l_toValue a Go.V.bigN (0 : Int) (List.replicate (Int.toNat ((List.length a) : Int)) (M.SValue.mk (0 : Int) (0 : Int) [] []))) with
 | none => none
 | some y0 =>
 bif (((decide (((List.length a) : Int) ≤ ((List.length a) : Int))) && (decide (((List.length a) : Int) ≤ (1073741824 : Int)))) && true) then
 some y0
 else
 none
def l_toValue_b (rec_l_toValue : M.SValue → Option (Int × Int × (List UInt8) × (List M.SValue))) (a : M.SValue) : Option (Int × Int × (List UInt8) × (List M.SValue)) :=
 let q0 := (M.l_toValueS rec_l_toValue (M.SValue.Kids a))
 bif ((Option.isSome q0) && true) then
 some ((M.SValue.Kind a), (M.SValue.Num a), (M.SValue.Text a), (Option.getD q0 default))
 else
 none
def l_toValue_n : Nat → M.SValue → Option (Int × Int × (List UInt8) × (List M.SValue))
 | 0 => fun _ => none
 | n + 1 => l_toValue_b (l_toValue_n n)
def l_toValue : M.SValue → Option (Int × Int × (List UInt8) × (List M.SValue)) := l_toValue_n Go.V.bigN
def l_szStream (a : M.SStream) (left : Int) : Option (Int) :=
 let q0 := (M.l_szType (M.SType.re (M.SStream.Type_ a)) left)
 bif (decide ((Option.getD q0 default) < (0 : Int))) then
 bif ((Option.isSome q0) && true) then
 some (-(1 : Int))
 else
 none
 else
 let q1 := (M.l_szValueS M.l_szValue (M.SStream.Buffer a) (Option.getD q0 default))
 let q2 := (Option.getD q1 default)
 bif (decide (q2 < (0 : Int))) then
 let q3 := ((Option.isSome q1) && ((Option.isSome q0) && true))
 bif q3 then
 some (-(1 : Int))
 else
 none
 else
 let q3 := ((Option.isSome q1) && ((Option.isSome q0) && true))
 bif q3 then
 some q2
 else
 none
def l_toStream (a : M.SStream) : Option (Int × (List UInt8) × Int × Bool × Int × Int × Bool × Bool × (List (List UInt8)) × (List M.SType) × (List M.SValue)) :=
 let q0 := (M.l_toValueS M.l_toValue (M.SStream.Buffer a))
 let q1 := (M.l_toType (M.SType.re (M.SStream.Type_ a)))
 bif ((Option.isSome q0) && ((Option.isSome q1) && true)) then
 let q2 := (Option.getD q1 default)
 let q3 := q2.2
 let q4 := q3.2
 some (q2.1, q3.1, (M.SStream.Room a), (M.SStream.Future a), (M.SStream.Put a), (M.SStream.Got a), (M.SStream.Shut a), (M.SStream.Gone a), q4.1, q4.2, (Option.getD q0 default))
 else
 none
def s_l21Values_l0 (list : (List M.SValue)) : Nat → Int → (List M.SValue) → Option ((List M.SValue))
 | 0, _, _ => none
 | fuel + 1, i, out =>
 bif (decide (i < ((List.length list) : Int))) then
 let q0 := (M.s_l21Value (M.SValue.re (List.getD list (Int.toNat i) M.SValue.zero)))
 let q1 := [(M.SValue.re (Option.getD q0 default))]
 bif ((decide (((List.length out) + (List.length q1)) ≤ 1073741824)) && ((Option.isSome q0) && ((Go.V.inB i (List.length list)) && true))) then
 M.s_l21Values_l0 list fuel (Go.IntKind.wrap Go.IntKind.i64 (i + (1 : Int))) (out ++ q1)
 else
 none
 else
 some (out)
def s_l21Values (list : (List M.SValue)) : Option ((List M.SValue)) :=
 match (M.s_l21Values_l0 list Go.V.bigN (0 : Int) []) with
 | none => none
 | some y0 =>
 some y0
def s_l21Own (s : M.SStream) : Option (M.SStream) :=
 let q0 := (M.s_l21Values (M.SStream.Buffer s))
 let q1 := (M.s_l03Own (M.SType.re (M.SStream.Type_ s)))
 bif ((Option.isSome q0) && ((Option.isSome q1) && true)) then
 some (M.SStream.mk (M.SType.re (Option.getD q1 default)) (M.SStream.Room s) (M.SStream.Future s) (Option.getD q0 default) (M.SStream.Put s) (M.SStream.Got s) (M.SStream.Shut s) (M.SStream.Gone s))
 else
 none
def s_l21Write (s : M.SStream) (list : (List M.SValue)) : Option (M.SStream × Int × Int) :=
 let q0 := (M.s_l21Most (M.SStream.re s))
 bif ((decide ((8 : Int) < ((List.length list) : Int))) || (decide ((Option.getD q0 default) < (Go.IntKind.wrap Go.IntKind.i64 ((M.SStream.Put s) + ((List.length list) : Int)))))) then
 let q1 := (((Option.isSome q0) || (!((decide ((8 : Int) < ((List.length list) : Int))) == false))) && true)
 bif q1 then
 some ((M.SStream.mk (M.SType.mk (0 : Int) [] [] []) (0 : Int) false [] (0 : Int) (0 : Int) false false), (0 : Int), (4 : Int))
 else
 none
 else
 bif (M.SStream.Shut s) then
 let q1 := (((Option.isSome q0) || (!((decide ((8 : Int) < ((List.length list) : Int))) == false))) && true)
 bif q1 then
 some ((M.SStream.mk (M.SType.mk (0 : Int) [] [] []) (0 : Int) false [] (0 : Int) (0 : Int) false false), (0 : Int), (5 : Int))
 else
 none
 else
 bif (M.SStream.Gone s) then
 let q1 := (((Option.isSome q0) || (!((decide ((8 : Int) < ((List.length list) : Int))) == false))) && true)
 bif q1 then
 some ((M.SStream.mk (M.SType.mk (0 : Int) [] [] []) (0 : Int) false [] (0 : Int) (0 : Int) false false), (0 : Int), (17 : Int))
 else
 none
 else
 let q1 := (M.s_l21Values (M.SStream.Buffer s))
 let q2 := (M.s_l00Min ((List.length list) : Int) (Go.IntKind.wrap Go.IntKind.i64 ((M.SStream.Room s) - ((List.length (M.SStream.Buffer s)) : Int))))
 let q3 := (Option.getD q2 default)
 let q4 := (M.s_l21Values (List.drop (Int.toNat (0 : Int)) (List.take (Int.toNat q3) list)))
 let q5 := (Option.getD q4 default)
 let q6 := (((Option.isSome q0) || (!((decide ((8 : Int) < ((List.length list) : Int))) == false))) && true)
 bif ((decide (((List.length (Option.getD q1 default)) + (List.length q5)) ≤ 1073741824)) && ((Option.isSome q4) && ((Go.V.slB (0 : Int) q3 (List.length list)) && ((Option.isSome q1) && ((Option.isSome q2) && q6))))) then
 some ((M.SStream.mk (M.SType.re (M.SStream.Type_ s)) (M.SStream.Room s) (M.SStream.Future s) ((Option.getD q1 default) ++ q5) (Go.IntKind.wrap Go.IntKind.i64 ((M.SStream.Put s) + q3)) (M.SStream.Got s) (M.SStream.Shut s) (M.SStream.Gone s)), q3, (0 : Int))
 else
 none
end M

namespace M
def l_eqValueS_l0 (rec_l_eqValue : M.SValue → M.SValue → Option (Bool)) (a : (List M.SValue)) (b : (List M.SValue)) : Nat → Int → Option ((Bool) ⊕ (Unit))
 | 0, _ => none
 | fuel + 1, i =>
 bif (decide (i < ((List.length a) : Int))) then
 bif (!(Option.getD (rec_l_eqValue (M.SValue.re (List.getD a (Int.toNat i) M.SValue.zero)) (M.SValue.re (List.getD b (Int.toNat i) M.SValue.zero))) default)) then
 let q0 := ((Option.isSome (rec_l_eqValue (M.SValue.re (List.getD a (Int.toNat i) M.SValue.zero)) (M.SValue.re (List.getD b (Int.toNat i) M.SValue.zero)))) && ((Go.V.inB i (List.length b)) && ((Go.V.inB i (List.length a)) && true)))
 bif q0 then
 some (.inl false)
 else
 none
 else
 let q0 := ((Option.isSome (rec_l_eqValue (M.SValue.re (List.getD a (Int.toNat i) M.SValue.zero)) (M.SValue.re (List.getD b (Int.toNat i) M.SValue.zero)))) && ((Go.V.inB i (List.length b)) && ((Go.V.inB i (List.length a)) && true)))
 bif q0 then
 M.l_eqValueS_l0 rec_l_eqValue a b fuel (Go.IntKind.wrap Go.IntKind.i64 (i + (1 : Int)))
 else
 none
 else
 some ((.inr (())))
def l_eqValueS (rec_l_eqValue : M.SValue → M.SValue → Option (Bool)) (a : (List M.SValue)) (b : (List M.SValue)) : Option (Bool) :=
 bif (((List.length a) : Int) != ((List.length b) : Int)) then
 some false
 else
 match (M.l_eqValueS_l0 rec_l_eqValue a b Go.V.bigN (0 : Int)) with
 | none => none
 | some y0 =>
 (match y0 with
 | .inl a1 =>
 some a1
 | .inr b1 =>
 some true)
def l_eqValue_b (rec_l_eqValue : M.SValue → M.SValue → Option (Bool)) (a : M.SValue) (b : M.SValue) : Option (Bool) :=
 bif ((M.SValue.Kind a) != (M.SValue.Kind b)) then
 some false
 else
 bif ((M.SValue.Num a) != (M.SValue.Num b)) then
 some false
 else
 bif (!((M.SValue.Text a) == (M.SValue.Text b))) then
 some false
 else
 let q0 := (M.l_eqValueS rec_l_eqValue (M.SValue.Kids a) (M.SValue.Kids b))
 bif (!(Option.getD q0 default)) then
 bif ((Option.isSome q0) && true) then
 some false
 else
 none
 else
 bif ((Option.isSome q0) && true) then
 some true
 else
 none
def l_eqValue_n : Nat → M.SValue → M.SValue → Option (Bool)
 | 0 => fun _ _ => none
 | n + 1 => l_eqValue_b (l_eqValue_n n)
def l_eqValue : M.SValue → M.SValue → Option (Bool) := l_eqValue_n Go.V.bigN
def i_copyValues_l0 (rec_i_copyValue : M.SValue → Option (Int × Int × (List UInt8) × (List M.SValue))) (t7 : (List M.SValue)) (t8 : Int) : Nat → Int → (List M.SValue) → Option ((List M.SValue))
 | 0, _, _ => none
 | fuel + 1, t9, out =>
 bif (decide (t9 < t8)) then
 let q0 := (Option.getD (rec_i_copyValue (M.SValue.re (List.getD t7 (Int.toNat t9) M.SValue.zero))) default)
 let q1 := q0.2
 let q2 := q1.2
 let q3 := [(M.SValue.mk q0.1 q1.1 q2.1 q2.2)]
 bif ((decide (((List.length out) + (List.length q3)) ≤ 1073741824)) && ((Option.isSome (rec_i_copyValue (M.SValue.re (List.getD t7 (Int.toNat t9) M.SValue.zero)))) && ((Go.V.inB t9 (List.length t7)) && true))) then
 M.i_copyValues_l0 rec_i_copyValue t7 t8 fuel (Go.IntKind.wrap Go.IntKind.i64 (t9 + (1 : Int))) (out ++ q3)
 else
 none
 else
 some (out)
def i_copyValues (rec_i_copyValue : M.SValue → Option (Int × Int × (List UInt8) × (List M.SValue))) (list : (List M.SValue)) : Option ((List M.SValue)) :=
 match (M.i_copyValues_l0 rec_i_copyValue list ((List.length list) : Int) Go.V.bigN (0 : Int) []) with
 | none => none
 | some y0 =>
 some y0
def i_copyValue_b (rec_i_copyValue : M.SValue → Option (Int × Int × (List UInt8) × (List M.SValue))) (v : M.SValue) : Option (Int × Int × (List UInt8) × (List M.SValue)) :=
 let q0 := (M.i_copyValues rec_i_copyValue (M.SValue.Kids v))
 bif ((Option.isSome q0) && true) then
 some ((M.SValue.Kind v), (M.SValue.Num v), (M.SValue.Text v), (Option.getD q0 default))
 else
 none
def i_copyValue_n : Nat → M.SValue → Option (Int × Int × (List UInt8) × (List M.SValue))
 | 0 => fun _ => none
 | n + 1 => i_copyValue_b (i_copyValue_n n)
def i_copyValue : M.SValue → Option (Int × Int × (List UInt8) × (List M.SValue)) := i_copyValue_n Go.V.bigN
def s_PlayStream_l0 (first : Int) (list : (List M.SStreamAct)) (t6 : Int) (t62 : (List UInt8)) (t63 : Int) (t64 : Bool) (t65 : Int) (t66 : Int) (t67 : Bool) (t68 : Bool) (o5 : (List (List UInt8))) (o6 : (List M.SType)) (o7 : (List M.SValue)) : Nat → Int → M.SStream → Option ((Int × Int × (List UInt8) × Int × Bool × Int × Int × Bool × Bool × (List M.SValue) × (List (List UInt8)) × (List M.SType) × (List M.SValue)) ⊕ (Int × (List M.SStreamAct) × M.SStream × Int × (List UInt8) × Int × Bool × Int × Int × Bool × Bool × (List (List UInt8)) × (List M.SType) × (List M.SValue)))
 | 0, _, _ => none
 | fuel + 1, i, s =>
 bif (decide (i < ((List.length list) : Int))) then
 let q0 := (!((decide ((0 : Int) ≤ (M.SStreamAct.Many (List.getD list (Int.toNat i) M.SStreamAct.zero)))) && (decide ((M.SStreamAct.Many (List.getD list (Int.toNat i) M.SStreamAct.zero)) ≤ (8 : Int)))))
 bif (q0 || ((M.SStreamAct.Close (List.getD list (Int.toNat i) M.SStreamAct.zero)) && ((M.SStreamAct.Many (List.getD list (Int.toNat i) M.SStreamAct.zero)) != (0 : Int)))) then
 let q1 := (q0 == false)
 let q2 := (((Go.V.inB i (List.length list)) || (!(q1 && ((M.SStreamAct.Close (List.getD list (Int.toNat i) M.SStreamAct.zero)) == true)))) && (((Go.V.inB i (List.length list)) || (!q1)) && ((Go.V.inB i (List.length list)) && true)))
 bif q2 then
 some (.inl ((1 : Int), (0 : Int), [], (0 : Int), false, (0 : Int), (0 : Int), false, false, [], [], [], []))
 else
 none
 else
 let q1 := (q0 == false)
 let q2 := (((Go.V.inB i (List.length list)) || (!(q1 && ((M.SStreamAct.Close (List.getD list (Int.toNat i) M.SStreamAct.zero)) == true)))) && (((Go.V.inB i (List.length list)) || (!q1)) && ((Go.V.inB i (List.length list)) && true)))
 bif q2 then
 M.s_PlayStream_l0 first list t6 t62 t63 t64 t65 t66 t67 t68 o5 o6 o7 fuel (Go.IntKind.wrap Go.IntKind.i64 (i + (1 : Int))) (M.SStream.re s)
 else
 none
 else
 some ((.inr ((first, list, (M.SStream.re s), t6, t62, t63, t64, t65, t66, t67, t68, o5, o6, o7))))
def s_l21Read (s : M.SStream) (most : Int) : Option (M.SStream × (List M.SValue) × Int) :=
 bif (M.SStream.Gone s) then
 some ((M.SStream.mk (M.SType.mk (0 : Int) [] [] []) (0 : Int) false [] (0 : Int) (0 : Int) false false), [], (5 : Int))
 else
 bif ((((List.length (M.SStream.Buffer s)) : Int) == (0 : Int)) && (M.SStream.Shut s)) then
 some ((M.SStream.mk (M.SType.mk (0 : Int) [] [] []) (0 : Int) false [] (0 : Int) (0 : Int) false false), [], (3 : Int))
 else
 let q0 := (M.s_l00Min most ((List.length (M.SStream.Buffer s)) : Int))
 let q1 := (Option.getD q0 default)
 let q2 := (Int.toNat q1)
 let q3 := (M.s_l21Values (List.drop q2 (List.take (Int.toNat ((List.length (M.SStream.Buffer s)) : Int)) (M.SStream.Buffer s))))
 let q4 := (M.s_l21Values (List.drop (Int.toNat (0 : Int)) (List.take q2 (M.SStream.Buffer s))))
 bif ((Option.isSome q3) && ((Go.V.slB q1 ((List.length (M.SStream.Buffer s)) : Int) (List.length (M.SStream.Buffer s))) && ((Option.isSome q4) && ((Go.V.slB (0 : Int) q1 (List.length (M.SStream.Buffer s))) && ((Option.isSome q0) && true))))) then
 some ((M.SStream.mk (M.SType.re (M.SStream.Type_ s)) (M.SStream.Room s) (M.SStream.Future s) (Option.getD q3 default) (M.SStream.Put s) (Go.IntKind.wrap Go.IntKind.i64 ((M.SStream.Got s) + q1)) (M.SStream.Shut s) (M.SStream.Gone s)), (Option.getD q4 default), (0 : Int))
 else
 none
def s_PlayStream_l1 (list : (List M.SStreamAct)) (t6 : Int) (t62 : (List UInt8)) (t63 : Int) (t64 : Bool) (t65 : Int) (t66 : Int) (t67 : Bool) (t68 : Bool) (o7 : (List (List UInt8))) (o8 : (List M.SType)) (o9 : (List M.SValue)) : Nat → Int → Int → M.SStream → (List M.SValue) → Option (Int × (List UInt8) × Int × Bool × Int × Int × Bool × Bool × M.SStream × (List M.SValue) × (List (List UInt8)) × (List M.SType) × (List M.SValue))
 | 0, _, _, _, _ => none
 | fuel + 1, first, i, x, got =>
 bif (decide (i < ((List.length list) : Int))) then
 bif ((M.SStreamAct.Write (List.getD list (Int.toNat i) M.SStreamAct.zero)) && (M.SStreamAct.Close (List.getD list (Int.toNat i) M.SStreamAct.zero))) then
 let q0 := (M.s_l21Shut (M.SStream.re x))
 bif ((Option.getD q0 default).2 == (0 : Int)) then
 let q1 := ((Option.isSome q0) && ((Go.V.inB i (List.length list)) && true))
 bif q1 then
 M.s_PlayStream_l1 list t6 t62 t63 t64 t65 t66 t67 t68 o7 o8 o9 fuel first (Go.IntKind.wrap Go.IntKind.i64 (i + (1 : Int))) (M.SStream.re (Option.getD q0 default).1) got
 else
 none
 else
 let q1 := ((Option.isSome q0) && ((Go.V.inB i (List.length list)) && true))
 bif q1 then
 M.s_PlayStream_l1 list t6 t62 t63 t64 t65 t66 t67 t68 o7 o8 o9 fuel first (Go.IntKind.wrap Go.IntKind.i64 (i + (1 : Int))) (M.SStream.re x) got
 else
 none
 else
 bif (M.SStreamAct.Close (List.getD list (Int.toNat i) M.SStreamAct.zero)) then
 let q0 := (M.s_l21Leave (M.SStream.re x))
 bif ((Option.getD q0 default).2 == (0 : Int)) then
 let q1 := ((Option.isSome q0) && ((Go.V.inB i (List.length list)) && true))
 bif q1 then
 M.s_PlayStream_l1 list t6 t62 t63 t64 t65 t66 t67 t68 o7 o8 o9 fuel first (Go.IntKind.wrap Go.IntKind.i64 (i + (1 : Int))) (M.SStream.re (Option.getD q0 default).1) got
 else
 none
 else
 let q1 := ((Option.isSome q0) && ((Go.V.inB i (List.length list)) && true))
 bif q1 then
 M.s_PlayStream_l1 list t6 t62 t63 t64 t65 t66 t67 t68 o7 o8 o9 fuel first (Go.IntKind.wrap Go.IntKind.i64 (i + (1 : Int))) (M.SStream.re x) got
 else
 none
 else
 bif (M.SStreamAct.Write (List.getD list (Int.toNat i) M.SStreamAct.zero)) then
 let q0 := (M.s_l21Numbers first (M.SStreamAct.Many (List.getD list (Int.toNat i) M.SStreamAct.zero)))
 let q1 := (M.s_l21Write (M.SStream.re x) (Option.getD q0 default))
 let q2 := (Option.getD q1 default)
 let q3 := q2.2
 bif (q3.2 == (0 : Int)) then
 let q4 := ((Option.isSome q1) && ((Option.isSome q0) && ((Go.V.inB i (List.length list)) && true)))
 bif q4 then
 let q5 := (Go.IntKind.wrap Go.IntKind.i64 (first + q3.1))
 M.s_PlayStream_l1 list t6 t62 t63 t64 t65 t66 t67 t68 o7 o8 o9 fuel q5 (Go.IntKind.wrap Go.IntKind.i64 (i + (1 : Int))) (M.SStream.re q2.1) got
 else
 none
 else
 let q4 := ((Option.isSome q1) && ((Option.isSome q0) && ((Go.V.inB i (List.length list)) && true)))
 bif q4 then
 let q5 := (Go.IntKind.wrap Go.IntKind.i64 (first + q3.1))
 M.s_PlayStream_l1 list t6 t62 t63 t64 t65 t66 t67 t68 o7 o8 o9 fuel q5 (Go.IntKind.wrap Go.IntKind.i64 (i + (1 : Int))) (M.SStream.re x) got
 else
 none
 else
 let q0 := (M.s_l00Max (M.SStreamAct.Many (List.getD list (Int.toNat i) M.SStreamAct.zero)) (1 : Int))
 let q1 := (M.s_l21Read (M.SStream.re x) (Option.getD q0 default))
 let q2 := (Option.getD q1 default)
 let q3 := q2.2
 bif (q3.2 == (0 : Int)) then
 let q4 := q3.1
 let q5 := ((decide (((List.length got) + (List.length q4)) ≤ 1073741824)) && ((Option.isSome q1) && ((Option.isSome q0) && ((Go.V.inB i (List.length list)) && true))))
 bif q5 then
 let q6 := (got ++ q4)
 M.s_PlayStream_l1 list t6 t62 t63 t64 t65 t66 t67 t68 o7 o8 o9 fuel first (Go.IntKind.wrap Go.IntKind.i64 (i + (1 : Int))) (M.SStream.re q2.1) q6
 else
 none
 else
 let q4 := q3.1
 let q5 := ((decide (((List.length got) + (List.length q4)) ≤ 1073741824)) && ((Option.isSome q1) && ((Option.isSome q0) && ((Go.V.inB i (List.length list)) && true))))
 bif q5 then
 let q6 := (got ++ q4)
 M.s_PlayStream_l1 list t6 t62 t63 t64 t65 t66 t67 t68 o7 o8 o9 fuel first (Go.IntKind.wrap Go.IntKind.i64 (i + (1 : Int))) (M.SStream.re x) q6
 else
 none
 else
 some ((t6, t62, t63, t64, t65, t66, t67, t68, (M.SStream.re x), got, o7, o8, o9))
def s_PlayStream (s : M.SStream) (first : Int) (list : (List M.SStreamAct)) : Option (M.SStream × (List M.SValue) × Int) :=
 let q0 := (M.s_StreamOk (M.SStream.re s))
 bif (!(Option.getD q0 default)) then
 bif ((Option.isSome q0) && true) then
 some ((M.SStream.mk (M.SType.mk (0 : Int) [] [] []) (0 : Int) false [] (0 : Int) (0 : Int) false false), [], (1 : Int))
 else
 none
 else
 bif ((M.SType.Kind (M.SStream.Type_ s)) != (9 : Int)) then
 bif ((Option.isSome q0) && true) then
 some ((M.SStream.mk (M.SType.mk (0 : Int) [] [] []) (0 : Int) false [] (0 : Int) (0 : Int) false false), [], (7 : Int))
 else
 none
 else
 bif (!((decide ((-(1000000 : Int)) ≤ first)) && (decide (first ≤ (1000000 : Int))))) then
 bif ((Option.isSome q0) && true) then
 some ((M.SStream.mk (M.SType.mk (0 : Int) [] [] []) (0 : Int) false [] (0 : Int) (0 : Int) false false), [], (2 : Int))
 else
 none
 else
 bif (decide ((60 : Int) < ((List.length list) : Int))) then
 bif ((Option.isSome q0) && true) then
 some ((M.SStream.mk (M.SType.mk (0 : Int) [] [] []) (0 : Int) false [] (0 : Int) (0 : Int) false false), [], (4 : Int))
 else
 none
 else
 match (M.s_PlayStream_l0 first list (0 : Int) [] (0 : Int) false (0 : Int) (0 : Int) false false [] [] [] Go.V.bigN (0 : Int) (M.SStream.re s)) with
 | none => none
 | some y1 =>
 (match y1 with
 | .inl a2 =>
 bif ((Option.isSome q0) && true) then
 let q3 := a2.2
 let q4 := q3.2
 let q5 := q4.2
 let q6 := q5.2
 let q7 := q6.2
 let q8 := q7.2
 let q9 := q8.2
 let q10 := q9.2
 let q11 := q10.2
 let q12 := q11.2
 let q13 := q12.2
 some ((M.SStream.mk (M.SType.mk q3.1 q4.1 q12.1 q13.1) q5.1 q6.1 q13.2 q7.1 q8.1 q9.1 q10.1), q11.1, a2.1)
 else
 none
 | .inr b2 =>
 let q3 := b2.2
 let q4 := q3.2
 let q5 := q4.2
 let q6 := q5.2
 let q7 := q6.2
 let q8 := q7.2
 let q9 := q8.2
 let q10 := q9.2
 let q11 := q10.2
 let q12 := q11.2
 let q13 := q12.2
 let q14 := q13.2
 let q15 := (M.s_l21Own (M.SStream.re q4.1))
 match (M.s_PlayStream_l1 q3.1 q5.1 q6.1 q7.1 q8.1 q9.1 q10.1 q11.1 q12.1 q13.1 q14.1 q14.2 Go.V.bigN b2.1 (0 : Int) (M.SStream.re (Option.getD q15 default)) []) with
 | none => none
 | some y16 =>
 let q17 := y16.2.2.2.2.2.2.2.2
 let q18 := (M.s_l21Own (M.SStream.re q17.1))
 bif ((Option.isSome q18) && ((Option.isSome q15) && ((Option.isSome q0) && true))) then
 some ((M.SStream.re (Option.getD q18 default)), q17.2.1, (0 : Int))
 else
 none)
def i_copyStream (s : M.SStream) : Option (Int × (List UInt8) × Int × Bool × Int × Int × Bool × Bool × (List (List UInt8)) × (List M.SType) × (List M.SValue)) :=
 let q0 := (M.i_copyValues M.i_copyValue (M.SStream.Buffer s))
 let q1 := (M.i_copyType (M.SType.re (M.SStream.Type_ s)))
 bif ((Option.isSome q0) && ((Option.isSome q1) && true)) then
 let q2 := (Option.getD q1 default)
 let q3 := q2.2
 let q4 := q3.2
 some (q2.1, q3.1, (M.SStream.Room s), (M.SStream.Future s), (M.SStream.Put s), (M.SStream.Got s), (M.SStream.Shut s), (M.SStream.Gone s), q4.1, q4.2, (Option.getD q0 default))
 else
 none
def i_wide (n : Int) : Option (Int × Int × (List UInt8) × (List M.SValue)) :=
 some ((9 : Int), n, [], [])
def i_consecutive_l0 (first : Int) (t8 : Int) : Nat → Int → (List M.SValue) → Option ((List M.SValue))
 | 0, _, _ => none
 | fuel + 1, t9, list =>
 bif (decide (t9 < t8)) then
 let q0 := [(M.SValue.mk (9 : Int) (Go.IntKind.wrap Go.IntKind.i64 (first + t9)) [] [])]
 bif ((decide (((List.length list) + (List.length q0)) ≤ 1073741824)) && true) then
 M.i_consecutive_l0 first t8 fuel (Go.IntKind.wrap Go.IntKind.i64 (t9 + (1 : Int))) (list ++ q0)
 else
 none
 else
 some (list)
def i_consecutive (first : Int) (many : Int) : Option ((List M.SValue)) :=
 match (M.i_consecutive_l0 first many Go.V.bigN (0 : Int) []) with
 | none => none
 | some y0 =>
 some y0
def i_Stream_write (list : (List M.SValue)) (s : Int) (s2 : (List UInt8)) (s3 : Int) (s4 : Bool) (s5 : Int) (s6 : Int) (s7 : Bool) (s8 : Bool) (o1 : (List (List UInt8))) (o2 : (List M.SType)) (o3 : (List M.SValue)) : Option (Int × Int × Int × (List UInt8) × Int × Bool × Int × Int × Bool × Bool × (List (List UInt8)) × (List M.SType) × (List M.SValue)) :=
 let q0 := (M.i_mostOf (M.SStream.mk (M.SType.mk s s2 o1 o2) s3 s4 o3 s5 s6 s7 s8))
 bif ((decide ((8 : Int) < ((List.length list) : Int))) || (decide ((Option.getD q0 default) < (Go.IntKind.wrap Go.IntKind.i64 (s5 + ((List.length list) : Int)))))) then
 let q1 := (((Option.isSome q0) || (!((decide ((8 : Int) < ((List.length list) : Int))) == false))) && true)
 bif q1 then
 some ((0 : Int), (4 : Int), s, s2, s3, s4, s5, s6, s7, s8, o1, o2, o3)
 else
 none
 else
 bif s7 then
 let q1 := (((Option.isSome q0) || (!((decide ((8 : Int) < ((List.length list) : Int))) == false))) && true)
 bif q1 then
 some ((0 : Int), (5 : Int), s, s2, s3, s4, s5, s6, s7, s8, o1, o2, o3)
 else
 none
 else
 bif s8 then
 let q1 := (((Option.isSome q0) || (!((decide ((8 : Int) < ((List.length list) : Int))) == false))) && true)
 bif q1 then
 some ((0 : Int), (17 : Int), s, s2, s3, s4, s5, s6, s7, s8, o1, o2, o3)
 else
 none
 else
 let q1 := (bif (decide ((Go.IntKind.wrap Go.IntKind.i64 (s3 - ((List.length o3) : Int))) < ((List.length list) : Int))) then (Go.IntKind.wrap Go.IntKind.i64 (s3 - ((List.length o3) : Int))) else ((List.length list) : Int))
 let q2 := (M.i_copyValues M.i_copyValue (List.drop (Int.toNat (0 : Int)) (List.take (Int.toNat q1) list)))
 let q3 := (Option.getD q2 default)
 let q4 := (((Option.isSome q0) || (!((decide ((8 : Int) < ((List.length list) : Int))) == false))) && true)
 bif ((decide (((List.length o3) + (List.length q3)) ≤ 1073741824)) && ((Option.isSome q2) && ((Go.V.slB (0 : Int) q1 (List.length list)) && q4))) then
 some (q1, (0 : Int), s, s2, s3, s4, (Go.IntKind.wrap Go.IntKind.i64 (s5 + q1)), s6, s7, s8, o1, o2, (o3 ++ q3))
 else
 none
def i_Stream_read (most : Int) (s : Int) (s2 : (List UInt8)) (s3 : Int) (s4 : Bool) (s5 : Int) (s6 : Int) (s7 : Bool) (s8 : Bool) (o1 : (List (List UInt8))) (o2 : (List M.SType)) (o3 : (List M.SValue)) : Option (Int × Int × (List UInt8) × Int × Bool × Int × Int × Bool × Bool × (List M.SValue) × (List (List UInt8)) × (List M.SType) × (List M.SValue)) :=
 bif (!((decide ((1 : Int) ≤ most)) && (decide (most ≤ (8 : Int))))) then
 some ((2 : Int), s, s2, s3, s4, s5, s6, s7, s8, [], o1, o2, o3)
 else
 bif s8 then
 some ((5 : Int), s, s2, s3, s4, s5, s6, s7, s8, [], o1, o2, o3)
 else
 bif ((((List.length o3) : Int) == (0 : Int)) && s7) then
 some ((3 : Int), s, s2, s3, s4, s5, s6, s7, s8, [], o1, o2, o3)
 else
 let q0 := (bif (decide (((List.length o3) : Int) < most)) then ((List.length o3) : Int) else most)
 let q1 := (Int.toNat q0)
 let q2 := (M.i_copyValues M.i_copyValue (List.drop (Int.toNat (0 : Int)) (List.take q1 o3)))
 bif ((Go.V.slB q0 ((List.length o3) : Int) (List.length o3)) && ((Option.isSome q2) && ((Go.V.slB (0 : Int) q0 (List.length o3)) && true))) then
 some ((0 : Int), s, s2, s3, s4, s5, (Go.IntKind.wrap Go.IntKind.i64 (s6 + q0)), s7, s8, (Option.getD q2 default), o1, o2, (List.drop q1 o3))
 else
 none
def i_PlayStream_l0 (t45 : (List M.SStreamAct)) (t46 : Int) (t6 : Int) (t62 : (List UInt8)) (t63 : Int) (t64 : Bool) (t65 : Int) (t66 : Int) (t67 : Bool) (t68 : Bool) (o10 : (List (List UInt8))) (o11 : (List M.SType)) (o12 : (List M.SValue)) : Nat → Int → Int → Int → (List UInt8) → Int → Bool → Int → Int → Bool → Bool → (List M.SValue) → (List (List UInt8)) → (List M.SType) → (List M.SValue) → Option (Int × (List UInt8) × Int × Bool × Int × Int × Bool × Bool × Int × (List UInt8) × Int × Bool × Int × Int × Bool × Bool × (List M.SValue) × (List (List UInt8)) × (List M.SType) × (List M.SValue) × (List (List UInt8)) × (List M.SType) × (List M.SValue))
 | 0, _, _, _, _, _, _, _, _, _, _, _, _, _, _ => none
 | fuel + 1, first, t47, out, out2, out3, out4, out5, out6, out7, out8, values, o13, o14, o15 =>
 bif (decide (t47 < t46)) then
 bif ((M.SStreamAct.Write (List.getD t45 (Int.toNat t47) M.SStreamAct.zero)) && (M.SStreamAct.Close (List.getD t45 (Int.toNat t47) M.SStreamAct.zero))) then
 let q0 := (M.i_Stream_shut_2 out out2 out3 out4 out5 out6 out7 out8 o13 o14 o15)
 bif ((Option.isSome q0) && ((Go.V.inB t47 (List.length t45)) && true)) then
 let q1 := default
 let q2 := (Option.getD q0 q1).2
 let q3 := q2.2
 let q4 := q3.2
 let q5 := q4.2
 let q6 := q5.2
 let q7 := q6.2
 let q8 := q7.2
 let q9 := q8.2
 let q10 := q9.2
 let q11 := q10.2
 M.i_PlayStream_l0 t45 t46 t6 t62 t63 t64 t65 t66 t67 t68 o10 o11 o12 fuel first (Go.IntKind.wrap Go.IntKind.i64 (t47 + (1 : Int))) q2.1 q3.1 q4.1 q5.1 q6.1 q7.1 q8.1 q9.1 values q10.1 q11.1 q11.2
 else
 none
 else
 bif (M.SStreamAct.Close (List.getD t45 (Int.toNat t47) M.SStreamAct.zero)) then
 let q0 := (M.i_Stream_leave_2 out out2 out3 out4 out5 out6 out7 out8 o13 o14 o15)
 bif ((Option.isSome q0) && ((Go.V.inB t47 (List.length t45)) && true)) then
 let q1 := default
 let q2 := (Option.getD q0 q1).2
 let q3 := q2.2
 let q4 := q3.2
 let q5 := q4.2
 let q6 := q5.2
 let q7 := q6.2
 let q8 := q7.2
 let q9 := q8.2
 let q10 := q9.2
 let q11 := q10.2
 M.i_PlayStream_l0 t45 t46 t6 t62 t63 t64 t65 t66 t67 t68 o10 o11 o12 fuel first (Go.IntKind.wrap Go.IntKind.i64 (t47 + (1 : Int))) q2.1 q3.1 q4.1 q5.1 q6.1 q7.1 q8.1 q9.1 values q10.1 q11.1 q11.2
 else
 none
 else
 bif (M.SStreamAct.Write (List.getD t45 (Int.toNat t47) M.SStreamAct.zero)) then
 let q0 := (M.i_consecutive first (M.SStreamAct.Many (List.getD t45 (Int.toNat t47) M.SStreamAct.zero)))
 let q1 := (M.i_Stream_write (Option.getD q0 default) out out2 out3 out4 out5 out6 out7 out8 o13 o14 o15)
 bif ((Option.isSome q1) && ((Option.isSome q0) && ((Go.V.inB t47 (List.length t45)) && true))) then
 let q2 := (Option.getD q1 default)
 let q3 := q2.2.2
 let q4 := q3.2
 let q5 := q4.2
 let q6 := q5.2
 let q7 := q6.2
 let q8 := q7.2
 let q9 := q8.2
 let q10 := q9.2
 let q11 := q10.2
 let q12 := q11.2
 M.i_PlayStream_l0 t45 t46 t6 t62 t63 t64 t65 t66 t67 t68 o10 o11 o12 fuel (Go.IntKind.wrap Go.IntKind.i64 (first + q2.1)) (Go.IntKind.wrap Go.IntKind.i64 (t47 + (1 : Int))) q3.1 q4.1 q5.1 q6.1 q7.1 q8.1 q9.1 q10.1 values q11.1 q12.1 q12.2
 else
 none
 else
 let q0 := (M.i_Stream_read (bif (decide ((1 : Int) < (M.SStreamAct.Many (List.getD t45 (Int.toNat t47) M.SStreamAct.zero)))) then (M.SStreamAct.Many (List.getD t45 (Int.toNat t47) M.SStreamAct.zero)) else (1 : Int)) out out2 out3 out4 out5 out6 out7 out8 o13 o14 o15)
 let q1 := (Option.getD q0 default).2
 let q2 := q1.2
 let q3 := q2.2
 let q4 := q3.2
 let q5 := q4.2
 let q6 := q5.2
 let q7 := q6.2
 let q8 := q7.2
 let q9 := q8.2
 let q10 := q9.1
 bif ((decide (((List.length values) + (List.length q10)) ≤ 1073741824)) && ((Option.isSome q0) && ((Go.V.inB t47 (List.length t45)) && true))) then
 let q11 := q9.2
 let q12 := q11.2
 M.i_PlayStream_l0 t45 t46 t6 t62 t63 t64 t65 t66 t67 t68 o10 o11 o12 fuel first (Go.IntKind.wrap Go.IntKind.i64 (t47 + (1 : Int))) q1.1 q2.1 q3.1 q4.1 q5.1 q6.1 q7.1 q8.1 (values ++ q10) q11.1 q12.1 q12.2
 else
 none
 else
 some ((t6, t62, t63, t64, t65, t66, t67, t68, out, out2, out3, out4, out5, out6, out7, out8, values, o10, o11, o12, o13, o14, o15))
def i_PlayStream (s : M.SStream) (first : Int) (list : (List M.SStreamAct)) : Option (Int × (List UInt8) × Int × Bool × Int × Int × Bool × Bool × Int × (List (List UInt8)) × (List M.SType) × (List M.SValue) × (List M.SValue)) :=
 let q0 := (M.i_StreamOk (M.SStream.re s))
 bif (!(Option.getD q0 default)) then
 bif ((Option.isSome q0) && true) then
 some ((0 : Int), [], (0 : Int), false, (0 : Int), (0 : Int), false, false, (1 : Int), [], [], [], [])
 else
 none
 else
 bif ((M.SType.Kind (M.SStream.Type_ s)) != (9 : Int)) then
 bif ((Option.isSome q0) && true) then
 some ((0 : Int), [], (0 : Int), false, (0 : Int), (0 : Int), false, false, (7 : Int), [], [], [], [])
 else
 none
 else
 bif (!((decide ((-(1000000 : Int)) ≤ first)) && (decide (first ≤ (1000000 : Int))))) then
 bif ((Option.isSome q0) && true) then
 some ((0 : Int), [], (0 : Int), false, (0 : Int), (0 : Int), false, false, (2 : Int), [], [], [], [])
 else
 none
 else
 bif (decide ((60 : Int) < ((List.length list) : Int))) then
 bif ((Option.isSome q0) && true) then
 some ((0 : Int), [], (0 : Int), false, (0 : Int), (0 : Int), false, false, (4 : Int), [], [], [], [])
 else
 none
 else
 let q1 := (M.slices_ContainsFunc_StreamAct_StreamAct list)
 bif (Option.getD q1 default) then
 bif ((Option.isSome q1) && ((Option.isSome q0) && true)) then
 some ((0 : Int), [], (0 : Int), false, (0 : Int), (0 : Int), false, false, (1 : Int), [], [], [], [])
 else
 none
 else
 let q2 := (M.i_copyStream (M.SStream.re s))
 let q3 := default
 let q4 := (Option.getD q2 q3)
 let q5 := q4.2
 let q6 := q5.2
 let q7 := q6.2
 let q8 := q7.2
 let q9 := q8.2
 let q10 := q9.2
 let q11 := q10.2
 let q12 := q11.2
 let q13 := q12.2
 match (M.i_PlayStream_l0 list ((List.length list) : Int) (0 : Int) [] (0 : Int) false (0 : Int) (0 : Int) false false [] [] [] Go.V.bigN first (0 : Int) q4.1 q5.1 q6.1 q7.1 q8.1 q9.1 q10.1 q11.1 [] q12.1 q13.1 q13.2) with
 | none => none
 | some y14 =>
 let q15 := y14.2.2.2.2.2.2.2.2
 let q16 := q15.2
 let q17 := q16.2
 let q18 := q17.2
 let q19 := q18.2
 let q20 := q19.2
 let q21 := q20.2
 let q22 := q21.2
 let q23 := q22.2
 let q24 := q23.2.2.2.2
 let q25 := q24.2
 let q26 := (M.i_copyStream (M.SStream.mk (M.SType.mk q15.1 q16.1 q24.1 q25.1) q17.1 q18.1 q25.2 q19.1 q20.1 q21.1 q22.1))
 bif ((Option.isSome q26) && ((Option.isSome q2) && ((Option.isSome q1) && ((Option.isSome q0) && true)))) then
 let q27 := (Option.getD q26 q3)
 let q28 := q27.2
 let q29 := q28.2
 let q30 := q29.2
 let q31 := q30.2
 let q32 := q31.2
 let q33 := q32.2
 let q34 := q33.2
 let q35 := q34.2
 let q36 := q35.2
 some (q27.1, q28.1, q29.1, q30.1, q31.1, q32.1, q33.1, q34.1, (0 : Int), q35.1, q36.1, q36.2, q23.1)
 else
 none
def l_eqStream (a : M.SStream) (b : M.SStream) : Option (Bool) :=
 let q0 := (M.l_eqType (M.SType.re (M.SStream.Type_ a)) (M.SType.re (M.SStream.Type_ b)))
 bif (!(Option.getD q0 default)) then
 bif ((Option.isSome q0) && true) then
 some false
 else
 none
 else
 bif ((M.SStream.Room a) != (M.SStream.Room b)) then
 bif ((Option.isSome q0) && true) then
 some false
 else
 none
 else
 bif (!((M.SStream.Future a) == (M.SStream.Future b))) then
 bif ((Option.isSome q0) && true) then
 some false
 else
 none
 else
 let q1 := (M.l_eqValueS M.l_eqValue (M.SStream.Buffer a) (M.SStream.Buffer b))
 bif (!(Option.getD q1 default)) then
 let q2 := ((Option.isSome q1) && ((Option.isSome q0) && true))
 bif q2 then
 some false
 else
 none
 else
 bif ((M.SStream.Put a) != (M.SStream.Put b)) then
 let q2 := ((Option.isSome q1) && ((Option.isSome q0) && true))
 bif q2 then
 some false
 else
 none
 else
 bif ((M.SStream.Got a) != (M.SStream.Got b)) then
 let q2 := ((Option.isSome q1) && ((Option.isSome q0) && true))
 bif q2 then
 some false
 else
 none
 else
 bif (!((M.SStream.Shut a) == (M.SStream.Shut b))) then
 let q2 := ((Option.isSome q1) && ((Option.isSome q0) && true))
 bif q2 then
 some false
 else
 none
 else
 bif (!((M.SStream.Gone a) == (M.SStream.Gone b))) then
 let q2 := ((Option.isSome q1) && ((Option.isSome q0) && true))
 bif q2 then
 some false
 else
 none
 else
 let q2 := ((Option.isSome q1) && ((Option.isSome q0) && true))
 bif q2 then
 some true
 else
 none
def l_FnExactPlayStream (aS : M.SStream) (aFirst : Int) (aList : (List M.SStreamAct)) : Option (Bool) :=
 let q0 := (M.l_szStream (M.SStream.re aS) (1048576 : Int))
 bif (decide ((Option.getD q0 default) < (0 : Int))) then
 bif ((Option.isSome q0) && true) then
 some true
 else
 none
 else
 let q1 := (M.l_szStreamActS aList (Option.getD q0 default))
 bif (decide ((Option.getD q1 default) < (0 : Int))) then
 let q2 := ((Option.isSome q1) && ((Option.isSome q0) && true))
 bif q2 then
 some true
 else
 none
 else
 let q2 := (M.l_toStream (M.SStream.re aS))
 let q3 := (Option.getD q2 default)
 let q4 := q3.1
 let q5 := q3.2
 let q6 := q5.1
 let q7 := q5.2
 let q8 := q7.2
 let q9 := q8.2
 let q10 := q9.2
 let q11 := q10.2
 let q12 := q11.2
 let q13 := q12.2
 let q14 := q13.1
 let q15 := q13.2
 let q16 := q15.1
 let q17 := q7.1
 let q18 := q8.1
 let q19 := q15.2
 let q20 := q9.1
 let q21 := q10.1
 let q22 := q11.1
 let q23 := q12.1
 let q24 := (M.l_toStreamActS aList)
 let q25 := (M.i_PlayStream (M.SStream.mk (M.SType.mk q4 q6 q14 q16) q17 q18 q19 q20 q21 q22 q23) aFirst (Option.getD q24 default))
 let q26 := (Option.getD q25 default)
 let q27 := q26.1
 let q28 := q26.2
 let q29 := q28.1
 let q30 := q28.2
 let q31 := q30.2
 let q32 := q31.2
 let q33 := q32.2
 let q34 := q33.2
 let q35 := q34.2
 let q36 := q35.2
 let q37 := q36.2
 let q38 := q37.1
 let q39 := q37.2
 let q40 := q39.1
 let q41 := q30.1
 let q42 := q31.1
 let q43 := q39.2
 let q44 := q43.1
 let q45 := q32.1
 let q46 := q33.1
 let q47 := q34.1
 let q48 := q35.1
 let q49 := (M.s_PlayStream (M.SStream.mk (M.SType.mk q4 q6 q14 q16) q17 q18 q19 q20 q21 q22 q23) aFirst (Option.getD q24 default))
 let q50 := (Option.getD q49 default)
 let q51 := (M.l_eqStream (M.SStream.mk (M.SType.mk q27 q29 q38 q40) q41 q42 q44 q45 q46 q47 q48) (M.SStream.re q50.1))
 let q52 := (!(Option.getD q51 default))
 let q53 := q43.2
 let q54 := q50.2
 let q55 := (M.l_eqValueS M.l_eqValue q53 q54.1)
 let q56 := (!(Option.getD q55 default))
 let q57 := (q36.1 != q54.2)
 let q58 := ((q52 || q56) || q57)
 bif q58 then
 let q59 := (Option.isSome q55)
 let q60 := (q59 || (!(q52 == false)))
 let q61 := (Option.isSome q51)
 let q62 := (Option.isSome q25)
 let q63 := ((Option.isSome q1) && ((Option.isSome q0) && true))
 let q64 := (q60 && (q61 && (q62 && ((Option.isSome q24) && ((Option.isSome q2) && ((Option.isSome q49) && ((Option.isSome q24) && ((Option.isSome q2) && q63))))))))
 bif q64 then
 some false
 else
 none
 else
 let q59 := (M.l_eqStream (M.SStream.mk (M.SType.mk q4 q6 q14 q16) q17 q18 q19 q20 q21 q22 q23) (M.SStream.mk (M.SType.mk q4 q6 q14 q16) q17 q18 q19 q20 q21 q22 q23))
 bif (!(Option.getD q59 default)) then
 let q60 := (Option.isSome q55)
 let q61 := (q60 || (!(q52 == false)))
 let q62 := (Option.isSome q51)
 let q63 := (Option.isSome q25)
 let q64 := ((Option.isSome q1) && ((Option.isSome q0) && true))
 let q65 := (q61 && (q62 && (q63 && ((Option.isSome q24) && ((Option.isSome q2) && ((Option.isSome q49) && ((Option.isSome q24) && ((Option.isSome q2) && q64))))))))
 let q66 := ((Option.isSome q59) && ((Option.isSome q2) && q65))
 bif q66 then
 some false
 else
 none
 else
 let q60 := (M.l_eqStreamActS (Option.getD q24 default) (Option.getD q24 default))
 bif (!(Option.getD q60 default)) then
 let q61 := (Option.isSome q55)
 let q62 := (q61 || (!(q52 == false)))
 let q63 := (Option.isSome q51)
 let q64 := (Option.isSome q25)
 let q65 := ((Option.isSome q1) && ((Option.isSome q0) && true))
 let q66 := (q62 && (q63 && (q64 && ((Option.isSome q24) && ((Option.isSome q2) && ((Option.isSome q49) && ((Option.isSome q24) && ((Option.isSome q2) && q65))))))))
 let q67 := ((Option.isSome q59) && ((Option.isSome q2) && q66))
 let q68 := ((Option.isSome q60) && ((Option.isSome q24) && q67))
 bif q68 then
 some false
 else
 none
 else
 let q61 := (M.l_markStream q4 q6 q17 q18 q20 q21 q22 q23 (1 : Int) q14 q16 q19)
 let q62 := default
 let q63 := (M.l_markStreamActS (Option.getD q61 q62).1 (Option.getD q24 default))
 let q64 := ((decide ((Option.getD q63 default).1 < (0 : Int))) || q52)
 bif ((q64 || q56) || q57) then
 let q65 := (Option.isSome q55)
 let q66 := (Option.isSome q51)
 let q67 := (q65 || (!(q52 == false)))
 let q68 := (Option.isSome q25)
 let q69 := ((Option.isSome q1) && ((Option.isSome q0) && true))
 let q70 := (q67 && (q66 && (q68 && ((Option.isSome q24) && ((Option.isSome q2) && ((Option.isSome q49) && ((Option.isSome q24) && ((Option.isSome q2) && q69))))))))
 let q71 := ((Option.isSome q59) && ((Option.isSome q2) && q70))
 let q72 := ((Option.isSome q60) && ((Option.isSome q24) && q71))
 let q73 := ((q65 || (!(q64 == false))) && ((q66 || (!((decide ((Option.getD q63 default).1 < (0 : Int))) == false))) && ((Option.isSome q63) && ((Option.isSome q61) && q72))))
 bif q73 then
 some false
 else
 none
 else
 let q65 := (M.l_markStream q27 q29 q41 q42 q45 q46 q47 q48 (1 : Int) q38 q40 q44)
 let q66 := (Option.getD q65 q62)
 let q67 := q66.2
 let q68 := q67.2
 let q69 := (M.l_heldStream (M.SStream.mk (M.SType.mk q27 q29 q67.1 q68.1) q41 q42 q68.2 q45 q46 q47 q48) (1 : Int))
 let q70 := (Option.getD q69 default)
 bif (decide (q70 < (0 : Int))) then
 let q71 := (Option.isSome q69)
 let q72 := (M.l_markValueS q66.1 q53)
 let q73 := (Option.isSome q55)
 let q74 := (Option.isSome q51)
 let q75 := (q73 || (!(q52 == false)))
 let q76 := (Option.isSome q25)
 let q77 := ((Option.isSome q1) && ((Option.isSome q0) && true))
 let q78 := (q75 && (q74 && (q76 && ((Option.isSome q24) && ((Option.isSome q2) && ((Option.isSome q49) && ((Option.isSome q24) && ((Option.isSome q2) && q77))))))))
 let q79 := ((Option.isSome q59) && ((Option.isSome q2) && q78))
 let q80 := ((Option.isSome q60) && ((Option.isSome q24) && q79))
 let q81 := ((q73 || (!(q64 == false))) && ((q74 || (!((decide ((Option.getD q63 default).1 < (0 : Int))) == false))) && ((Option.isSome q63) && ((Option.isSome q61) && q80))))
 let q82 := (q71 && ((Option.isSome q72) && ((Option.isSome q65) && q81)))
 bif q82 then
 some false
 else
 none
 else
 let q71 := (M.l_markValueS q66.1 q53)
 let q72 := (Option.getD q71 default)
 let q73 := (M.l_heldValueS q72.2 q70)
 let q74 := (Option.getD q73 default)
 bif (decide (q74 < (0 : Int))) then
 let q75 := (Option.isSome q73)
 let q76 := (Option.isSome q69)
 let q77 := (Option.isSome q55)
 let q78 := (Option.isSome q51)
 let q79 := (q77 || (!(q52 == false)))
 let q80 := (Option.isSome q25)
 let q81 := ((Option.isSome q1) && ((Option.isSome q0) && true))
 let q82 := (q79 && (q78 && (q80 && ((Option.isSome q24) && ((Option.isSome q2) && ((Option.isSome q49) && ((Option.isSome q24) && ((Option.isSome q2) && q81))))))))
 let q83 := ((Option.isSome q59) && ((Option.isSome q2) && q82))
 let q84 := ((Option.isSome q60) && ((Option.isSome q24) && q83))
 let q85 := ((q77 || (!(q64 == false))) && ((q78 || (!((decide ((Option.getD q63 default).1 < (0 : Int))) == false))) && ((Option.isSome q63) && ((Option.isSome q61) && q84))))
 let q86 := (q76 && ((Option.isSome q71) && ((Option.isSome q65) && q85)))
 let q87 := (q75 && q86)
 bif q87 then
 some false
 else
 none
 else
 let q75 := (q74 != q72.1)
 bif q75 then
 let q76 := (Option.isSome q73)
 let q77 := (Option.isSome q69)
 let q78 := (Option.isSome q55)
 let q79 := (Option.isSome q51)
 let q80 := (q78 || (!(q52 == false)))
 let q81 := (Option.isSome q25)
 let q82 := ((Option.isSome q1) && ((Option.isSome q0) && true))
 let q83 := (q80 && (q79 && (q81 && ((Option.isSome q24) && ((Option.isSome q2) && ((Option.isSome q49) && ((Option.isSome q24) && ((Option.isSome q2) && q82))))))))
 let q84 := ((Option.isSome q59) && ((Option.isSome q2) && q83))
 let q85 := ((Option.isSome q60) && ((Option.isSome q24) && q84))
 let q86 := ((q78 || (!(q64 == false))) && ((q79 || (!((decide ((Option.getD q63 default).1 < (0 : Int))) == false))) && ((Option.isSome q63) && ((Option.isSome q61) && q85))))
 let q87 := (q77 && ((Option.isSome q71) && ((Option.isSome q65) && q86)))
 let q88 := (q76 && q87)
 bif q88 then
 some false
 else
 none
 else
 bif q58 then
 let q76 := (Option.isSome q55)
 let q77 := (q76 || (!(q52 == false)))
 let q78 := (Option.isSome q51)
 let q79 := (Option.isSome q25)
 let q80 := (Option.isSome q73)
 let q81 := (Option.isSome q69)
 let q82 := ((Option.isSome q1) && ((Option.isSome q0) && true))
 let q83 := (q77 && (q78 && (q79 && ((Option.isSome q24) && ((Option.isSome q2) && ((Option.isSome q49) && ((Option.isSome q24) && ((Option.isSome q2) && q82))))))))
 let q84 := ((Option.isSome q59) && ((Option.isSome q2) && q83))
 let q85 := ((Option.isSome q60) && ((Option.isSome q24) && q84))
 let q86 := ((q76 || (!(q64 == false))) && ((q78 || (!((decide ((Option.getD q63 default).1 < (0 : Int))) == false))) && ((Option.isSome q63) && ((Option.isSome q61) && q85))))
 let q87 := (q81 && ((Option.isSome q71) && ((Option.isSome q65) && q86)))
 let q88 := (q80 && q87)
 let q89 := (q77 && (q78 && (q79 && ((Option.isSome q24) && ((Option.isSome q2) && q88)))))
 bif q89 then
 some false
 else
 none
 else
 bif (decide (q70 < (0 : Int))) then
 let q76 := (Option.isSome q69)
 let q77 := (Option.isSome q55)
 let q78 := (q77 || (!(q52 == false)))
 let q79 := (Option.isSome q51)
 let q80 := (Option.isSome q25)
 let q81 := (Option.isSome q73)
 let q82 := ((Option.isSome q1) && ((Option.isSome q0) && true))
 let q83 := (q78 && (q79 && (q80 && ((Option.isSome q24) && ((Option.isSome q2) && ((Option.isSome q49) && ((Option.isSome q24) && ((Option.isSome q2) && q82))))))))
 let q84 := ((Option.isSome q59) && ((Option.isSome q2) && q83))
 let q85 := ((Option.isSome q60) && ((Option.isSome q24) && q84))
 let q86 := ((q77 || (!(q64 == false))) && ((q79 || (!((decide ((Option.getD q63 default).1 < (0 : Int))) == false))) && ((Option.isSome q63) && ((Option.isSome q61) && q85))))
 let q87 := (q76 && ((Option.isSome q71) && ((Option.isSome q65) && q86)))
 let q88 := (q81 && q87)
 let q89 := (q78 && (q79 && (q80 && ((Option.isSome q24) && ((Option.isSome q2) && q88)))))
 let q90 := (q76 && q89)
 bif q90 then
 some false
 else
 none
 else
 bif (decide (q74 < (0 : Int))) then
 let q76 := (Option.isSome q73)
 let q77 := (Option.isSome q69)
 let q78 := (Option.isSome q55)
 let q79 := (q78 || (!(q52 == false)))
 let q80 := (Option.isSome q51)
 let q81 := (Option.isSome q25)
 let q82 := ((Option.isSome q1) && ((Option.isSome q0) && true))
 let q83 := (q79 && (q80 && (q81 && ((Option.isSome q24) && ((Option.isSome q2) && ((Option.isSome q49) && ((Option.isSome q24) && ((Option.isSome q2) && q82))))))))
 let q84 := ((Option.isSome q59) && ((Option.isSome q2) && q83))
 let q85 := ((Option.isSome q60) && ((Option.isSome q24) && q84))
 let q86 := ((q78 || (!(q64 == false))) && ((q80 || (!((decide ((Option.getD q63 default).1 < (0 : Int))) == false))) && ((Option.isSome q63) && ((Option.isSome q61) && q85))))
 let q87 := (q77 && ((Option.isSome q71) && ((Option.isSome q65) && q86)))
 let q88 := (q76 && q87)
 let q89 := (q79 && (q80 && (q81 && ((Option.isSome q24) && ((Option.isSome q2) && q88)))))
 let q90 := (q77 && q89)
 let q91 := (q76 && q90)
 bif q91 then
 some false
 else
 none
 else
 bif q75 then
 let q76 := (Option.isSome q73)
 let q77 := (Option.isSome q69)
 let q78 := (Option.isSome q55)
 let q79 := (q78 || (!(q52 == false)))
 let q80 := (Option.isSome q51)
 let q81 := (Option.isSome q25)
 let q82 := ((Option.isSome q1) && ((Option.isSome q0) && true))
 let q83 := (q79 && (q80 && (q81 && ((Option.isSome q24) && ((Option.isSome q2) && ((Option.isSome q49) && ((Option.isSome q24) && ((Option.isSome q2) && q82))))))))
 let q84 := ((Option.isSome q59) && ((Option.isSome q2) && q83))
 let q85 := ((Option.isSome q60) && ((Option.isSome q24) && q84))
 let q86 := ((q78 || (!(q64 == false))) && ((q80 || (!((decide ((Option.getD q63 default).1 < (0 : Int))) == false))) && ((Option.isSome q63) && ((Option.isSome q61) && q85))))
 let q87 := (q77 && ((Option.isSome q71) && ((Option.isSome q65) && q86)))
 let q88 := (q76 && q87)
 let q89 := (q79 && (q80 && (q81 && ((Option.isSome q24) && ((Option.isSome q2) && q88)))))
 let q90 := (q77 && q89)
 let q91 := (q76 && q90)
 bif q91 then
 some false
 else
 none
 else
 let q76 := (Option.isSome q73)
 let q77 := (Option.isSome q69)
 let q78 := (Option.isSome q55)
 let q79 := (q78 || (!(q52 == false)))
 let q80 := (Option.isSome q51)
 let q81 := (Option.isSome q25)
 let q82 := ((Option.isSome q1) && ((Option.isSome q0) && true))
 let q83 := (q79 && (q80 && (q81 && ((Option.isSome q24) && ((Option.isSome q2) && ((Option.isSome q49) && ((Option.isSome q24) && ((Option.isSome q2) && q82))))))))
 let q84 := ((Option.isSome q59) && ((Option.isSome q2) && q83))
 let q85 := ((Option.isSome q60) && ((Option.isSome q24) && q84))
 let q86 := ((q78 || (!(q64 == false))) && ((q80 || (!((decide ((Option.getD q63 default).1 < (0 : Int))) == false))) && ((Option.isSome q63) && ((Option.isSome q61) && q85))))
 let q87 := (q77 && ((Option.isSome q71) && ((Option.isSome q65) && q86)))
 let q88 := (q76 && q87)
 let q89 := (q79 && (q80 && (q81 && ((Option.isSome q24) && ((Option.isSome q2) && q88)))))
 let q90 := (q77 && q89)
 let q91 := (q76 && q90)
 bif q91 then
 some true
 else
 none
end M
