/-
  Part of the proof of the claim.
-/
import Derived.Test.YtbkcpcfcccahnaaGreatDoorXFdata
import Derived.Test.YtbkcpcfcccahnaaGreatDoorXFhand3
import Derived.Test.YtbkcpcfcccahnaaGreatDoorXFhand4
set_option linter.unusedVariables false
set_option maxRecDepth 100000
namespace M
noncomputable def l_szStringS_l0 (a : (List (List UInt8))) : Nat → Int → Int → Option ((Int) ⊕ (Int))
  | 0, _, _ => none
  | fuel + 1, left, i =>
    bif (decide (i < ((List.length a) : Int))) then
      let q0 := (Go.IntKind.wrap Go.IntKind.i64 (left - ((List.length (List.getD a (Int.toNat i) [])) : Int)))
      bif (decide (q0 < (0 : Int))) then
        bif ((Go.V.inB i (List.length a)) && true) then
          some (.inl (-(1 : Int)))
        else
          none
      else
        bif ((Go.V.inB i (List.length a)) && true) then
          M.l_szStringS_l0 a fuel q0 (Go.IntKind.wrap Go.IntKind.i64 (i + (1 : Int)))
        else
          none
    else
      some ((.inr (left)))
end M
namespace M
noncomputable def l_szStringS (a : (List (List UInt8))) (left : Int) : Option (Int) :=
  bif (decide ((Go.IntKind.wrap Go.IntKind.i64 (left - ((List.length a) : Int))) < (0 : Int))) then
    some (-(1 : Int))
  else
    match (M.l_szStringS_l0 a Go.V.bigN (Go.IntKind.wrap Go.IntKind.i64 (left - ((List.length a) : Int))) (0 : Int)) with
    | none => none
    | some y0 =>
      (match y0 with
      | .inl a1 =>
        some a1
      | .inr b1 =>
        some b1)
end M
namespace M
noncomputable def l_szTypeS_l0 (rec_l_szType : M.SType → Int → Option (Int)) (a : (List M.SType)) : Nat → Int → Int → Option ((Int) ⊕ (Int))
  | 0, _, _ => none
  | fuel + 1, left, i =>
    bif (decide (i < ((List.length a) : Int))) then
      let q0 := (Option.getD (rec_l_szType (M.SType.re (List.getD a (Int.toNat i) M.SType.zero)) left) Inhabited.default)
      bif (decide (q0 < (0 : Int))) then
        let q1 := ((Option.isSome (rec_l_szType (M.SType.re (List.getD a (Int.toNat i) M.SType.zero)) left)) && ((Go.V.inB i (List.length a)) && true))
        bif q1 then
          some (.inl (-(1 : Int)))
        else
          none
      else
        let q1 := ((Option.isSome (rec_l_szType (M.SType.re (List.getD a (Int.toNat i) M.SType.zero)) left)) && ((Go.V.inB i (List.length a)) && true))
        bif q1 then
          M.l_szTypeS_l0 rec_l_szType a fuel q0 (Go.IntKind.wrap Go.IntKind.i64 (i + (1 : Int)))
        else
          none
    else
      some ((.inr (left)))
end M
namespace M
noncomputable def l_szTypeS (rec_l_szType : M.SType → Int → Option (Int)) (a : (List M.SType)) (left : Int) : Option (Int) :=
  bif (decide ((Go.IntKind.wrap Go.IntKind.i64 (left - ((List.length a) : Int))) < (0 : Int))) then
    some (-(1 : Int))
  else
    match (M.l_szTypeS_l0 rec_l_szType a Go.V.bigN (Go.IntKind.wrap Go.IntKind.i64 (left - ((List.length a) : Int))) (0 : Int)) with
    | none => none
    | some y0 =>
      (match y0 with
      | .inl a1 =>
        some a1
      | .inr b1 =>
        some b1)
end M
namespace M
noncomputable def l_szType_b (rec_l_szType : M.SType → Int → Option (Int)) (a : M.SType) (left : Int) : Option (Int) :=
  bif (decide ((Go.IntKind.wrap Go.IntKind.i64 (left - ((List.length (M.SType.Name a)) : Int))) < (0 : Int))) then
    some (-(1 : Int))
  else
    let q0 := (M.l_szStringS (M.SType.Labels a) (Go.IntKind.wrap Go.IntKind.i64 (left - ((List.length (M.SType.Name a)) : Int))))
    let q1 := (Option.getD q0 Inhabited.default)
    bif (decide (q1 < (0 : Int))) then
      let q2 := ((Option.isSome q0) && true)
      bif q2 then
        some (-(1 : Int))
      else
        none
    else
      let q2 := (M.l_szTypeS rec_l_szType (M.SType.Kids a) q1)
      let q3 := (Option.getD q2 Inhabited.default)
      bif (decide (q3 < (0 : Int))) then
        let q4 := ((Option.isSome q0) && true)
        let q5 := ((Option.isSome q2) && q4)
        bif q5 then
          some (-(1 : Int))
        else
          none
      else
        let q4 := ((Option.isSome q0) && true)
        let q5 := ((Option.isSome q2) && q4)
        bif q5 then
          some q3
        else
          none
noncomputable def l_szType_n : Nat → M.SType → Int → Option (Int)
  | 0 => fun _ _ => none
  | n + 1 => l_szType_b (l_szType_n n)
noncomputable def l_szType : M.SType → Int → Option (Int) := l_szType_n Go.V.bigN
end M
namespace M
noncomputable def l_toStringS_l0 (a : (List (List UInt8))) : Nat → Int → (List (List UInt8)) → Option ((List (List UInt8)))
  | 0, _, _ => none
  | fuel + 1, i, out =>
    bif (decide (i < ((List.length a) : Int))) then
      bif ((Go.V.inB i (List.length out)) && ((Go.V.inB i (List.length a)) && true)) then
        M.l_toStringS_l0 a fuel (Go.IntKind.wrap Go.IntKind.i64 (i + (1 : Int))) (List.set out (Int.toNat i) (List.getD a (Int.toNat i) []))
      else
        none
    else
      some (out)
end M
namespace M
noncomputable def l_toStringS (a : (List (List UInt8))) : Option ((List (List UInt8))) :=
  match (M.l_toStringS_l0 a Go.V.bigN (0 : Int) (List.replicate (Int.toNat ((List.length a) : Int)) [])) with
  | none => none
  | some y0 =>
    bif (((decide (((List.length a) : Int) ≤ ((List.length a) : Int))) && (decide (((List.length a) : Int) ≤ (1073741824 : Int)))) && true) then
      some y0
    else
      none
end M
namespace M
noncomputable def l_toTypeS_l0 (rec_l_toType : M.SType → Option (M.SType)) (a : (List M.SType)) : Nat → Int → (List M.SType) → Option ((List M.SType))
  | 0, _, _ => none
  | fuel + 1, i, out =>
    bif (decide (i < ((List.length a) : Int))) then
      bif ((Go.V.inB i (List.length out)) && ((Option.isSome (rec_l_toType (M.SType.re (List.getD a (Int.toNat i) M.SType.zero)))) && ((Go.V.inB i (List.length a)) && true))) then
        M.l_toTypeS_l0 rec_l_toType a fuel (Go.IntKind.wrap Go.IntKind.i64 (i + (1 : Int))) (List.set out (Int.toNat i) (M.SType.re (Option.getD (rec_l_toType (M.SType.re (List.getD a (Int.toNat i) M.SType.zero))) Inhabited.default)))
      else
        none
    else
      some (out)
end M
namespace M
noncomputable def l_toTypeS (rec_l_toType : M.SType → Option (M.SType)) (a : (List M.SType)) : Option ((List M.SType)) :=
  match (M.l_toTypeS_l0 rec_l_toType a Go.V.bigN (0 : Int) (List.replicate (Int.toNat ((List.length a) : Int)) (M.SType.mk (0 : Int) [] [] []))) with
  | none => none
  | some y0 =>
    bif (((decide (((List.length a) : Int) ≤ ((List.length a) : Int))) && (decide (((List.length a) : Int) ≤ (1073741824 : Int)))) && true) then
      some y0
    else
      none
end M
namespace M
noncomputable def l_toType_b (rec_l_toType : M.SType → Option (M.SType)) (a : M.SType) : Option (M.SType) :=
  let q0 := (M.l_toTypeS rec_l_toType (M.SType.Kids a))
  let q1 := (M.l_toStringS (M.SType.Labels a))
  bif ((Option.isSome q0) && ((Option.isSome q1) && true)) then
    some (M.SType.mk (M.SType.Kind a) (M.SType.Name a) (Option.getD q1 Inhabited.default) (Option.getD q0 Inhabited.default))
  else
    none
noncomputable def l_toType_n : Nat → M.SType → Option (M.SType)
  | 0 => fun _ => none
  | n + 1 => l_toType_b (l_toType_n n)
noncomputable def l_toType : M.SType → Option (M.SType) := l_toType_n Go.V.bigN
end M
namespace M
noncomputable def l_eqStringS_l0 (a : (List (List UInt8))) (b : (List (List UInt8))) : Nat → Int → Option ((Bool) ⊕ (Unit))
  | 0, _ => none
  | fuel + 1, i =>
    bif (decide (i < ((List.length a) : Int))) then
      bif (!((List.getD a (Int.toNat i) []) == (List.getD b (Int.toNat i) []))) then
        let q0 := ((Go.V.inB i (List.length b)) && ((Go.V.inB i (List.length a)) && true))
        bif q0 then
          some (.inl false)
        else
          none
      else
        let q0 := ((Go.V.inB i (List.length b)) && ((Go.V.inB i (List.length a)) && true))
        bif q0 then
          M.l_eqStringS_l0 a b fuel (Go.IntKind.wrap Go.IntKind.i64 (i + (1 : Int)))
        else
          none
    else
      some ((.inr (())))
end M
namespace M
noncomputable def l_eqStringS (a : (List (List UInt8))) (b : (List (List UInt8))) : Option (Bool) :=
  bif (((List.length a) : Int) != ((List.length b) : Int)) then
    some false
  else
    match (M.l_eqStringS_l0 a b Go.V.bigN (0 : Int)) with
    | none => none
    | some y0 =>
      (match y0 with
      | .inl a1 =>
        some a1
      | .inr b1 =>
        some true)
end M
namespace M
noncomputable def l_eqTypeS_l0 (rec_l_eqType : M.SType → M.SType → Option (Bool)) (a : (List M.SType)) (b : (List M.SType)) : Nat → Int → Option ((Bool) ⊕ (Unit))
  | 0, _ => none
  | fuel + 1, i =>
    bif (decide (i < ((List.length a) : Int))) then
      bif (!(Option.getD (rec_l_eqType (M.SType.re (List.getD a (Int.toNat i) M.SType.zero)) (M.SType.re (List.getD b (Int.toNat i) M.SType.zero))) Inhabited.default)) then
        let q0 := ((Option.isSome (rec_l_eqType (M.SType.re (List.getD a (Int.toNat i) M.SType.zero)) (M.SType.re (List.getD b (Int.toNat i) M.SType.zero)))) && ((Go.V.inB i (List.length b)) && ((Go.V.inB i (List.length a)) && true)))
        bif q0 then
          some (.inl false)
        else
          none
      else
        let q0 := ((Option.isSome (rec_l_eqType (M.SType.re (List.getD a (Int.toNat i) M.SType.zero)) (M.SType.re (List.getD b (Int.toNat i) M.SType.zero)))) && ((Go.V.inB i (List.length b)) && ((Go.V.inB i (List.length a)) && true)))
        bif q0 then
          M.l_eqTypeS_l0 rec_l_eqType a b fuel (Go.IntKind.wrap Go.IntKind.i64 (i + (1 : Int)))
        else
          none
    else
      some ((.inr (())))
end M
namespace M
noncomputable def l_eqTypeS (rec_l_eqType : M.SType → M.SType → Option (Bool)) (a : (List M.SType)) (b : (List M.SType)) : Option (Bool) :=
  bif (((List.length a) : Int) != ((List.length b) : Int)) then
    some false
  else
    match (M.l_eqTypeS_l0 rec_l_eqType a b Go.V.bigN (0 : Int)) with
    | none => none
    | some y0 =>
      (match y0 with
      | .inl a1 =>
        some a1
      | .inr b1 =>
        some true)
end M
namespace M
noncomputable def l_eqType_b (rec_l_eqType : M.SType → M.SType → Option (Bool)) (a : M.SType) (b : M.SType) : Option (Bool) :=
  bif ((M.SType.Kind a) != (M.SType.Kind b)) then
    some false
  else
    bif (!((M.SType.Name a) == (M.SType.Name b))) then
      some false
    else
      let q0 := (M.l_eqStringS (M.SType.Labels a) (M.SType.Labels b))
      bif (!(Option.getD q0 Inhabited.default)) then
        bif ((Option.isSome q0) && true) then
          some false
        else
          none
      else
        let q1 := (M.l_eqTypeS rec_l_eqType (M.SType.Kids a) (M.SType.Kids b))
        bif (!(Option.getD q1 Inhabited.default)) then
          bif ((Option.isSome q1) && ((Option.isSome q0) && true)) then
            some false
          else
            none
        else
          bif ((Option.isSome q1) && ((Option.isSome q0) && true)) then
            some true
          else
            none
noncomputable def l_eqType_n : Nat → M.SType → M.SType → Option (Bool)
  | 0 => fun _ _ => none
  | n + 1 => l_eqType_b (l_eqType_n n)
noncomputable def l_eqType : M.SType → M.SType → Option (Bool) := l_eqType_n Go.V.bigN
end M
namespace M
def s_l00Max (a : Int) (b : Int) : Option (Int) :=
  bif (decide (b < a)) then
    some a
  else
    some b
end M
namespace M
noncomputable def s_l03Size_l0 (rec_s_l03Size : M.SType → Int → Option (Int × Int)) (deep : Int) : Nat → Int → Int → Int → M.SType → Option ((Int × Int) ⊕ (Int × Int))
  | 0, _, _, _, _ => none
  | fuel + 1, most, parts, i, t =>
    bif (decide (i < ((List.length (M.SType.Kids t)) : Int))) then
      let q0 := (Option.getD (rec_s_l03Size (M.SType.re (List.getD (M.SType.Kids t) (Int.toNat i) M.SType.zero)) (Go.IntKind.wrap Go.IntKind.i64 (deep + (1 : Int)))) Inhabited.default)
      let q1 := (Go.IntKind.wrap Go.IntKind.i64 (parts + q0.2))
      bif (decide ((24 : Int) < q1)) then
        let q2 := (M.s_l00Max most q0.1)
        let q3 := ((Option.isSome q2) && ((Option.isSome (rec_s_l03Size (M.SType.re (List.getD (M.SType.Kids t) (Int.toNat i) M.SType.zero)) (Go.IntKind.wrap Go.IntKind.i64 (deep + (1 : Int))))) && ((Go.V.inB i (List.length (M.SType.Kids t))) && true)))
        bif q3 then
          some (.inl ((5 : Int), (25 : Int)))
        else
          none
      else
        let q2 := (M.s_l00Max most q0.1)
        let q3 := ((Option.isSome q2) && ((Option.isSome (rec_s_l03Size (M.SType.re (List.getD (M.SType.Kids t) (Int.toNat i) M.SType.zero)) (Go.IntKind.wrap Go.IntKind.i64 (deep + (1 : Int))))) && ((Go.V.inB i (List.length (M.SType.Kids t))) && true)))
        bif q3 then
          M.s_l03Size_l0 rec_s_l03Size deep fuel (Option.getD q2 Inhabited.default) q1 (Go.IntKind.wrap Go.IntKind.i64 (i + (1 : Int))) (M.SType.re t)
        else
          none
    else
      some ((.inr ((most, parts))))
end M
namespace M
noncomputable def s_l03Size_b (rec_s_l03Size : M.SType → Int → Option (Int × Int)) (t : M.SType) (deep : Int) : Option (Int × Int) :=
  bif ((decide ((4 : Int) < deep)) || (decide ((24 : Int) < ((List.length (M.SType.Kids t)) : Int)))) then
    some ((5 : Int), (25 : Int))
  else
    match (M.s_l03Size_l0 rec_s_l03Size deep Go.V.bigN (0 : Int) (1 : Int) (0 : Int) (M.SType.re t)) with
    | none => none
    | some y0 =>
      (match y0 with
      | .inl a1 =>
        some (a1.1, a1.2)
      | .inr b1 =>
        some ((Go.IntKind.wrap Go.IntKind.i64 (b1.1 + (1 : Int))), b1.2))
noncomputable def s_l03Size_n : Nat → M.SType → Int → Option (Int × Int)
  | 0 => fun _ _ => none
  | n + 1 => s_l03Size_b (s_l03Size_n n)
noncomputable def s_l03Size : M.SType → Int → Option (Int × Int) := s_l03Size_n Go.V.bigN
end M
namespace M
def s_l00In (n : Int) (low : Int) (high : Int) : Option (Bool) :=
  some ((decide (low ≤ n)) && (decide (n ≤ high)))
end M
namespace M
noncomputable def s_l03Name_l0 (s : (List UInt8)) : Nat → Int → Option ((Bool) ⊕ (Unit))
  | 0, _ => none
  | fuel + 1, i =>
    bif (decide (i < ((List.length s) : Int))) then
      let q0 := ((((decide (((UInt8.toNat (List.getD s (Int.toNat i) (0 : UInt8))) : Int) < (97 : Int))) || (decide ((122 : Int) < ((UInt8.toNat (List.getD s (Int.toNat i) (0 : UInt8))) : Int)))) && ((decide (((UInt8.toNat (List.getD s (Int.toNat i) (0 : UInt8))) : Int) < (48 : Int))) || (decide ((57 : Int) < ((UInt8.toNat (List.getD s (Int.toNat i) (0 : UInt8))) : Int))))) && (((UInt8.toNat (List.getD s (Int.toNat i) (0 : UInt8))) : Int) != (45 : Int)))
      let q1 := (((UInt8.toNat (List.getD s (Int.toNat i) (0 : UInt8))) : Int) == (45 : Int))
      bif (q0 || (q1 && (((UInt8.toNat (List.getD s (Int.toNat (Go.IntKind.wrap Go.IntKind.i64 (i - (1 : Int)))) (0 : UInt8))) : Int) == (45 : Int)))) then
        let q2 := (((Go.V.inB (Go.IntKind.wrap Go.IntKind.i64 (i - (1 : Int))) (List.length s)) || (!((q0 == false) && (q1 == true)))) && ((Go.V.inB i (List.length s)) && true))
        bif q2 then
          some (.inl false)
        else
          none
      else
        let q2 := (((Go.V.inB (Go.IntKind.wrap Go.IntKind.i64 (i - (1 : Int))) (List.length s)) || (!((q0 == false) && (q1 == true)))) && ((Go.V.inB i (List.length s)) && true))
        bif q2 then
          M.s_l03Name_l0 s fuel (Go.IntKind.wrap Go.IntKind.i64 (i + (1 : Int)))
        else
          none
    else
      some ((.inr (())))
end M
namespace M
noncomputable def s_l03Name (s : (List UInt8)) : Option (Bool) :=
  let q0 := ((decide (((List.length s) : Int) < (1 : Int))) || (decide ((12 : Int) < ((List.length s) : Int))))
  let q1 := (q0 || (decide (((UInt8.toNat (List.getD s (Int.toNat (0 : Int)) (0 : UInt8))) : Int) < (97 : Int))))
  let q2 := (q1 || (decide ((122 : Int) < ((UInt8.toNat (List.getD s (Int.toNat (0 : Int)) (0 : UInt8))) : Int))))
  bif (q2 || (((UInt8.toNat (List.getD s (Int.toNat (Go.IntKind.wrap Go.IntKind.i64 (((List.length s) : Int) - (1 : Int)))) (0 : UInt8))) : Int) == (45 : Int))) then
    let q3 := (((Go.V.inB (Go.IntKind.wrap Go.IntKind.i64 (((List.length s) : Int) - (1 : Int))) (List.length s)) || (!(q2 == false))) && (((Go.V.inB (0 : Int) (List.length s)) || (!(q1 == false))) && (((Go.V.inB (0 : Int) (List.length s)) || (!(q0 == false))) && true)))
    bif q3 then
      some false
    else
      none
  else
    match (M.s_l03Name_l0 s Go.V.bigN (0 : Int)) with
    | none => none
    | some y3 =>
      (match y3 with
      | .inl a4 =>
        let q5 := (((Go.V.inB (Go.IntKind.wrap Go.IntKind.i64 (((List.length s) : Int) - (1 : Int))) (List.length s)) || (!(q2 == false))) && (((Go.V.inB (0 : Int) (List.length s)) || (!(q1 == false))) && (((Go.V.inB (0 : Int) (List.length s)) || (!(q0 == false))) && true)))
        bif q5 then
          some a4
        else
          none
      | .inr b4 =>
        let q5 := (((Go.V.inB (Go.IntKind.wrap Go.IntKind.i64 (((List.length s) : Int) - (1 : Int))) (List.length s)) || (!(q2 == false))) && (((Go.V.inB (0 : Int) (List.length s)) || (!(q1 == false))) && (((Go.V.inB (0 : Int) (List.length s)) || (!(q0 == false))) && true)))
        bif q5 then
          some true
        else
          none)
end M
namespace M
noncomputable def s_l03Labels_l0_0 (list : (List (List UInt8))) (i : Int) : Nat → Int → Option ((Bool) ⊕ ((List (List UInt8)) × Int))
  | 0, _ => none
  | fuel + 1, k =>
    bif (decide (k < i)) then
      bif ((List.getD list (Int.toNat k) []) == (List.getD list (Int.toNat i) [])) then
        let q0 := ((Go.V.inB i (List.length list)) && ((Go.V.inB k (List.length list)) && true))
        bif q0 then
          some (.inl false)
        else
          none
      else
        let q0 := ((Go.V.inB i (List.length list)) && ((Go.V.inB k (List.length list)) && true))
        bif q0 then
          M.s_l03Labels_l0_0 list i fuel (Go.IntKind.wrap Go.IntKind.i64 (k + (1 : Int)))
        else
          none
    else
      some ((.inr ((list, i))))
end M
namespace M
noncomputable def s_l03Labels_l0 : Nat → (List (List UInt8)) → Int → Option ((Bool) ⊕ (Unit))
  | 0, _, _ => none
  | fuel + 1, list, i =>
    bif (decide (i < ((List.length list) : Int))) then
      let q0 := (M.s_l03Name (List.getD list (Int.toNat i) []))
      bif (!(Option.getD q0 Inhabited.default)) then
        let q1 := ((Option.isSome q0) && ((Go.V.inB i (List.length list)) && true))
        bif q1 then
          some (.inl false)
        else
          none
      else
        match (M.s_l03Labels_l0_0 list i Go.V.bigN (0 : Int)) with
        | none => none
        | some y1 =>
          (match y1 with
          | .inl a2 =>
            let q3 := ((Option.isSome q0) && ((Go.V.inB i (List.length list)) && true))
            bif q3 then
              some (.inl a2)
            else
              none
          | .inr b2 =>
            let q3 := ((Option.isSome q0) && ((Go.V.inB i (List.length list)) && true))
            bif q3 then
              M.s_l03Labels_l0 fuel b2.1 (Go.IntKind.wrap Go.IntKind.i64 (b2.2 + (1 : Int)))
            else
              none)
    else
      some ((.inr (())))
end M
namespace M
noncomputable def s_l03Labels (list : (List (List UInt8))) : Option (Bool) :=
  bif ((decide (((List.length list) : Int) < (1 : Int))) || (decide ((16 : Int) < ((List.length list) : Int)))) then
    some false
  else
    match (M.s_l03Labels_l0 Go.V.bigN list (0 : Int)) with
    | none => none
    | some y0 =>
      (match y0 with
      | .inl a1 =>
        some a1
      | .inr b1 =>
        some true)
end M
namespace M
noncomputable def s_l03Units_l0 : Nat → Int → M.SType → Option ((Bool) ⊕ (Unit))
  | 0, _, _ => none
  | fuel + 1, i, t =>
    bif (decide (i < ((List.length (M.SType.Kids t)) : Int))) then
      bif ((M.SType.Kind (List.getD (M.SType.Kids t) (Int.toNat i) M.SType.zero)) == (1 : Int)) then
        bif ((Go.V.inB i (List.length (M.SType.Kids t))) && true) then
          some (.inl true)
        else
          none
      else
        bif ((Go.V.inB i (List.length (M.SType.Kids t))) && true) then
          M.s_l03Units_l0 fuel (Go.IntKind.wrap Go.IntKind.i64 (i + (1 : Int))) (M.SType.re t)
        else
          none
    else
      some ((.inr (())))
end M
namespace M
noncomputable def s_l03Units (t : M.SType) : Option (Bool) :=
  match (M.s_l03Units_l0 Go.V.bigN (0 : Int) (M.SType.re t)) with
  | none => none
  | some y0 =>
    (match y0 with
    | .inl a1 =>
      some a1
    | .inr b1 =>
      some false)
end M
namespace M
noncomputable def s_l03Has_l0 (rec_s_l03Has : M.SType → Int → Int → Option (Bool)) (low : Int) (high : Int) : Nat → Int → M.SType → Option ((Bool) ⊕ (Unit))
  | 0, _, _ => none
  | fuel + 1, i, t =>
    bif (decide (i < ((List.length (M.SType.Kids t)) : Int))) then
      bif (Option.getD (rec_s_l03Has (M.SType.re (List.getD (M.SType.Kids t) (Int.toNat i) M.SType.zero)) low high) Inhabited.default) then
        let q0 := ((Option.isSome (rec_s_l03Has (M.SType.re (List.getD (M.SType.Kids t) (Int.toNat i) M.SType.zero)) low high)) && ((Go.V.inB i (List.length (M.SType.Kids t))) && true))
        bif q0 then
          some (.inl true)
        else
          none
      else
        let q0 := ((Option.isSome (rec_s_l03Has (M.SType.re (List.getD (M.SType.Kids t) (Int.toNat i) M.SType.zero)) low high)) && ((Go.V.inB i (List.length (M.SType.Kids t))) && true))
        bif q0 then
          M.s_l03Has_l0 rec_s_l03Has low high fuel (Go.IntKind.wrap Go.IntKind.i64 (i + (1 : Int))) (M.SType.re t)
        else
          none
    else
      some ((.inr (())))
end M
namespace M
noncomputable def s_l03Has_b (rec_s_l03Has : M.SType → Int → Int → Option (Bool)) (t : M.SType) (low : Int) (high : Int) : Option (Bool) :=
  bif ((decide (low ≤ (M.SType.Kind t))) && (decide ((M.SType.Kind t) ≤ high))) then
    some true
  else
    match (M.s_l03Has_l0 rec_s_l03Has low high Go.V.bigN (0 : Int) (M.SType.re t)) with
    | none => none
    | some y0 =>
      (match y0 with
      | .inl a1 =>
        some a1
      | .inr b1 =>
        some false)
noncomputable def s_l03Has_n : Nat → M.SType → Int → Int → Option (Bool)
  | 0 => fun _ _ _ => none
  | n + 1 => s_l03Has_b (s_l03Has_n n)
noncomputable def s_l03Has : M.SType → Int → Int → Option (Bool) := s_l03Has_n Go.V.bigN
end M
namespace M
noncomputable def s_l03Shape (t : M.SType) : Option (Bool) :=
  let q0 := (((M.SType.Kind t) == (20 : Int)) || ((M.SType.Kind t) == (21 : Int)))
  let q1 := (!(q0 == (!((M.SType.Name t) == []))))
  let q2 := (M.s_l03Name (M.SType.Name t))
  let q3 := ((decide ((16 : Int) ≤ (M.SType.Kind t))) && (decide ((M.SType.Kind t) ≤ (19 : Int))))
  let q4 := ((q1 || (q0 && (!(Option.getD q2 Inhabited.default)))) || (!(q3 == (decide ((0 : Int) < ((List.length (M.SType.Labels t)) : Int))))))
  let q5 := (M.s_l03Labels (M.SType.Labels t))
  bif (q4 || (q3 && (!(Option.getD q5 Inhabited.default)))) then
    let q6 := (((Option.isSome q5) || (!((q4 == false) && (q3 == true)))) && (((Option.isSome q2) || (!((q1 == false) && (q0 == true)))) && true))
    bif q6 then
      some false
    else
      none
  else
    bif (bif ((M.SType.Kind t) == (12 : Int)) then ((M.SType.Kind t) == (12 : Int)) else ((M.SType.Kind t) == (13 : Int))) then
      let q6 := (M.s_l03Units (M.SType.re t))
      let q7 := (!((((List.length (M.SType.Kids t)) : Int) == (1 : Int)) == true))
      let q8 := (((Option.isSome q5) || (!((q4 == false) && (q3 == true)))) && (((Option.isSome q2) || (!((q1 == false) && (q0 == true)))) && true))
      let q9 := ((q8 || (!((M.SType.Kind t) == (12 : Int)))) && (q8 || ((M.SType.Kind t) == (12 : Int))))
      bif (((Option.isSome q6) || q7) && q9) then
        some ((((List.length (M.SType.Kids t)) : Int) == (1 : Int)) && (!(Option.getD q6 Inhabited.default)))
      else
        none
    else
      bif (bif ((M.SType.Kind t) == (22 : Int)) then ((M.SType.Kind t) == (22 : Int)) else ((M.SType.Kind t) == (23 : Int))) then
        let q6 := (M.s_l03Has (M.SType.re (List.getD (M.SType.Kids t) (Int.toNat (0 : Int)) M.SType.zero)) (21 : Int) (21 : Int))
        let q7 := (!((((List.length (M.SType.Kids t)) : Int) == (1 : Int)) == true))
        let q8 := (((Option.isSome q5) || (!((q4 == false) && (q3 == true)))) && (((Option.isSome q2) || (!((q1 == false) && (q0 == true)))) && true))
        let q9 := ((q8 || (!((M.SType.Kind t) == (12 : Int)))) && (q8 || ((M.SType.Kind t) == (12 : Int))))
        let q10 := ((q9 || (!((M.SType.Kind t) == (22 : Int)))) && (q9 || ((M.SType.Kind t) == (22 : Int))))
        bif (((Option.isSome q6) || q7) && (((Go.V.inB (0 : Int) (List.length (M.SType.Kids t))) || q7) && q10)) then
          some ((((List.length (M.SType.Kids t)) : Int) == (1 : Int)) && (!(Option.getD q6 Inhabited.default)))
        else
          none
      else
        bif ((M.SType.Kind t) == (14 : Int)) then
          let q6 := (((Option.isSome q5) || (!((q4 == false) && (q3 == true)))) && (((Option.isSome q2) || (!((q1 == false) && (q0 == true)))) && true))
          let q7 := ((q6 || (!((M.SType.Kind t) == (12 : Int)))) && (q6 || ((M.SType.Kind t) == (12 : Int))))
          let q8 := ((q7 || (!((M.SType.Kind t) == (22 : Int)))) && (q7 || ((M.SType.Kind t) == (22 : Int))))
          bif q8 then
            some (((List.length (M.SType.Kids t)) : Int) == (2 : Int))
          else
            none
        else
          bif ((M.SType.Kind t) == (15 : Int)) then
            let q6 := (M.s_l03Units (M.SType.re t))
            let q7 := ((decide ((1 : Int) ≤ ((List.length (M.SType.Kids t)) : Int))) && (decide (((List.length (M.SType.Kids t)) : Int) ≤ (6 : Int))))
            let q8 := (((Option.isSome q5) || (!((q4 == false) && (q3 == true)))) && (((Option.isSome q2) || (!((q1 == false) && (q0 == true)))) && true))
            let q9 := ((q8 || (!((M.SType.Kind t) == (12 : Int)))) && (q8 || ((M.SType.Kind t) == (12 : Int))))
            let q10 := ((q9 || (!((M.SType.Kind t) == (22 : Int)))) && (q9 || ((M.SType.Kind t) == (22 : Int))))
            bif (((Option.isSome q6) || (!(q7 == true))) && q10) then
              some (q7 && (!(Option.getD q6 Inhabited.default)))
            else
              none
          else
            bif ((M.SType.Kind t) == (16 : Int)) then
              let q6 := (M.s_l03Units (M.SType.re t))
              let q7 := (((Option.isSome q5) || (!((q4 == false) && (q3 == true)))) && (((Option.isSome q2) || (!((q1 == false) && (q0 == true)))) && true))
              let q8 := ((q7 || (!((M.SType.Kind t) == (12 : Int)))) && (q7 || ((M.SType.Kind t) == (12 : Int))))
              let q9 := ((q8 || (!((M.SType.Kind t) == (22 : Int)))) && (q8 || ((M.SType.Kind t) == (22 : Int))))
              bif (((Option.isSome q6) || (!((((List.length (M.SType.Kids t)) : Int) == ((List.length (M.SType.Labels t)) : Int)) == true))) && q9) then
                some ((((List.length (M.SType.Kids t)) : Int) == ((List.length (M.SType.Labels t)) : Int)) && (!(Option.getD q6 Inhabited.default)))
              else
                none
            else
              bif ((M.SType.Kind t) == (17 : Int)) then
                let q6 := (((Option.isSome q5) || (!((q4 == false) && (q3 == true)))) && (((Option.isSome q2) || (!((q1 == false) && (q0 == true)))) && true))
                let q7 := ((q6 || (!((M.SType.Kind t) == (12 : Int)))) && (q6 || ((M.SType.Kind t) == (12 : Int))))
                let q8 := ((q7 || (!((M.SType.Kind t) == (22 : Int)))) && (q7 || ((M.SType.Kind t) == (22 : Int))))
                bif q8 then
                  some (((List.length (M.SType.Kids t)) : Int) == ((List.length (M.SType.Labels t)) : Int))
                else
                  none
              else
                let q6 := (((Option.isSome q5) || (!((q4 == false) && (q3 == true)))) && (((Option.isSome q2) || (!((q1 == false) && (q0 == true)))) && true))
                let q7 := ((q6 || (!((M.SType.Kind t) == (12 : Int)))) && (q6 || ((M.SType.Kind t) == (12 : Int))))
                let q8 := ((q7 || (!((M.SType.Kind t) == (22 : Int)))) && (q7 || ((M.SType.Kind t) == (22 : Int))))
                bif q8 then
                  some (((decide ((1 : Int) ≤ (M.SType.Kind t))) && (decide ((M.SType.Kind t) ≤ (23 : Int)))) && (((List.length (M.SType.Kids t)) : Int) == (0 : Int)))
                else
                  none
end M
namespace M
noncomputable def s_l03Parts_l0 (rec_s_l03Parts : M.SType → Option (Bool)) : Nat → Int → M.SType → Option ((Bool) ⊕ (Unit))
  | 0, _, _ => none
  | fuel + 1, i, t =>
    bif (decide (i < ((List.length (M.SType.Kids t)) : Int))) then
      bif (!(Option.getD (rec_s_l03Parts (M.SType.re (List.getD (M.SType.Kids t) (Int.toNat i) M.SType.zero))) Inhabited.default)) then
        let q0 := ((Option.isSome (rec_s_l03Parts (M.SType.re (List.getD (M.SType.Kids t) (Int.toNat i) M.SType.zero)))) && ((Go.V.inB i (List.length (M.SType.Kids t))) && true))
        bif q0 then
          some (.inl false)
        else
          none
      else
        let q0 := ((Option.isSome (rec_s_l03Parts (M.SType.re (List.getD (M.SType.Kids t) (Int.toNat i) M.SType.zero)))) && ((Go.V.inB i (List.length (M.SType.Kids t))) && true))
        bif q0 then
          M.s_l03Parts_l0 rec_s_l03Parts fuel (Go.IntKind.wrap Go.IntKind.i64 (i + (1 : Int))) (M.SType.re t)
        else
          none
    else
      some ((.inr (())))
end M
namespace M
noncomputable def s_l03Parts_b (rec_s_l03Parts : M.SType → Option (Bool)) (t : M.SType) : Option (Bool) :=
  let q0 := (M.s_l03Shape (M.SType.re t))
  bif (!(Option.getD q0 Inhabited.default)) then
    bif ((Option.isSome q0) && true) then
      some false
    else
      none
  else
    match (M.s_l03Parts_l0 rec_s_l03Parts Go.V.bigN (0 : Int) (M.SType.re t)) with
    | none => none
    | some y1 =>
      (match y1 with
      | .inl a2 =>
        bif ((Option.isSome q0) && true) then
          some a2
        else
          none
      | .inr b2 =>
        bif ((Option.isSome q0) && true) then
          some true
        else
          none)
noncomputable def s_l03Parts_n : Nat → M.SType → Option (Bool)
  | 0 => fun _ => none
  | n + 1 => s_l03Parts_b (s_l03Parts_n n)
noncomputable def s_l03Parts : M.SType → Option (Bool) := s_l03Parts_n Go.V.bigN
end M
namespace M
noncomputable def i_deep_l0 (rec_i_deep : M.SType → Int → Option (Int)) (levels : Int) (t11 : (List M.SType)) (t12 : Int) : Nat → Int → Int → Option (Int)
  | 0, _, _ => none
  | fuel + 1, depth, t13 =>
    bif (decide (t13 < t12)) then
      bif ((Option.isSome (rec_i_deep (M.SType.re (List.getD t11 (Int.toNat t13) M.SType.zero)) (Go.IntKind.wrap Go.IntKind.i64 (levels - (1 : Int))))) && ((Go.V.inB t13 (List.length t11)) && true)) then
        let q0 := (Option.getD (rec_i_deep (M.SType.re (List.getD t11 (Int.toNat t13) M.SType.zero)) (Go.IntKind.wrap Go.IntKind.i64 (levels - (1 : Int)))) Inhabited.default)
        M.i_deep_l0 rec_i_deep levels t11 t12 fuel (bif (decide (depth < q0)) then q0 else depth) (Go.IntKind.wrap Go.IntKind.i64 (t13 + (1 : Int)))
      else
        none
    else
      some (depth)
end M
namespace M
noncomputable def i_deep_b (rec_i_deep : M.SType → Int → Option (Int)) (t : M.SType) (levels : Int) : Option (Int) :=
  bif (levels == (0 : Int)) then
    some (1 : Int)
  else
    match (M.i_deep_l0 rec_i_deep levels (M.SType.Kids t) ((List.length (M.SType.Kids t)) : Int) Go.V.bigN (0 : Int) (0 : Int)) with
    | none => none
    | some y0 =>
      some (Go.IntKind.wrap Go.IntKind.i64 (y0 + (1 : Int)))
noncomputable def i_deep_n : Nat → M.SType → Int → Option (Int)
  | 0 => fun _ _ => none
  | n + 1 => i_deep_b (i_deep_n n)
noncomputable def i_deep : M.SType → Int → Option (Int) := i_deep_n Go.V.bigN
end M
namespace M
noncomputable def i_parts_l0 (rec_i_parts : M.SType → Option (Int)) (t7 : (List M.SType)) (t8 : Int) : Nat → Int → Int → Option (Int)
  | 0, _, _ => none
  | fuel + 1, many, t9 =>
    bif (decide (t9 < t8)) then
      bif ((Option.isSome (rec_i_parts (M.SType.re (List.getD t7 (Int.toNat t9) M.SType.zero)))) && ((Go.V.inB t9 (List.length t7)) && true)) then
        M.i_parts_l0 rec_i_parts t7 t8 fuel (Go.IntKind.wrap Go.IntKind.i64 (many + (Option.getD (rec_i_parts (M.SType.re (List.getD t7 (Int.toNat t9) M.SType.zero))) Inhabited.default))) (Go.IntKind.wrap Go.IntKind.i64 (t9 + (1 : Int)))
      else
        none
    else
      some (many)
end M
namespace M
noncomputable def i_parts_b (rec_i_parts : M.SType → Option (Int)) (t : M.SType) : Option (Int) :=
  match (M.i_parts_l0 rec_i_parts (M.SType.Kids t) ((List.length (M.SType.Kids t)) : Int) Go.V.bigN (1 : Int) (0 : Int)) with
  | none => none
  | some y0 =>
    some y0
noncomputable def i_parts_n : Nat → M.SType → Option (Int)
  | 0 => fun _ => none
  | n + 1 => i_parts_b (i_parts_n n)
noncomputable def i_parts : M.SType → Option (Int) := i_parts_n Go.V.bigN
end M
namespace M
noncomputable def i_shapeOk_c1 (rec_i_shapeOk : M.SType → Option (Bool)) (kid : M.SType) : Option (Bool) :=
  bif ((Option.isSome (rec_i_shapeOk (M.SType.re kid))) && true) then
    some (!(Option.getD (rec_i_shapeOk (M.SType.re kid)) Inhabited.default))
  else
    none
end M
namespace M
noncomputable def slices_IndexFunc_Type_Type_l0 (rec_i_shapeOk : M.SType → Option (Bool)) (s : (List M.SType)) (t7 : Int) : Nat → Int → Option ((Int) ⊕ (Unit))
  | 0, _ => none
  | fuel + 1, t8 =>
    bif (decide (t8 < t7)) then
      let q0 := (M.i_shapeOk_c1 rec_i_shapeOk (M.SType.re (List.getD s (Int.toNat t8) M.SType.zero)))
      bif (Option.getD q0 Inhabited.default) then
        let q1 := ((Option.isSome q0) && ((Go.V.inB t8 (List.length s)) && true))
        bif q1 then
          some (.inl t8)
        else
          none
      else
        let q1 := ((Option.isSome q0) && ((Go.V.inB t8 (List.length s)) && true))
        bif q1 then
          M.slices_IndexFunc_Type_Type_l0 rec_i_shapeOk s t7 fuel (Go.IntKind.wrap Go.IntKind.i64 (t8 + (1 : Int)))
        else
          none
    else
      some ((.inr (())))
end M
namespace M
noncomputable def slices_IndexFunc_Type_Type (rec_i_shapeOk : M.SType → Option (Bool)) (s : (List M.SType)) : Option (Int) :=
  match (M.slices_IndexFunc_Type_Type_l0 rec_i_shapeOk s ((List.length s) : Int) Go.V.bigN (0 : Int)) with
  | none => none
  | some y0 =>
    (match y0 with
    | .inl a1 =>
      some a1
    | .inr b1 =>
      some (-(1 : Int)))
end M
namespace M
noncomputable def slices_ContainsFunc_Type_Type (rec_i_shapeOk : M.SType → Option (Bool)) (s : (List M.SType)) : Option (Bool) :=
  let q0 := (M.slices_IndexFunc_Type_Type rec_i_shapeOk s)
  bif ((Option.isSome q0) && true) then
    some (decide ((0 : Int) ≤ (Option.getD q0 Inhabited.default)))
  else
    none
end M
namespace M
def i_within (n : Int) (low : Int) (high : Int) : Option (Bool) :=
  some ((decide (low ≤ n)) && (decide (n ≤ high)))
end M
namespace M
def i_size_string (list : (List (List UInt8))) : Option (Int) :=
  some ((List.length list) : Int)
end M
namespace M
noncomputable def i_NameOk_l0 (s : (List UInt8)) (t7 : Int) : Nat → Int → Option ((Bool) ⊕ ((List UInt8)))
  | 0, _ => none
  | fuel + 1, t8 =>
    bif (decide (t8 < t7)) then
      bif ((decide ((97 : Int) ≤ ((UInt8.toNat (List.getD s (Int.toNat t8) (0 : UInt8))) : Int))) && (decide (((UInt8.toNat (List.getD s (Int.toNat t8) (0 : UInt8))) : Int) ≤ (122 : Int)))) then
        let q0 := (((Go.V.inB t8 (List.length s)) || (!((decide ((48 : Int) ≤ ((UInt8.toNat (List.getD s (Int.toNat t8) (0 : UInt8))) : Int))) == true))) && ((Go.V.inB t8 (List.length s)) && (((Go.V.inB t8 (List.length s)) || (!((decide ((97 : Int) ≤ ((UInt8.toNat (List.getD s (Int.toNat t8) (0 : UInt8))) : Int))) == true))) && ((Go.V.inB t8 (List.length s)) && true))))
        bif q0 then
          M.i_NameOk_l0 s t7 fuel (Go.IntKind.wrap Go.IntKind.i64 (t8 + (1 : Int)))
        else
          none
      else
        let q0 := (!((decide ((48 : Int) ≤ ((UInt8.toNat (List.getD s (Int.toNat t8) (0 : UInt8))) : Int))) && (decide (((UInt8.toNat (List.getD s (Int.toNat t8) (0 : UInt8))) : Int) ≤ (57 : Int)))))
        bif ((t8 == (0 : Int)) || (q0 && (((UInt8.toNat (List.getD s (Int.toNat t8) (0 : UInt8))) : Int) != (45 : Int)))) then
          let q1 := (((Go.V.inB t8 (List.length s)) || (!((decide ((48 : Int) ≤ ((UInt8.toNat (List.getD s (Int.toNat t8) (0 : UInt8))) : Int))) == true))) && ((Go.V.inB t8 (List.length s)) && (((Go.V.inB t8 (List.length s)) || (!((decide ((97 : Int) ≤ ((UInt8.toNat (List.getD s (Int.toNat t8) (0 : UInt8))) : Int))) == true))) && ((Go.V.inB t8 (List.length s)) && true))))
          let q2 := (((Go.V.inB t8 (List.length s)) || (!(((t8 == (0 : Int)) == false) && (q0 == true)))) && q1)
          bif q2 then
            some (.inl false)
          else
            none
        else
          let q1 := (((UInt8.toNat (List.getD s (Int.toNat t8) (0 : UInt8))) : Int) == (45 : Int))
          bif (q1 && (((UInt8.toNat (List.getD s (Int.toNat (Go.IntKind.wrap Go.IntKind.i64 (t8 - (1 : Int)))) (0 : UInt8))) : Int) == (45 : Int))) then
            let q2 := (((Go.V.inB t8 (List.length s)) || (!((decide ((48 : Int) ≤ ((UInt8.toNat (List.getD s (Int.toNat t8) (0 : UInt8))) : Int))) == true))) && ((Go.V.inB t8 (List.length s)) && (((Go.V.inB t8 (List.length s)) || (!((decide ((97 : Int) ≤ ((UInt8.toNat (List.getD s (Int.toNat t8) (0 : UInt8))) : Int))) == true))) && ((Go.V.inB t8 (List.length s)) && true))))
            let q3 := (((Go.V.inB t8 (List.length s)) || (!(((t8 == (0 : Int)) == false) && (q0 == true)))) && q2)
            let q4 := (((Go.V.inB (Go.IntKind.wrap Go.IntKind.i64 (t8 - (1 : Int))) (List.length s)) || (!(q1 == true))) && ((Go.V.inB t8 (List.length s)) && q3))
            bif q4 then
              some (.inl false)
            else
              none
          else
            let q2 := (((Go.V.inB t8 (List.length s)) || (!((decide ((48 : Int) ≤ ((UInt8.toNat (List.getD s (Int.toNat t8) (0 : UInt8))) : Int))) == true))) && ((Go.V.inB t8 (List.length s)) && (((Go.V.inB t8 (List.length s)) || (!((decide ((97 : Int) ≤ ((UInt8.toNat (List.getD s (Int.toNat t8) (0 : UInt8))) : Int))) == true))) && ((Go.V.inB t8 (List.length s)) && true))))
            let q3 := (((Go.V.inB t8 (List.length s)) || (!(((t8 == (0 : Int)) == false) && (q0 == true)))) && q2)
            let q4 := (((Go.V.inB (Go.IntKind.wrap Go.IntKind.i64 (t8 - (1 : Int))) (List.length s)) || (!(q1 == true))) && ((Go.V.inB t8 (List.length s)) && q3))
            bif q4 then
              M.i_NameOk_l0 s t7 fuel (Go.IntKind.wrap Go.IntKind.i64 (t8 + (1 : Int)))
            else
              none
    else
      some ((.inr (s)))
end M
namespace M
noncomputable def i_NameOk (s : (List UInt8)) : Option (Bool) :=
  match (M.i_NameOk_l0 s ((List.length s) : Int) Go.V.bigN (0 : Int)) with
  | none => none
  | some y0 =>
    (match y0 with
    | .inl a1 =>
      some a1
    | .inr b1 =>
      let q2 := ((decide ((1 : Int) ≤ ((List.length b1) : Int))) && (decide (((List.length b1) : Int) ≤ (12 : Int))))
      bif (((Go.V.inB (Go.IntKind.wrap Go.IntKind.i64 (((List.length b1) : Int) - (1 : Int))) (List.length b1)) || (!(q2 == true))) && true) then
        some (q2 && (((UInt8.toNat (List.getD b1 (Int.toNat (Go.IntKind.wrap Go.IntKind.i64 (((List.length b1) : Int) - (1 : Int)))) (0 : UInt8))) : Int) != (45 : Int)))
      else
        none)
end M
namespace M
noncomputable def i_labelsOk_c1 (name : (List UInt8)) : Option (Bool) :=
  let q0 := (M.i_NameOk name)
  bif ((Option.isSome q0) && true) then
    some (!(Option.getD q0 Inhabited.default))
  else
    none
end M
namespace M
noncomputable def slices_IndexFunc_string_string_l0 (s : (List (List UInt8))) (t7 : Int) : Nat → Int → Option ((Int) ⊕ (Unit))
  | 0, _ => none
  | fuel + 1, t8 =>
    bif (decide (t8 < t7)) then
      let q0 := (M.i_labelsOk_c1 (List.getD s (Int.toNat t8) []))
      bif (Option.getD q0 Inhabited.default) then
        let q1 := ((Option.isSome q0) && ((Go.V.inB t8 (List.length s)) && true))
        bif q1 then
          some (.inl t8)
        else
          none
      else
        let q1 := ((Option.isSome q0) && ((Go.V.inB t8 (List.length s)) && true))
        bif q1 then
          M.slices_IndexFunc_string_string_l0 s t7 fuel (Go.IntKind.wrap Go.IntKind.i64 (t8 + (1 : Int)))
        else
          none
    else
      some ((.inr (())))
end M
namespace M
noncomputable def slices_IndexFunc_string_string (s : (List (List UInt8))) : Option (Int) :=
  match (M.slices_IndexFunc_string_string_l0 s ((List.length s) : Int) Go.V.bigN (0 : Int)) with
  | none => none
  | some y0 =>
    (match y0 with
    | .inl a1 =>
      some a1
    | .inr b1 =>
      some (-(1 : Int)))
end M
namespace M
noncomputable def slices_ContainsFunc_string_string (s : (List (List UInt8))) : Option (Bool) :=
  let q0 := (M.slices_IndexFunc_string_string s)
  bif ((Option.isSome q0) && true) then
    some (decide ((0 : Int) ≤ (Option.getD q0 Inhabited.default)))
  else
    none
end M
namespace M
noncomputable def i_labelsOk (labels : (List (List UInt8))) : Option (Bool) :=
  let q0 := (M.slices_ContainsFunc_string_string labels)
  let q1 := ((decide ((1 : Int) ≤ ((List.length labels) : Int))) && (decide (((List.length labels) : Int) ≤ (16 : Int))))
  let q2 := (M.i_distinct labels)
  let q3 := (q1 && (Option.getD q2 Inhabited.default))
  bif (((Option.isSome q0) || (!(q3 == true))) && (((Option.isSome q2) || (!(q1 == true))) && true)) then
    some (q3 && (!(Option.getD q0 Inhabited.default)))
  else
    none
end M
namespace M
noncomputable def i_size_Type (list : (List M.SType)) : Option (Int) :=
  some ((List.length list) : Int)
end M
namespace M
noncomputable def i_isUnit (t : M.SType) : Option (Bool) :=
  some ((M.SType.Kind t) == (1 : Int))
end M
namespace M
noncomputable def slices_IndexFunc_Type_Type_2_l0 (s : (List M.SType)) (t7 : Int) : Nat → Int → Option ((Int) ⊕ (Unit))
  | 0, _ => none
  | fuel + 1, t8 =>
    bif (decide (t8 < t7)) then
      bif ((M.SType.Kind (List.getD s (Int.toNat t8) M.SType.zero)) == (1 : Int)) then
        bif ((Go.V.inB t8 (List.length s)) && true) then
          some (.inl t8)
        else
          none
      else
        bif ((Go.V.inB t8 (List.length s)) && true) then
          M.slices_IndexFunc_Type_Type_2_l0 s t7 fuel (Go.IntKind.wrap Go.IntKind.i64 (t8 + (1 : Int)))
        else
          none
    else
      some ((.inr (())))
end M
namespace M
noncomputable def slices_IndexFunc_Type_Type_2 (s : (List M.SType)) : Option (Int) :=
  match (M.slices_IndexFunc_Type_Type_2_l0 s ((List.length s) : Int) Go.V.bigN (0 : Int)) with
  | none => none
  | some y0 =>
    (match y0 with
    | .inl a1 =>
      some a1
    | .inr b1 =>
      some (-(1 : Int)))
end M
namespace M
noncomputable def slices_ContainsFunc_Type_Type_2 (s : (List M.SType)) : Option (Bool) :=
  let q0 := (M.slices_IndexFunc_Type_Type_2 s)
  bif ((Option.isSome q0) && true) then
    some (decide ((0 : Int) ≤ (Option.getD q0 Inhabited.default)))
  else
    none
end M
namespace M
noncomputable def i_kidsOk (t : M.SType) (many : Int) : Option (Bool) :=
  let q0 := (M.slices_ContainsFunc_Type_Type_2 (M.SType.Kids t))
  bif (((Option.isSome q0) || (!((((List.length (M.SType.Kids t)) : Int) == many) == true))) && true) then
    some ((((List.length (M.SType.Kids t)) : Int) == many) && (!(Option.getD q0 Inhabited.default)))
  else
    none
end M
namespace M
noncomputable def slices_Index_int64_int64_l0 (s : (List Int)) (v : Int) (t7 : Int) : Nat → Int → Option ((Int) ⊕ (Unit))
  | 0, _ => none
  | fuel + 1, t8 =>
    bif (decide (t8 < t7)) then
      bif (v == (List.getD s (Int.toNat t8) (0 : Int))) then
        bif ((Go.V.inB t8 (List.length s)) && true) then
          some (.inl t8)
        else
          none
      else
        bif ((Go.V.inB t8 (List.length s)) && true) then
          M.slices_Index_int64_int64_l0 s v t7 fuel (Go.IntKind.wrap Go.IntKind.i64 (t8 + (1 : Int)))
        else
          none
    else
      some ((.inr (())))
end M
namespace M
noncomputable def slices_Index_int64_int64 (s : (List Int)) (v : Int) : Option (Int) :=
  match (M.slices_Index_int64_int64_l0 s v ((List.length s) : Int) Go.V.bigN (0 : Int)) with
  | none => none
  | some y0 =>
    (match y0 with
    | .inl a1 =>
      some a1
    | .inr b1 =>
      some (-(1 : Int)))
end M
namespace M
noncomputable def slices_Contains_int64_int64 (s : (List Int)) (v : Int) : Option (Bool) :=
  let q0 := (M.slices_Index_int64_int64 s v)
  bif ((Option.isSome q0) && true) then
    some (decide ((0 : Int) ≤ (Option.getD q0 Inhabited.default)))
  else
    none
end M
namespace M
noncomputable def i_hasKind_c1 (rec_i_hasKind : M.SType → (List Int) → Option (Bool)) (kid : M.SType) (t1 : (List Int)) : Option (Bool) :=
  bif ((Option.isSome (rec_i_hasKind (M.SType.re kid) t1)) && true) then
    some (Option.getD (rec_i_hasKind (M.SType.re kid) t1) Inhabited.default)
  else
    none
end M
namespace M
noncomputable def slices_IndexFunc_Type_Type_3_l0 (rec_i_hasKind : M.SType → (List Int) → Option (Bool)) (s : (List M.SType)) (f : (List Int)) (t7 : Int) : Nat → Int → Option ((Int) ⊕ (Unit))
  | 0, _ => none
  | fuel + 1, t8 =>
    bif (decide (t8 < t7)) then
      let q0 := (M.i_hasKind_c1 rec_i_hasKind (M.SType.re (List.getD s (Int.toNat t8) M.SType.zero)) f)
      bif (Option.getD q0 Inhabited.default) then
        let q1 := ((Option.isSome q0) && ((Go.V.inB t8 (List.length s)) && true))
        bif q1 then
          some (.inl t8)
        else
          none
      else
        let q1 := ((Option.isSome q0) && ((Go.V.inB t8 (List.length s)) && true))
        bif q1 then
          M.slices_IndexFunc_Type_Type_3_l0 rec_i_hasKind s f t7 fuel (Go.IntKind.wrap Go.IntKind.i64 (t8 + (1 : Int)))
        else
          none
    else
      some ((.inr (())))
end M
namespace M
noncomputable def slices_IndexFunc_Type_Type_3 (rec_i_hasKind : M.SType → (List Int) → Option (Bool)) (s : (List M.SType)) (f : (List Int)) : Option (Int) :=
  match (M.slices_IndexFunc_Type_Type_3_l0 rec_i_hasKind s f ((List.length s) : Int) Go.V.bigN (0 : Int)) with
  | none => none
  | some y0 =>
    (match y0 with
    | .inl a1 =>
      some a1
    | .inr b1 =>
      some (-(1 : Int)))
end M
namespace M
noncomputable def slices_ContainsFunc_Type_Type_3 (rec_i_hasKind : M.SType → (List Int) → Option (Bool)) (s : (List M.SType)) (f : (List Int)) : Option (Bool) :=
  let q0 := (M.slices_IndexFunc_Type_Type_3 rec_i_hasKind s f)
  bif ((Option.isSome q0) && true) then
    some (decide ((0 : Int) ≤ (Option.getD q0 Inhabited.default)))
  else
    none
end M
namespace M
noncomputable def i_hasKind_b (rec_i_hasKind : M.SType → (List Int) → Option (Bool)) (t : M.SType) (kinds : (List Int)) : Option (Bool) :=
  let q0 := (M.slices_ContainsFunc_Type_Type_3 rec_i_hasKind (M.SType.Kids t) kinds)
  let q1 := (M.slices_Contains_int64_int64 kinds (M.SType.Kind t))
  bif (((Option.isSome q0) || (!((Option.getD q1 Inhabited.default) == false))) && ((Option.isSome q1) && true)) then
    some ((Option.getD q1 Inhabited.default) || (Option.getD q0 Inhabited.default))
  else
    none
noncomputable def i_hasKind_n : Nat → M.SType → (List Int) → Option (Bool)
  | 0 => fun _ _ => none
  | n + 1 => i_hasKind_b (i_hasKind_n n)
noncomputable def i_hasKind : M.SType → (List Int) → Option (Bool) := i_hasKind_n Go.V.bigN
end M
namespace M
noncomputable def i_shapeOk_b (rec_i_shapeOk : M.SType → Option (Bool)) (t : M.SType) : Option (Bool) :=
  let q0 := (M.slices_ContainsFunc_Type_Type rec_i_shapeOk (M.SType.Kids t))
  bif (Option.getD q0 Inhabited.default) then
    bif ((Option.isSome q0) && true) then
      some false
    else
      none
  else
    let q1 := ((decide ((16 : Int) ≤ (M.SType.Kind t))) && (decide ((M.SType.Kind t) ≤ (19 : Int))))
    let q2 := (M.i_labelsOk (M.SType.Labels t))
    let q3 := ((q1 && (!(Option.getD q2 Inhabited.default))) || ((!q1) && (decide ((0 : Int) < ((List.length (M.SType.Labels t)) : Int)))))
    let q4 := (((M.SType.Kind t) == (20 : Int)) || ((M.SType.Kind t) == (21 : Int)))
    let q5 := (M.i_NameOk (M.SType.Name t))
    bif ((q3 || (q4 && (!(Option.getD q5 Inhabited.default)))) || ((!q4) && (!((M.SType.Name t) == [])))) then
      let q6 := (((Option.isSome q5) || (!((q3 == false) && (q4 == true)))) && (((Option.isSome q2) || (!(q1 == true))) && ((Option.isSome q0) && true)))
      bif q6 then
        some false
      else
        none
    else
      bif (bif ((M.SType.Kind t) == (12 : Int)) then ((M.SType.Kind t) == (12 : Int)) else ((M.SType.Kind t) == (13 : Int))) then
        let q6 := (M.i_kidsOk (M.SType.re t) (1 : Int))
        let q7 := (((Option.isSome q5) || (!((q3 == false) && (q4 == true)))) && (((Option.isSome q2) || (!(q1 == true))) && ((Option.isSome q0) && true)))
        let q8 := ((q7 || (!((M.SType.Kind t) == (12 : Int)))) && (q7 || ((M.SType.Kind t) == (12 : Int))))
        bif ((Option.isSome q6) && q8) then
          some (Option.getD q6 Inhabited.default)
        else
          none
      else
        bif ((M.SType.Kind t) == (14 : Int)) then
          let q6 := (((Option.isSome q5) || (!((q3 == false) && (q4 == true)))) && (((Option.isSome q2) || (!(q1 == true))) && ((Option.isSome q0) && true)))
          let q7 := ((q6 || (!((M.SType.Kind t) == (12 : Int)))) && (q6 || ((M.SType.Kind t) == (12 : Int))))
          bif q7 then
            some (((List.length (M.SType.Kids t)) : Int) == (2 : Int))
          else
            none
        else
          bif ((M.SType.Kind t) == (15 : Int)) then
            let q6 := (M.i_kidsOk (M.SType.re t) ((List.length (M.SType.Kids t)) : Int))
            let q7 := ((decide ((1 : Int) ≤ ((List.length (M.SType.Kids t)) : Int))) && (decide (((List.length (M.SType.Kids t)) : Int) ≤ (6 : Int))))
            let q8 := (((Option.isSome q5) || (!((q3 == false) && (q4 == true)))) && (((Option.isSome q2) || (!(q1 == true))) && ((Option.isSome q0) && true)))
            let q9 := ((q8 || (!((M.SType.Kind t) == (12 : Int)))) && (q8 || ((M.SType.Kind t) == (12 : Int))))
            bif (((Option.isSome q6) || (!(q7 == true))) && q9) then
              some (q7 && (Option.getD q6 Inhabited.default))
            else
              none
          else
            bif ((M.SType.Kind t) == (16 : Int)) then
              let q6 := (M.i_kidsOk (M.SType.re t) ((List.length (M.SType.Labels t)) : Int))
              let q7 := (((Option.isSome q5) || (!((q3 == false) && (q4 == true)))) && (((Option.isSome q2) || (!(q1 == true))) && ((Option.isSome q0) && true)))
              let q8 := ((q7 || (!((M.SType.Kind t) == (12 : Int)))) && (q7 || ((M.SType.Kind t) == (12 : Int))))
              bif ((Option.isSome q6) && q8) then
                some (Option.getD q6 Inhabited.default)
              else
                none
            else
              bif ((M.SType.Kind t) == (17 : Int)) then
                let q6 := (((Option.isSome q5) || (!((q3 == false) && (q4 == true)))) && (((Option.isSome q2) || (!(q1 == true))) && ((Option.isSome q0) && true)))
                let q7 := ((q6 || (!((M.SType.Kind t) == (12 : Int)))) && (q6 || ((M.SType.Kind t) == (12 : Int))))
                bif q7 then
                  some (((List.length (M.SType.Kids t)) : Int) == ((List.length (M.SType.Labels t)) : Int))
                else
                  none
              else
                bif (bif ((M.SType.Kind t) == (22 : Int)) then ((M.SType.Kind t) == (22 : Int)) else ((M.SType.Kind t) == (23 : Int))) then
                  let q6 := (M.i_hasKind (M.SType.re (List.getD (M.SType.Kids t) (Int.toNat (0 : Int)) M.SType.zero)) [(21 : Int)])
                  let q7 := (!((((List.length (M.SType.Kids t)) : Int) == (1 : Int)) == true))
                  let q8 := (((Option.isSome q5) || (!((q3 == false) && (q4 == true)))) && (((Option.isSome q2) || (!(q1 == true))) && ((Option.isSome q0) && true)))
                  let q9 := ((q8 || (!((M.SType.Kind t) == (12 : Int)))) && (q8 || ((M.SType.Kind t) == (12 : Int))))
                  let q10 := ((q9 || (!((M.SType.Kind t) == (22 : Int)))) && (q9 || ((M.SType.Kind t) == (22 : Int))))
                  bif (((Option.isSome q6) || q7) && (((Go.V.inB (0 : Int) (List.length (M.SType.Kids t))) || q7) && q10)) then
                    some ((((List.length (M.SType.Kids t)) : Int) == (1 : Int)) && (!(Option.getD q6 Inhabited.default)))
                  else
                    none
                else
                  let q6 := (((Option.isSome q5) || (!((q3 == false) && (q4 == true)))) && (((Option.isSome q2) || (!(q1 == true))) && ((Option.isSome q0) && true)))
                  let q7 := ((q6 || (!((M.SType.Kind t) == (12 : Int)))) && (q6 || ((M.SType.Kind t) == (12 : Int))))
                  let q8 := ((q7 || (!((M.SType.Kind t) == (22 : Int)))) && (q7 || ((M.SType.Kind t) == (22 : Int))))
                  bif q8 then
                    some (((decide ((1 : Int) ≤ (M.SType.Kind t))) && (decide ((M.SType.Kind t) ≤ (23 : Int)))) && (((List.length (M.SType.Kids t)) : Int) == (0 : Int)))
                  else
                    none
noncomputable def i_shapeOk_n : Nat → M.SType → Option (Bool)
  | 0 => fun _ => none
  | n + 1 => i_shapeOk_b (i_shapeOk_n n)
noncomputable def i_shapeOk : M.SType → Option (Bool) := i_shapeOk_n Go.V.bigN
end M
namespace M
noncomputable def s_l03Ok (t : M.SType) : Option (Bool) :=
  let q0 := (M.s_l03Parts (M.SType.re t))
  let q1 := (M.s_l03Size (M.SType.re t) (1 : Int))
  let q2 := ((decide ((Option.getD q1 Inhabited.default).1 ≤ (4 : Int))) && (decide ((Option.getD q1 Inhabited.default).2 ≤ (24 : Int))))
  bif (((Option.isSome q0) || (!(q2 == true))) && ((Option.isSome q1) && true)) then
    some (q2 && (Option.getD q0 Inhabited.default))
  else
    none
end M
namespace M
noncomputable def l_szParam (a : M.SParam) (left : Int) : Option (Int) :=
  bif (decide ((Go.IntKind.wrap Go.IntKind.i64 (left - ((List.length (M.SParam.Name a)) : Int))) < (0 : Int))) then
    some (-(1 : Int))
  else
    let q0 := (M.l_szType (M.SType.re (M.SParam.Type_ a)) (Go.IntKind.wrap Go.IntKind.i64 (left - ((List.length (M.SParam.Name a)) : Int))))
    let q1 := (Option.getD q0 Inhabited.default)
    bif (decide (q1 < (0 : Int))) then
      let q2 := ((Option.isSome q0) && true)
      bif q2 then
        some (-(1 : Int))
      else
        none
    else
      let q2 := ((Option.isSome q0) && true)
      bif q2 then
        some q1
      else
        none
end M
namespace M
noncomputable def l_szParamS_l0 (a : (List M.SParam)) : Nat → Int → Int → Option ((Int) ⊕ (Int))
  | 0, _, _ => none
  | fuel + 1, left, i =>
    bif (decide (i < ((List.length a) : Int))) then
      let q0 := (M.l_szParam (M.SParam.re (List.getD a (Int.toNat i) M.SParam.zero)) left)
      let q1 := (Option.getD q0 Inhabited.default)
      bif (decide (q1 < (0 : Int))) then
        let q2 := ((Option.isSome q0) && ((Go.V.inB i (List.length a)) && true))
        bif q2 then
          some (.inl (-(1 : Int)))
        else
          none
      else
        let q2 := ((Option.isSome q0) && ((Go.V.inB i (List.length a)) && true))
        bif q2 then
          M.l_szParamS_l0 a fuel q1 (Go.IntKind.wrap Go.IntKind.i64 (i + (1 : Int)))
        else
          none
    else
      some ((.inr (left)))
end M
namespace M
noncomputable def l_szParamS (a : (List M.SParam)) (left : Int) : Option (Int) :=
  bif (decide ((Go.IntKind.wrap Go.IntKind.i64 (left - ((List.length a) : Int))) < (0 : Int))) then
    some (-(1 : Int))
  else
    match (M.l_szParamS_l0 a Go.V.bigN (Go.IntKind.wrap Go.IntKind.i64 (left - ((List.length a) : Int))) (0 : Int)) with
    | none => none
    | some y0 =>
      (match y0 with
      | .inl a1 =>
        some a1
      | .inr b1 =>
        some b1)
end M
namespace M
noncomputable def l_szFuncType (a : M.SFuncType) (left : Int) : Option (Int) :=
  let q0 := (M.l_szParamS (M.SFuncType.Params a) left)
  bif (decide ((Option.getD q0 Inhabited.default) < (0 : Int))) then
    bif ((Option.isSome q0) && true) then
      some (-(1 : Int))
    else
      none
  else
    let q1 := (M.l_szType (M.SType.re (M.SFuncType.Result a)) (Option.getD q0 Inhabited.default))
    let q2 := (Option.getD q1 Inhabited.default)
    bif (decide (q2 < (0 : Int))) then
      let q3 := ((Option.isSome q1) && ((Option.isSome q0) && true))
      bif q3 then
        some (-(1 : Int))
      else
        none
    else
      let q3 := ((Option.isSome q1) && ((Option.isSome q0) && true))
      bif q3 then
        some q2
      else
        none
end M
namespace M
noncomputable def l_szFunc (a : M.SFunc) (left : Int) : Option (Int) :=
  bif (decide ((Go.IntKind.wrap Go.IntKind.i64 (left - ((List.length (M.SFunc.Name a)) : Int))) < (0 : Int))) then
    some (-(1 : Int))
  else
    let q0 := (M.l_szFuncType (M.SFuncType.re (M.SFunc.Type_ a)) (Go.IntKind.wrap Go.IntKind.i64 (left - ((List.length (M.SFunc.Name a)) : Int))))
    let q1 := (Option.getD q0 Inhabited.default)
    bif (decide (q1 < (0 : Int))) then
      let q2 := ((Option.isSome q0) && true)
      bif q2 then
        some (-(1 : Int))
      else
        none
    else
      let q2 := ((Option.isSome q0) && true)
      bif q2 then
        some q1
      else
        none
end M
namespace M
noncomputable def l_szFuncS_l0 (a : (List M.SFunc)) : Nat → Int → Int → Option ((Int) ⊕ (Int))
  | 0, _, _ => none
  | fuel + 1, left, i =>
    bif (decide (i < ((List.length a) : Int))) then
      let q0 := (M.l_szFunc (M.SFunc.re (List.getD a (Int.toNat i) M.SFunc.zero)) left)
      let q1 := (Option.getD q0 Inhabited.default)
      bif (decide (q1 < (0 : Int))) then
        let q2 := ((Option.isSome q0) && ((Go.V.inB i (List.length a)) && true))
        bif q2 then
          some (.inl (-(1 : Int)))
        else
          none
      else
        let q2 := ((Option.isSome q0) && ((Go.V.inB i (List.length a)) && true))
        bif q2 then
          M.l_szFuncS_l0 a fuel q1 (Go.IntKind.wrap Go.IntKind.i64 (i + (1 : Int)))
        else
          none
    else
      some ((.inr (left)))
end M
namespace M
noncomputable def l_szFuncS (a : (List M.SFunc)) (left : Int) : Option (Int) :=
  bif (decide ((Go.IntKind.wrap Go.IntKind.i64 (left - ((List.length a) : Int))) < (0 : Int))) then
    some (-(1 : Int))
  else
    match (M.l_szFuncS_l0 a Go.V.bigN (Go.IntKind.wrap Go.IntKind.i64 (left - ((List.length a) : Int))) (0 : Int)) with
    | none => none
    | some y0 =>
      (match y0 with
      | .inl a1 =>
        some a1
      | .inr b1 =>
        some b1)
end M
namespace M
noncomputable def l_szFace (a : M.SFace) (left : Int) : Option (Int) :=
  bif (decide ((Go.IntKind.wrap Go.IntKind.i64 (left - ((List.length (M.SFace.Package a)) : Int))) < (0 : Int))) then
    some (-(1 : Int))
  else
    let q0 := (Go.IntKind.wrap Go.IntKind.i64 ((Go.IntKind.wrap Go.IntKind.i64 (left - ((List.length (M.SFace.Package a)) : Int))) - ((List.length (M.SFace.Name a)) : Int)))
    bif (decide (q0 < (0 : Int))) then
      some (-(1 : Int))
    else
      let q1 := (Go.IntKind.wrap Go.IntKind.i64 (q0 - ((List.length (M.SFace.Version a)) : Int)))
      bif (decide (q1 < (0 : Int))) then
        some (-(1 : Int))
      else
        let q2 := (M.l_szStringS (M.SFace.Resources a) q1)
        let q3 := (Option.getD q2 Inhabited.default)
        bif (decide (q3 < (0 : Int))) then
          let q4 := ((Option.isSome q2) && true)
          bif q4 then
            some (-(1 : Int))
          else
            none
        else
          let q4 := (M.l_szFuncS (M.SFace.Funcs a) q3)
          let q5 := (Option.getD q4 Inhabited.default)
          bif (decide (q5 < (0 : Int))) then
            let q6 := ((Option.isSome q2) && true)
            let q7 := ((Option.isSome q4) && q6)
            bif q7 then
              some (-(1 : Int))
            else
              none
          else
            let q6 := ((Option.isSome q2) && true)
            let q7 := ((Option.isSome q4) && q6)
            bif q7 then
              some q5
            else
              none
end M
namespace M
noncomputable def l_toParam (a : M.SParam) : Option (M.SParam) :=
  let q0 := (M.l_toType (M.SType.re (M.SParam.Type_ a)))
  bif ((Option.isSome q0) && true) then
    some (M.SParam.mk (M.SParam.Name a) (M.SType.re (Option.getD q0 Inhabited.default)))
  else
    none
end M
namespace M
noncomputable def l_toParamS_l0 (a : (List M.SParam)) : Nat → Int → (List M.SParam) → Option ((List M.SParam))
  | 0, _, _ => none
  | fuel + 1, i, out =>
    bif (decide (i < ((List.length a) : Int))) then
      let q0 := (M.l_toParam (M.SParam.re (List.getD a (Int.toNat i) M.SParam.zero)))
      bif ((Go.V.inB i (List.length out)) && ((Option.isSome q0) && ((Go.V.inB i (List.length a)) && true))) then
        M.l_toParamS_l0 a fuel (Go.IntKind.wrap Go.IntKind.i64 (i + (1 : Int))) (List.set out (Int.toNat i) (M.SParam.re (Option.getD q0 Inhabited.default)))
      else
        none
    else
      some (out)
end M
namespace M
noncomputable def l_toParamS (a : (List M.SParam)) : Option ((List M.SParam)) :=
  match (M.l_toParamS_l0 a Go.V.bigN (0 : Int) (List.replicate (Int.toNat ((List.length a) : Int)) (M.SParam.mk [] (M.SType.mk (0 : Int) [] [] [])))) with
  | none => none
  | some y0 =>
    bif (((decide (((List.length a) : Int) ≤ ((List.length a) : Int))) && (decide (((List.length a) : Int) ≤ (1073741824 : Int)))) && true) then
      some y0
    else
      none
end M
namespace M
noncomputable def l_toFuncType (a : M.SFuncType) : Option (M.SFuncType) :=
  let q0 := (M.l_toType (M.SType.re (M.SFuncType.Result a)))
  let q1 := (M.l_toParamS (M.SFuncType.Params a))
  bif ((Option.isSome q0) && ((Option.isSome q1) && true)) then
    some (M.SFuncType.mk (Option.getD q1 Inhabited.default) (M.SType.re (Option.getD q0 Inhabited.default)) (M.SFuncType.Async a))
  else
    none
end M
namespace M
noncomputable def l_toFunc (a : M.SFunc) : Option (M.SFunc) :=
  let q0 := (M.l_toFuncType (M.SFuncType.re (M.SFunc.Type_ a)))
  bif ((Option.isSome q0) && true) then
    some (M.SFunc.mk (M.SFunc.Name a) (M.SFuncType.re (Option.getD q0 Inhabited.default)))
  else
    none
end M
namespace M
noncomputable def l_toFuncS_l0 (a : (List M.SFunc)) : Nat → Int → (List M.SFunc) → Option ((List M.SFunc))
  | 0, _, _ => none
  | fuel + 1, i, out =>
    bif (decide (i < ((List.length a) : Int))) then
      let q0 := (M.l_toFunc (M.SFunc.re (List.getD a (Int.toNat i) M.SFunc.zero)))
      bif ((Go.V.inB i (List.length out)) && ((Option.isSome q0) && ((Go.V.inB i (List.length a)) && true))) then
        M.l_toFuncS_l0 a fuel (Go.IntKind.wrap Go.IntKind.i64 (i + (1 : Int))) (List.set out (Int.toNat i) (M.SFunc.re (Option.getD q0 Inhabited.default)))
      else
        none
    else
      some (out)
end M
namespace M
noncomputable def l_toFuncS (a : (List M.SFunc)) : Option ((List M.SFunc)) :=
  match (M.l_toFuncS_l0 a Go.V.bigN (0 : Int) (List.replicate (Int.toNat ((List.length a) : Int)) (M.SFunc.mk [] (M.SFuncType.mk [] (M.SType.mk (0 : Int) [] [] []) false)))) with
  | none => none
  | some y0 =>
    bif (((decide (((List.length a) : Int) ≤ ((List.length a) : Int))) && (decide (((List.length a) : Int) ≤ (1073741824 : Int)))) && true) then
      some y0
    else
      none
end M
namespace M
noncomputable def l_toFace (a : M.SFace) : Option (M.SFace) :=
  let q0 := (M.l_toFuncS (M.SFace.Funcs a))
  let q1 := (M.l_toStringS (M.SFace.Resources a))
  bif ((Option.isSome q0) && ((Option.isSome q1) && true)) then
    some (M.SFace.mk (M.SFace.Package a) (M.SFace.Name a) (M.SFace.Version a) (Option.getD q1 Inhabited.default) (Option.getD q0 Inhabited.default))
  else
    none
end M
namespace M
noncomputable def s_l02Num_l0 (s : (List UInt8)) : Nat → Int → Int → Int → Int → Option ((Int) ⊕ ((List UInt8) × Int × Int × Int))
  | 0, _, _, _, _ => none
  | fuel + 1, n, part, dots, i =>
    bif ((decide (i < ((List.length s) : Int))) && (decide (i < (12 : Int)))) then
      bif (((UInt8.toNat (List.getD s (Int.toNat i) (0 : UInt8))) : Int) == (46 : Int)) then
        bif ((Go.V.inB i (List.length s)) && true) then
          M.s_l02Num_l0 s fuel (Go.IntKind.wrap Go.IntKind.i64 ((Go.IntKind.wrap Go.IntKind.i64 (n + part)) * (1000 : Int))) (0 : Int) (Go.IntKind.wrap Go.IntKind.i64 (dots + (1 : Int))) (Go.IntKind.wrap Go.IntKind.i64 (i + (1 : Int)))
        else
          none
      else
        bif ((decide (((UInt8.toNat (List.getD s (Int.toNat i) (0 : UInt8))) : Int) < (48 : Int))) || (decide ((57 : Int) < ((UInt8.toNat (List.getD s (Int.toNat i) (0 : UInt8))) : Int)))) then
          let q0 := (((Go.V.inB i (List.length s)) || (!((decide (((UInt8.toNat (List.getD s (Int.toNat i) (0 : UInt8))) : Int) < (48 : Int))) == false))) && ((Go.V.inB i (List.length s)) && ((Go.V.inB i (List.length s)) && true)))
          bif q0 then
            some (.inl (-(1 : Int)))
          else
            none
        else
          let q0 := (((Go.V.inB i (List.length s)) || (!((decide (((UInt8.toNat (List.getD s (Int.toNat i) (0 : UInt8))) : Int) < (48 : Int))) == false))) && ((Go.V.inB i (List.length s)) && ((Go.V.inB i (List.length s)) && true)))
          bif ((Go.V.inB i (List.length s)) && q0) then
            M.s_l02Num_l0 s fuel n (Go.IntKind.wrap Go.IntKind.i64 ((Go.IntKind.wrap Go.IntKind.i64 ((10 : Int) * part)) + (Go.IntKind.wrap Go.IntKind.i64 (Go.IntKind.wrap Go.IntKind.u8 (((UInt8.toNat (List.getD s (Int.toNat i) (0 : UInt8))) : Int) - (48 : Int)))))) dots (Go.IntKind.wrap Go.IntKind.i64 (i + (1 : Int)))
          else
            none
    else
      some ((.inr ((s, n, part, dots))))
end M
namespace M
noncomputable def s_l02Dec_b (rec_s_l02Dec : Int → Option ((List UInt8))) (n : Int) : Option ((List UInt8)) :=
  bif (decide (n < (10 : Int))) then
    let q0 := (Go.IntKind.wrap Go.IntKind.u8 (Go.IntKind.wrap Go.IntKind.i64 ((48 : Int) + n)))
    bif (((Go.V.u8ok q0) && true) && true) then
      some (List.map (fun a => a) [(Go.V.u8of q0)])
    else
      none
  else
    let q0 := (Option.getD (rec_s_l02Dec (Go.IntKind.wrap Go.IntKind.i64 (Int.tdiv n (10 : Int)))) Inhabited.default)
    let q1 := (Go.IntKind.wrap Go.IntKind.u8 (Go.IntKind.wrap Go.IntKind.i64 ((48 : Int) + (Int.tmod n (10 : Int)))))
    let q2 := (List.map (fun a => a) [(Go.V.u8of q1)])
    bif ((Go.V.catB q0 q2) && (((Go.V.u8ok q1) && true) && (((10 : Int) != (0 : Int)) && ((Option.isSome (rec_s_l02Dec (Go.IntKind.wrap Go.IntKind.i64 (Int.tdiv n (10 : Int))))) && (((10 : Int) != (0 : Int)) && true))))) then
      some (q0 ++ q2)
    else
      none
noncomputable def s_l02Dec_n : Nat → Int → Option ((List UInt8))
  | 0 => fun _ => none
  | n + 1 => s_l02Dec_b (s_l02Dec_n n)
noncomputable def s_l02Dec : Int → Option ((List UInt8)) := s_l02Dec_n Go.V.bigN
end M
namespace M
noncomputable def s_l02Text (n : Int) : Option ((List UInt8)) :=
  let q0 := (M.s_l02Dec (Go.IntKind.wrap Go.IntKind.i64 (Int.tdiv n (1000000 : Int))))
  let q1 := (Option.getD q0 Inhabited.default)
  let q2 := (q1 ++ [(46 : UInt8)])
  let q3 := (M.s_l02Dec (Int.tmod (Go.IntKind.wrap Go.IntKind.i64 (Int.tdiv n (1000 : Int))) (1000 : Int)))
  let q4 := (Option.getD q3 Inhabited.default)
  let q5 := (q2 ++ q4)
  let q6 := (q5 ++ [(46 : UInt8)])
  let q7 := (M.s_l02Dec (Int.tmod n (1000 : Int)))
  bif ((Go.V.catB q6 (Option.getD q7 Inhabited.default)) && ((Option.isSome q7) && (((1000 : Int) != (0 : Int)) && ((Go.V.catB q5 [(46 : UInt8)]) && ((Go.V.catB q2 q4) && ((Option.isSome q3) && (((1000 : Int) != (0 : Int)) && (((1000 : Int) != (0 : Int)) && ((Go.V.catB q1 [(46 : UInt8)]) && ((Option.isSome q0) && (((1000000 : Int) != (0 : Int)) && true))))))))))) then
    some (q6 ++ (Option.getD q7 Inhabited.default))
  else
    none
end M
namespace M
noncomputable def s_l02Num (s : (List UInt8)) : Option (Int) :=
  match (M.s_l02Num_l0 s Go.V.bigN (0 : Int) (0 : Int) (0 : Int) (0 : Int)) with
  | none => none
  | some y0 =>
    (match y0 with
    | .inl a1 =>
      some a1
    | .inr b1 =>
      let q2 := (Go.IntKind.wrap Go.IntKind.i64 (b1.2.1 + b1.2.2.1))
      let q3 := (((b1.2.2.2 != (2 : Int)) || (decide ((999 : Int) < b1.2.2.1))) || (!((decide ((0 : Int) ≤ q2)) && (decide (q2 ≤ (999999999 : Int))))))
      let q4 := (M.s_l02Text q2)
      bif (q3 || (!((Option.getD q4 Inhabited.default) == b1.1))) then
        let q5 := (((Option.isSome q4) || (!(q3 == false))) && true)
        bif q5 then
          some (-(1 : Int))
        else
          none
      else
        let q5 := (((Option.isSome q4) || (!(q3 == false))) && true)
        bif q5 then
          some q2
        else
          none)
end M
namespace M
noncomputable def s_VersionOk (s : (List UInt8)) : Option (Bool) :=
  let q0 := (M.s_l02Num s)
  bif ((Option.isSome q0) && true) then
    some (decide ((0 : Int) ≤ (Option.getD q0 Inhabited.default)))
  else
    none
end M
namespace M
noncomputable def s_l03Face_l0 (f : M.SFace) : Nat → Int → Option ((Bool) ⊕ (M.SFace))
  | 0, _ => none
  | fuel + 1, i =>
    bif (decide (i < ((List.length (M.SFace.Resources f)) : Int))) then
      let q0 := (M.s_l03Name (List.getD (M.SFace.Resources f) (Int.toNat i) []))
      let q1 := (!(Option.getD q0 Inhabited.default))
      bif (q1 || ((decide ((0 : Int) < i)) && (!(Go.V.ltS (List.getD (M.SFace.Resources f) (Int.toNat (Go.IntKind.wrap Go.IntKind.i64 (i - (1 : Int)))) []) (List.getD (M.SFace.Resources f) (Int.toNat i) []))))) then
        let q2 := (!((q1 == false) && ((decide ((0 : Int) < i)) == true)))
        let q3 := (((Go.V.inB i (List.length (M.SFace.Resources f))) || q2) && (((Go.V.inB (Go.IntKind.wrap Go.IntKind.i64 (i - (1 : Int))) (List.length (M.SFace.Resources f))) || q2) && ((Option.isSome q0) && ((Go.V.inB i (List.length (M.SFace.Resources f))) && true))))
        bif q3 then
          some (.inl false)
        else
          none
      else
        let q2 := (!((q1 == false) && ((decide ((0 : Int) < i)) == true)))
        let q3 := (((Go.V.inB i (List.length (M.SFace.Resources f))) || q2) && (((Go.V.inB (Go.IntKind.wrap Go.IntKind.i64 (i - (1 : Int))) (List.length (M.SFace.Resources f))) || q2) && ((Option.isSome q0) && ((Go.V.inB i (List.length (M.SFace.Resources f))) && true))))
        bif q3 then
          M.s_l03Face_l0 f fuel (Go.IntKind.wrap Go.IntKind.i64 (i + (1 : Int)))
        else
          none
    else
      some ((.inr (f)))
end M
namespace M
noncomputable def s_l03Func_l0_0 (i : Int) : Nat → Int → M.SFuncType → M.SParam → Option ((Bool) ⊕ (Int × M.SFuncType))
  | 0, _, _, _ => none
  | fuel + 1, k, f, p =>
    bif (decide (k < i)) then
      bif ((M.SParam.Name (List.getD (M.SFuncType.Params f) (Int.toNat k) M.SParam.zero)) == (M.SParam.Name p)) then
        bif ((Go.V.inB k (List.length (M.SFuncType.Params f))) && true) then
          some (.inl false)
        else
          none
      else
        bif ((Go.V.inB k (List.length (M.SFuncType.Params f))) && true) then
          M.s_l03Func_l0_0 i fuel (Go.IntKind.wrap Go.IntKind.i64 (k + (1 : Int))) (M.SFuncType.re f) (M.SParam.re p)
        else
          none
    else
      some ((.inr ((i, (M.SFuncType.re f)))))
end M
namespace M
noncomputable def s_l03Func_l0 : Nat → Int → M.SFuncType → Option ((Bool) ⊕ (Unit))
  | 0, _, _ => none
  | fuel + 1, i, f =>
    bif (decide (i < ((List.length (M.SFuncType.Params f)) : Int))) then
      let q0 := (M.s_l03Name (M.SParam.Name (List.getD (M.SFuncType.Params f) (Int.toNat i) M.SParam.zero)))
      let q1 := (!(Option.getD q0 Inhabited.default))
      let q2 := (M.s_l03Ok (M.SType.re (M.SParam.Type_ (List.getD (M.SFuncType.Params f) (Int.toNat i) M.SParam.zero))))
      bif ((q1 || (!(Option.getD q2 Inhabited.default))) || ((M.SType.Kind (M.SParam.Type_ (List.getD (M.SFuncType.Params f) (Int.toNat i) M.SParam.zero))) == (1 : Int))) then
        let q3 := (((Option.isSome q2) || (!(q1 == false))) && ((Option.isSome q0) && ((Go.V.inB i (List.length (M.SFuncType.Params f))) && true)))
        bif q3 then
          some (.inl false)
        else
          none
      else
        match (M.s_l03Func_l0_0 i Go.V.bigN (0 : Int) (M.SFuncType.re f) (M.SParam.re (List.getD (M.SFuncType.Params f) (Int.toNat i) M.SParam.zero))) with
        | none => none
        | some y3 =>
          (match y3 with
          | .inl a4 =>
            let q5 := (((Option.isSome q2) || (!(q1 == false))) && ((Option.isSome q0) && ((Go.V.inB i (List.length (M.SFuncType.Params f))) && true)))
            bif q5 then
              some (.inl a4)
            else
              none
          | .inr b4 =>
            let q5 := (((Option.isSome q2) || (!(q1 == false))) && ((Option.isSome q0) && ((Go.V.inB i (List.length (M.SFuncType.Params f))) && true)))
            bif q5 then
              M.s_l03Func_l0 fuel (Go.IntKind.wrap Go.IntKind.i64 (b4.1 + (1 : Int))) (M.SFuncType.re b4.2)
            else
              none)
    else
      some ((.inr (())))
end M
namespace M
noncomputable def s_l03Func (f : M.SFuncType) : Option (Bool) :=
  let q0 := (M.s_l03Ok (M.SType.re (M.SFuncType.Result f)))
  let q1 := ((decide ((6 : Int) < ((List.length (M.SFuncType.Params f)) : Int))) || (!(Option.getD q0 Inhabited.default)))
  let q2 := (M.s_l03Has (M.SType.re (M.SFuncType.Result f)) (21 : Int) (21 : Int))
  bif (q1 || (Option.getD q2 Inhabited.default)) then
    let q3 := (((Option.isSome q2) || (!(q1 == false))) && (((Option.isSome q0) || (!((decide ((6 : Int) < ((List.length (M.SFuncType.Params f)) : Int))) == false))) && true))
    bif q3 then
      some false
    else
      none
  else
    match (M.s_l03Func_l0 Go.V.bigN (0 : Int) (M.SFuncType.re f)) with
    | none => none
    | some y3 =>
      (match y3 with
      | .inl a4 =>
        let q5 := (((Option.isSome q2) || (!(q1 == false))) && (((Option.isSome q0) || (!((decide ((6 : Int) < ((List.length (M.SFuncType.Params f)) : Int))) == false))) && true))
        bif q5 then
          some a4
        else
          none
      | .inr b4 =>
        let q5 := (((Option.isSome q2) || (!(q1 == false))) && (((Option.isSome q0) || (!((decide ((6 : Int) < ((List.length (M.SFuncType.Params f)) : Int))) == false))) && true))
        bif q5 then
          some true
        else
          none)
end M
namespace M
noncomputable def s_l03PutText_l0 (list : (List (List UInt8))) (s : (List UInt8)) : Nat → Bool → Int → (List (List UInt8)) → Option ((List UInt8) × Bool × (List (List UInt8)))
  | 0, _, _, _ => none
  | fuel + 1, done, i, out =>
    bif (decide (i < ((List.length list) : Int))) then
      let q0 := ((List.getD list (Int.toNat i) []) == s)
      let q1 := (q0 || done)
      let q2 := (!q1)
      bif (q2 && (!((Go.V.ltS (List.getD list (Int.toNat i) []) s) || q0))) then
        let q3 := [s]
        let q4 := (out ++ q3)
        let q5 := [(List.getD list (Int.toNat i) [])]
        let q6 := (List.length q5)
        let q7 := (List.length out)
        let q8 := (((Go.V.inB i (List.length list)) || (!(q2 == true))) && ((((Go.V.inB i (List.length list)) && true) || (!q0)) && (((Go.V.inB i (List.length list)) && true) || q0)))
        bif ((decide (((List.length q4) + q6) ≤ 1073741824)) && ((Go.V.inB i (List.length list)) && ((decide ((q7 + (List.length q3)) ≤ 1073741824)) && q8))) then
          M.s_l03PutText_l0 list s fuel true (Go.IntKind.wrap Go.IntKind.i64 (i + (1 : Int))) (q4 ++ q5)
        else
          none
      else
        let q3 := (List.length out)
        let q4 := [(List.getD list (Int.toNat i) [])]
        let q5 := (List.length q4)
        let q6 := (((Go.V.inB i (List.length list)) || (!(q2 == true))) && ((((Go.V.inB i (List.length list)) && true) || (!q0)) && (((Go.V.inB i (List.length list)) && true) || q0)))
        bif ((decide ((q3 + q5) ≤ 1073741824)) && ((Go.V.inB i (List.length list)) && q6)) then
          M.s_l03PutText_l0 list s fuel q1 (Go.IntKind.wrap Go.IntKind.i64 (i + (1 : Int))) (out ++ q4)
        else
          none
    else
      some ((s, done, out))
end M
namespace M
noncomputable def s_l03PutText (list : (List (List UInt8))) (s : (List UInt8)) : Option ((List (List UInt8))) :=
  match (M.s_l03PutText_l0 list s Go.V.bigN false (0 : Int) []) with
  | none => none
  | some y0 =>
    bif (!y0.2.1) then
      let q1 := [y0.1]
      bif ((decide (((List.length y0.2.2) + (List.length q1)) ≤ 1073741824)) && true) then
        some (y0.2.2 ++ q1)
      else
        none
    else
      some y0.2.2
end M
namespace M
noncomputable def s_l03Resources_l0 (rec_s_l03Resources : M.SType → (List (List UInt8)) → Option ((List (List UInt8)))) : Nat → (List (List UInt8)) → Int → M.SType → Option ((List (List UInt8)))
  | 0, _, _, _ => none
  | fuel + 1, out, i, t =>
    bif (decide (i < ((List.length (M.SType.Kids t)) : Int))) then
      bif ((Option.isSome (rec_s_l03Resources (M.SType.re (List.getD (M.SType.Kids t) (Int.toNat i) M.SType.zero)) out)) && ((Go.V.inB i (List.length (M.SType.Kids t))) && true)) then
        M.s_l03Resources_l0 rec_s_l03Resources fuel (Option.getD (rec_s_l03Resources (M.SType.re (List.getD (M.SType.Kids t) (Int.toNat i) M.SType.zero)) out) Inhabited.default) (Go.IntKind.wrap Go.IntKind.i64 (i + (1 : Int))) (M.SType.re t)
      else
        none
    else
      some (out)
end M
namespace M
noncomputable def s_l03Resources_b (rec_s_l03Resources : M.SType → (List (List UInt8)) → Option ((List (List UInt8)))) (t : M.SType) (out : (List (List UInt8))) : Option ((List (List UInt8))) :=
  bif (!((M.SType.Name t) == [])) then
    let q0 := (M.s_l03PutText out (M.SType.Name t))
    match (M.s_l03Resources_l0 rec_s_l03Resources Go.V.bigN (Option.getD q0 Inhabited.default) (0 : Int) (M.SType.re t)) with
    | none => none
    | some y1 =>
      bif ((Option.isSome q0) && true) then
        some y1
      else
        none
  else
    match (M.s_l03Resources_l0 rec_s_l03Resources Go.V.bigN out (0 : Int) (M.SType.re t)) with
    | none => none
    | some y0 =>
      some y0
noncomputable def s_l03Resources_n : Nat → M.SType → (List (List UInt8)) → Option ((List (List UInt8)))
  | 0 => fun _ _ => none
  | n + 1 => s_l03Resources_b (s_l03Resources_n n)
noncomputable def s_l03Resources : M.SType → (List (List UInt8)) → Option ((List (List UInt8))) := s_l03Resources_n Go.V.bigN
end M
namespace M
noncomputable def s_l03Known_l0 (list : (List (List UInt8))) : Nat → (List (List UInt8)) → Int → M.SFuncType → Option ((List (List UInt8)) × (List (List UInt8)))
  | 0, _, _, _ => none
  | fuel + 1, all, i, f =>
    bif (decide (i < ((List.length (M.SFuncType.Params f)) : Int))) then
      let q0 := (M.s_l03Resources (M.SType.re (M.SParam.Type_ (List.getD (M.SFuncType.Params f) (Int.toNat i) M.SParam.zero))) all)
      bif ((Option.isSome q0) && ((Go.V.inB i (List.length (M.SFuncType.Params f))) && true)) then
        M.s_l03Known_l0 list fuel (Option.getD q0 Inhabited.default) (Go.IntKind.wrap Go.IntKind.i64 (i + (1 : Int))) (M.SFuncType.re f)
      else
        none
    else
      some ((list, all))
end M
namespace M
noncomputable def s_l03Known_l1_0 (list : (List (List UInt8))) (all : (List (List UInt8))) (i : Int) : Nat → Bool → Int → Option ((List (List UInt8)) × (List (List UInt8)) × Int × Bool)
  | 0, _, _ => none
  | fuel + 1, met, k =>
    bif (decide (k < ((List.length list) : Int))) then
      bif (((Go.V.inB i (List.length all)) || (!(met == false))) && (((Go.V.inB k (List.length list)) || (!(met == false))) && true)) then
        M.s_l03Known_l1_0 list all i fuel (met || ((List.getD list (Int.toNat k) []) == (List.getD all (Int.toNat i) []))) (Go.IntKind.wrap Go.IntKind.i64 (k + (1 : Int)))
      else
        none
    else
      some ((list, all, i, met))
end M
namespace M
noncomputable def s_l03Known_l1 : Nat → (List (List UInt8)) → (List (List UInt8)) → Int → Option ((Bool) ⊕ (Unit))
  | 0, _, _, _ => none
  | fuel + 1, list, all, i =>
    bif (decide (i < ((List.length all) : Int))) then
      match (M.s_l03Known_l1_0 list all i Go.V.bigN false (0 : Int)) with
      | none => none
      | some y0 =>
        bif (!y0.2.2.2) then
          some (.inl false)
        else
          M.s_l03Known_l1 fuel y0.1 y0.2.1 (Go.IntKind.wrap Go.IntKind.i64 (y0.2.2.1 + (1 : Int)))
    else
      some ((.inr (())))
end M
namespace M
noncomputable def s_l03Known (f : M.SFuncType) (list : (List (List UInt8))) : Option (Bool) :=
  let q0 := (M.s_l03Resources (M.SType.re (M.SFuncType.Result f)) [])
  match (M.s_l03Known_l0 list Go.V.bigN (Option.getD q0 Inhabited.default) (0 : Int) (M.SFuncType.re f)) with
  | none => none
  | some y1 =>
    match (M.s_l03Known_l1 Go.V.bigN y1.1 y1.2 (0 : Int)) with
    | none => none
    | some y2 =>
      (match y2 with
      | .inl a3 =>
        let q4 := ((Option.isSome q0) && true)
        bif q4 then
          some a3
        else
          none
      | .inr b3 =>
        let q4 := ((Option.isSome q0) && true)
        bif q4 then
          some true
        else
          none)
end M
namespace M
noncomputable def s_l03Face_l1 (f : M.SFace) : Nat → Int → Option ((Bool) ⊕ (Unit))
  | 0, _ => none
  | fuel + 1, i =>
    bif (decide (i < ((List.length (M.SFace.Funcs f)) : Int))) then
      let q0 := (M.s_l03Name (M.SFunc.Name (List.getD (M.SFace.Funcs f) (Int.toNat i) M.SFunc.zero)))
      let q1 := (!(Option.getD q0 Inhabited.default))
      let q2 := (q1 || ((decide ((0 : Int) < i)) && (!(Go.V.ltS (M.SFunc.Name (List.getD (M.SFace.Funcs f) (Int.toNat (Go.IntKind.wrap Go.IntKind.i64 (i - (1 : Int)))) M.SFunc.zero)) (M.SFunc.Name (List.getD (M.SFace.Funcs f) (Int.toNat i) M.SFunc.zero))))))
      let q3 := (M.s_l03Func (M.SFuncType.re (M.SFunc.Type_ (List.getD (M.SFace.Funcs f) (Int.toNat i) M.SFunc.zero))))
      let q4 := (q2 || (!(Option.getD q3 Inhabited.default)))
      let q5 := (M.s_l03Known (M.SFuncType.re (M.SFunc.Type_ (List.getD (M.SFace.Funcs f) (Int.toNat i) M.SFunc.zero))) (M.SFace.Resources f))
      bif (q4 || (!(Option.getD q5 Inhabited.default))) then
        let q6 := (!(q4 == false))
        let q7 := (!(q2 == false))
        let q8 := (!((q1 == false) && ((decide ((0 : Int) < i)) == true)))
        let q9 := (((Option.isSome q5) || q6) && (((Go.V.inB i (List.length (M.SFace.Funcs f))) || q6) && (((Option.isSome q3) || q7) && (((Go.V.inB i (List.length (M.SFace.Funcs f))) || q7) && (((Go.V.inB i (List.length (M.SFace.Funcs f))) || q8) && (((Go.V.inB (Go.IntKind.wrap Go.IntKind.i64 (i - (1 : Int))) (List.length (M.SFace.Funcs f))) || q8) && ((Option.isSome q0) && ((Go.V.inB i (List.length (M.SFace.Funcs f))) && true))))))))
        bif q9 then
          some (.inl false)
        else
          none
      else
        let q6 := (!(q4 == false))
        let q7 := (!(q2 == false))
        let q8 := (!((q1 == false) && ((decide ((0 : Int) < i)) == true)))
        let q9 := (((Option.isSome q5) || q6) && (((Go.V.inB i (List.length (M.SFace.Funcs f))) || q6) && (((Option.isSome q3) || q7) && (((Go.V.inB i (List.length (M.SFace.Funcs f))) || q7) && (((Go.V.inB i (List.length (M.SFace.Funcs f))) || q8) && (((Go.V.inB (Go.IntKind.wrap Go.IntKind.i64 (i - (1 : Int))) (List.length (M.SFace.Funcs f))) || q8) && ((Option.isSome q0) && ((Go.V.inB i (List.length (M.SFace.Funcs f))) && true))))))))
        bif q9 then
          M.s_l03Face_l1 f fuel (Go.IntKind.wrap Go.IntKind.i64 (i + (1 : Int)))
        else
          none
    else
      some ((.inr (())))
end M
namespace M
noncomputable def s_l03Face (f : M.SFace) : Option (Bool) :=
  let q0 := (M.s_l03Name (M.SFace.Package f))
  let q1 := (M.s_l03Name (M.SFace.Name f))
  let q2 := ((!(Option.getD q0 Inhabited.default)) || (!(Option.getD q1 Inhabited.default)))
  let q3 := (M.s_VersionOk (M.SFace.Version f))
  bif (((q2 || (!(Option.getD q3 Inhabited.default))) || (decide ((4 : Int) < ((List.length (M.SFace.Resources f)) : Int)))) || (decide ((8 : Int) < ((List.length (M.SFace.Funcs f)) : Int)))) then
    let q4 := (((Option.isSome q3) || (!(q2 == false))) && (((Option.isSome q1) || (!((!(Option.getD q0 Inhabited.default)) == false))) && ((Option.isSome q0) && true)))
    bif q4 then
      some false
    else
      none
  else
    match (M.s_l03Face_l0 f Go.V.bigN (0 : Int)) with
    | none => none
    | some y4 =>
      (match y4 with
      | .inl a5 =>
        let q6 := (((Option.isSome q3) || (!(q2 == false))) && (((Option.isSome q1) || (!((!(Option.getD q0 Inhabited.default)) == false))) && ((Option.isSome q0) && true)))
        bif q6 then
          some a5
        else
          none
      | .inr b5 =>
        match (M.s_l03Face_l1 b5 Go.V.bigN (0 : Int)) with
        | none => none
        | some y6 =>
          (match y6 with
          | .inl a7 =>
            let q8 := (((Option.isSome q3) || (!(q2 == false))) && (((Option.isSome q1) || (!((!(Option.getD q0 Inhabited.default)) == false))) && ((Option.isSome q0) && true)))
            bif q8 then
              some a7
            else
              none
          | .inr b7 =>
            let q8 := (((Option.isSome q3) || (!(q2 == false))) && (((Option.isSome q1) || (!((!(Option.getD q0 Inhabited.default)) == false))) && ((Option.isSome q0) && true)))
            bif q8 then
              some true
            else
              none))
end M
namespace M
noncomputable def s_l23Name (f : M.SFace) : Option ((List UInt8)) :=
  bif ((Go.V.catB ((M.SFace.Package f) ++ [(47 : UInt8)]) (M.SFace.Name f)) && ((Go.V.catB (M.SFace.Package f) [(47 : UInt8)]) && true)) then
    some (((M.SFace.Package f) ++ [(47 : UInt8)]) ++ (M.SFace.Name f))
  else
    none
end M
namespace M
noncomputable def s_FaceName (f : M.SFace) : Option ((List UInt8)) :=
  let q0 := (M.s_l03Face f)
  bif (!(Option.getD q0 Inhabited.default)) then
    bif ((Option.isSome q0) && true) then
      some []
    else
      none
  else
    let q1 := (M.s_l23Name f)
    bif ((Option.isSome q1) && ((Option.isSome q0) && true)) then
      some (Option.getD q1 Inhabited.default)
    else
      none
end M
namespace M
noncomputable def i_VersionNumber_l0 (t15 : (List (List UInt8))) (t16 : Int) : Nat → Int → Int → Option ((Int × Bool) ⊕ (Int))
  | 0, _, _ => none
  | fuel + 1, number, t17 =>
    bif (decide (t17 < t16)) then
      let q0 := (M.i_readDecimal (List.getD t15 (Int.toNat t17) []))
      let q1 := (Option.getD q0 Inhabited.default)
      let q2 := q1.1
      bif ((!q1.2) || (!((decide ((0 : Int) ≤ q2)) && (decide (q2 ≤ (999 : Int)))))) then
        let q3 := ((Option.isSome q0) && ((Go.V.inB t17 (List.length t15)) && true))
        bif q3 then
          some (.inl ((0 : Int), false))
        else
          none
      else
        let q3 := ((Option.isSome q0) && ((Go.V.inB t17 (List.length t15)) && true))
        bif q3 then
          M.i_VersionNumber_l0 t15 t16 fuel (Go.IntKind.wrap Go.IntKind.i64 ((Go.IntKind.wrap Go.IntKind.i64 (number * (1000 : Int))) + q2)) (Go.IntKind.wrap Go.IntKind.i64 (t17 + (1 : Int)))
        else
          none
    else
      some ((.inr (number)))
end M
namespace M
noncomputable def i_VersionNumber (s : (List UInt8)) : Option (Int × Bool) :=
  let q0 := (M.strings_Split s [(46 : UInt8)])
  let q1 := (Option.getD q0 Inhabited.default)
  bif (((List.length q1) : Int) != (3 : Int)) then
    let q2 := ((Option.isSome q0) && true)
    bif q2 then
      some ((0 : Int), false)
    else
      none
  else
    match (M.i_VersionNumber_l0 q1 ((List.length q1) : Int) Go.V.bigN (0 : Int) (0 : Int)) with
    | none => none
    | some y2 =>
      (match y2 with
      | .inl a3 =>
        let q4 := ((Option.isSome q0) && true)
        bif q4 then
          some (a3.1, a3.2)
        else
          none
      | .inr b3 =>
        let q4 := ((Option.isSome q0) && true)
        bif q4 then
          some (b3, true)
        else
          none)
end M
namespace M
noncomputable def i_VersionOk (s : (List UInt8)) : Option (Bool) :=
  let q0 := (M.i_VersionNumber s)
  bif ((Option.isSome q0) && true) then
    some (Option.getD q0 Inhabited.default).2
  else
    none
end M
namespace M
noncomputable def i_increasing_l0 (names : (List (List UInt8))) : Nat → Int → Option ((Bool) ⊕ (Unit))
  | 0, _ => none
  | fuel + 1, k =>
    bif (decide (k < ((List.length names) : Int))) then
      bif (!(Go.V.ltS (List.getD names (Int.toNat (Go.IntKind.wrap Go.IntKind.i64 (k - (1 : Int)))) []) (List.getD names (Int.toNat k) []))) then
        let q0 := ((Go.V.inB k (List.length names)) && ((Go.V.inB (Go.IntKind.wrap Go.IntKind.i64 (k - (1 : Int))) (List.length names)) && true))
        bif q0 then
          some (.inl false)
        else
          none
      else
        let q0 := ((Go.V.inB k (List.length names)) && ((Go.V.inB (Go.IntKind.wrap Go.IntKind.i64 (k - (1 : Int))) (List.length names)) && true))
        bif q0 then
          M.i_increasing_l0 names fuel (Go.IntKind.wrap Go.IntKind.i64 (k + (1 : Int)))
        else
          none
    else
      some ((.inr (())))
end M
namespace M
noncomputable def i_increasing (names : (List (List UInt8))) : Option (Bool) :=
  match (M.i_increasing_l0 names Go.V.bigN (1 : Int)) with
  | none => none
  | some y0 =>
    (match y0 with
    | .inl a1 =>
      some a1
    | .inr b1 =>
      some true)
end M
namespace M
noncomputable def i_FaceOk_c1 (name : (List UInt8)) : Option (Bool) :=
  let q0 := (M.i_NameOk name)
  bif ((Option.isSome q0) && true) then
    some (!(Option.getD q0 Inhabited.default))
  else
    none
end M
namespace M
noncomputable def slices_IndexFunc_string_string_2_l0 (s : (List (List UInt8))) (t7 : Int) : Nat → Int → Option ((Int) ⊕ (Unit))
  | 0, _ => none
  | fuel + 1, t8 =>
    bif (decide (t8 < t7)) then
      let q0 := (M.i_FaceOk_c1 (List.getD s (Int.toNat t8) []))
      bif (Option.getD q0 Inhabited.default) then
        let q1 := ((Option.isSome q0) && ((Go.V.inB t8 (List.length s)) && true))
        bif q1 then
          some (.inl t8)
        else
          none
      else
        let q1 := ((Option.isSome q0) && ((Go.V.inB t8 (List.length s)) && true))
        bif q1 then
          M.slices_IndexFunc_string_string_2_l0 s t7 fuel (Go.IntKind.wrap Go.IntKind.i64 (t8 + (1 : Int)))
        else
          none
    else
      some ((.inr (())))
end M
namespace M
noncomputable def slices_IndexFunc_string_string_2 (s : (List (List UInt8))) : Option (Int) :=
  match (M.slices_IndexFunc_string_string_2_l0 s ((List.length s) : Int) Go.V.bigN (0 : Int)) with
  | none => none
  | some y0 =>
    (match y0 with
    | .inl a1 =>
      some a1
    | .inr b1 =>
      some (-(1 : Int)))
end M
namespace M
noncomputable def slices_ContainsFunc_string_string_2 (s : (List (List UInt8))) : Option (Bool) :=
  let q0 := (M.slices_IndexFunc_string_string_2 s)
  bif ((Option.isSome q0) && true) then
    some (decide ((0 : Int) ≤ (Option.getD q0 Inhabited.default)))
  else
    none
end M
namespace M
noncomputable def i_TypeOk (t : M.SType) : Option (Bool) :=
  let q0 := (M.i_shapeOk (M.SType.re t))
  let q1 := (M.i_deep (M.SType.re t) (4 : Int))
  let q2 := (M.i_parts (M.SType.re t))
  let q3 := ((decide ((Option.getD q1 Inhabited.default) ≤ (4 : Int))) && (decide ((Option.getD q2 Inhabited.default) ≤ (24 : Int))))
  bif (((Option.isSome q0) || (!(q3 == true))) && (((Option.isSome q2) || (!((decide ((Option.getD q1 Inhabited.default) ≤ (4 : Int))) == true))) && ((Option.isSome q1) && true))) then
    some (q3 && (Option.getD q0 Inhabited.default))
  else
    none
end M
namespace M
noncomputable def i_paramsOk_l0 (params : (List M.SParam)) (t7 : (List M.SParam)) (t8 : Int) : Nat → Int → (List (List UInt8)) → Option ((Bool) ⊕ ((List M.SParam) × (List (List UInt8))))
  | 0, _, _ => none
  | fuel + 1, t9, names =>
    bif (decide (t9 < t8)) then
      let q0 := (M.i_NameOk (M.SParam.Name (List.getD t7 (Int.toNat t9) M.SParam.zero)))
      let q1 := (!(Option.getD q0 Inhabited.default))
      let q2 := (M.i_TypeOk (M.SType.re (M.SParam.Type_ (List.getD t7 (Int.toNat t9) M.SParam.zero))))
      bif ((q1 || (!(Option.getD q2 Inhabited.default))) || ((M.SType.Kind (M.SParam.Type_ (List.getD t7 (Int.toNat t9) M.SParam.zero))) == (1 : Int))) then
        let q3 := (((Option.isSome q2) || (!(q1 == false))) && ((Option.isSome q0) && ((Go.V.inB t9 (List.length t7)) && true)))
        bif q3 then
          some (.inl false)
        else
          none
      else
        let q3 := [(M.SParam.Name (List.getD t7 (Int.toNat t9) M.SParam.zero))]
        let q4 := (((Option.isSome q2) || (!(q1 == false))) && ((Option.isSome q0) && ((Go.V.inB t9 (List.length t7)) && true)))
        bif ((decide (((List.length names) + (List.length q3)) ≤ 1073741824)) && q4) then
          M.i_paramsOk_l0 params t7 t8 fuel (Go.IntKind.wrap Go.IntKind.i64 (t9 + (1 : Int))) (names ++ q3)
        else
          none
    else
      some ((.inr ((params, names))))
end M
namespace M
noncomputable def i_paramsOk (params : (List M.SParam)) : Option (Bool) :=
  match (M.i_paramsOk_l0 params params ((List.length params) : Int) Go.V.bigN (0 : Int) []) with
  | none => none
  | some y0 =>
    (match y0 with
    | .inl a1 =>
      some a1
    | .inr b1 =>
      let q2 := (M.i_distinct b1.2)
      bif (((Option.isSome q2) || (!((decide (((List.length b1.1) : Int) ≤ (6 : Int))) == true))) && true) then
        some ((decide (((List.length b1.1) : Int) ≤ (6 : Int))) && (Option.getD q2 Inhabited.default))
      else
        none)
end M
namespace M
noncomputable def i_FuncOk (f : M.SFuncType) : Option (Bool) :=
  let q0 := (M.i_hasKind (M.SType.re (M.SFuncType.Result f)) [(21 : Int)])
  let q1 := (M.i_paramsOk (M.SFuncType.Params f))
  let q2 := (M.i_TypeOk (M.SType.re (M.SFuncType.Result f)))
  let q3 := ((Option.getD q1 Inhabited.default) && (Option.getD q2 Inhabited.default))
  bif (((Option.isSome q0) || (!(q3 == true))) && (((Option.isSome q2) || (!((Option.getD q1 Inhabited.default) == true))) && ((Option.isSome q1) && true))) then
    some (q3 && (!(Option.getD q0 Inhabited.default)))
  else
    none
end M
namespace M
noncomputable def i_resources_l0 (rec_i_resources : M.SType → Option ((List (List UInt8)))) (t21 : (List M.SType)) (t22 : Int) : Nat → Int → (List (List UInt8)) → Option ((List (List UInt8)))
  | 0, _, _ => none
  | fuel + 1, t23, names =>
    bif (decide (t23 < t22)) then
      let q0 := (Option.getD (rec_i_resources (M.SType.re (List.getD t21 (Int.toNat t23) M.SType.zero))) Inhabited.default)
      bif ((decide (((List.length names) + (List.length q0)) ≤ 1073741824)) && ((Option.isSome (rec_i_resources (M.SType.re (List.getD t21 (Int.toNat t23) M.SType.zero)))) && ((Go.V.inB t23 (List.length t21)) && true))) then
        M.i_resources_l0 rec_i_resources t21 t22 fuel (Go.IntKind.wrap Go.IntKind.i64 (t23 + (1 : Int))) (names ++ q0)
      else
        none
    else
      some (names)
end M
namespace M
noncomputable def i_resources_b (rec_i_resources : M.SType → Option ((List (List UInt8)))) (t : M.SType) : Option ((List (List UInt8))) :=
  bif (((M.SType.Kind t) == (20 : Int)) || ((M.SType.Kind t) == (21 : Int))) then
    match (M.i_resources_l0 rec_i_resources (M.SType.Kids t) ((List.length (M.SType.Kids t)) : Int) Go.V.bigN (0 : Int) ([] ++ [(M.SType.Name t)])) with
    | none => none
    | some y0 =>
      some y0
  else
    match (M.i_resources_l0 rec_i_resources (M.SType.Kids t) ((List.length (M.SType.Kids t)) : Int) Go.V.bigN (0 : Int) []) with
    | none => none
    | some y0 =>
      some y0
noncomputable def i_resources_n : Nat → M.SType → Option ((List (List UInt8)))
  | 0 => fun _ => none
  | n + 1 => i_resources_b (i_resources_n n)
noncomputable def i_resources : M.SType → Option ((List (List UInt8))) := i_resources_n Go.V.bigN
end M
namespace M
noncomputable def i_funcResources_l0 (t10 : (List M.SParam)) (t11 : Int) : Nat → Int → (List (List UInt8)) → Option ((List (List UInt8)))
  | 0, _, _ => none
  | fuel + 1, t12, names =>
    bif (decide (t12 < t11)) then
      let q0 := (M.i_resources (M.SType.re (M.SParam.Type_ (List.getD t10 (Int.toNat t12) M.SParam.zero))))
      let q1 := (Option.getD q0 Inhabited.default)
      bif ((decide (((List.length names) + (List.length q1)) ≤ 1073741824)) && ((Option.isSome q0) && ((Go.V.inB t12 (List.length t10)) && true))) then
        M.i_funcResources_l0 t10 t11 fuel (Go.IntKind.wrap Go.IntKind.i64 (t12 + (1 : Int))) (names ++ q1)
      else
        none
    else
      some (names)
end M
namespace M
noncomputable def i_funcResources (f : M.SFuncType) : Option ((List (List UInt8))) :=
  let q0 := (M.i_resources (M.SType.re (M.SFuncType.Result f)))
  match (M.i_funcResources_l0 (M.SFuncType.Params f) ((List.length (M.SFuncType.Params f)) : Int) Go.V.bigN (0 : Int) (Option.getD q0 Inhabited.default)) with
  | none => none
  | some y1 =>
    bif ((Option.isSome q0) && true) then
      some y1
    else
      none
end M
namespace M
noncomputable def slices_Index_string_string_l0 (s : (List (List UInt8))) (v : (List UInt8)) (t7 : Int) : Nat → Int → Option ((Int) ⊕ (Unit))
  | 0, _ => none
  | fuel + 1, t8 =>
    bif (decide (t8 < t7)) then
      bif (v == (List.getD s (Int.toNat t8) [])) then
        bif ((Go.V.inB t8 (List.length s)) && true) then
          some (.inl t8)
        else
          none
      else
        bif ((Go.V.inB t8 (List.length s)) && true) then
          M.slices_Index_string_string_l0 s v t7 fuel (Go.IntKind.wrap Go.IntKind.i64 (t8 + (1 : Int)))
        else
          none
    else
      some ((.inr (())))
end M
namespace M
noncomputable def slices_Index_string_string (s : (List (List UInt8))) (v : (List UInt8)) : Option (Int) :=
  match (M.slices_Index_string_string_l0 s v ((List.length s) : Int) Go.V.bigN (0 : Int)) with
  | none => none
  | some y0 =>
    (match y0 with
    | .inl a1 =>
      some a1
    | .inr b1 =>
      some (-(1 : Int)))
end M
namespace M
noncomputable def slices_Contains_string_string (s : (List (List UInt8))) (v : (List UInt8)) : Option (Bool) :=
  let q0 := (M.slices_Index_string_string s v)
  bif ((Option.isSome q0) && true) then
    some (decide ((0 : Int) ≤ (Option.getD q0 Inhabited.default)))
  else
    none
end M
namespace M
noncomputable def i_FaceOk_c2 (name : (List UInt8)) (t1 : M.SFace) : Option (Bool) :=
  let q0 := (M.slices_Contains_string_string (M.SFace.Resources t1) name)
  bif ((Option.isSome q0) && true) then
    some (!(Option.getD q0 Inhabited.default))
  else
    none
end M
namespace M
noncomputable def slices_IndexFunc_string_string_3_l0 (s : (List (List UInt8))) (f : M.SFace) (t7 : Int) : Nat → Int → Option ((Int) ⊕ (Unit))
  | 0, _ => none
  | fuel + 1, t8 =>
    bif (decide (t8 < t7)) then
      let q0 := (M.i_FaceOk_c2 (List.getD s (Int.toNat t8) []) f)
      bif (Option.getD q0 Inhabited.default) then
        let q1 := ((Option.isSome q0) && ((Go.V.inB t8 (List.length s)) && true))
        bif q1 then
          some (.inl t8)
        else
          none
      else
        let q1 := ((Option.isSome q0) && ((Go.V.inB t8 (List.length s)) && true))
        bif q1 then
          M.slices_IndexFunc_string_string_3_l0 s f t7 fuel (Go.IntKind.wrap Go.IntKind.i64 (t8 + (1 : Int)))
        else
          none
    else
      some ((.inr (())))
end M
namespace M
noncomputable def slices_IndexFunc_string_string_3 (s : (List (List UInt8))) (f : M.SFace) : Option (Int) :=
  match (M.slices_IndexFunc_string_string_3_l0 s f ((List.length s) : Int) Go.V.bigN (0 : Int)) with
  | none => none
  | some y0 =>
    (match y0 with
    | .inl a1 =>
      some a1
    | .inr b1 =>
      some (-(1 : Int)))
end M
namespace M
noncomputable def slices_ContainsFunc_string_string_3 (s : (List (List UInt8))) (f : M.SFace) : Option (Bool) :=
  let q0 := (M.slices_IndexFunc_string_string_3 s f)
  bif ((Option.isSome q0) && true) then
    some (decide ((0 : Int) ≤ (Option.getD q0 Inhabited.default)))
  else
    none
end M
namespace M
noncomputable def i_FaceOk_l0 (t45 : (List M.SFunc)) (t46 : Int) (f : M.SFace) : Nat → Int → (List (List UInt8)) → Option ((Bool) ⊕ ((List (List UInt8))))
  | 0, _, _ => none
  | fuel + 1, t47, names =>
    bif (decide (t47 < t46)) then
      let q0 := (M.i_NameOk (M.SFunc.Name (List.getD t45 (Int.toNat t47) M.SFunc.zero)))
      let q1 := (!(Option.getD q0 Inhabited.default))
      let q2 := (M.i_FuncOk (M.SFuncType.re (M.SFunc.Type_ (List.getD t45 (Int.toNat t47) M.SFunc.zero))))
      bif (q1 || (!(Option.getD q2 Inhabited.default))) then
        let q3 := (((Option.isSome q2) || (!(q1 == false))) && ((Option.isSome q0) && ((Go.V.inB t47 (List.length t45)) && true)))
        bif q3 then
          some (.inl false)
        else
          none
      else
        let q3 := (M.i_funcResources (M.SFuncType.re (M.SFunc.Type_ (List.getD t45 (Int.toNat t47) M.SFunc.zero))))
        let q4 := (M.slices_ContainsFunc_string_string_3 (Option.getD q3 Inhabited.default) f)
        bif (Option.getD q4 Inhabited.default) then
          let q5 := (((Option.isSome q2) || (!(q1 == false))) && ((Option.isSome q0) && ((Go.V.inB t47 (List.length t45)) && true)))
          let q6 := ((Option.isSome q4) && ((Option.isSome q3) && q5))
          bif q6 then
            some (.inl false)
          else
            none
        else
          let q5 := [(M.SFunc.Name (List.getD t45 (Int.toNat t47) M.SFunc.zero))]
          let q6 := (((Option.isSome q2) || (!(q1 == false))) && ((Option.isSome q0) && ((Go.V.inB t47 (List.length t45)) && true)))
          let q7 := ((Option.isSome q4) && ((Option.isSome q3) && q6))
          bif ((decide (((List.length names) + (List.length q5)) ≤ 1073741824)) && q7) then
            M.i_FaceOk_l0 t45 t46 f fuel (Go.IntKind.wrap Go.IntKind.i64 (t47 + (1 : Int))) (names ++ q5)
          else
            none
    else
      some ((.inr (names)))
end M
namespace M
noncomputable def i_FaceOk (f : M.SFace) : Option (Bool) :=
  let q0 := (M.i_NameOk (M.SFace.Package f))
  let q1 := (M.i_NameOk (M.SFace.Name f))
  let q2 := ((!(Option.getD q0 Inhabited.default)) || (!(Option.getD q1 Inhabited.default)))
  let q3 := (M.i_VersionOk (M.SFace.Version f))
  let q4 := (((q2 || (!(Option.getD q3 Inhabited.default))) || (decide ((4 : Int) < ((List.length (M.SFace.Resources f)) : Int)))) || (decide ((8 : Int) < ((List.length (M.SFace.Funcs f)) : Int))))
  let q5 := (M.i_increasing (M.SFace.Resources f))
  bif (q4 || (!(Option.getD q5 Inhabited.default))) then
    let q6 := (((Option.isSome q5) || (!(q4 == false))) && (((Option.isSome q3) || (!(q2 == false))) && (((Option.isSome q1) || (!((!(Option.getD q0 Inhabited.default)) == false))) && ((Option.isSome q0) && true))))
    bif q6 then
      some false
    else
      none
  else
    let q6 := (M.slices_ContainsFunc_string_string_2 (M.SFace.Resources f))
    bif (Option.getD q6 Inhabited.default) then
      let q7 := (((Option.isSome q5) || (!(q4 == false))) && (((Option.isSome q3) || (!(q2 == false))) && (((Option.isSome q1) || (!((!(Option.getD q0 Inhabited.default)) == false))) && ((Option.isSome q0) && true))))
      let q8 := ((Option.isSome q6) && q7)
      bif q8 then
        some false
      else
        none
    else
      match (M.i_FaceOk_l0 (M.SFace.Funcs f) ((List.length (M.SFace.Funcs f)) : Int) f Go.V.bigN (0 : Int) []) with
      | none => none
      | some y7 =>
        (match y7 with
        | .inl a8 =>
          let q9 := (((Option.isSome q5) || (!(q4 == false))) && (((Option.isSome q3) || (!(q2 == false))) && (((Option.isSome q1) || (!((!(Option.getD q0 Inhabited.default)) == false))) && ((Option.isSome q0) && true))))
          let q10 := ((Option.isSome q6) && q9)
          bif q10 then
            some a8
          else
            none
        | .inr b8 =>
          let q9 := (M.i_increasing b8)
          let q10 := (((Option.isSome q5) || (!(q4 == false))) && (((Option.isSome q3) || (!(q2 == false))) && (((Option.isSome q1) || (!((!(Option.getD q0 Inhabited.default)) == false))) && ((Option.isSome q0) && true))))
          let q11 := ((Option.isSome q6) && q10)
          bif ((Option.isSome q9) && q11) then
            some (Option.getD q9 Inhabited.default)
          else
            none)
end M
namespace M
noncomputable def i_faceName (f : M.SFace) : Option ((List UInt8)) :=
  bif ((Go.V.catB ((M.SFace.Package f) ++ [(47 : UInt8)]) (M.SFace.Name f)) && ((Go.V.catB (M.SFace.Package f) [(47 : UInt8)]) && true)) then
    some (((M.SFace.Package f) ++ [(47 : UInt8)]) ++ (M.SFace.Name f))
  else
    none
end M
namespace M
noncomputable def i_FaceName (f : M.SFace) : Option ((List UInt8)) :=
  let q0 := (M.i_FaceOk f)
  bif (!(Option.getD q0 Inhabited.default)) then
    bif ((Option.isSome q0) && true) then
      some []
    else
      none
  else
    let q1 := (M.i_faceName f)
    bif ((Option.isSome q1) && ((Option.isSome q0) && true)) then
      some (Option.getD q1 Inhabited.default)
    else
      none
end M
namespace M
noncomputable def l_eqParam (a : M.SParam) (b : M.SParam) : Option (Bool) :=
  bif (!((M.SParam.Name a) == (M.SParam.Name b))) then
    some false
  else
    let q0 := (M.l_eqType (M.SType.re (M.SParam.Type_ a)) (M.SType.re (M.SParam.Type_ b)))
    bif (!(Option.getD q0 Inhabited.default)) then
      bif ((Option.isSome q0) && true) then
        some false
      else
        none
    else
      bif ((Option.isSome q0) && true) then
        some true
      else
        none
end M
namespace M
noncomputable def l_eqParamS_l0 (a : (List M.SParam)) (b : (List M.SParam)) : Nat → Int → Option ((Bool) ⊕ (Unit))
  | 0, _ => none
  | fuel + 1, i =>
    bif (decide (i < ((List.length a) : Int))) then
      let q0 := (M.l_eqParam (M.SParam.re (List.getD a (Int.toNat i) M.SParam.zero)) (M.SParam.re (List.getD b (Int.toNat i) M.SParam.zero)))
      bif (!(Option.getD q0 Inhabited.default)) then
        let q1 := ((Option.isSome q0) && ((Go.V.inB i (List.length b)) && ((Go.V.inB i (List.length a)) && true)))
        bif q1 then
          some (.inl false)
        else
          none
      else
        let q1 := ((Option.isSome q0) && ((Go.V.inB i (List.length b)) && ((Go.V.inB i (List.length a)) && true)))
        bif q1 then
          M.l_eqParamS_l0 a b fuel (Go.IntKind.wrap Go.IntKind.i64 (i + (1 : Int)))
        else
          none
    else
      some ((.inr (())))
end M
namespace M
noncomputable def l_eqParamS (a : (List M.SParam)) (b : (List M.SParam)) : Option (Bool) :=
  bif (((List.length a) : Int) != ((List.length b) : Int)) then
    some false
  else
    match (M.l_eqParamS_l0 a b Go.V.bigN (0 : Int)) with
    | none => none
    | some y0 =>
      (match y0 with
      | .inl a1 =>
        some a1
      | .inr b1 =>
        some true)
end M
namespace M
noncomputable def l_eqFuncType (a : M.SFuncType) (b : M.SFuncType) : Option (Bool) :=
  let q0 := (M.l_eqParamS (M.SFuncType.Params a) (M.SFuncType.Params b))
  bif (!(Option.getD q0 Inhabited.default)) then
    bif ((Option.isSome q0) && true) then
      some false
    else
      none
  else
    let q1 := (M.l_eqType (M.SType.re (M.SFuncType.Result a)) (M.SType.re (M.SFuncType.Result b)))
    bif (!(Option.getD q1 Inhabited.default)) then
      bif ((Option.isSome q1) && ((Option.isSome q0) && true)) then
        some false
      else
        none
    else
      bif (!((M.SFuncType.Async a) == (M.SFuncType.Async b))) then
        bif ((Option.isSome q1) && ((Option.isSome q0) && true)) then
          some false
        else
          none
      else
        bif ((Option.isSome q1) && ((Option.isSome q0) && true)) then
          some true
        else
          none
end M
namespace M
noncomputable def l_eqFunc (a : M.SFunc) (b : M.SFunc) : Option (Bool) :=
  bif (!((M.SFunc.Name a) == (M.SFunc.Name b))) then
    some false
  else
    let q0 := (M.l_eqFuncType (M.SFuncType.re (M.SFunc.Type_ a)) (M.SFuncType.re (M.SFunc.Type_ b)))
    bif (!(Option.getD q0 Inhabited.default)) then
      bif ((Option.isSome q0) && true) then
        some false
      else
        none
    else
      bif ((Option.isSome q0) && true) then
        some true
      else
        none
end M
namespace M
noncomputable def l_eqFuncS_l0 (a : (List M.SFunc)) (b : (List M.SFunc)) : Nat → Int → Option ((Bool) ⊕ (Unit))
  | 0, _ => none
  | fuel + 1, i =>
    bif (decide (i < ((List.length a) : Int))) then
      let q0 := (M.l_eqFunc (M.SFunc.re (List.getD a (Int.toNat i) M.SFunc.zero)) (M.SFunc.re (List.getD b (Int.toNat i) M.SFunc.zero)))
      bif (!(Option.getD q0 Inhabited.default)) then
        let q1 := ((Option.isSome q0) && ((Go.V.inB i (List.length b)) && ((Go.V.inB i (List.length a)) && true)))
        bif q1 then
          some (.inl false)
        else
          none
      else
        let q1 := ((Option.isSome q0) && ((Go.V.inB i (List.length b)) && ((Go.V.inB i (List.length a)) && true)))
        bif q1 then
          M.l_eqFuncS_l0 a b fuel (Go.IntKind.wrap Go.IntKind.i64 (i + (1 : Int)))
        else
          none
    else
      some ((.inr (())))
end M
namespace M
noncomputable def l_eqFuncS (a : (List M.SFunc)) (b : (List M.SFunc)) : Option (Bool) :=
  bif (((List.length a) : Int) != ((List.length b) : Int)) then
    some false
  else
    match (M.l_eqFuncS_l0 a b Go.V.bigN (0 : Int)) with
    | none => none
    | some y0 =>
      (match y0 with
      | .inl a1 =>
        some a1
      | .inr b1 =>
        some true)
end M
namespace M
noncomputable def l_eqFace (a : M.SFace) (b : M.SFace) : Option (Bool) :=
  bif (!((M.SFace.Package a) == (M.SFace.Package b))) then
    some false
  else
    bif (!((M.SFace.Name a) == (M.SFace.Name b))) then
      some false
    else
      bif (!((M.SFace.Version a) == (M.SFace.Version b))) then
        some false
      else
        let q0 := (M.l_eqStringS (M.SFace.Resources a) (M.SFace.Resources b))
        bif (!(Option.getD q0 Inhabited.default)) then
          bif ((Option.isSome q0) && true) then
            some false
          else
            none
        else
          let q1 := (M.l_eqFuncS (M.SFace.Funcs a) (M.SFace.Funcs b))
          bif (!(Option.getD q1 Inhabited.default)) then
            bif ((Option.isSome q1) && ((Option.isSome q0) && true)) then
              some false
            else
              none
          else
            bif ((Option.isSome q1) && ((Option.isSome q0) && true)) then
              some true
            else
              none
end M
namespace M
noncomputable def l_FnExactFaceName (aF : M.SFace) : Option (Bool) :=
  let q0 := (M.l_szFace aF (1048576 : Int))
  bif (decide ((Option.getD q0 Inhabited.default) < (0 : Int))) then
    bif ((Option.isSome q0) && true) then
      some true
    else
      none
  else
    let q1 := (M.l_toFace aF)
    let q2 := (M.i_FaceName (Option.getD q1 Inhabited.default))
    let q3 := (M.s_FaceName (Option.getD q1 Inhabited.default))
    bif (!((Option.getD q2 Inhabited.default) == (Option.getD q3 Inhabited.default))) then
      let q4 := ((Option.isSome q2) && ((Option.isSome q1) && ((Option.isSome q3) && ((Option.isSome q1) && ((Option.isSome q0) && true)))))
      bif q4 then
        some false
      else
        none
    else
      let q4 := (M.l_eqFace (Option.getD q1 Inhabited.default) (Option.getD q1 Inhabited.default))
      bif (!(Option.getD q4 Inhabited.default)) then
        let q5 := ((Option.isSome q2) && ((Option.isSome q1) && ((Option.isSome q3) && ((Option.isSome q1) && ((Option.isSome q0) && true)))))
        let q6 := ((Option.isSome q4) && ((Option.isSome q1) && q5))
        bif q6 then
          some false
        else
          none
      else
        let q5 := ((Option.isSome q2) && ((Option.isSome q1) && ((Option.isSome q3) && ((Option.isSome q1) && ((Option.isSome q0) && true)))))
        let q6 := ((Option.isSome q4) && ((Option.isSome q1) && q5))
        bif q6 then
          some true
        else
          none
end M
namespace M
noncomputable def l_szFaceS_l0 (a : (List M.SFace)) : Nat → Int → Int → Option ((Int) ⊕ (Int))
  | 0, _, _ => none
  | fuel + 1, left, i =>
    bif (decide (i < ((List.length a) : Int))) then
      let q0 := (M.l_szFace (List.getD a (Int.toNat i) M.SFace.zero) left)
      let q1 := (Option.getD q0 Inhabited.default)
      bif (decide (q1 < (0 : Int))) then
        let q2 := ((Option.isSome q0) && ((Go.V.inB i (List.length a)) && true))
        bif q2 then
          some (.inl (-(1 : Int)))
        else
          none
      else
        let q2 := ((Option.isSome q0) && ((Go.V.inB i (List.length a)) && true))
        bif q2 then
          M.l_szFaceS_l0 a fuel q1 (Go.IntKind.wrap Go.IntKind.i64 (i + (1 : Int)))
        else
          none
    else
      some ((.inr (left)))
end M
namespace M
noncomputable def l_szFaceS (a : (List M.SFace)) (left : Int) : Option (Int) :=
  bif (decide ((Go.IntKind.wrap Go.IntKind.i64 (left - ((List.length a) : Int))) < (0 : Int))) then
    some (-(1 : Int))
  else
    match (M.l_szFaceS_l0 a Go.V.bigN (Go.IntKind.wrap Go.IntKind.i64 (left - ((List.length a) : Int))) (0 : Int)) with
    | none => none
    | some y0 =>
      (match y0 with
      | .inl a1 =>
        some a1
      | .inr b1 =>
        some b1)
end M
namespace M
noncomputable def l_toFaceS_l0 (a : (List M.SFace)) : Nat → Int → (List M.SFace) → Option ((List M.SFace))
  | 0, _, _ => none
  | fuel + 1, i, out =>
    bif (decide (i < ((List.length a) : Int))) then
      let q0 := (M.l_toFace (List.getD a (Int.toNat i) M.SFace.zero))
      bif ((Go.V.inB i (List.length out)) && ((Option.isSome q0) && ((Go.V.inB i (List.length a)) && true))) then
        M.l_toFaceS_l0 a fuel (Go.IntKind.wrap Go.IntKind.i64 (i + (1 : Int))) (List.set out (Int.toNat i) (Option.getD q0 Inhabited.default))
      else
        none
    else
      some (out)
end M
namespace M
noncomputable def l_toFaceS (a : (List M.SFace)) : Option ((List M.SFace)) :=
  match (M.l_toFaceS_l0 a Go.V.bigN (0 : Int) (List.replicate (Int.toNat ((List.length a) : Int)) (M.SFace.mk [] [] [] [] []))) with
  | none => none
  | some y0 =>
    bif (((decide (((List.length a) : Int) ≤ ((List.length a) : Int))) && (decide (((List.length a) : Int) ≤ (1073741824 : Int)))) && true) then
      some y0
    else
      none
end M
namespace M
noncomputable def s_l23Plain_l0 : Nat → Int → M.SFuncType → Option ((Bool) ⊕ (Unit))
  | 0, _, _ => none
  | fuel + 1, i, f =>
    bif (decide (i < ((List.length (M.SFuncType.Params f)) : Int))) then
      let q0 := (M.s_l03Has (M.SType.re (M.SParam.Type_ (List.getD (M.SFuncType.Params f) (Int.toNat i) M.SParam.zero))) (22 : Int) (23 : Int))
      bif (Option.getD q0 Inhabited.default) then
        let q1 := ((Option.isSome q0) && ((Go.V.inB i (List.length (M.SFuncType.Params f))) && true))
        bif q1 then
          some (.inl false)
        else
          none
      else
        let q1 := ((Option.isSome q0) && ((Go.V.inB i (List.length (M.SFuncType.Params f))) && true))
        bif q1 then
          M.s_l23Plain_l0 fuel (Go.IntKind.wrap Go.IntKind.i64 (i + (1 : Int))) (M.SFuncType.re f)
        else
          none
    else
      some ((.inr (())))
end M
namespace M
noncomputable def s_l23Plain (f : M.SFuncType) : Option (Bool) :=
  let q0 := (M.s_l03Has (M.SType.re (M.SFuncType.Result f)) (22 : Int) (23 : Int))
  bif ((M.SFuncType.Async f) || (Option.getD q0 Inhabited.default)) then
    let q1 := (((Option.isSome q0) || (!((M.SFuncType.Async f) == false))) && true)
    bif q1 then
      some false
    else
      none
  else
    match (M.s_l23Plain_l0 Go.V.bigN (0 : Int) (M.SFuncType.re f)) with
    | none => none
    | some y1 =>
      (match y1 with
      | .inl a2 =>
        let q3 := (((Option.isSome q0) || (!((M.SFuncType.Async f) == false))) && true)
        bif q3 then
          some a2
        else
          none
      | .inr b2 =>
        let q3 := (((Option.isSome q0) || (!((M.SFuncType.Async f) == false))) && true)
        bif q3 then
          some true
        else
          none)
end M
namespace M
noncomputable def s_l23Faces_l0_0 (list : (List M.SFace)) (i : Int) : Nat → Int → Option ((Bool) ⊕ ((List M.SFace) × Int))
  | 0, _ => none
  | fuel + 1, k =>
    let q0 := (List.length (M.SFace.Funcs (List.getD list (Int.toNat i) M.SFace.zero)))
    bif (decide (k < (q0 : Int))) then
      let q1 := (M.s_l23Plain (M.SFuncType.re (M.SFunc.Type_ (List.getD (M.SFace.Funcs (List.getD list (Int.toNat i) M.SFace.zero)) (Int.toNat k) M.SFunc.zero))))
      bif (!(Option.getD q1 Inhabited.default)) then
        let q2 := ((Option.isSome q1) && ((Go.V.inB k q0) && ((Go.V.inB i (List.length list)) && ((Go.V.inB i (List.length list)) && true))))
        bif q2 then
          some (.inl false)
        else
          none
      else
        let q2 := ((Option.isSome q1) && ((Go.V.inB k q0) && ((Go.V.inB i (List.length list)) && ((Go.V.inB i (List.length list)) && true))))
        bif q2 then
          M.s_l23Faces_l0_0 list i fuel (Go.IntKind.wrap Go.IntKind.i64 (k + (1 : Int)))
        else
          none
    else
      bif ((Go.V.inB i (List.length list)) && true) then
        some ((.inr ((list, i))))
      else
        none
end M
namespace M
noncomputable def s_l23Faces_l0 : Nat → (List M.SFace) → Int → Option ((Bool) ⊕ (Unit))
  | 0, _, _ => none
  | fuel + 1, list, i =>
    bif (decide (i < ((List.length list) : Int))) then
      let q0 := (M.s_l03Face (List.getD list (Int.toNat i) M.SFace.zero))
      let q1 := (!(Option.getD q0 Inhabited.default))
      let q2 := (M.s_l23Name (List.getD list (Int.toNat (Go.IntKind.wrap Go.IntKind.i64 (i - (1 : Int)))) M.SFace.zero))
      let q3 := (M.s_l23Name (List.getD list (Int.toNat i) M.SFace.zero))
      bif (q1 || ((decide ((0 : Int) < i)) && (!(Go.V.ltS (Option.getD q2 Inhabited.default) (Option.getD q3 Inhabited.default))))) then
        let q4 := (!((q1 == false) && ((decide ((0 : Int) < i)) == true)))
        let q5 := (((Option.isSome q3) || q4) && (((Go.V.inB i (List.length list)) || q4) && (((Option.isSome q2) || q4) && (((Go.V.inB (Go.IntKind.wrap Go.IntKind.i64 (i - (1 : Int))) (List.length list)) || q4) && ((Option.isSome q0) && ((Go.V.inB i (List.length list)) && true))))))
        bif q5 then
          some (.inl false)
        else
          none
      else
        match (M.s_l23Faces_l0_0 list i Go.V.bigN (0 : Int)) with
        | none => none
        | some y4 =>
          (match y4 with
          | .inl a5 =>
            let q6 := (!((q1 == false) && ((decide ((0 : Int) < i)) == true)))
            let q7 := (((Option.isSome q3) || q6) && (((Go.V.inB i (List.length list)) || q6) && (((Option.isSome q2) || q6) && (((Go.V.inB (Go.IntKind.wrap Go.IntKind.i64 (i - (1 : Int))) (List.length list)) || q6) && ((Option.isSome q0) && ((Go.V.inB i (List.length list)) && true))))))
            bif q7 then
              some (.inl a5)
            else
              none
          | .inr b5 =>
            let q6 := (!((q1 == false) && ((decide ((0 : Int) < i)) == true)))
            let q7 := (((Option.isSome q3) || q6) && (((Go.V.inB i (List.length list)) || q6) && (((Option.isSome q2) || q6) && (((Go.V.inB (Go.IntKind.wrap Go.IntKind.i64 (i - (1 : Int))) (List.length list)) || q6) && ((Option.isSome q0) && ((Go.V.inB i (List.length list)) && true))))))
            bif q7 then
              M.s_l23Faces_l0 fuel b5.1 (Go.IntKind.wrap Go.IntKind.i64 (b5.2 + (1 : Int)))
            else
              none)
    else
      some ((.inr (())))
end M
namespace M
noncomputable def s_l23Faces (list : (List M.SFace)) : Option (Bool) :=
  bif (decide ((6 : Int) < ((List.length list) : Int))) then
    some false
  else
    match (M.s_l23Faces_l0 Go.V.bigN list (0 : Int)) with
    | none => none
    | some y0 =>
      (match y0 with
      | .inl a1 =>
        some a1
      | .inr b1 =>
        some true)
end M
namespace M
noncomputable def s_FacesOk (list : (List M.SFace)) : Option (Bool) :=
  let q0 := (M.s_l23Faces list)
  bif ((Option.isSome q0) && true) then
    some (Option.getD q0 Inhabited.default)
  else
    none
end M
namespace M
noncomputable def s_FaceOk (f : M.SFace) : Option (Bool) :=
  let q0 := (M.s_l03Face f)
  bif ((Option.isSome q0) && true) then
    some (Option.getD q0 Inhabited.default)
  else
    none
end M
namespace M
noncomputable def s_PutLeb_l0 : Nat → Int → (List UInt8) → Option (Int × (List UInt8))
  | 0, _, _ => none
  | fuel + 1, n, b =>
    bif (decide ((127 : Int) < n)) then
      let q0 := (Go.IntKind.wrap Go.IntKind.u8 (Go.IntKind.wrap Go.IntKind.i64 ((Go.V.bitsV Go.BinOp.and Go.IntKind.i64 n (127 : Int)) + (128 : Int))))
      let q1 := [(Go.V.u8of q0)]
      bif ((decide (((List.length b) + (List.length q1)) ≤ 1073741824)) && (((Go.V.u8ok q0) && true) && true)) then
        M.s_PutLeb_l0 fuel (Go.V.shrV Go.IntKind.i64 n (7 : Int)) (b ++ q1)
      else
        none
    else
      some ((n, b))
end M
namespace M
noncomputable def s_PutLeb (n : Int) : Option ((List UInt8)) :=
  bif (decide (n < (0 : Int))) then
    some []
  else
    match (M.s_PutLeb_l0 Go.V.bigN n []) with
    | none => none
    | some y0 =>
      let q1 := [(Go.V.u8of (Go.IntKind.wrap Go.IntKind.u8 y0.1))]
      bif ((decide (((List.length y0.2) + (List.length q1)) ≤ 1073741824)) && (((Go.V.u8ok (Go.IntKind.wrap Go.IntKind.u8 y0.1)) && true) && true)) then
        some (List.map (fun a => a) (y0.2 ++ q1))
      else
        none
end M
namespace M
noncomputable def s_PutBytes (s : (List UInt8)) : Option ((List UInt8)) :=
  let q0 := (M.s_PutLeb ((List.length s) : Int))
  bif ((Go.V.catB (Option.getD q0 Inhabited.default) s) && ((Option.isSome q0) && true)) then
    some ((Option.getD q0 Inhabited.default) ++ s)
  else
    none
end M
namespace M
noncomputable def s_l24Texts_l0 (l : (List (List UInt8))) : Nat → Int → (List UInt8) → Option ((List UInt8))
  | 0, _, _ => none
  | fuel + 1, i, b =>
    bif (decide (i < ((List.length l) : Int))) then
      let q0 := (M.s_PutBytes (List.getD l (Int.toNat i) []))
      let q1 := (List.map (fun a => a) (Option.getD q0 Inhabited.default))
      bif ((decide (((List.length b) + (List.length q1)) ≤ 1073741824)) && ((Option.isSome q0) && ((Go.V.inB i (List.length l)) && true))) then
        M.s_l24Texts_l0 l fuel (Go.IntKind.wrap Go.IntKind.i64 (i + (1 : Int))) (b ++ q1)
      else
        none
    else
      some (b)
end M
namespace M
noncomputable def s_l24Texts (l : (List (List UInt8))) : Option ((List UInt8)) :=
  let q0 := (M.s_PutLeb ((List.length l) : Int))
  let q1 := (Option.getD q0 Inhabited.default)
  match (M.s_l24Texts_l0 l Go.V.bigN (0 : Int) (List.map (fun a => a) q1)) with
  | none => none
  | some y2 =>
    bif ((decide ((List.length q1) ≤ 1073741824)) && ((Option.isSome q0) && true)) then
      some (List.map (fun a => a) y2)
    else
      none
end M
namespace M
def s_l17Bit (yes : Bool) : Option ((List UInt8)) :=
  bif yes then
    some [(1 : UInt8)]
  else
    some [(0 : UInt8)]
end M
namespace M
noncomputable def s_PutFix_l0 (many : Int) : Nat → Int → Int → (List UInt8) → Option ((List UInt8))
  | 0, _, _, _ => none
  | fuel + 1, n, i, b =>
    bif ((decide (i < many)) && ((decide ((0 : Int) ≤ many)) && (decide (many ≤ (8 : Int))))) then
      let q0 := [(Go.V.u8of (Go.IntKind.wrap Go.IntKind.u8 (Go.V.bitsV Go.BinOp.and Go.IntKind.i64 n (255 : Int))))]
      bif ((decide (((List.length b) + (List.length q0)) ≤ 1073741824)) && (((Go.V.u8ok (Go.IntKind.wrap Go.IntKind.u8 (Go.V.bitsV Go.BinOp.and Go.IntKind.i64 n (255 : Int)))) && true) && true)) then
        M.s_PutFix_l0 many fuel (Go.V.shrV Go.IntKind.i64 n (8 : Int)) (Go.IntKind.wrap Go.IntKind.i64 (i + (1 : Int))) (b ++ q0)
      else
        none
    else
      some (b)
end M
namespace M
noncomputable def s_PutFix (n : Int) (many : Int) : Option ((List UInt8)) :=
  match (M.s_PutFix_l0 many Go.V.bigN n (0 : Int) []) with
  | none => none
  | some y0 =>
    some (List.map (fun a => a) y0)
end M
namespace M
noncomputable def s_l24Type_l0 (rec_s_l24Type : M.SType → Option ((List UInt8))) : Nat → (List UInt8) → Int → M.SType → Option ((List UInt8))
  | 0, _, _, _ => none
  | fuel + 1, s, i, t =>
    bif (decide (i < ((List.length (M.SType.Kids t)) : Int))) then
      let q0 := (Option.getD (rec_s_l24Type (M.SType.re (List.getD (M.SType.Kids t) (Int.toNat i) M.SType.zero))) Inhabited.default)
      bif ((Go.V.catB s q0) && ((Option.isSome (rec_s_l24Type (M.SType.re (List.getD (M.SType.Kids t) (Int.toNat i) M.SType.zero)))) && ((Go.V.inB i (List.length (M.SType.Kids t))) && true))) then
        M.s_l24Type_l0 rec_s_l24Type fuel (s ++ q0) (Go.IntKind.wrap Go.IntKind.i64 (i + (1 : Int))) (M.SType.re t)
      else
        none
    else
      some (s)
end M
namespace M
noncomputable def s_l24Type_b (rec_s_l24Type : M.SType → Option ((List UInt8))) (t : M.SType) : Option ((List UInt8)) :=
  bif (!((M.SType.Name t) == [])) then
    let q0 := (M.s_PutFix (M.SType.Kind t) (1 : Int))
    let q1 := (M.s_PutBytes (M.SType.Name t))
    bif ((Go.V.catB (Option.getD q0 Inhabited.default) (Option.getD q1 Inhabited.default)) && ((Option.isSome q1) && ((Option.isSome q0) && true))) then
      some ((Option.getD q0 Inhabited.default) ++ (Option.getD q1 Inhabited.default))
    else
      none
  else
    let q0 := (M.s_PutFix (M.SType.Kind t) (1 : Int))
    let q1 := (M.s_l24Texts (M.SType.Labels t))
    let q2 := (M.s_PutLeb ((List.length (M.SType.Kids t)) : Int))
    let q3 := (Option.getD q2 Inhabited.default)
    match (M.s_l24Type_l0 rec_s_l24Type Go.V.bigN (bif (decide ((0 : Int) < ((List.length (M.SType.Labels t)) : Int))) then ((Option.getD q0 Inhabited.default) ++ (Option.getD q1 Inhabited.default)) else (bif ((M.SType.Kind t) == (15 : Int)) then ((Option.getD q0 Inhabited.default) ++ q3) else (Option.getD q0 Inhabited.default))) (0 : Int) (M.SType.re t)) with
    | none => none
    | some y4 =>
      bif ((((Go.V.catB (Option.getD q0 Inhabited.default) (Option.getD q1 Inhabited.default)) && ((Option.isSome q1) && ((Option.isSome q0) && true))) || (!(decide ((0 : Int) < ((List.length (M.SType.Labels t)) : Int))))) && (((((Go.V.catB (Option.getD q0 Inhabited.default) q3) && ((Option.isSome q2) && ((Option.isSome q0) && true))) || (!((M.SType.Kind t) == (15 : Int)))) && (((Option.isSome q0) && true) || ((M.SType.Kind t) == (15 : Int)))) || (decide ((0 : Int) < ((List.length (M.SType.Labels t)) : Int))))) then
        some y4
      else
        none
noncomputable def s_l24Type_n : Nat → M.SType → Option ((List UInt8))
  | 0 => fun _ => none
  | n + 1 => s_l24Type_b (s_l24Type_n n)
noncomputable def s_l24Type : M.SType → Option ((List UInt8)) := s_l24Type_n Go.V.bigN
end M
namespace M
noncomputable def s_l24Func_l0 : Nat → (List UInt8) → Int → M.SFunc → Option ((List UInt8) × M.SFunc)
  | 0, _, _, _ => none
  | fuel + 1, s, i, f =>
    bif (decide (i < ((List.length (M.SFuncType.Params (M.SFunc.Type_ f))) : Int))) then
      let q0 := (M.s_PutBytes (M.SParam.Name (List.getD (M.SFuncType.Params (M.SFunc.Type_ f)) (Int.toNat i) M.SParam.zero)))
      let q1 := (Option.getD q0 Inhabited.default)
      let q2 := (s ++ q1)
      let q3 := (M.s_l24Type (M.SType.re (M.SParam.Type_ (List.getD (M.SFuncType.Params (M.SFunc.Type_ f)) (Int.toNat i) M.SParam.zero))))
      let q4 := (Option.getD q3 Inhabited.default)
      bif ((Go.V.catB q2 q4) && ((Option.isSome q3) && ((Go.V.inB i (List.length (M.SFuncType.Params (M.SFunc.Type_ f)))) && ((Go.V.catB s q1) && ((Option.isSome q0) && ((Go.V.inB i (List.length (M.SFuncType.Params (M.SFunc.Type_ f)))) && true)))))) then
        M.s_l24Func_l0 fuel (q2 ++ q4) (Go.IntKind.wrap Go.IntKind.i64 (i + (1 : Int))) (M.SFunc.re f)
      else
        none
    else
      some ((s, (M.SFunc.re f)))
end M
namespace M
noncomputable def s_l24Func (f : M.SFunc) : Option ((List UInt8)) :=
  let q0 := (M.s_PutBytes (M.SFunc.Name f))
  let q1 := (M.s_l17Bit (M.SFuncType.Async (M.SFunc.Type_ f)))
  let q2 := (M.s_PutLeb ((List.length (M.SFuncType.Params (M.SFunc.Type_ f))) : Int))
  let q3 := (Option.getD q2 Inhabited.default)
  match (M.s_l24Func_l0 Go.V.bigN (((Option.getD q0 Inhabited.default) ++ (Option.getD q1 Inhabited.default)) ++ q3) (0 : Int) (M.SFunc.re f)) with
  | none => none
  | some y4 =>
    let q5 := (M.s_l24Type (M.SType.re (M.SFuncType.Result (M.SFunc.Type_ y4.2))))
    let q6 := (Option.getD q5 Inhabited.default)
    bif ((Go.V.catB y4.1 q6) && ((Option.isSome q5) && ((Go.V.catB ((Option.getD q0 Inhabited.default) ++ (Option.getD q1 Inhabited.default)) q3) && ((Option.isSome q2) && ((Go.V.catB (Option.getD q0 Inhabited.default) (Option.getD q1 Inhabited.default)) && ((Option.isSome q1) && ((Option.isSome q0) && true))))))) then
      some (y4.1 ++ q6)
    else
      none
end M
namespace M
noncomputable def s_l24Face_l0 (f : M.SFace) : Nat → Int → (List UInt8) → Option ((List UInt8))
  | 0, _, _ => none
  | fuel + 1, i, b =>
    bif (decide (i < ((List.length (M.SFace.Funcs f)) : Int))) then
      let q0 := (M.s_l24Func (M.SFunc.re (List.getD (M.SFace.Funcs f) (Int.toNat i) M.SFunc.zero)))
      let q1 := (List.map (fun a => a) (Option.getD q0 Inhabited.default))
      bif ((decide (((List.length b) + (List.length q1)) ≤ 1073741824)) && ((Option.isSome q0) && ((Go.V.inB i (List.length (M.SFace.Funcs f))) && true))) then
        M.s_l24Face_l0 f fuel (Go.IntKind.wrap Go.IntKind.i64 (i + (1 : Int))) (b ++ q1)
      else
        none
    else
      some (b)
end M
namespace M
noncomputable def s_l24Face (f : M.SFace) : Option ((List UInt8)) :=
  let q0 := (M.s_PutBytes (M.SFace.Package f))
  let q1 := (M.s_PutBytes (M.SFace.Name f))
  let q2 := (M.s_PutBytes (M.SFace.Version f))
  let q3 := (((Option.getD q0 Inhabited.default) ++ (Option.getD q1 Inhabited.default)) ++ (Option.getD q2 Inhabited.default))
  let q4 := (M.s_l24Texts (M.SFace.Resources f))
  let q5 := (q3 ++ (Option.getD q4 Inhabited.default))
  let q6 := (M.s_PutLeb ((List.length (M.SFace.Funcs f)) : Int))
  let q7 := (Option.getD q6 Inhabited.default)
  let q8 := (q5 ++ q7)
  match (M.s_l24Face_l0 f Go.V.bigN (0 : Int) (List.map (fun a => a) q8)) with
  | none => none
  | some y9 =>
    bif ((decide ((List.length q8) ≤ 1073741824)) && ((Go.V.catB q5 q7) && ((Option.isSome q6) && ((Go.V.catB q3 (Option.getD q4 Inhabited.default)) && ((Option.isSome q4) && ((Go.V.catB ((Option.getD q0 Inhabited.default) ++ (Option.getD q1 Inhabited.default)) (Option.getD q2 Inhabited.default)) && ((Option.isSome q2) && ((Go.V.catB (Option.getD q0 Inhabited.default) (Option.getD q1 Inhabited.default)) && ((Option.isSome q1) && ((Option.isSome q0) && true)))))))))) then
      some (List.map (fun a => a) y9)
    else
      none
end M
namespace M
def s_l24Short (s : (List UInt8)) : Option ((List UInt8)) :=
  bif (decide ((60000 : Int) < ((List.length s) : Int))) then
    some []
  else
    some s
end M
namespace M
noncomputable def s_FaceBytes (f : M.SFace) : Option ((List UInt8)) :=
  let q0 := (M.s_FaceOk f)
  bif (!(Option.getD q0 Inhabited.default)) then
    bif ((Option.isSome q0) && true) then
      some []
    else
      none
  else
    let q1 := (M.s_l24Face f)
    let q2 := (M.s_l24Short (Option.getD q1 Inhabited.default))
    bif ((Option.isSome q2) && ((Option.isSome q1) && ((Option.isSome q0) && true))) then
      some (Option.getD q2 Inhabited.default)
    else
      none
end M
namespace M
def i_length (s : (List UInt8)) : Option (Int) :=
  some ((List.length s) : Int)
end M
namespace M
noncomputable def i_PutLeb_l0 : Nat → Int → (List UInt8) → Option (Int × (List UInt8))
  | 0, _, _ => none
  | fuel + 1, n, b =>
    bif (decide ((127 : Int) < n)) then
      let q0 := (Go.IntKind.wrap Go.IntKind.u8 (Go.IntKind.wrap Go.IntKind.i64 ((Int.tmod n (128 : Int)) + (128 : Int))))
      let q1 := [(Go.V.u8of q0)]
      bif (((128 : Int) != (0 : Int)) && ((decide (((List.length b) + (List.length q1)) ≤ 1073741824)) && (((Go.V.u8ok q0) && true) && (((128 : Int) != (0 : Int)) && true)))) then
        M.i_PutLeb_l0 fuel (Go.IntKind.wrap Go.IntKind.i64 (Int.tdiv n (128 : Int))) (b ++ q1)
      else
        none
    else
      some ((n, b))
end M
namespace M
noncomputable def i_PutLeb (n : Int) : Option ((List UInt8)) :=
  bif (decide (n < (0 : Int))) then
    some []
  else
    match (M.i_PutLeb_l0 Go.V.bigN n []) with
    | none => none
    | some y0 =>
      let q1 := [(Go.V.u8of (Go.IntKind.wrap Go.IntKind.u8 y0.1))]
      bif ((decide (((List.length y0.2) + (List.length q1)) ≤ 1073741824)) && (((Go.V.u8ok (Go.IntKind.wrap Go.IntKind.u8 y0.1)) && true) && true)) then
        some (List.map (fun a => a) (y0.2 ++ q1))
      else
        none
end M
namespace M
noncomputable def i_PutBytes (s : (List UInt8)) : Option ((List UInt8)) :=
  let q0 := (M.i_PutLeb ((List.length s) : Int))
  bif ((Go.V.catB (Option.getD q0 Inhabited.default) s) && ((Option.isSome q0) && true)) then
    some ((Option.getD q0 Inhabited.default) ++ s)
  else
    none
end M
namespace M
def strings_Builder_WriteString (s : (List UInt8)) (o1 : (List UInt8)) : Option (Int × (List UInt8)) :=
  let q0 := (List.map (fun a => a) s)
  bif ((decide (((List.length o1) + (List.length q0)) ≤ 1073741824)) && true) then
    some (((List.length s) : Int), (o1 ++ q0))
  else
    none
end M
namespace M
noncomputable def i_sequence_string_l0 (t12 : (List (List UInt8))) (t13 : Int) : Nat → Int → (List UInt8) → Option ((List UInt8))
  | 0, _, _ => none
  | fuel + 1, t14, o2 =>
    bif (decide (t14 < t13)) then
      let q0 := (M.i_PutBytes (List.getD t12 (Int.toNat t14) []))
      let q1 := (M.strings_Builder_WriteString (Option.getD q0 Inhabited.default) o2)
      bif ((Option.isSome q1) && ((Option.isSome q0) && ((Go.V.inB t14 (List.length t12)) && true))) then
        M.i_sequence_string_l0 t12 t13 fuel (Go.IntKind.wrap Go.IntKind.i64 (t14 + (1 : Int))) (Option.getD q1 Inhabited.default).2
      else
        none
    else
      some (o2)
end M
namespace M
noncomputable def i_sequence_string (list : (List (List UInt8))) : Option ((List UInt8)) :=
  let q0 := (M.i_PutLeb ((List.length list) : Int))
  let q1 := (M.strings_Builder_WriteString (Option.getD q0 Inhabited.default) [])
  match (M.i_sequence_string_l0 list ((List.length list) : Int) Go.V.bigN (0 : Int) (Option.getD q1 Inhabited.default).2) with
  | none => none
  | some y2 =>
    let q3 := (M.strings_Builder_String y2)
    bif ((Option.isSome q3) && ((Option.isSome q1) && ((Option.isSome q0) && true))) then
      some (Option.getD q3 Inhabited.default)
    else
      none
end M
namespace M
noncomputable def i_size_Func (list : (List M.SFunc)) : Option (Int) :=
  some ((List.length list) : Int)
end M
namespace M
def i_bit (is : Bool) : Option (Int) :=
  bif is then
    some (1 : Int)
  else
    some (0 : Int)
end M
namespace M
noncomputable def i_putFix_l0 (t7 : Int) : Nat → Int → Int → (List UInt8) → Option ((List UInt8))
  | 0, _, _, _ => none
  | fuel + 1, n, t8, b =>
    bif (decide (t8 < t7)) then
      let q0 := [(Go.V.u8of (Go.IntKind.wrap Go.IntKind.u8 n))]
      bif ((decide (((List.length b) + (List.length q0)) ≤ 1073741824)) && (((Go.V.u8ok (Go.IntKind.wrap Go.IntKind.u8 n)) && true) && true)) then
        M.i_putFix_l0 t7 fuel (Go.V.shrV Go.IntKind.i64 n (8 : Int)) (Go.IntKind.wrap Go.IntKind.i64 (t8 + (1 : Int))) (b ++ q0)
      else
        none
    else
      some (b)
end M
namespace M
noncomputable def i_putFix (n : Int) (many : Int) : Option ((List UInt8)) :=
  match (M.i_putFix_l0 many Go.V.bigN n (0 : Int) []) with
  | none => none
  | some y0 =>
    some (List.map (fun a => a) y0)
end M
namespace M
noncomputable def i_size_Param (list : (List M.SParam)) : Option (Int) :=
  some ((List.length list) : Int)
end M
namespace M
noncomputable def i_sequence_Type_l0 (rec_i_typeBytes : M.SType → Option ((List UInt8))) (t12 : (List M.SType)) (t13 : Int) : Nat → Int → (List UInt8) → Option ((List UInt8))
  | 0, _, _ => none
  | fuel + 1, t14, o2 =>
    bif (decide (t14 < t13)) then
      let q0 := (M.strings_Builder_WriteString (Option.getD (rec_i_typeBytes (M.SType.re (List.getD t12 (Int.toNat t14) M.SType.zero))) Inhabited.default) o2)
      bif ((Option.isSome q0) && ((Option.isSome (rec_i_typeBytes (M.SType.re (List.getD t12 (Int.toNat t14) M.SType.zero)))) && ((Go.V.inB t14 (List.length t12)) && true))) then
        M.i_sequence_Type_l0 rec_i_typeBytes t12 t13 fuel (Go.IntKind.wrap Go.IntKind.i64 (t14 + (1 : Int))) (Option.getD q0 Inhabited.default).2
      else
        none
    else
      some (o2)
end M
namespace M
noncomputable def i_sequence_Type (rec_i_typeBytes : M.SType → Option ((List UInt8))) (list : (List M.SType)) : Option ((List UInt8)) :=
  let q0 := (M.i_PutLeb ((List.length list) : Int))
  let q1 := (M.strings_Builder_WriteString (Option.getD q0 Inhabited.default) [])
  match (M.i_sequence_Type_l0 rec_i_typeBytes list ((List.length list) : Int) Go.V.bigN (0 : Int) (Option.getD q1 Inhabited.default).2) with
  | none => none
  | some y2 =>
    let q3 := (M.strings_Builder_String y2)
    bif ((Option.isSome q3) && ((Option.isSome q1) && ((Option.isSome q0) && true))) then
      some (Option.getD q3 Inhabited.default)
    else
      none
end M
namespace M
noncomputable def i_typeBytes_l0 (rec_i_typeBytes : M.SType → Option ((List UInt8))) (t42 : (List M.SType)) (t43 : Int) : Nat → (List UInt8) → Int → Option ((List UInt8))
  | 0, _, _ => none
  | fuel + 1, s, t44 =>
    bif (decide (t44 < t43)) then
      let q0 := (Option.getD (rec_i_typeBytes (M.SType.re (List.getD t42 (Int.toNat t44) M.SType.zero))) Inhabited.default)
      bif ((Go.V.catB s q0) && ((Option.isSome (rec_i_typeBytes (M.SType.re (List.getD t42 (Int.toNat t44) M.SType.zero)))) && ((Go.V.inB t44 (List.length t42)) && true))) then
        M.i_typeBytes_l0 rec_i_typeBytes t42 t43 fuel (s ++ q0) (Go.IntKind.wrap Go.IntKind.i64 (t44 + (1 : Int)))
      else
        none
    else
      some (s)
end M
namespace M
noncomputable def i_typeBytes_b (rec_i_typeBytes : M.SType → Option ((List UInt8))) (t : M.SType) : Option ((List UInt8)) :=
  bif (((M.SType.Kind t) == (20 : Int)) || ((M.SType.Kind t) == (21 : Int))) then
    let q0 := (M.i_putFix (M.SType.Kind t) (1 : Int))
    let q1 := (M.i_PutBytes (M.SType.Name t))
    bif ((Go.V.catB (Option.getD q0 Inhabited.default) (Option.getD q1 Inhabited.default)) && ((Option.isSome q1) && ((Option.isSome q0) && true))) then
      some ((Option.getD q0 Inhabited.default) ++ (Option.getD q1 Inhabited.default))
    else
      none
  else
    bif ((M.SType.Kind t) == (15 : Int)) then
      let q0 := (M.i_putFix (M.SType.Kind t) (1 : Int))
      let q1 := (M.i_sequence_Type rec_i_typeBytes (M.SType.Kids t))
      bif ((Go.V.catB (Option.getD q0 Inhabited.default) (Option.getD q1 Inhabited.default)) && ((Option.isSome q1) && ((Option.isSome q0) && true))) then
        some ((Option.getD q0 Inhabited.default) ++ (Option.getD q1 Inhabited.default))
      else
        none
    else
      let q0 := ((decide ((16 : Int) ≤ (M.SType.Kind t))) && (decide ((M.SType.Kind t) ≤ (19 : Int))))
      let q1 := (M.i_putFix (M.SType.Kind t) (1 : Int))
      let q2 := (M.i_sequence_string (M.SType.Labels t))
      match (M.i_typeBytes_l0 rec_i_typeBytes (M.SType.Kids t) ((List.length (M.SType.Kids t)) : Int) Go.V.bigN (bif q0 then ((Option.getD q1 Inhabited.default) ++ (Option.getD q2 Inhabited.default)) else (Option.getD q1 Inhabited.default)) (0 : Int)) with
      | none => none
      | some y3 =>
        bif ((((Go.V.catB (Option.getD q1 Inhabited.default) (Option.getD q2 Inhabited.default)) && ((Option.isSome q2) && ((Option.isSome q1) && true))) || (!q0)) && (((Option.isSome q1) && true) || q0)) then
          some y3
        else
          none
noncomputable def i_typeBytes_n : Nat → M.SType → Option ((List UInt8))
  | 0 => fun _ => none
  | n + 1 => i_typeBytes_b (i_typeBytes_n n)
noncomputable def i_typeBytes : M.SType → Option ((List UInt8)) := i_typeBytes_n Go.V.bigN
end M
namespace M
noncomputable def i_paramBytes (p : M.SParam) : Option ((List UInt8)) :=
  let q0 := (M.i_PutBytes (M.SParam.Name p))
  let q1 := (M.i_typeBytes (M.SType.re (M.SParam.Type_ p)))
  bif ((Go.V.catB (Option.getD q0 Inhabited.default) (Option.getD q1 Inhabited.default)) && ((Option.isSome q1) && ((Option.isSome q0) && true))) then
    some ((Option.getD q0 Inhabited.default) ++ (Option.getD q1 Inhabited.default))
  else
    none
end M
namespace M
noncomputable def i_sequence_Param_l0 (t12 : (List M.SParam)) (t13 : Int) : Nat → Int → (List UInt8) → Option ((List UInt8))
  | 0, _, _ => none
  | fuel + 1, t14, o2 =>
    bif (decide (t14 < t13)) then
      let q0 := (M.i_paramBytes (M.SParam.re (List.getD t12 (Int.toNat t14) M.SParam.zero)))
      let q1 := (M.strings_Builder_WriteString (Option.getD q0 Inhabited.default) o2)
      bif ((Option.isSome q1) && ((Option.isSome q0) && ((Go.V.inB t14 (List.length t12)) && true))) then
        M.i_sequence_Param_l0 t12 t13 fuel (Go.IntKind.wrap Go.IntKind.i64 (t14 + (1 : Int))) (Option.getD q1 Inhabited.default).2
      else
        none
    else
      some (o2)
end M
namespace M
noncomputable def i_sequence_Param (list : (List M.SParam)) : Option ((List UInt8)) :=
  let q0 := (M.i_PutLeb ((List.length list) : Int))
  let q1 := (M.strings_Builder_WriteString (Option.getD q0 Inhabited.default) [])
  match (M.i_sequence_Param_l0 list ((List.length list) : Int) Go.V.bigN (0 : Int) (Option.getD q1 Inhabited.default).2) with
  | none => none
  | some y2 =>
    let q3 := (M.strings_Builder_String y2)
    bif ((Option.isSome q3) && ((Option.isSome q1) && ((Option.isSome q0) && true))) then
      some (Option.getD q3 Inhabited.default)
    else
      none
end M
namespace M
noncomputable def i_funcBytes (f : M.SFunc) : Option ((List UInt8)) :=
  let q0 := (M.i_PutBytes (M.SFunc.Name f))
  let q1 := (M.i_bit (M.SFuncType.Async (M.SFunc.Type_ f)))
  let q2 := (M.i_putFix (Option.getD q1 Inhabited.default) (1 : Int))
  let q3 := (Option.getD q2 Inhabited.default)
  let q4 := ((Option.getD q0 Inhabited.default) ++ q3)
  let q5 := (M.i_sequence_Param (M.SFuncType.Params (M.SFunc.Type_ f)))
  let q6 := (q4 ++ (Option.getD q5 Inhabited.default))
  let q7 := (M.i_typeBytes (M.SType.re (M.SFuncType.Result (M.SFunc.Type_ f))))
  bif ((Go.V.catB q6 (Option.getD q7 Inhabited.default)) && ((Option.isSome q7) && ((Go.V.catB q4 (Option.getD q5 Inhabited.default)) && ((Option.isSome q5) && ((Go.V.catB (Option.getD q0 Inhabited.default) q3) && ((Option.isSome q2) && ((Option.isSome q1) && ((Option.isSome q0) && true)))))))) then
    some (q6 ++ (Option.getD q7 Inhabited.default))
  else
    none
end M
namespace M
noncomputable def i_sequence_Func_l0 (t12 : (List M.SFunc)) (t13 : Int) : Nat → Int → (List UInt8) → Option ((List UInt8))
  | 0, _, _ => none
  | fuel + 1, t14, o2 =>
    bif (decide (t14 < t13)) then
      let q0 := (M.i_funcBytes (M.SFunc.re (List.getD t12 (Int.toNat t14) M.SFunc.zero)))
      let q1 := (M.strings_Builder_WriteString (Option.getD q0 Inhabited.default) o2)
      bif ((Option.isSome q1) && ((Option.isSome q0) && ((Go.V.inB t14 (List.length t12)) && true))) then
        M.i_sequence_Func_l0 t12 t13 fuel (Go.IntKind.wrap Go.IntKind.i64 (t14 + (1 : Int))) (Option.getD q1 Inhabited.default).2
      else
        none
    else
      some (o2)
end M
namespace M
noncomputable def i_sequence_Func (list : (List M.SFunc)) : Option ((List UInt8)) :=
  let q0 := (M.i_PutLeb ((List.length list) : Int))
  let q1 := (M.strings_Builder_WriteString (Option.getD q0 Inhabited.default) [])
  match (M.i_sequence_Func_l0 list ((List.length list) : Int) Go.V.bigN (0 : Int) (Option.getD q1 Inhabited.default).2) with
  | none => none
  | some y2 =>
    let q3 := (M.strings_Builder_String y2)
    bif ((Option.isSome q3) && ((Option.isSome q1) && ((Option.isSome q0) && true))) then
      some (Option.getD q3 Inhabited.default)
    else
      none
end M
namespace M
noncomputable def i_faceBytes (f : M.SFace) : Option ((List UInt8)) :=
  let q0 := (M.i_PutBytes (M.SFace.Package f))
  let q1 := (M.i_PutBytes (M.SFace.Name f))
  let q2 := (M.i_PutBytes (M.SFace.Version f))
  let q3 := (((Option.getD q0 Inhabited.default) ++ (Option.getD q1 Inhabited.default)) ++ (Option.getD q2 Inhabited.default))
  let q4 := (M.i_sequence_string (M.SFace.Resources f))
  let q5 := (q3 ++ (Option.getD q4 Inhabited.default))
  let q6 := (M.i_sequence_Func (M.SFace.Funcs f))
  bif ((Go.V.catB q5 (Option.getD q6 Inhabited.default)) && ((Option.isSome q6) && ((Go.V.catB q3 (Option.getD q4 Inhabited.default)) && ((Option.isSome q4) && ((Go.V.catB ((Option.getD q0 Inhabited.default) ++ (Option.getD q1 Inhabited.default)) (Option.getD q2 Inhabited.default)) && ((Option.isSome q2) && ((Go.V.catB (Option.getD q0 Inhabited.default) (Option.getD q1 Inhabited.default)) && ((Option.isSome q1) && ((Option.isSome q0) && true))))))))) then
    some (q5 ++ (Option.getD q6 Inhabited.default))
  else
    none
end M
namespace M
def i_short (s : (List UInt8)) : Option ((List UInt8)) :=
  bif (decide ((60000 : Int) < ((List.length s) : Int))) then
    some []
  else
    some s
end M
namespace M
noncomputable def i_FaceBytes (f : M.SFace) : Option ((List UInt8)) :=
  let q0 := (M.i_FaceOk f)
  bif (!(Option.getD q0 Inhabited.default)) then
    bif ((Option.isSome q0) && true) then
      some []
    else
      none
  else
    let q1 := (M.i_faceBytes f)
    let q2 := (M.i_short (Option.getD q1 Inhabited.default))
    bif ((Option.isSome q2) && ((Option.isSome q1) && ((Option.isSome q0) && true))) then
      some (Option.getD q2 Inhabited.default)
    else
      none
end M
namespace M
noncomputable def l_FnExactFaceBytes (aF : M.SFace) : Option (Bool) :=
  let q0 := (M.l_szFace aF (1048576 : Int))
  bif (decide ((Option.getD q0 Inhabited.default) < (0 : Int))) then
    bif ((Option.isSome q0) && true) then
      some true
    else
      none
  else
    let q1 := (M.l_toFace aF)
    let q2 := (M.i_FaceBytes (Option.getD q1 Inhabited.default))
    let q3 := (M.s_FaceBytes (Option.getD q1 Inhabited.default))
    bif (!((Option.getD q2 Inhabited.default) == (Option.getD q3 Inhabited.default))) then
      let q4 := ((Option.isSome q2) && ((Option.isSome q1) && ((Option.isSome q3) && ((Option.isSome q1) && ((Option.isSome q0) && true)))))
      bif q4 then
        some false
      else
        none
    else
      let q4 := (M.l_eqFace (Option.getD q1 Inhabited.default) (Option.getD q1 Inhabited.default))
      bif (!(Option.getD q4 Inhabited.default)) then
        let q5 := ((Option.isSome q2) && ((Option.isSome q1) && ((Option.isSome q3) && ((Option.isSome q1) && ((Option.isSome q0) && true)))))
        let q6 := ((Option.isSome q4) && ((Option.isSome q1) && q5))
        bif q6 then
          some false
        else
          none
      else
        let q5 := ((Option.isSome q2) && ((Option.isSome q1) && ((Option.isSome q3) && ((Option.isSome q1) && ((Option.isSome q0) && true)))))
        let q6 := ((Option.isSome q4) && ((Option.isSome q1) && q5))
        bif q6 then
          some true
        else
          none
end M
