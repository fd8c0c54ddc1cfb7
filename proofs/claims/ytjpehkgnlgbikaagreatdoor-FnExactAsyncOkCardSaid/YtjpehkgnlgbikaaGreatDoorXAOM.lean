/-
  Part of the proof of the claim.
-/
import Derived.Test.YtjpehkgnlgbikaaGreatDoorXAdata
import Derived.Test.YtjpehkgnlgbikaaGreatDoorXAhand3
set_option linter.unusedVariables false
set_option maxRecDepth 100000
namespace M
noncomputable def l_szStringS_l0 (a : (List (List UInt8))) : Nat → Int → Int → Option ((Int) ⊕ (Int))
  | 0, _, _ => none
  | fuel + 1, left, i =>
    bif (decide (i < ((List.length a) : Int))) then
      let q0 := (Go.IntKind.wrap Go.IntKind.i64 (left - ((List.length (List.getD a (Int.toNat i) [])) : Int)))
      bif (decide (q0 < (0 : Int))) then
        bif ((Go.V.inB i (List.length a)) && true) then
          some (.inl (-(1 : Int)))
        else
          none
      else
        bif ((Go.V.inB i (List.length a)) && true) then
          M.l_szStringS_l0 a fuel q0 (Go.IntKind.wrap Go.IntKind.i64 (i + (1 : Int)))
        else
          none
    else
      some ((.inr (left)))
end M
namespace M
noncomputable def l_szStringS (a : (List (List UInt8))) (left : Int) : Option (Int) :=
  bif (decide ((Go.IntKind.wrap Go.IntKind.i64 (left - ((List.length a) : Int))) < (0 : Int))) then
    some (-(1 : Int))
  else
    match (M.l_szStringS_l0 a Go.V.bigN (Go.IntKind.wrap Go.IntKind.i64 (left - ((List.length a) : Int))) (0 : Int)) with
    | none => none
    | some y0 =>
      (match y0 with
      | .inl a1 =>
        some a1
      | .inr b1 =>
        some b1)
end M
namespace M
noncomputable def l_szTypeS_l0 (rec_l_szType : M.SType → Int → Option (Int)) (a : (List M.SType)) : Nat → Int → Int → Option ((Int) ⊕ (Int))
  | 0, _, _ => none
  | fuel + 1, left, i =>
    bif (decide (i < ((List.length a) : Int))) then
      let q0 := (Option.getD (rec_l_szType (M.SType.re (List.getD a (Int.toNat i) M.SType.zero)) left) Inhabited.default)
      bif (decide (q0 < (0 : Int))) then
        let q1 := ((Option.isSome (rec_l_szType (M.SType.re (List.getD a (Int.toNat i) M.SType.zero)) left)) && ((Go.V.inB i (List.length a)) && true))
        bif q1 then
          some (.inl (-(1 : Int)))
        else
          none
      else
        let q1 := ((Option.isSome (rec_l_szType (M.SType.re (List.getD a (Int.toNat i) M.SType.zero)) left)) && ((Go.V.inB i (List.length a)) && true))
        bif q1 then
          M.l_szTypeS_l0 rec_l_szType a fuel q0 (Go.IntKind.wrap Go.IntKind.i64 (i + (1 : Int)))
        else
          none
    else
      some ((.inr (left)))
end M
namespace M
noncomputable def l_szTypeS (rec_l_szType : M.SType → Int → Option (Int)) (a : (List M.SType)) (left : Int) : Option (Int) :=
  bif (decide ((Go.IntKind.wrap Go.IntKind.i64 (left - ((List.length a) : Int))) < (0 : Int))) then
    some (-(1 : Int))
  else
    match (M.l_szTypeS_l0 rec_l_szType a Go.V.bigN (Go.IntKind.wrap Go.IntKind.i64 (left - ((List.length a) : Int))) (0 : Int)) with
    | none => none
    | some y0 =>
      (match y0 with
      | .inl a1 =>
        some a1
      | .inr b1 =>
        some b1)
end M
namespace M
noncomputable def l_szType_b (rec_l_szType : M.SType → Int → Option (Int)) (a : M.SType) (left : Int) : Option (Int) :=
  bif (decide ((Go.IntKind.wrap Go.IntKind.i64 (left - ((List.length (M.SType.Name a)) : Int))) < (0 : Int))) then
    some (-(1 : Int))
  else
    let q0 := (M.l_szStringS (M.SType.Labels a) (Go.IntKind.wrap Go.IntKind.i64 (left - ((List.length (M.SType.Name a)) : Int))))
    let q1 := (Option.getD q0 Inhabited.default)
    bif (decide (q1 < (0 : Int))) then
      let q2 := ((Option.isSome q0) && true)
      bif q2 then
        some (-(1 : Int))
      else
        none
    else
      let q2 := (M.l_szTypeS rec_l_szType (M.SType.Kids a) q1)
      let q3 := (Option.getD q2 Inhabited.default)
      bif (decide (q3 < (0 : Int))) then
        let q4 := ((Option.isSome q0) && true)
        let q5 := ((Option.isSome q2) && q4)
        bif q5 then
          some (-(1 : Int))
        else
          none
      else
        let q4 := ((Option.isSome q0) && true)
        let q5 := ((Option.isSome q2) && q4)
        bif q5 then
          some q3
        else
          none
noncomputable def l_szType_n : Nat → M.SType → Int → Option (Int)
  | 0 => fun _ _ => none
  | n + 1 => l_szType_b (l_szType_n n)
noncomputable def l_szType : M.SType → Int → Option (Int) := l_szType_n Go.V.bigN
end M
namespace M
noncomputable def l_toStringS_l0 (a : (List (List UInt8))) : Nat → Int → (List (List UInt8)) → Option ((List (List UInt8)))
  | 0, _, _ => none
  | fuel + 1, i, out =>
    bif (decide (i < ((List.length a) : Int))) then
      bif ((Go.V.inB i (List.length out)) && ((Go.V.inB i (List.length a)) && true)) then
        M.l_toStringS_l0 a fuel (Go.IntKind.wrap Go.IntKind.i64 (i + (1 : Int))) (List.set out (Int.toNat i) (List.getD a (Int.toNat i) []))
      else
        none
    else
      some (out)
end M
namespace M
noncomputable def l_toStringS (a : (List (List UInt8))) : Option ((List (List UInt8))) :=
  match (M.l_toStringS_l0 a Go.V.bigN (0 : Int) (List.replicate (Int.toNat ((List.length a) : Int)) [])) with
  | none => none
  | some y0 =>
    bif (((decide (((List.length a) : Int) ≤ ((List.length a) : Int))) && (decide (((List.length a) : Int) ≤ (1073741824 : Int)))) && true) then
      some y0
    else
      none
end M
namespace M
noncomputable def l_toTypeS_l0 (rec_l_toType : M.SType → Option (M.SType)) (a : (List M.SType)) : Nat → Int → (List M.SType) → Option ((List M.SType))
  | 0, _, _ => none
  | fuel + 1, i, out =>
    bif (decide (i < ((List.length a) : Int))) then
      bif ((Go.V.inB i (List.length out)) && ((Option.isSome (rec_l_toType (M.SType.re (List.getD a (Int.toNat i) M.SType.zero)))) && ((Go.V.inB i (List.length a)) && true))) then
        M.l_toTypeS_l0 rec_l_toType a fuel (Go.IntKind.wrap Go.IntKind.i64 (i + (1 : Int))) (List.set out (Int.toNat i) (M.SType.re (Option.getD (rec_l_toType (M.SType.re (List.getD a (Int.toNat i) M.SType.zero))) Inhabited.default)))
      else
        none
    else
      some (out)
end M
namespace M
noncomputable def l_toTypeS (rec_l_toType : M.SType → Option (M.SType)) (a : (List M.SType)) : Option ((List M.SType)) :=
  match (M.l_toTypeS_l0 rec_l_toType a Go.V.bigN (0 : Int) (List.replicate (Int.toNat ((List.length a) : Int)) (M.SType.mk (0 : Int) [] [] []))) with
  | none => none
  | some y0 =>
    bif (((decide (((List.length a) : Int) ≤ ((List.length a) : Int))) && (decide (((List.length a) : Int) ≤ (1073741824 : Int)))) && true) then
      some y0
    else
      none
end M
namespace M
noncomputable def l_toType_b (rec_l_toType : M.SType → Option (M.SType)) (a : M.SType) : Option (M.SType) :=
  let q0 := (M.l_toTypeS rec_l_toType (M.SType.Kids a))
  let q1 := (M.l_toStringS (M.SType.Labels a))
  bif ((Option.isSome q0) && ((Option.isSome q1) && true)) then
    some (M.SType.mk (M.SType.Kind a) (M.SType.Name a) (Option.getD q1 Inhabited.default) (Option.getD q0 Inhabited.default))
  else
    none
noncomputable def l_toType_n : Nat → M.SType → Option (M.SType)
  | 0 => fun _ => none
  | n + 1 => l_toType_b (l_toType_n n)
noncomputable def l_toType : M.SType → Option (M.SType) := l_toType_n Go.V.bigN
end M
namespace M
noncomputable def l_eqStringS_l0 (a : (List (List UInt8))) (b : (List (List UInt8))) : Nat → Int → Option ((Bool) ⊕ (Unit))
  | 0, _ => none
  | fuel + 1, i =>
    bif (decide (i < ((List.length a) : Int))) then
      bif (!((List.getD a (Int.toNat i) []) == (List.getD b (Int.toNat i) []))) then
        let q0 := ((Go.V.inB i (List.length b)) && ((Go.V.inB i (List.length a)) && true))
        bif q0 then
          some (.inl false)
        else
          none
      else
        let q0 := ((Go.V.inB i (List.length b)) && ((Go.V.inB i (List.length a)) && true))
        bif q0 then
          M.l_eqStringS_l0 a b fuel (Go.IntKind.wrap Go.IntKind.i64 (i + (1 : Int)))
        else
          none
    else
      some ((.inr (())))
end M
namespace M
noncomputable def l_eqStringS (a : (List (List UInt8))) (b : (List (List UInt8))) : Option (Bool) :=
  bif (((List.length a) : Int) != ((List.length b) : Int)) then
    some false
  else
    match (M.l_eqStringS_l0 a b Go.V.bigN (0 : Int)) with
    | none => none
    | some y0 =>
      (match y0 with
      | .inl a1 =>
        some a1
      | .inr b1 =>
        some true)
end M
namespace M
noncomputable def l_eqTypeS_l0 (rec_l_eqType : M.SType → M.SType → Option (Bool)) (a : (List M.SType)) (b : (List M.SType)) : Nat → Int → Option ((Bool) ⊕ (Unit))
  | 0, _ => none
  | fuel + 1, i =>
    bif (decide (i < ((List.length a) : Int))) then
      bif (!(Option.getD (rec_l_eqType (M.SType.re (List.getD a (Int.toNat i) M.SType.zero)) (M.SType.re (List.getD b (Int.toNat i) M.SType.zero))) Inhabited.default)) then
        let q0 := ((Option.isSome (rec_l_eqType (M.SType.re (List.getD a (Int.toNat i) M.SType.zero)) (M.SType.re (List.getD b (Int.toNat i) M.SType.zero)))) && ((Go.V.inB i (List.length b)) && ((Go.V.inB i (List.length a)) && true)))
        bif q0 then
          some (.inl false)
        else
          none
      else
        let q0 := ((Option.isSome (rec_l_eqType (M.SType.re (List.getD a (Int.toNat i) M.SType.zero)) (M.SType.re (List.getD b (Int.toNat i) M.SType.zero)))) && ((Go.V.inB i (List.length b)) && ((Go.V.inB i (List.length a)) && true)))
        bif q0 then
          M.l_eqTypeS_l0 rec_l_eqType a b fuel (Go.IntKind.wrap Go.IntKind.i64 (i + (1 : Int)))
        else
          none
    else
      some ((.inr (())))
end M
namespace M
noncomputable def l_eqTypeS (rec_l_eqType : M.SType → M.SType → Option (Bool)) (a : (List M.SType)) (b : (List M.SType)) : Option (Bool) :=
  bif (((List.length a) : Int) != ((List.length b) : Int)) then
    some false
  else
    match (M.l_eqTypeS_l0 rec_l_eqType a b Go.V.bigN (0 : Int)) with
    | none => none
    | some y0 =>
      (match y0 with
      | .inl a1 =>
        some a1
      | .inr b1 =>
        some true)
end M
namespace M
noncomputable def l_eqType_b (rec_l_eqType : M.SType → M.SType → Option (Bool)) (a : M.SType) (b : M.SType) : Option (Bool) :=
  bif ((M.SType.Kind a) != (M.SType.Kind b)) then
    some false
  else
    bif (!((M.SType.Name a) == (M.SType.Name b))) then
      some false
    else
      let q0 := (M.l_eqStringS (M.SType.Labels a) (M.SType.Labels b))
      bif (!(Option.getD q0 Inhabited.default)) then
        bif ((Option.isSome q0) && true) then
          some false
        else
          none
      else
        let q1 := (M.l_eqTypeS rec_l_eqType (M.SType.Kids a) (M.SType.Kids b))
        bif (!(Option.getD q1 Inhabited.default)) then
          bif ((Option.isSome q1) && ((Option.isSome q0) && true)) then
            some false
          else
            none
        else
          bif ((Option.isSome q1) && ((Option.isSome q0) && true)) then
            some true
          else
            none
noncomputable def l_eqType_n : Nat → M.SType → M.SType → Option (Bool)
  | 0 => fun _ _ => none
  | n + 1 => l_eqType_b (l_eqType_n n)
noncomputable def l_eqType : M.SType → M.SType → Option (Bool) := l_eqType_n Go.V.bigN
end M
namespace M
noncomputable def l_szValueS_l0 (rec_l_szValue : M.SValue → Int → Option (Int)) (a : (List M.SValue)) : Nat → Int → Int → Option ((Int) ⊕ (Int))
  | 0, _, _ => none
  | fuel + 1, left, i =>
    bif (decide (i < ((List.length a) : Int))) then
      let q0 := (Option.getD (rec_l_szValue (M.SValue.re (List.getD a (Int.toNat i) M.SValue.zero)) left) Inhabited.default)
      bif (decide (q0 < (0 : Int))) then
        let q1 := ((Option.isSome (rec_l_szValue (M.SValue.re (List.getD a (Int.toNat i) M.SValue.zero)) left)) && ((Go.V.inB i (List.length a)) && true))
        bif q1 then
          some (.inl (-(1 : Int)))
        else
          none
      else
        let q1 := ((Option.isSome (rec_l_szValue (M.SValue.re (List.getD a (Int.toNat i) M.SValue.zero)) left)) && ((Go.V.inB i (List.length a)) && true))
        bif q1 then
          M.l_szValueS_l0 rec_l_szValue a fuel q0 (Go.IntKind.wrap Go.IntKind.i64 (i + (1 : Int)))
        else
          none
    else
      some ((.inr (left)))
end M
namespace M
noncomputable def l_szValueS (rec_l_szValue : M.SValue → Int → Option (Int)) (a : (List M.SValue)) (left : Int) : Option (Int) :=
  bif (decide ((Go.IntKind.wrap Go.IntKind.i64 (left - ((List.length a) : Int))) < (0 : Int))) then
    some (-(1 : Int))
  else
    match (M.l_szValueS_l0 rec_l_szValue a Go.V.bigN (Go.IntKind.wrap Go.IntKind.i64 (left - ((List.length a) : Int))) (0 : Int)) with
    | none => none
    | some y0 =>
      (match y0 with
      | .inl a1 =>
        some a1
      | .inr b1 =>
        some b1)
end M
namespace M
noncomputable def l_szValue_b (rec_l_szValue : M.SValue → Int → Option (Int)) (a : M.SValue) (left : Int) : Option (Int) :=
  bif (decide ((Go.IntKind.wrap Go.IntKind.i64 (left - ((List.length (M.SValue.Text a)) : Int))) < (0 : Int))) then
    some (-(1 : Int))
  else
    let q0 := (M.l_szValueS rec_l_szValue (M.SValue.Kids a) (Go.IntKind.wrap Go.IntKind.i64 (left - ((List.length (M.SValue.Text a)) : Int))))
    let q1 := (Option.getD q0 Inhabited.default)
    bif (decide (q1 < (0 : Int))) then
      let q2 := ((Option.isSome q0) && true)
      bif q2 then
        some (-(1 : Int))
      else
        none
    else
      let q2 := ((Option.isSome q0) && true)
      bif q2 then
        some q1
      else
        none
noncomputable def l_szValue_n : Nat → M.SValue → Int → Option (Int)
  | 0 => fun _ _ => none
  | n + 1 => l_szValue_b (l_szValue_n n)
noncomputable def l_szValue : M.SValue → Int → Option (Int) := l_szValue_n Go.V.bigN
end M
namespace M
noncomputable def l_toValueS_l0 (rec_l_toValue : M.SValue → Option (M.SValue)) (a : (List M.SValue)) : Nat → Int → (List M.SValue) → Option ((List M.SValue))
  | 0, _, _ => none
  | fuel + 1, i, out =>
    bif (decide (i < ((List.length a) : Int))) then
      bif ((Go.V.inB i (List.length out)) && ((Option.isSome (rec_l_toValue (M.SValue.re (List.getD a (Int.toNat i) M.SValue.zero)))) && ((Go.V.inB i (List.length a)) && true))) then
        M.l_toValueS_l0 rec_l_toValue a fuel (Go.IntKind.wrap Go.IntKind.i64 (i + (1 : Int))) (List.set out (Int.toNat i) (M.SValue.re (Option.getD (rec_l_toValue (M.SValue.re (List.getD a (Int.toNat i) M.SValue.zero))) Inhabited.default)))
      else
        none
    else
      some (out)
end M
namespace M
noncomputable def l_toValueS (rec_l_toValue : M.SValue → Option (M.SValue)) (a : (List M.SValue)) : Option ((List M.SValue)) :=
  match (M.l_toValueS_l0 rec_l_toValue a Go.V.bigN (0 : Int) (List.replicate (Int.toNat ((List.length a) : Int)) (M.SValue.mk (0 : Int) (0 : Int) [] []))) with
  | none => none
  | some y0 =>
    bif (((decide (((List.length a) : Int) ≤ ((List.length a) : Int))) && (decide (((List.length a) : Int) ≤ (1073741824 : Int)))) && true) then
      some y0
    else
      none
end M
namespace M
noncomputable def l_toValue_b (rec_l_toValue : M.SValue → Option (M.SValue)) (a : M.SValue) : Option (M.SValue) :=
  let q0 := (M.l_toValueS rec_l_toValue (M.SValue.Kids a))
  bif ((Option.isSome q0) && true) then
    some (M.SValue.mk (M.SValue.Kind a) (M.SValue.Num a) (M.SValue.Text a) (Option.getD q0 Inhabited.default))
  else
    none
noncomputable def l_toValue_n : Nat → M.SValue → Option (M.SValue)
  | 0 => fun _ => none
  | n + 1 => l_toValue_b (l_toValue_n n)
noncomputable def l_toValue : M.SValue → Option (M.SValue) := l_toValue_n Go.V.bigN
end M
namespace M
noncomputable def l_eqValueS_l0 (rec_l_eqValue : M.SValue → M.SValue → Option (Bool)) (a : (List M.SValue)) (b : (List M.SValue)) : Nat → Int → Option ((Bool) ⊕ (Unit))
  | 0, _ => none
  | fuel + 1, i =>
    bif (decide (i < ((List.length a) : Int))) then
      bif (!(Option.getD (rec_l_eqValue (M.SValue.re (List.getD a (Int.toNat i) M.SValue.zero)) (M.SValue.re (List.getD b (Int.toNat i) M.SValue.zero))) Inhabited.default)) then
        let q0 := ((Option.isSome (rec_l_eqValue (M.SValue.re (List.getD a (Int.toNat i) M.SValue.zero)) (M.SValue.re (List.getD b (Int.toNat i) M.SValue.zero)))) && ((Go.V.inB i (List.length b)) && ((Go.V.inB i (List.length a)) && true)))
        bif q0 then
          some (.inl false)
        else
          none
      else
        let q0 := ((Option.isSome (rec_l_eqValue (M.SValue.re (List.getD a (Int.toNat i) M.SValue.zero)) (M.SValue.re (List.getD b (Int.toNat i) M.SValue.zero)))) && ((Go.V.inB i (List.length b)) && ((Go.V.inB i (List.length a)) && true)))
        bif q0 then
          M.l_eqValueS_l0 rec_l_eqValue a b fuel (Go.IntKind.wrap Go.IntKind.i64 (i + (1 : Int)))
        else
          none
    else
      some ((.inr (())))
end M
namespace M
noncomputable def l_eqValueS (rec_l_eqValue : M.SValue → M.SValue → Option (Bool)) (a : (List M.SValue)) (b : (List M.SValue)) : Option (Bool) :=
  bif (((List.length a) : Int) != ((List.length b) : Int)) then
    some false
  else
    match (M.l_eqValueS_l0 rec_l_eqValue a b Go.V.bigN (0 : Int)) with
    | none => none
    | some y0 =>
      (match y0 with
      | .inl a1 =>
        some a1
      | .inr b1 =>
        some true)
end M
namespace M
noncomputable def l_eqValue_b (rec_l_eqValue : M.SValue → M.SValue → Option (Bool)) (a : M.SValue) (b : M.SValue) : Option (Bool) :=
  bif ((M.SValue.Kind a) != (M.SValue.Kind b)) then
    some false
  else
    bif ((M.SValue.Num a) != (M.SValue.Num b)) then
      some false
    else
      bif (!((M.SValue.Text a) == (M.SValue.Text b))) then
        some false
      else
        let q0 := (M.l_eqValueS rec_l_eqValue (M.SValue.Kids a) (M.SValue.Kids b))
        bif (!(Option.getD q0 Inhabited.default)) then
          bif ((Option.isSome q0) && true) then
            some false
          else
            none
        else
          bif ((Option.isSome q0) && true) then
            some true
          else
            none
noncomputable def l_eqValue_n : Nat → M.SValue → M.SValue → Option (Bool)
  | 0 => fun _ _ => none
  | n + 1 => l_eqValue_b (l_eqValue_n n)
noncomputable def l_eqValue : M.SValue → M.SValue → Option (Bool) := l_eqValue_n Go.V.bigN
end M
namespace M
def s_l00Max (a : Int) (b : Int) : Option (Int) :=
  bif (decide (b < a)) then
    some a
  else
    some b
end M
namespace M
noncomputable def s_l03Size_l0 (rec_s_l03Size : M.SType → Int → Option (Int × Int)) (deep : Int) : Nat → Int → Int → Int → M.SType → Option ((Int × Int) ⊕ (Int × Int))
  | 0, _, _, _, _ => none
  | fuel + 1, most, parts, i, t =>
    bif (decide (i < ((List.length (M.SType.Kids t)) : Int))) then
      let q0 := (Option.getD (rec_s_l03Size (M.SType.re (List.getD (M.SType.Kids t) (Int.toNat i) M.SType.zero)) (Go.IntKind.wrap Go.IntKind.i64 (deep + (1 : Int)))) Inhabited.default)
      let q1 := (Go.IntKind.wrap Go.IntKind.i64 (parts + q0.2))
      bif (decide ((24 : Int) < q1)) then
        let q2 := (M.s_l00Max most q0.1)
        let q3 := ((Option.isSome q2) && ((Option.isSome (rec_s_l03Size (M.SType.re (List.getD (M.SType.Kids t) (Int.toNat i) M.SType.zero)) (Go.IntKind.wrap Go.IntKind.i64 (deep + (1 : Int))))) && ((Go.V.inB i (List.length (M.SType.Kids t))) && true)))
        bif q3 then
          some (.inl ((5 : Int), (25 : Int)))
        else
          none
      else
        let q2 := (M.s_l00Max most q0.1)
        let q3 := ((Option.isSome q2) && ((Option.isSome (rec_s_l03Size (M.SType.re (List.getD (M.SType.Kids t) (Int.toNat i) M.SType.zero)) (Go.IntKind.wrap Go.IntKind.i64 (deep + (1 : Int))))) && ((Go.V.inB i (List.length (M.SType.Kids t))) && true)))
        bif q3 then
          M.s_l03Size_l0 rec_s_l03Size deep fuel (Option.getD q2 Inhabited.default) q1 (Go.IntKind.wrap Go.IntKind.i64 (i + (1 : Int))) (M.SType.re t)
        else
          none
    else
      some ((.inr ((most, parts))))
end M
namespace M
noncomputable def s_l03Size_b (rec_s_l03Size : M.SType → Int → Option (Int × Int)) (t : M.SType) (deep : Int) : Option (Int × Int) :=
  bif ((decide ((4 : Int) < deep)) || (decide ((24 : Int) < ((List.length (M.SType.Kids t)) : Int)))) then
    some ((5 : Int), (25 : Int))
  else
    match (M.s_l03Size_l0 rec_s_l03Size deep Go.V.bigN (0 : Int) (1 : Int) (0 : Int) (M.SType.re t)) with
    | none => none
    | some y0 =>
      (match y0 with
      | .inl a1 =>
        some (a1.1, a1.2)
      | .inr b1 =>
        some ((Go.IntKind.wrap Go.IntKind.i64 (b1.1 + (1 : Int))), b1.2))
noncomputable def s_l03Size_n : Nat → M.SType → Int → Option (Int × Int)
  | 0 => fun _ _ => none
  | n + 1 => s_l03Size_b (s_l03Size_n n)
noncomputable def s_l03Size : M.SType → Int → Option (Int × Int) := s_l03Size_n Go.V.bigN
end M
namespace M
def s_l00In (n : Int) (low : Int) (high : Int) : Option (Bool) :=
  some ((decide (low ≤ n)) && (decide (n ≤ high)))
end M
namespace M
noncomputable def s_l03Name_l0 (s : (List UInt8)) : Nat → Int → Option ((Bool) ⊕ (Unit))
  | 0, _ => none
  | fuel + 1, i =>
    bif (decide (i < ((List.length s) : Int))) then
      let q0 := ((((decide (((UInt8.toNat (List.getD s (Int.toNat i) (0 : UInt8))) : Int) < (97 : Int))) || (decide ((122 : Int) < ((UInt8.toNat (List.getD s (Int.toNat i) (0 : UInt8))) : Int)))) && ((decide (((UInt8.toNat (List.getD s (Int.toNat i) (0 : UInt8))) : Int) < (48 : Int))) || (decide ((57 : Int) < ((UInt8.toNat (List.getD s (Int.toNat i) (0 : UInt8))) : Int))))) && (((UInt8.toNat (List.getD s (Int.toNat i) (0 : UInt8))) : Int) != (45 : Int)))
      let q1 := (((UInt8.toNat (List.getD s (Int.toNat i) (0 : UInt8))) : Int) == (45 : Int))
      bif (q0 || (q1 && (((UInt8.toNat (List.getD s (Int.toNat (Go.IntKind.wrap Go.IntKind.i64 (i - (1 : Int)))) (0 : UInt8))) : Int) == (45 : Int)))) then
        let q2 := (((Go.V.inB (Go.IntKind.wrap Go.IntKind.i64 (i - (1 : Int))) (List.length s)) || (!((q0 == false) && (q1 == true)))) && ((Go.V.inB i (List.length s)) && true))
        bif q2 then
          some (.inl false)
        else
          none
      else
        let q2 := (((Go.V.inB (Go.IntKind.wrap Go.IntKind.i64 (i - (1 : Int))) (List.length s)) || (!((q0 == false) && (q1 == true)))) && ((Go.V.inB i (List.length s)) && true))
        bif q2 then
          M.s_l03Name_l0 s fuel (Go.IntKind.wrap Go.IntKind.i64 (i + (1 : Int)))
        else
          none
    else
      some ((.inr (())))
end M
namespace M
noncomputable def s_l03Name (s : (List UInt8)) : Option (Bool) :=
  let q0 := ((decide (((List.length s) : Int) < (1 : Int))) || (decide ((12 : Int) < ((List.length s) : Int))))
  let q1 := (q0 || (decide (((UInt8.toNat (List.getD s (Int.toNat (0 : Int)) (0 : UInt8))) : Int) < (97 : Int))))
  let q2 := (q1 || (decide ((122 : Int) < ((UInt8.toNat (List.getD s (Int.toNat (0 : Int)) (0 : UInt8))) : Int))))
  bif (q2 || (((UInt8.toNat (List.getD s (Int.toNat (Go.IntKind.wrap Go.IntKind.i64 (((List.length s) : Int) - (1 : Int)))) (0 : UInt8))) : Int) == (45 : Int))) then
    let q3 := (((Go.V.inB (Go.IntKind.wrap Go.IntKind.i64 (((List.length s) : Int) - (1 : Int))) (List.length s)) || (!(q2 == false))) && (((Go.V.inB (0 : Int) (List.length s)) || (!(q1 == false))) && (((Go.V.inB (0 : Int) (List.length s)) || (!(q0 == false))) && true)))
    bif q3 then
      some false
    else
      none
  else
    match (M.s_l03Name_l0 s Go.V.bigN (0 : Int)) with
    | none => none
    | some y3 =>
      (match y3 with
      | .inl a4 =>
        let q5 := (((Go.V.inB (Go.IntKind.wrap Go.IntKind.i64 (((List.length s) : Int) - (1 : Int))) (List.length s)) || (!(q2 == false))) && (((Go.V.inB (0 : Int) (List.length s)) || (!(q1 == false))) && (((Go.V.inB (0 : Int) (List.length s)) || (!(q0 == false))) && true)))
        bif q5 then
          some a4
        else
          none
      | .inr b4 =>
        let q5 := (((Go.V.inB (Go.IntKind.wrap Go.IntKind.i64 (((List.length s) : Int) - (1 : Int))) (List.length s)) || (!(q2 == false))) && (((Go.V.inB (0 : Int) (List.length s)) || (!(q1 == false))) && (((Go.V.inB (0 : Int) (List.length s)) || (!(q0 == false))) && true)))
        bif q5 then
          some true
        else
          none)
end M
namespace M
noncomputable def s_l03Labels_l0_0 (list : (List (List UInt8))) (i : Int) : Nat → Int → Option ((Bool) ⊕ ((List (List UInt8)) × Int))
  | 0, _ => none
  | fuel + 1, k =>
    bif (decide (k < i)) then
      bif ((List.getD list (Int.toNat k) []) == (List.getD list (Int.toNat i) [])) then
        let q0 := ((Go.V.inB i (List.length list)) && ((Go.V.inB k (List.length list)) && true))
        bif q0 then
          some (.inl false)
        else
          none
      else
        let q0 := ((Go.V.inB i (List.length list)) && ((Go.V.inB k (List.length list)) && true))
        bif q0 then
          M.s_l03Labels_l0_0 list i fuel (Go.IntKind.wrap Go.IntKind.i64 (k + (1 : Int)))
        else
          none
    else
      some ((.inr ((list, i))))
end M
namespace M
noncomputable def s_l03Labels_l0 : Nat → (List (List UInt8)) → Int → Option ((Bool) ⊕ (Unit))
  | 0, _, _ => none
  | fuel + 1, list, i =>
    bif (decide (i < ((List.length list) : Int))) then
      let q0 := (M.s_l03Name (List.getD list (Int.toNat i) []))
      bif (!(Option.getD q0 Inhabited.default)) then
        let q1 := ((Option.isSome q0) && ((Go.V.inB i (List.length list)) && true))
        bif q1 then
          some (.inl false)
        else
          none
      else
        match (M.s_l03Labels_l0_0 list i Go.V.bigN (0 : Int)) with
        | none => none
        | some y1 =>
          (match y1 with
          | .inl a2 =>
            let q3 := ((Option.isSome q0) && ((Go.V.inB i (List.length list)) && true))
            bif q3 then
              some (.inl a2)
            else
              none
          | .inr b2 =>
            let q3 := ((Option.isSome q0) && ((Go.V.inB i (List.length list)) && true))
            bif q3 then
              M.s_l03Labels_l0 fuel b2.1 (Go.IntKind.wrap Go.IntKind.i64 (b2.2 + (1 : Int)))
            else
              none)
    else
      some ((.inr (())))
end M
namespace M
noncomputable def s_l03Labels (list : (List (List UInt8))) : Option (Bool) :=
  bif ((decide (((List.length list) : Int) < (1 : Int))) || (decide ((16 : Int) < ((List.length list) : Int)))) then
    some false
  else
    match (M.s_l03Labels_l0 Go.V.bigN list (0 : Int)) with
    | none => none
    | some y0 =>
      (match y0 with
      | .inl a1 =>
        some a1
      | .inr b1 =>
        some true)
end M
namespace M
noncomputable def s_l03Units_l0 : Nat → Int → M.SType → Option ((Bool) ⊕ (Unit))
  | 0, _, _ => none
  | fuel + 1, i, t =>
    bif (decide (i < ((List.length (M.SType.Kids t)) : Int))) then
      bif ((M.SType.Kind (List.getD (M.SType.Kids t) (Int.toNat i) M.SType.zero)) == (1 : Int)) then
        bif ((Go.V.inB i (List.length (M.SType.Kids t))) && true) then
          some (.inl true)
        else
          none
      else
        bif ((Go.V.inB i (List.length (M.SType.Kids t))) && true) then
          M.s_l03Units_l0 fuel (Go.IntKind.wrap Go.IntKind.i64 (i + (1 : Int))) (M.SType.re t)
        else
          none
    else
      some ((.inr (())))
end M
namespace M
noncomputable def s_l03Units (t : M.SType) : Option (Bool) :=
  match (M.s_l03Units_l0 Go.V.bigN (0 : Int) (M.SType.re t)) with
  | none => none
  | some y0 =>
    (match y0 with
    | .inl a1 =>
      some a1
    | .inr b1 =>
      some false)
end M
namespace M
noncomputable def s_l03Has_l0 (rec_s_l03Has : M.SType → Int → Int → Option (Bool)) (low : Int) (high : Int) : Nat → Int → M.SType → Option ((Bool) ⊕ (Unit))
  | 0, _, _ => none
  | fuel + 1, i, t =>
    bif (decide (i < ((List.length (M.SType.Kids t)) : Int))) then
      bif (Option.getD (rec_s_l03Has (M.SType.re (List.getD (M.SType.Kids t) (Int.toNat i) M.SType.zero)) low high) Inhabited.default) then
        let q0 := ((Option.isSome (rec_s_l03Has (M.SType.re (List.getD (M.SType.Kids t) (Int.toNat i) M.SType.zero)) low high)) && ((Go.V.inB i (List.length (M.SType.Kids t))) && true))
        bif q0 then
          some (.inl true)
        else
          none
      else
        let q0 := ((Option.isSome (rec_s_l03Has (M.SType.re (List.getD (M.SType.Kids t) (Int.toNat i) M.SType.zero)) low high)) && ((Go.V.inB i (List.length (M.SType.Kids t))) && true))
        bif q0 then
          M.s_l03Has_l0 rec_s_l03Has low high fuel (Go.IntKind.wrap Go.IntKind.i64 (i + (1 : Int))) (M.SType.re t)
        else
          none
    else
      some ((.inr (())))
end M
namespace M
noncomputable def s_l03Has_b (rec_s_l03Has : M.SType → Int → Int → Option (Bool)) (t : M.SType) (low : Int) (high : Int) : Option (Bool) :=
  bif ((decide (low ≤ (M.SType.Kind t))) && (decide ((M.SType.Kind t) ≤ high))) then
    some true
  else
    match (M.s_l03Has_l0 rec_s_l03Has low high Go.V.bigN (0 : Int) (M.SType.re t)) with
    | none => none
    | some y0 =>
      (match y0 with
      | .inl a1 =>
        some a1
      | .inr b1 =>
        some false)
noncomputable def s_l03Has_n : Nat → M.SType → Int → Int → Option (Bool)
  | 0 => fun _ _ _ => none
  | n + 1 => s_l03Has_b (s_l03Has_n n)
noncomputable def s_l03Has : M.SType → Int → Int → Option (Bool) := s_l03Has_n Go.V.bigN
end M
namespace M
noncomputable def s_l03Shape (t : M.SType) : Option (Bool) :=
  let q0 := (((M.SType.Kind t) == (20 : Int)) || ((M.SType.Kind t) == (21 : Int)))
  let q1 := (!(q0 == (!((M.SType.Name t) == []))))
  let q2 := (M.s_l03Name (M.SType.Name t))
  let q3 := ((decide ((16 : Int) ≤ (M.SType.Kind t))) && (decide ((M.SType.Kind t) ≤ (19 : Int))))
  let q4 := ((q1 || (q0 && (!(Option.getD q2 Inhabited.default)))) || (!(q3 == (decide ((0 : Int) < ((List.length (M.SType.Labels t)) : Int))))))
  let q5 := (M.s_l03Labels (M.SType.Labels t))
  bif (q4 || (q3 && (!(Option.getD q5 Inhabited.default)))) then
    let q6 := (((Option.isSome q5) || (!((q4 == false) && (q3 == true)))) && (((Option.isSome q2) || (!((q1 == false) && (q0 == true)))) && true))
    bif q6 then
      some false
    else
      none
  else
    bif (bif ((M.SType.Kind t) == (12 : Int)) then ((M.SType.Kind t) == (12 : Int)) else ((M.SType.Kind t) == (13 : Int))) then
      let q6 := (M.s_l03Units (M.SType.re t))
      let q7 := (!((((List.length (M.SType.Kids t)) : Int) == (1 : Int)) == true))
      let q8 := (((Option.isSome q5) || (!((q4 == false) && (q3 == true)))) && (((Option.isSome q2) || (!((q1 == false) && (q0 == true)))) && true))
      let q9 := ((q8 || (!((M.SType.Kind t) == (12 : Int)))) && (q8 || ((M.SType.Kind t) == (12 : Int))))
      bif (((Option.isSome q6) || q7) && q9) then
        some ((((List.length (M.SType.Kids t)) : Int) == (1 : Int)) && (!(Option.getD q6 Inhabited.default)))
      else
        none
    else
      bif (bif ((M.SType.Kind t) == (22 : Int)) then ((M.SType.Kind t) == (22 : Int)) else ((M.SType.Kind t) == (23 : Int))) then
        let q6 := (M.s_l03Has (M.SType.re (List.getD (M.SType.Kids t) (Int.toNat (0 : Int)) M.SType.zero)) (21 : Int) (21 : Int))
        let q7 := (!((((List.length (M.SType.Kids t)) : Int) == (1 : Int)) == true))
        let q8 := (((Option.isSome q5) || (!((q4 == false) && (q3 == true)))) && (((Option.isSome q2) || (!((q1 == false) && (q0 == true)))) && true))
        let q9 := ((q8 || (!((M.SType.Kind t) == (12 : Int)))) && (q8 || ((M.SType.Kind t) == (12 : Int))))
        let q10 := ((q9 || (!((M.SType.Kind t) == (22 : Int)))) && (q9 || ((M.SType.Kind t) == (22 : Int))))
        bif (((Option.isSome q6) || q7) && (((Go.V.inB (0 : Int) (List.length (M.SType.Kids t))) || q7) && q10)) then
          some ((((List.length (M.SType.Kids t)) : Int) == (1 : Int)) && (!(Option.getD q6 Inhabited.default)))
        else
          none
      else
        bif ((M.SType.Kind t) == (14 : Int)) then
          let q6 := (((Option.isSome q5) || (!((q4 == false) && (q3 == true)))) && (((Option.isSome q2) || (!((q1 == false) && (q0 == true)))) && true))
          let q7 := ((q6 || (!((M.SType.Kind t) == (12 : Int)))) && (q6 || ((M.SType.Kind t) == (12 : Int))))
          let q8 := ((q7 || (!((M.SType.Kind t) == (22 : Int)))) && (q7 || ((M.SType.Kind t) == (22 : Int))))
          bif q8 then
            some (((List.length (M.SType.Kids t)) : Int) == (2 : Int))
          else
            none
        else
          bif ((M.SType.Kind t) == (15 : Int)) then
            let q6 := (M.s_l03Units (M.SType.re t))
            let q7 := ((decide ((1 : Int) ≤ ((List.length (M.SType.Kids t)) : Int))) && (decide (((List.length (M.SType.Kids t)) : Int) ≤ (6 : Int))))
            let q8 := (((Option.isSome q5) || (!((q4 == false) && (q3 == true)))) && (((Option.isSome q2) || (!((q1 == false) && (q0 == true)))) && true))
            let q9 := ((q8 || (!((M.SType.Kind t) == (12 : Int)))) && (q8 || ((M.SType.Kind t) == (12 : Int))))
            let q10 := ((q9 || (!((M.SType.Kind t) == (22 : Int)))) && (q9 || ((M.SType.Kind t) == (22 : Int))))
            bif (((Option.isSome q6) || (!(q7 == true))) && q10) then
              some (q7 && (!(Option.getD q6 Inhabited.default)))
            else
              none
          else
            bif ((M.SType.Kind t) == (16 : Int)) then
              let q6 := (M.s_l03Units (M.SType.re t))
              let q7 := (((Option.isSome q5) || (!((q4 == false) && (q3 == true)))) && (((Option.isSome q2) || (!((q1 == false) && (q0 == true)))) && true))
              let q8 := ((q7 || (!((M.SType.Kind t) == (12 : Int)))) && (q7 || ((M.SType.Kind t) == (12 : Int))))
              let q9 := ((q8 || (!((M.SType.Kind t) == (22 : Int)))) && (q8 || ((M.SType.Kind t) == (22 : Int))))
              bif (((Option.isSome q6) || (!((((List.length (M.SType.Kids t)) : Int) == ((List.length (M.SType.Labels t)) : Int)) == true))) && q9) then
                some ((((List.length (M.SType.Kids t)) : Int) == ((List.length (M.SType.Labels t)) : Int)) && (!(Option.getD q6 Inhabited.default)))
              else
                none
            else
              bif ((M.SType.Kind t) == (17 : Int)) then
                let q6 := (((Option.isSome q5) || (!((q4 == false) && (q3 == true)))) && (((Option.isSome q2) || (!((q1 == false) && (q0 == true)))) && true))
                let q7 := ((q6 || (!((M.SType.Kind t) == (12 : Int)))) && (q6 || ((M.SType.Kind t) == (12 : Int))))
                let q8 := ((q7 || (!((M.SType.Kind t) == (22 : Int)))) && (q7 || ((M.SType.Kind t) == (22 : Int))))
                bif q8 then
                  some (((List.length (M.SType.Kids t)) : Int) == ((List.length (M.SType.Labels t)) : Int))
                else
                  none
              else
                let q6 := (((Option.isSome q5) || (!((q4 == false) && (q3 == true)))) && (((Option.isSome q2) || (!((q1 == false) && (q0 == true)))) && true))
                let q7 := ((q6 || (!((M.SType.Kind t) == (12 : Int)))) && (q6 || ((M.SType.Kind t) == (12 : Int))))
                let q8 := ((q7 || (!((M.SType.Kind t) == (22 : Int)))) && (q7 || ((M.SType.Kind t) == (22 : Int))))
                bif q8 then
                  some (((decide ((1 : Int) ≤ (M.SType.Kind t))) && (decide ((M.SType.Kind t) ≤ (23 : Int)))) && (((List.length (M.SType.Kids t)) : Int) == (0 : Int)))
                else
                  none
end M
namespace M
noncomputable def s_l03Parts_l0 (rec_s_l03Parts : M.SType → Option (Bool)) : Nat → Int → M.SType → Option ((Bool) ⊕ (Unit))
  | 0, _, _ => none
  | fuel + 1, i, t =>
    bif (decide (i < ((List.length (M.SType.Kids t)) : Int))) then
      bif (!(Option.getD (rec_s_l03Parts (M.SType.re (List.getD (M.SType.Kids t) (Int.toNat i) M.SType.zero))) Inhabited.default)) then
        let q0 := ((Option.isSome (rec_s_l03Parts (M.SType.re (List.getD (M.SType.Kids t) (Int.toNat i) M.SType.zero)))) && ((Go.V.inB i (List.length (M.SType.Kids t))) && true))
        bif q0 then
          some (.inl false)
        else
          none
      else
        let q0 := ((Option.isSome (rec_s_l03Parts (M.SType.re (List.getD (M.SType.Kids t) (Int.toNat i) M.SType.zero)))) && ((Go.V.inB i (List.length (M.SType.Kids t))) && true))
        bif q0 then
          M.s_l03Parts_l0 rec_s_l03Parts fuel (Go.IntKind.wrap Go.IntKind.i64 (i + (1 : Int))) (M.SType.re t)
        else
          none
    else
      some ((.inr (())))
end M
namespace M
noncomputable def s_l03Parts_b (rec_s_l03Parts : M.SType → Option (Bool)) (t : M.SType) : Option (Bool) :=
  let q0 := (M.s_l03Shape (M.SType.re t))
  bif (!(Option.getD q0 Inhabited.default)) then
    bif ((Option.isSome q0) && true) then
      some false
    else
      none
  else
    match (M.s_l03Parts_l0 rec_s_l03Parts Go.V.bigN (0 : Int) (M.SType.re t)) with
    | none => none
    | some y1 =>
      (match y1 with
      | .inl a2 =>
        bif ((Option.isSome q0) && true) then
          some a2
        else
          none
      | .inr b2 =>
        bif ((Option.isSome q0) && true) then
          some true
        else
          none)
noncomputable def s_l03Parts_n : Nat → M.SType → Option (Bool)
  | 0 => fun _ => none
  | n + 1 => s_l03Parts_b (s_l03Parts_n n)
noncomputable def s_l03Parts : M.SType → Option (Bool) := s_l03Parts_n Go.V.bigN
end M
namespace M
noncomputable def i_deep_l0 (rec_i_deep : M.SType → Int → Option (Int)) (levels : Int) (t11 : (List M.SType)) (t12 : Int) : Nat → Int → Int → Option (Int)
  | 0, _, _ => none
  | fuel + 1, depth, t13 =>
    bif (decide (t13 < t12)) then
      bif ((Option.isSome (rec_i_deep (M.SType.re (List.getD t11 (Int.toNat t13) M.SType.zero)) (Go.IntKind.wrap Go.IntKind.i64 (levels - (1 : Int))))) && ((Go.V.inB t13 (List.length t11)) && true)) then
        let q0 := (Option.getD (rec_i_deep (M.SType.re (List.getD t11 (Int.toNat t13) M.SType.zero)) (Go.IntKind.wrap Go.IntKind.i64 (levels - (1 : Int)))) Inhabited.default)
        M.i_deep_l0 rec_i_deep levels t11 t12 fuel (bif (decide (depth < q0)) then q0 else depth) (Go.IntKind.wrap Go.IntKind.i64 (t13 + (1 : Int)))
      else
        none
    else
      some (depth)
end M
namespace M
noncomputable def i_deep_b (rec_i_deep : M.SType → Int → Option (Int)) (t : M.SType) (levels : Int) : Option (Int) :=
  bif (levels == (0 : Int)) then
    some (1 : Int)
  else
    match (M.i_deep_l0 rec_i_deep levels (M.SType.Kids t) ((List.length (M.SType.Kids t)) : Int) Go.V.bigN (0 : Int) (0 : Int)) with
    | none => none
    | some y0 =>
      some (Go.IntKind.wrap Go.IntKind.i64 (y0 + (1 : Int)))
noncomputable def i_deep_n : Nat → M.SType → Int → Option (Int)
  | 0 => fun _ _ => none
  | n + 1 => i_deep_b (i_deep_n n)
noncomputable def i_deep : M.SType → Int → Option (Int) := i_deep_n Go.V.bigN
end M
namespace M
noncomputable def i_parts_l0 (rec_i_parts : M.SType → Option (Int)) (t7 : (List M.SType)) (t8 : Int) : Nat → Int → Int → Option (Int)
  | 0, _, _ => none
  | fuel + 1, many, t9 =>
    bif (decide (t9 < t8)) then
      bif ((Option.isSome (rec_i_parts (M.SType.re (List.getD t7 (Int.toNat t9) M.SType.zero)))) && ((Go.V.inB t9 (List.length t7)) && true)) then
        M.i_parts_l0 rec_i_parts t7 t8 fuel (Go.IntKind.wrap Go.IntKind.i64 (many + (Option.getD (rec_i_parts (M.SType.re (List.getD t7 (Int.toNat t9) M.SType.zero))) Inhabited.default))) (Go.IntKind.wrap Go.IntKind.i64 (t9 + (1 : Int)))
      else
        none
    else
      some (many)
end M
namespace M
noncomputable def i_parts_b (rec_i_parts : M.SType → Option (Int)) (t : M.SType) : Option (Int) :=
  match (M.i_parts_l0 rec_i_parts (M.SType.Kids t) ((List.length (M.SType.Kids t)) : Int) Go.V.bigN (1 : Int) (0 : Int)) with
  | none => none
  | some y0 =>
    some y0
noncomputable def i_parts_n : Nat → M.SType → Option (Int)
  | 0 => fun _ => none
  | n + 1 => i_parts_b (i_parts_n n)
noncomputable def i_parts : M.SType → Option (Int) := i_parts_n Go.V.bigN
end M
namespace M
noncomputable def i_shapeOk_c1 (rec_i_shapeOk : M.SType → Option (Bool)) (kid : M.SType) : Option (Bool) :=
  bif ((Option.isSome (rec_i_shapeOk (M.SType.re kid))) && true) then
    some (!(Option.getD (rec_i_shapeOk (M.SType.re kid)) Inhabited.default))
  else
    none
end M
namespace M
noncomputable def slices_IndexFunc_Type_Type_l0 (rec_i_shapeOk : M.SType → Option (Bool)) (s : (List M.SType)) (t7 : Int) : Nat → Int → Option ((Int) ⊕ (Unit))
  | 0, _ => none
  | fuel + 1, t8 =>
    bif (decide (t8 < t7)) then
      let q0 := (M.i_shapeOk_c1 rec_i_shapeOk (M.SType.re (List.getD s (Int.toNat t8) M.SType.zero)))
      bif (Option.getD q0 Inhabited.default) then
        let q1 := ((Option.isSome q0) && ((Go.V.inB t8 (List.length s)) && true))
        bif q1 then
          some (.inl t8)
        else
          none
      else
        let q1 := ((Option.isSome q0) && ((Go.V.inB t8 (List.length s)) && true))
        bif q1 then
          M.slices_IndexFunc_Type_Type_l0 rec_i_shapeOk s t7 fuel (Go.IntKind.wrap Go.IntKind.i64 (t8 + (1 : Int)))
        else
          none
    else
      some ((.inr (())))
end M
namespace M
noncomputable def slices_IndexFunc_Type_Type (rec_i_shapeOk : M.SType → Option (Bool)) (s : (List M.SType)) : Option (Int) :=
  match (M.slices_IndexFunc_Type_Type_l0 rec_i_shapeOk s ((List.length s) : Int) Go.V.bigN (0 : Int)) with
  | none => none
  | some y0 =>
    (match y0 with
    | .inl a1 =>
      some a1
    | .inr b1 =>
      some (-(1 : Int)))
end M
namespace M
noncomputable def slices_ContainsFunc_Type_Type (rec_i_shapeOk : M.SType → Option (Bool)) (s : (List M.SType)) : Option (Bool) :=
  let q0 := (M.slices_IndexFunc_Type_Type rec_i_shapeOk s)
  bif ((Option.isSome q0) && true) then
    some (decide ((0 : Int) ≤ (Option.getD q0 Inhabited.default)))
  else
    none
end M
namespace M
def i_within (n : Int) (low : Int) (high : Int) : Option (Bool) :=
  some ((decide (low ≤ n)) && (decide (n ≤ high)))
end M
namespace M
def i_size_string (list : (List (List UInt8))) : Option (Int) :=
  some ((List.length list) : Int)
end M
namespace M
noncomputable def i_NameOk_l0 (s : (List UInt8)) (t7 : Int) : Nat → Int → Option ((Bool) ⊕ ((List UInt8)))
  | 0, _ => none
  | fuel + 1, t8 =>
    bif (decide (t8 < t7)) then
      bif ((decide ((97 : Int) ≤ ((UInt8.toNat (List.getD s (Int.toNat t8) (0 : UInt8))) : Int))) && (decide (((UInt8.toNat (List.getD s (Int.toNat t8) (0 : UInt8))) : Int) ≤ (122 : Int)))) then
        let q0 := (((Go.V.inB t8 (List.length s)) || (!((decide ((48 : Int) ≤ ((UInt8.toNat (List.getD s (Int.toNat t8) (0 : UInt8))) : Int))) == true))) && ((Go.V.inB t8 (List.length s)) && (((Go.V.inB t8 (List.length s)) || (!((decide ((97 : Int) ≤ ((UInt8.toNat (List.getD s (Int.toNat t8) (0 : UInt8))) : Int))) == true))) && ((Go.V.inB t8 (List.length s)) && true))))
        bif q0 then
          M.i_NameOk_l0 s t7 fuel (Go.IntKind.wrap Go.IntKind.i64 (t8 + (1 : Int)))
        else
          none
      else
        let q0 := (!((decide ((48 : Int) ≤ ((UInt8.toNat (List.getD s (Int.toNat t8) (0 : UInt8))) : Int))) && (decide (((UInt8.toNat (List.getD s (Int.toNat t8) (0 : UInt8))) : Int) ≤ (57 : Int)))))
        bif ((t8 == (0 : Int)) || (q0 && (((UInt8.toNat (List.getD s (Int.toNat t8) (0 : UInt8))) : Int) != (45 : Int)))) then
          let q1 := (((Go.V.inB t8 (List.length s)) || (!((decide ((48 : Int) ≤ ((UInt8.toNat (List.getD s (Int.toNat t8) (0 : UInt8))) : Int))) == true))) && ((Go.V.inB t8 (List.length s)) && (((Go.V.inB t8 (List.length s)) || (!((decide ((97 : Int) ≤ ((UInt8.toNat (List.getD s (Int.toNat t8) (0 : UInt8))) : Int))) == true))) && ((Go.V.inB t8 (List.length s)) && true))))
          let q2 := (((Go.V.inB t8 (List.length s)) || (!(((t8 == (0 : Int)) == false) && (q0 == true)))) && q1)
          bif q2 then
            some (.inl false)
          else
            none
        else
          let q1 := (((UInt8.toNat (List.getD s (Int.toNat t8) (0 : UInt8))) : Int) == (45 : Int))
          bif (q1 && (((UInt8.toNat (List.getD s (Int.toNat (Go.IntKind.wrap Go.IntKind.i64 (t8 - (1 : Int)))) (0 : UInt8))) : Int) == (45 : Int))) then
            let q2 := (((Go.V.inB t8 (List.length s)) || (!((decide ((48 : Int) ≤ ((UInt8.toNat (List.getD s (Int.toNat t8) (0 : UInt8))) : Int))) == true))) && ((Go.V.inB t8 (List.length s)) && (((Go.V.inB t8 (List.length s)) || (!((decide ((97 : Int) ≤ ((UInt8.toNat (List.getD s (Int.toNat t8) (0 : UInt8))) : Int))) == true))) && ((Go.V.inB t8 (List.length s)) && true))))
            let q3 := (((Go.V.inB t8 (List.length s)) || (!(((t8 == (0 : Int)) == false) && (q0 == true)))) && q2)
            let q4 := (((Go.V.inB (Go.IntKind.wrap Go.IntKind.i64 (t8 - (1 : Int))) (List.length s)) || (!(q1 == true))) && ((Go.V.inB t8 (List.length s)) && q3))
            bif q4 then
              some (.inl false)
            else
              none
          else
            let q2 := (((Go.V.inB t8 (List.length s)) || (!((decide ((48 : Int) ≤ ((UInt8.toNat (List.getD s (Int.toNat t8) (0 : UInt8))) : Int))) == true))) && ((Go.V.inB t8 (List.length s)) && (((Go.V.inB t8 (List.length s)) || (!((decide ((97 : Int) ≤ ((UInt8.toNat (List.getD s (Int.toNat t8) (0 : UInt8))) : Int))) == true))) && ((Go.V.inB t8 (List.length s)) && true))))
            let q3 := (((Go.V.inB t8 (List.length s)) || (!(((t8 == (0 : Int)) == false) && (q0 == true)))) && q2)
            let q4 := (((Go.V.inB (Go.IntKind.wrap Go.IntKind.i64 (t8 - (1 : Int))) (List.length s)) || (!(q1 == true))) && ((Go.V.inB t8 (List.length s)) && q3))
            bif q4 then
              M.i_NameOk_l0 s t7 fuel (Go.IntKind.wrap Go.IntKind.i64 (t8 + (1 : Int)))
            else
              none
    else
      some ((.inr (s)))
end M
namespace M
noncomputable def i_NameOk (s : (List UInt8)) : Option (Bool) :=
  match (M.i_NameOk_l0 s ((List.length s) : Int) Go.V.bigN (0 : Int)) with
  | none => none
  | some y0 =>
    (match y0 with
    | .inl a1 =>
      some a1
    | .inr b1 =>
      let q2 := ((decide ((1 : Int) ≤ ((List.length b1) : Int))) && (decide (((List.length b1) : Int) ≤ (12 : Int))))
      bif (((Go.V.inB (Go.IntKind.wrap Go.IntKind.i64 (((List.length b1) : Int) - (1 : Int))) (List.length b1)) || (!(q2 == true))) && true) then
        some (q2 && (((UInt8.toNat (List.getD b1 (Int.toNat (Go.IntKind.wrap Go.IntKind.i64 (((List.length b1) : Int) - (1 : Int)))) (0 : UInt8))) : Int) != (45 : Int)))
      else
        none)
end M
namespace M
noncomputable def i_labelsOk_c1 (name : (List UInt8)) : Option (Bool) :=
  let q0 := (M.i_NameOk name)
  bif ((Option.isSome q0) && true) then
    some (!(Option.getD q0 Inhabited.default))
  else
    none
end M
namespace M
noncomputable def slices_IndexFunc_string_string_l0 (s : (List (List UInt8))) (t7 : Int) : Nat → Int → Option ((Int) ⊕ (Unit))
  | 0, _ => none
  | fuel + 1, t8 =>
    bif (decide (t8 < t7)) then
      let q0 := (M.i_labelsOk_c1 (List.getD s (Int.toNat t8) []))
      bif (Option.getD q0 Inhabited.default) then
        let q1 := ((Option.isSome q0) && ((Go.V.inB t8 (List.length s)) && true))
        bif q1 then
          some (.inl t8)
        else
          none
      else
        let q1 := ((Option.isSome q0) && ((Go.V.inB t8 (List.length s)) && true))
        bif q1 then
          M.slices_IndexFunc_string_string_l0 s t7 fuel (Go.IntKind.wrap Go.IntKind.i64 (t8 + (1 : Int)))
        else
          none
    else
      some ((.inr (())))
end M
namespace M
noncomputable def slices_IndexFunc_string_string (s : (List (List UInt8))) : Option (Int) :=
  match (M.slices_IndexFunc_string_string_l0 s ((List.length s) : Int) Go.V.bigN (0 : Int)) with
  | none => none
  | some y0 =>
    (match y0 with
    | .inl a1 =>
      some a1
    | .inr b1 =>
      some (-(1 : Int)))
end M
namespace M
noncomputable def slices_ContainsFunc_string_string (s : (List (List UInt8))) : Option (Bool) :=
  let q0 := (M.slices_IndexFunc_string_string s)
  bif ((Option.isSome q0) && true) then
    some (decide ((0 : Int) ≤ (Option.getD q0 Inhabited.default)))
  else
    none
end M
namespace M
noncomputable def i_labelsOk (labels : (List (List UInt8))) : Option (Bool) :=
  let q0 := (M.slices_ContainsFunc_string_string labels)
  let q1 := ((decide ((1 : Int) ≤ ((List.length labels) : Int))) && (decide (((List.length labels) : Int) ≤ (16 : Int))))
  let q2 := (M.i_distinct labels)
  let q3 := (q1 && (Option.getD q2 Inhabited.default))
  bif (((Option.isSome q0) || (!(q3 == true))) && (((Option.isSome q2) || (!(q1 == true))) && true)) then
    some (q3 && (!(Option.getD q0 Inhabited.default)))
  else
    none
end M
namespace M
noncomputable def i_size_Type (list : (List M.SType)) : Option (Int) :=
  some ((List.length list) : Int)
end M
namespace M
noncomputable def i_isUnit (t : M.SType) : Option (Bool) :=
  some ((M.SType.Kind t) == (1 : Int))
end M
namespace M
noncomputable def slices_IndexFunc_Type_Type_2_l0 (s : (List M.SType)) (t7 : Int) : Nat → Int → Option ((Int) ⊕ (Unit))
  | 0, _ => none
  | fuel + 1, t8 =>
    bif (decide (t8 < t7)) then
      bif ((M.SType.Kind (List.getD s (Int.toNat t8) M.SType.zero)) == (1 : Int)) then
        bif ((Go.V.inB t8 (List.length s)) && true) then
          some (.inl t8)
        else
          none
      else
        bif ((Go.V.inB t8 (List.length s)) && true) then
          M.slices_IndexFunc_Type_Type_2_l0 s t7 fuel (Go.IntKind.wrap Go.IntKind.i64 (t8 + (1 : Int)))
        else
          none
    else
      some ((.inr (())))
end M
namespace M
noncomputable def slices_IndexFunc_Type_Type_2 (s : (List M.SType)) : Option (Int) :=
  match (M.slices_IndexFunc_Type_Type_2_l0 s ((List.length s) : Int) Go.V.bigN (0 : Int)) with
  | none => none
  | some y0 =>
    (match y0 with
    | .inl a1 =>
      some a1
    | .inr b1 =>
      some (-(1 : Int)))
end M
namespace M
noncomputable def slices_ContainsFunc_Type_Type_2 (s : (List M.SType)) : Option (Bool) :=
  let q0 := (M.slices_IndexFunc_Type_Type_2 s)
  bif ((Option.isSome q0) && true) then
    some (decide ((0 : Int) ≤ (Option.getD q0 Inhabited.default)))
  else
    none
end M
namespace M
noncomputable def i_kidsOk (t : M.SType) (many : Int) : Option (Bool) :=
  let q0 := (M.slices_ContainsFunc_Type_Type_2 (M.SType.Kids t))
  bif (((Option.isSome q0) || (!((((List.length (M.SType.Kids t)) : Int) == many) == true))) && true) then
    some ((((List.length (M.SType.Kids t)) : Int) == many) && (!(Option.getD q0 Inhabited.default)))
  else
    none
end M
namespace M
noncomputable def slices_Index_int64_int64_l0 (s : (List Int)) (v : Int) (t7 : Int) : Nat → Int → Option ((Int) ⊕ (Unit))
  | 0, _ => none
  | fuel + 1, t8 =>
    bif (decide (t8 < t7)) then
      bif (v == (List.getD s (Int.toNat t8) (0 : Int))) then
        bif ((Go.V.inB t8 (List.length s)) && true) then
          some (.inl t8)
        else
          none
      else
        bif ((Go.V.inB t8 (List.length s)) && true) then
          M.slices_Index_int64_int64_l0 s v t7 fuel (Go.IntKind.wrap Go.IntKind.i64 (t8 + (1 : Int)))
        else
          none
    else
      some ((.inr (())))
end M
namespace M
noncomputable def slices_Index_int64_int64 (s : (List Int)) (v : Int) : Option (Int) :=
  match (M.slices_Index_int64_int64_l0 s v ((List.length s) : Int) Go.V.bigN (0 : Int)) with
  | none => none
  | some y0 =>
    (match y0 with
    | .inl a1 =>
      some a1
    | .inr b1 =>
      some (-(1 : Int)))
end M
namespace M
noncomputable def slices_Contains_int64_int64 (s : (List Int)) (v : Int) : Option (Bool) :=
  let q0 := (M.slices_Index_int64_int64 s v)
  bif ((Option.isSome q0) && true) then
    some (decide ((0 : Int) ≤ (Option.getD q0 Inhabited.default)))
  else
    none
end M
namespace M
noncomputable def i_hasKind_c1 (rec_i_hasKind : M.SType → (List Int) → Option (Bool)) (kid : M.SType) (t1 : (List Int)) : Option (Bool) :=
  bif ((Option.isSome (rec_i_hasKind (M.SType.re kid) t1)) && true) then
    some (Option.getD (rec_i_hasKind (M.SType.re kid) t1) Inhabited.default)
  else
    none
end M
namespace M
noncomputable def slices_IndexFunc_Type_Type_3_l0 (rec_i_hasKind : M.SType → (List Int) → Option (Bool)) (s : (List M.SType)) (f : (List Int)) (t7 : Int) : Nat → Int → Option ((Int) ⊕ (Unit))
  | 0, _ => none
  | fuel + 1, t8 =>
    bif (decide (t8 < t7)) then
      let q0 := (M.i_hasKind_c1 rec_i_hasKind (M.SType.re (List.getD s (Int.toNat t8) M.SType.zero)) f)
      bif (Option.getD q0 Inhabited.default) then
        let q1 := ((Option.isSome q0) && ((Go.V.inB t8 (List.length s)) && true))
        bif q1 then
          some (.inl t8)
        else
          none
      else
        let q1 := ((Option.isSome q0) && ((Go.V.inB t8 (List.length s)) && true))
        bif q1 then
          M.slices_IndexFunc_Type_Type_3_l0 rec_i_hasKind s f t7 fuel (Go.IntKind.wrap Go.IntKind.i64 (t8 + (1 : Int)))
        else
          none
    else
      some ((.inr (())))
end M
namespace M
noncomputable def slices_IndexFunc_Type_Type_3 (rec_i_hasKind : M.SType → (List Int) → Option (Bool)) (s : (List M.SType)) (f : (List Int)) : Option (Int) :=
  match (M.slices_IndexFunc_Type_Type_3_l0 rec_i_hasKind s f ((List.length s) : Int) Go.V.bigN (0 : Int)) with
  | none => none
  | some y0 =>
    (match y0 with
    | .inl a1 =>
      some a1
    | .inr b1 =>
      some (-(1 : Int)))
end M
namespace M
noncomputable def slices_ContainsFunc_Type_Type_3 (rec_i_hasKind : M.SType → (List Int) → Option (Bool)) (s : (List M.SType)) (f : (List Int)) : Option (Bool) :=
  let q0 := (M.slices_IndexFunc_Type_Type_3 rec_i_hasKind s f)
  bif ((Option.isSome q0) && true) then
    some (decide ((0 : Int) ≤ (Option.getD q0 Inhabited.default)))
  else
    none
end M
namespace M
noncomputable def i_hasKind_b (rec_i_hasKind : M.SType → (List Int) → Option (Bool)) (t : M.SType) (kinds : (List Int)) : Option (Bool) :=
  let q0 := (M.slices_ContainsFunc_Type_Type_3 rec_i_hasKind (M.SType.Kids t) kinds)
  let q1 := (M.slices_Contains_int64_int64 kinds (M.SType.Kind t))
  bif (((Option.isSome q0) || (!((Option.getD q1 Inhabited.default) == false))) && ((Option.isSome q1) && true)) then
    some ((Option.getD q1 Inhabited.default) || (Option.getD q0 Inhabited.default))
  else
    none
noncomputable def i_hasKind_n : Nat → M.SType → (List Int) → Option (Bool)
  | 0 => fun _ _ => none
  | n + 1 => i_hasKind_b (i_hasKind_n n)
noncomputable def i_hasKind : M.SType → (List Int) → Option (Bool) := i_hasKind_n Go.V.bigN
end M
namespace M
noncomputable def i_shapeOk_b (rec_i_shapeOk : M.SType → Option (Bool)) (t : M.SType) : Option (Bool) :=
  let q0 := (M.slices_ContainsFunc_Type_Type rec_i_shapeOk (M.SType.Kids t))
  bif (Option.getD q0 Inhabited.default) then
    bif ((Option.isSome q0) && true) then
      some false
    else
      none
  else
    let q1 := ((decide ((16 : Int) ≤ (M.SType.Kind t))) && (decide ((M.SType.Kind t) ≤ (19 : Int))))
    let q2 := (M.i_labelsOk (M.SType.Labels t))
    let q3 := ((q1 && (!(Option.getD q2 Inhabited.default))) || ((!q1) && (decide ((0 : Int) < ((List.length (M.SType.Labels t)) : Int)))))
    let q4 := (((M.SType.Kind t) == (20 : Int)) || ((M.SType.Kind t) == (21 : Int)))
    let q5 := (M.i_NameOk (M.SType.Name t))
    bif ((q3 || (q4 && (!(Option.getD q5 Inhabited.default)))) || ((!q4) && (!((M.SType.Name t) == [])))) then
      let q6 := (((Option.isSome q5) || (!((q3 == false) && (q4 == true)))) && (((Option.isSome q2) || (!(q1 == true))) && ((Option.isSome q0) && true)))
      bif q6 then
        some false
      else
        none
    else
      bif (bif ((M.SType.Kind t) == (12 : Int)) then ((M.SType.Kind t) == (12 : Int)) else ((M.SType.Kind t) == (13 : Int))) then
        let q6 := (M.i_kidsOk (M.SType.re t) (1 : Int))
        let q7 := (((Option.isSome q5) || (!((q3 == false) && (q4 == true)))) && (((Option.isSome q2) || (!(q1 == true))) && ((Option.isSome q0) && true)))
        let q8 := ((q7 || (!((M.SType.Kind t) == (12 : Int)))) && (q7 || ((M.SType.Kind t) == (12 : Int))))
        bif ((Option.isSome q6) && q8) then
          some (Option.getD q6 Inhabited.default)
        else
          none
      else
        bif ((M.SType.Kind t) == (14 : Int)) then
          let q6 := (((Option.isSome q5) || (!((q3 == false) && (q4 == true)))) && (((Option.isSome q2) || (!(q1 == true))) && ((Option.isSome q0) && true)))
          let q7 := ((q6 || (!((M.SType.Kind t) == (12 : Int)))) && (q6 || ((M.SType.Kind t) == (12 : Int))))
          bif q7 then
            some (((List.length (M.SType.Kids t)) : Int) == (2 : Int))
          else
            none
        else
          bif ((M.SType.Kind t) == (15 : Int)) then
            let q6 := (M.i_kidsOk (M.SType.re t) ((List.length (M.SType.Kids t)) : Int))
            let q7 := ((decide ((1 : Int) ≤ ((List.length (M.SType.Kids t)) : Int))) && (decide (((List.length (M.SType.Kids t)) : Int) ≤ (6 : Int))))
            let q8 := (((Option.isSome q5) || (!((q3 == false) && (q4 == true)))) && (((Option.isSome q2) || (!(q1 == true))) && ((Option.isSome q0) && true)))
            let q9 := ((q8 || (!((M.SType.Kind t) == (12 : Int)))) && (q8 || ((M.SType.Kind t) == (12 : Int))))
            bif (((Option.isSome q6) || (!(q7 == true))) && q9) then
              some (q7 && (Option.getD q6 Inhabited.default))
            else
              none
          else
            bif ((M.SType.Kind t) == (16 : Int)) then
              let q6 := (M.i_kidsOk (M.SType.re t) ((List.length (M.SType.Labels t)) : Int))
              let q7 := (((Option.isSome q5) || (!((q3 == false) && (q4 == true)))) && (((Option.isSome q2) || (!(q1 == true))) && ((Option.isSome q0) && true)))
              let q8 := ((q7 || (!((M.SType.Kind t) == (12 : Int)))) && (q7 || ((M.SType.Kind t) == (12 : Int))))
              bif ((Option.isSome q6) && q8) then
                some (Option.getD q6 Inhabited.default)
              else
                none
            else
              bif ((M.SType.Kind t) == (17 : Int)) then
                let q6 := (((Option.isSome q5) || (!((q3 == false) && (q4 == true)))) && (((Option.isSome q2) || (!(q1 == true))) && ((Option.isSome q0) && true)))
                let q7 := ((q6 || (!((M.SType.Kind t) == (12 : Int)))) && (q6 || ((M.SType.Kind t) == (12 : Int))))
                bif q7 then
                  some (((List.length (M.SType.Kids t)) : Int) == ((List.length (M.SType.Labels t)) : Int))
                else
                  none
              else
                bif (bif ((M.SType.Kind t) == (22 : Int)) then ((M.SType.Kind t) == (22 : Int)) else ((M.SType.Kind t) == (23 : Int))) then
                  let q6 := (M.i_hasKind (M.SType.re (List.getD (M.SType.Kids t) (Int.toNat (0 : Int)) M.SType.zero)) [(21 : Int)])
                  let q7 := (!((((List.length (M.SType.Kids t)) : Int) == (1 : Int)) == true))
                  let q8 := (((Option.isSome q5) || (!((q3 == false) && (q4 == true)))) && (((Option.isSome q2) || (!(q1 == true))) && ((Option.isSome q0) && true)))
                  let q9 := ((q8 || (!((M.SType.Kind t) == (12 : Int)))) && (q8 || ((M.SType.Kind t) == (12 : Int))))
                  let q10 := ((q9 || (!((M.SType.Kind t) == (22 : Int)))) && (q9 || ((M.SType.Kind t) == (22 : Int))))
                  bif (((Option.isSome q6) || q7) && (((Go.V.inB (0 : Int) (List.length (M.SType.Kids t))) || q7) && q10)) then
                    some ((((List.length (M.SType.Kids t)) : Int) == (1 : Int)) && (!(Option.getD q6 Inhabited.default)))
                  else
                    none
                else
                  let q6 := (((Option.isSome q5) || (!((q3 == false) && (q4 == true)))) && (((Option.isSome q2) || (!(q1 == true))) && ((Option.isSome q0) && true)))
                  let q7 := ((q6 || (!((M.SType.Kind t) == (12 : Int)))) && (q6 || ((M.SType.Kind t) == (12 : Int))))
                  let q8 := ((q7 || (!((M.SType.Kind t) == (22 : Int)))) && (q7 || ((M.SType.Kind t) == (22 : Int))))
                  bif q8 then
                    some (((decide ((1 : Int) ≤ (M.SType.Kind t))) && (decide ((M.SType.Kind t) ≤ (23 : Int)))) && (((List.length (M.SType.Kids t)) : Int) == (0 : Int)))
                  else
                    none
noncomputable def i_shapeOk_n : Nat → M.SType → Option (Bool)
  | 0 => fun _ => none
  | n + 1 => i_shapeOk_b (i_shapeOk_n n)
noncomputable def i_shapeOk : M.SType → Option (Bool) := i_shapeOk_n Go.V.bigN
end M
namespace M
noncomputable def s_l03Ok (t : M.SType) : Option (Bool) :=
  let q0 := (M.s_l03Parts (M.SType.re t))
  let q1 := (M.s_l03Size (M.SType.re t) (1 : Int))
  let q2 := ((decide ((Option.getD q1 Inhabited.default).1 ≤ (4 : Int))) && (decide ((Option.getD q1 Inhabited.default).2 ≤ (24 : Int))))
  bif (((Option.isSome q0) || (!(q2 == true))) && ((Option.isSome q1) && true)) then
    some (q2 && (Option.getD q0 Inhabited.default))
  else
    none
end M
namespace M
noncomputable def l_szAopS (a : (List M.SAop)) (left : Int) : Option (Int) :=
  bif (decide ((Go.IntKind.wrap Go.IntKind.i64 (left - ((List.length a) : Int))) < (0 : Int))) then
    some (-(1 : Int))
  else
    some (Go.IntKind.wrap Go.IntKind.i64 (left - ((List.length a) : Int)))
end M
namespace M
noncomputable def l_szProg (a : M.SProg) (left : Int) : Option (Int) :=
  let q0 := (M.l_szAopS (M.SProg.Ops a) left)
  bif (decide ((Option.getD q0 Inhabited.default) < (0 : Int))) then
    bif ((Option.isSome q0) && true) then
      some (-(1 : Int))
    else
      none
  else
    bif ((Option.isSome q0) && true) then
      some (Option.getD q0 Inhabited.default)
    else
      none
end M
namespace M
noncomputable def l_szProgS_l0 (a : (List M.SProg)) : Nat → Int → Int → Option ((Int) ⊕ (Int))
  | 0, _, _ => none
  | fuel + 1, left, i =>
    bif (decide (i < ((List.length a) : Int))) then
      let q0 := (M.l_szProg (List.getD a (Int.toNat i) M.SProg.zero) left)
      let q1 := (Option.getD q0 Inhabited.default)
      bif (decide (q1 < (0 : Int))) then
        let q2 := ((Option.isSome q0) && ((Go.V.inB i (List.length a)) && true))
        bif q2 then
          some (.inl (-(1 : Int)))
        else
          none
      else
        let q2 := ((Option.isSome q0) && ((Go.V.inB i (List.length a)) && true))
        bif q2 then
          M.l_szProgS_l0 a fuel q1 (Go.IntKind.wrap Go.IntKind.i64 (i + (1 : Int)))
        else
          none
    else
      some ((.inr (left)))
end M
namespace M
noncomputable def l_szProgS (a : (List M.SProg)) (left : Int) : Option (Int) :=
  bif (decide ((Go.IntKind.wrap Go.IntKind.i64 (left - ((List.length a) : Int))) < (0 : Int))) then
    some (-(1 : Int))
  else
    match (M.l_szProgS_l0 a Go.V.bigN (Go.IntKind.wrap Go.IntKind.i64 (left - ((List.length a) : Int))) (0 : Int)) with
    | none => none
    | some y0 =>
      (match y0 with
      | .inl a1 =>
        some a1
      | .inr b1 =>
        some b1)
end M
namespace M
noncomputable def l_szStream (a : M.SStream) (left : Int) : Option (Int) :=
  let q0 := (M.l_szType (M.SType.re (M.SStream.Type_ a)) left)
  bif (decide ((Option.getD q0 Inhabited.default) < (0 : Int))) then
    bif ((Option.isSome q0) && true) then
      some (-(1 : Int))
    else
      none
  else
    let q1 := (M.l_szValueS M.l_szValue (M.SStream.Buffer a) (Option.getD q0 Inhabited.default))
    let q2 := (Option.getD q1 Inhabited.default)
    bif (decide (q2 < (0 : Int))) then
      let q3 := ((Option.isSome q1) && ((Option.isSome q0) && true))
      bif q3 then
        some (-(1 : Int))
      else
        none
    else
      let q3 := ((Option.isSome q1) && ((Option.isSome q0) && true))
      bif q3 then
        some q2
      else
        none
end M
namespace M
noncomputable def l_szStreamS_l0 (a : (List M.SStream)) : Nat → Int → Int → Option ((Int) ⊕ (Int))
  | 0, _, _ => none
  | fuel + 1, left, i =>
    bif (decide (i < ((List.length a) : Int))) then
      let q0 := (M.l_szStream (M.SStream.re (List.getD a (Int.toNat i) M.SStream.zero)) left)
      let q1 := (Option.getD q0 Inhabited.default)
      bif (decide (q1 < (0 : Int))) then
        let q2 := ((Option.isSome q0) && ((Go.V.inB i (List.length a)) && true))
        bif q2 then
          some (.inl (-(1 : Int)))
        else
          none
      else
        let q2 := ((Option.isSome q0) && ((Go.V.inB i (List.length a)) && true))
        bif q2 then
          M.l_szStreamS_l0 a fuel q1 (Go.IntKind.wrap Go.IntKind.i64 (i + (1 : Int)))
        else
          none
    else
      some ((.inr (left)))
end M
namespace M
noncomputable def l_szStreamS (a : (List M.SStream)) (left : Int) : Option (Int) :=
  bif (decide ((Go.IntKind.wrap Go.IntKind.i64 (left - ((List.length a) : Int))) < (0 : Int))) then
    some (-(1 : Int))
  else
    match (M.l_szStreamS_l0 a Go.V.bigN (Go.IntKind.wrap Go.IntKind.i64 (left - ((List.length a) : Int))) (0 : Int)) with
    | none => none
    | some y0 =>
      (match y0 with
      | .inl a1 =>
        some a1
      | .inr b1 =>
        some b1)
end M
namespace M
def l_szInt64S (a : (List Int)) (left : Int) : Option (Int) :=
  bif (decide ((Go.IntKind.wrap Go.IntKind.i64 (left - ((List.length a) : Int))) < (0 : Int))) then
    some (-(1 : Int))
  else
    some (Go.IntKind.wrap Go.IntKind.i64 (left - ((List.length a) : Int)))
end M
namespace M
noncomputable def l_szTask (a : M.STask) (left : Int) : Option (Int) :=
  let q0 := (M.l_szInt64S (M.STask.Subs a) left)
  bif (decide ((Option.getD q0 Inhabited.default) < (0 : Int))) then
    bif ((Option.isSome q0) && true) then
      some (-(1 : Int))
    else
      none
  else
    let q1 := (M.l_szInt64S (M.STask.Set a) (Option.getD q0 Inhabited.default))
    let q2 := (Option.getD q1 Inhabited.default)
    bif (decide (q2 < (0 : Int))) then
      let q3 := ((Option.isSome q1) && ((Option.isSome q0) && true))
      bif q3 then
        some (-(1 : Int))
      else
        none
    else
      let q3 := ((Option.isSome q1) && ((Option.isSome q0) && true))
      bif q3 then
        some q2
      else
        none
end M
namespace M
noncomputable def l_szTaskS_l0 (a : (List M.STask)) : Nat → Int → Int → Option ((Int) ⊕ (Int))
  | 0, _, _ => none
  | fuel + 1, left, i =>
    bif (decide (i < ((List.length a) : Int))) then
      let q0 := (M.l_szTask (List.getD a (Int.toNat i) M.STask.zero) left)
      let q1 := (Option.getD q0 Inhabited.default)
      bif (decide (q1 < (0 : Int))) then
        let q2 := ((Option.isSome q0) && ((Go.V.inB i (List.length a)) && true))
        bif q2 then
          some (.inl (-(1 : Int)))
        else
          none
      else
        let q2 := ((Option.isSome q0) && ((Go.V.inB i (List.length a)) && true))
        bif q2 then
          M.l_szTaskS_l0 a fuel q1 (Go.IntKind.wrap Go.IntKind.i64 (i + (1 : Int)))
        else
          none
    else
      some ((.inr (left)))
end M
namespace M
noncomputable def l_szTaskS (a : (List M.STask)) (left : Int) : Option (Int) :=
  bif (decide ((Go.IntKind.wrap Go.IntKind.i64 (left - ((List.length a) : Int))) < (0 : Int))) then
    some (-(1 : Int))
  else
    match (M.l_szTaskS_l0 a Go.V.bigN (Go.IntKind.wrap Go.IntKind.i64 (left - ((List.length a) : Int))) (0 : Int)) with
    | none => none
    | some y0 =>
      (match y0 with
      | .inl a1 =>
        some a1
      | .inr b1 =>
        some b1)
end M
namespace M
noncomputable def l_szNoteS (a : (List M.SNote)) (left : Int) : Option (Int) :=
  bif (decide ((Go.IntKind.wrap Go.IntKind.i64 (left - ((List.length a) : Int))) < (0 : Int))) then
    some (-(1 : Int))
  else
    some (Go.IntKind.wrap Go.IntKind.i64 (left - ((List.length a) : Int)))
end M
namespace M
noncomputable def l_szAsync (a : M.SAsync) (left : Int) : Option (Int) :=
  let q0 := (M.l_szProgS (M.SAsync.Progs a) left)
  bif (decide ((Option.getD q0 Inhabited.default) < (0 : Int))) then
    bif ((Option.isSome q0) && true) then
      some (-(1 : Int))
    else
      none
  else
    let q1 := (M.l_szStreamS (M.SAsync.Streams a) (Option.getD q0 Inhabited.default))
    let q2 := (Option.getD q1 Inhabited.default)
    bif (decide (q2 < (0 : Int))) then
      let q3 := ((Option.isSome q1) && ((Option.isSome q0) && true))
      bif q3 then
        some (-(1 : Int))
      else
        none
    else
      let q3 := (M.l_szTaskS (M.SAsync.Tasks a) q2)
      let q4 := (Option.getD q3 Inhabited.default)
      bif (decide (q4 < (0 : Int))) then
        let q5 := ((Option.isSome q1) && ((Option.isSome q0) && true))
        let q6 := ((Option.isSome q3) && q5)
        bif q6 then
          some (-(1 : Int))
        else
          none
      else
        let q5 := (M.l_szInt64S (M.SAsync.Back a) q4)
        let q6 := (Option.getD q5 Inhabited.default)
        bif (decide (q6 < (0 : Int))) then
          let q7 := ((Option.isSome q1) && ((Option.isSome q0) && true))
          let q8 := ((Option.isSome q3) && q7)
          let q9 := ((Option.isSome q5) && q8)
          bif q9 then
            some (-(1 : Int))
          else
            none
        else
          let q7 := (M.l_szNoteS (M.SAsync.Notes a) q6)
          let q8 := (Option.getD q7 Inhabited.default)
          bif (decide (q8 < (0 : Int))) then
            let q9 := ((Option.isSome q1) && ((Option.isSome q0) && true))
            let q10 := ((Option.isSome q3) && q9)
            let q11 := ((Option.isSome q5) && q10)
            let q12 := ((Option.isSome q7) && q11)
            bif q12 then
              some (-(1 : Int))
            else
              none
          else
            let q9 := ((Option.isSome q1) && ((Option.isSome q0) && true))
            let q10 := ((Option.isSome q3) && q9)
            let q11 := ((Option.isSome q5) && q10)
            let q12 := ((Option.isSome q7) && q11)
            bif q12 then
              some q8
            else
              none
end M
namespace M
noncomputable def l_toAop (a : M.SAop) : Option (M.SAop) :=
  some a
end M
namespace M
noncomputable def l_toAopS_l0 (a : (List M.SAop)) : Nat → Int → (List M.SAop) → Option ((List M.SAop))
  | 0, _, _ => none
  | fuel + 1, i, out =>
    bif (decide (i < ((List.length a) : Int))) then
      bif ((Go.V.inB i (List.length out)) && ((Go.V.inB i (List.length a)) && true)) then
        M.l_toAopS_l0 a fuel (Go.IntKind.wrap Go.IntKind.i64 (i + (1 : Int))) (List.set out (Int.toNat i) (List.getD a (Int.toNat i) M.SAop.zero))
      else
        none
    else
      some (out)
end M
namespace M
noncomputable def l_toAopS (a : (List M.SAop)) : Option ((List M.SAop)) :=
  match (M.l_toAopS_l0 a Go.V.bigN (0 : Int) (List.replicate (Int.toNat ((List.length a) : Int)) (M.SAop.mk (0 : Int) (0 : Int) (0 : Int)))) with
  | none => none
  | some y0 =>
    bif (((decide (((List.length a) : Int) ≤ ((List.length a) : Int))) && (decide (((List.length a) : Int) ≤ (1073741824 : Int)))) && true) then
      some y0
    else
      none
end M
namespace M
noncomputable def l_toProg (a : M.SProg) : Option (M.SProg) :=
  let q0 := (M.l_toAopS (M.SProg.Ops a))
  bif ((Option.isSome q0) && true) then
    some (M.SProg.mk (M.SProg.Inst a) (Option.getD q0 Inhabited.default))
  else
    none
end M
namespace M
noncomputable def l_toProgS_l0 (a : (List M.SProg)) : Nat → Int → (List M.SProg) → Option ((List M.SProg))
  | 0, _, _ => none
  | fuel + 1, i, out =>
    bif (decide (i < ((List.length a) : Int))) then
      let q0 := (M.l_toProg (List.getD a (Int.toNat i) M.SProg.zero))
      bif ((Go.V.inB i (List.length out)) && ((Option.isSome q0) && ((Go.V.inB i (List.length a)) && true))) then
        M.l_toProgS_l0 a fuel (Go.IntKind.wrap Go.IntKind.i64 (i + (1 : Int))) (List.set out (Int.toNat i) (Option.getD q0 Inhabited.default))
      else
        none
    else
      some (out)
end M
namespace M
noncomputable def l_toProgS (a : (List M.SProg)) : Option ((List M.SProg)) :=
  match (M.l_toProgS_l0 a Go.V.bigN (0 : Int) (List.replicate (Int.toNat ((List.length a) : Int)) (M.SProg.mk (0 : Int) []))) with
  | none => none
  | some y0 =>
    bif (((decide (((List.length a) : Int) ≤ ((List.length a) : Int))) && (decide (((List.length a) : Int) ≤ (1073741824 : Int)))) && true) then
      some y0
    else
      none
end M
namespace M
noncomputable def l_toStream (a : M.SStream) : Option (M.SStream) :=
  let q0 := (M.l_toValueS M.l_toValue (M.SStream.Buffer a))
  let q1 := (M.l_toType (M.SType.re (M.SStream.Type_ a)))
  bif ((Option.isSome q0) && ((Option.isSome q1) && true)) then
    some (M.SStream.mk (M.SType.re (Option.getD q1 Inhabited.default)) (M.SStream.Room a) (M.SStream.Future a) (Option.getD q0 Inhabited.default) (M.SStream.Put a) (M.SStream.Got a) (M.SStream.Shut a) (M.SStream.Gone a))
  else
    none
end M
namespace M
noncomputable def l_toStreamS_l0 (a : (List M.SStream)) : Nat → Int → (List M.SStream) → Option ((List M.SStream))
  | 0, _, _ => none
  | fuel + 1, i, out =>
    bif (decide (i < ((List.length a) : Int))) then
      let q0 := (M.l_toStream (M.SStream.re (List.getD a (Int.toNat i) M.SStream.zero)))
      bif ((Go.V.inB i (List.length out)) && ((Option.isSome q0) && ((Go.V.inB i (List.length a)) && true))) then
        M.l_toStreamS_l0 a fuel (Go.IntKind.wrap Go.IntKind.i64 (i + (1 : Int))) (List.set out (Int.toNat i) (M.SStream.re (Option.getD q0 Inhabited.default)))
      else
        none
    else
      some (out)
end M
namespace M
noncomputable def l_toStreamS (a : (List M.SStream)) : Option ((List M.SStream)) :=
  match (M.l_toStreamS_l0 a Go.V.bigN (0 : Int) (List.replicate (Int.toNat ((List.length a) : Int)) (M.SStream.mk (M.SType.mk (0 : Int) [] [] []) (0 : Int) false [] (0 : Int) (0 : Int) false false))) with
  | none => none
  | some y0 =>
    bif (((decide (((List.length a) : Int) ≤ ((List.length a) : Int))) && (decide (((List.length a) : Int) ≤ (1073741824 : Int)))) && true) then
      some y0
    else
      none
end M
namespace M
noncomputable def l_toInt64S_l0 (a : (List Int)) : Nat → Int → (List Int) → Option ((List Int))
  | 0, _, _ => none
  | fuel + 1, i, out =>
    bif (decide (i < ((List.length a) : Int))) then
      bif ((Go.V.inB i (List.length out)) && ((Go.V.inB i (List.length a)) && true)) then
        M.l_toInt64S_l0 a fuel (Go.IntKind.wrap Go.IntKind.i64 (i + (1 : Int))) (List.set out (Int.toNat i) (List.getD a (Int.toNat i) (0 : Int)))
      else
        none
    else
      some (out)
end M
namespace M
noncomputable def l_toInt64S (a : (List Int)) : Option ((List Int)) :=
  match (M.l_toInt64S_l0 a Go.V.bigN (0 : Int) (List.replicate (Int.toNat ((List.length a) : Int)) (0 : Int))) with
  | none => none
  | some y0 =>
    bif (((decide (((List.length a) : Int) ≤ ((List.length a) : Int))) && (decide (((List.length a) : Int) ≤ (1073741824 : Int)))) && true) then
      some y0
    else
      none
end M
namespace M
noncomputable def l_toTask (a : M.STask) : Option (M.STask) :=
  let q0 := (M.l_toInt64S (M.STask.Set a))
  let q1 := (M.l_toInt64S (M.STask.Subs a))
  bif ((Option.isSome q0) && ((Option.isSome q1) && true)) then
    some (M.STask.mk (M.STask.Id a) (M.STask.Prog a) (M.STask.PC a) (M.STask.Parent a) (M.STask.Status a) (M.STask.Result a) (M.STask.Returned a) (M.STask.Asked a) (M.STask.Told a) (Option.getD q1 Inhabited.default) (Option.getD q0 Inhabited.default))
  else
    none
end M
namespace M
noncomputable def l_toTaskS_l0 (a : (List M.STask)) : Nat → Int → (List M.STask) → Option ((List M.STask))
  | 0, _, _ => none
  | fuel + 1, i, out =>
    bif (decide (i < ((List.length a) : Int))) then
      let q0 := (M.l_toTask (List.getD a (Int.toNat i) M.STask.zero))
      bif ((Go.V.inB i (List.length out)) && ((Option.isSome q0) && ((Go.V.inB i (List.length a)) && true))) then
        M.l_toTaskS_l0 a fuel (Go.IntKind.wrap Go.IntKind.i64 (i + (1 : Int))) (List.set out (Int.toNat i) (Option.getD q0 Inhabited.default))
      else
        none
    else
      some (out)
end M
namespace M
noncomputable def l_toTaskS (a : (List M.STask)) : Option ((List M.STask)) :=
  match (M.l_toTaskS_l0 a Go.V.bigN (0 : Int) (List.replicate (Int.toNat ((List.length a) : Int)) (M.STask.mk (0 : Int) (0 : Int) (0 : Int) (0 : Int) (0 : Int) (0 : Int) false false false [] []))) with
  | none => none
  | some y0 =>
    bif (((decide (((List.length a) : Int) ≤ ((List.length a) : Int))) && (decide (((List.length a) : Int) ≤ (1073741824 : Int)))) && true) then
      some y0
    else
      none
end M
namespace M
noncomputable def l_toNote (a : M.SNote) : Option (M.SNote) :=
  some a
end M
namespace M
noncomputable def l_toNoteS_l0 (a : (List M.SNote)) : Nat → Int → (List M.SNote) → Option ((List M.SNote))
  | 0, _, _ => none
  | fuel + 1, i, out =>
    bif (decide (i < ((List.length a) : Int))) then
      bif ((Go.V.inB i (List.length out)) && ((Go.V.inB i (List.length a)) && true)) then
        M.l_toNoteS_l0 a fuel (Go.IntKind.wrap Go.IntKind.i64 (i + (1 : Int))) (List.set out (Int.toNat i) (List.getD a (Int.toNat i) M.SNote.zero))
      else
        none
    else
      some (out)
end M
namespace M
noncomputable def l_toNoteS (a : (List M.SNote)) : Option ((List M.SNote)) :=
  match (M.l_toNoteS_l0 a Go.V.bigN (0 : Int) (List.replicate (Int.toNat ((List.length a) : Int)) (M.SNote.mk (0 : Int) (0 : Int) (0 : Int) (0 : Int)))) with
  | none => none
  | some y0 =>
    bif (((decide (((List.length a) : Int) ≤ ((List.length a) : Int))) && (decide (((List.length a) : Int) ≤ (1073741824 : Int)))) && true) then
      some y0
    else
      none
end M
namespace M
noncomputable def l_toAsync (a : M.SAsync) : Option (M.SAsync) :=
  let q0 := (M.l_toNoteS (M.SAsync.Notes a))
  let q1 := (M.l_toInt64S (M.SAsync.Back a))
  let q2 := (M.l_toTaskS (M.SAsync.Tasks a))
  let q3 := (M.l_toStreamS (M.SAsync.Streams a))
  let q4 := (M.l_toProgS (M.SAsync.Progs a))
  bif ((Option.isSome q0) && ((Option.isSome q1) && ((Option.isSome q2) && ((Option.isSome q3) && ((Option.isSome q4) && true))))) then
    some (M.SAsync.mk (Option.getD q4 Inhabited.default) (Option.getD q3 Inhabited.default) (Option.getD q2 Inhabited.default) (Option.getD q1 Inhabited.default) (Option.getD q0 Inhabited.default))
  else
    none
end M
namespace M
noncomputable def s_l22Aop (o : M.SAop) : Option (Bool) :=
  bif ((!((decide ((1 : Int) ≤ (M.SAop.Kind o))) && (decide ((M.SAop.Kind o) ≤ (12 : Int))))) || (!((decide ((0 : Int) ≤ (M.SAop.A o))) && (decide ((M.SAop.A o) ≤ (bif ((M.SAop.Kind o) == (1 : Int)) then (5 : Int) else (bif (bif ((M.SAop.Kind o) == (2 : Int)) then ((M.SAop.Kind o) == (2 : Int)) else ((M.SAop.Kind o) == (10 : Int))) then (7 : Int) else (bif (bif ((M.SAop.Kind o) == (5 : Int)) then ((M.SAop.Kind o) == (5 : Int)) else (bif ((M.SAop.Kind o) == (6 : Int)) then ((M.SAop.Kind o) == (6 : Int)) else (bif ((M.SAop.Kind o) == (7 : Int)) then ((M.SAop.Kind o) == (7 : Int)) else ((M.SAop.Kind o) == (8 : Int))))) then (3 : Int) else (bif ((M.SAop.Kind o) == (9 : Int)) then (999 : Int) else (bif ((M.SAop.Kind o) == (11 : Int)) then (1 : Int) else (0 : Int))))))))))) then
    some false
  else
    bif (((M.SAop.Kind o) == (5 : Int)) || ((M.SAop.Kind o) == (6 : Int))) then
      some ((decide ((1 : Int) ≤ (M.SAop.B o))) && (decide ((M.SAop.B o) ≤ (4 : Int))))
    else
      some ((M.SAop.B o) == (0 : Int))
end M
namespace M
noncomputable def s_ProgOk_l0 (p : M.SProg) : Nat → Int → Option ((Bool) ⊕ (Unit))
  | 0, _ => none
  | fuel + 1, i =>
    bif (decide (i < ((List.length (M.SProg.Ops p)) : Int))) then
      let q0 := (M.s_l22Aop (List.getD (M.SProg.Ops p) (Int.toNat i) M.SAop.zero))
      bif (!(Option.getD q0 Inhabited.default)) then
        let q1 := ((Option.isSome q0) && ((Go.V.inB i (List.length (M.SProg.Ops p))) && true))
        bif q1 then
          some (.inl false)
        else
          none
      else
        let q1 := ((Option.isSome q0) && ((Go.V.inB i (List.length (M.SProg.Ops p))) && true))
        bif q1 then
          M.s_ProgOk_l0 p fuel (Go.IntKind.wrap Go.IntKind.i64 (i + (1 : Int)))
        else
          none
    else
      some ((.inr (())))
end M
namespace M
noncomputable def s_ProgOk (p : M.SProg) : Option (Bool) :=
  bif ((!((decide ((1 : Int) ≤ (M.SProg.Inst p))) && (decide ((M.SProg.Inst p) ≤ (6 : Int))))) || (decide ((12 : Int) < ((List.length (M.SProg.Ops p)) : Int)))) then
    some false
  else
    match (M.s_ProgOk_l0 p Go.V.bigN (0 : Int)) with
    | none => none
    | some y0 =>
      (match y0 with
      | .inl a1 =>
        some a1
      | .inr b1 =>
        some true)
end M
namespace M
noncomputable def s_l22Progs_l0 (list : (List M.SProg)) : Nat → Int → Option ((Bool) ⊕ (Unit))
  | 0, _ => none
  | fuel + 1, i =>
    bif (decide (i < ((List.length list) : Int))) then
      let q0 := (M.s_ProgOk (List.getD list (Int.toNat i) M.SProg.zero))
      bif (!(Option.getD q0 Inhabited.default)) then
        let q1 := ((Option.isSome q0) && ((Go.V.inB i (List.length list)) && true))
        bif q1 then
          some (.inl false)
        else
          none
      else
        let q1 := ((Option.isSome q0) && ((Go.V.inB i (List.length list)) && true))
        bif q1 then
          M.s_l22Progs_l0 list fuel (Go.IntKind.wrap Go.IntKind.i64 (i + (1 : Int)))
        else
          none
    else
      some ((.inr (())))
end M
namespace M
noncomputable def s_l22Progs (list : (List M.SProg)) : Option (Bool) :=
  bif ((decide (((List.length list) : Int) < (1 : Int))) || (decide ((6 : Int) < ((List.length list) : Int)))) then
    some false
  else
    match (M.s_l22Progs_l0 list Go.V.bigN (0 : Int)) with
    | none => none
    | some y0 =>
      (match y0 with
      | .inl a1 =>
        some a1
      | .inr b1 =>
        some true)
end M
namespace M
noncomputable def s_l21Type (t : M.SType) : Option (Bool) :=
  let q0 := (M.s_l03Has (M.SType.re t) (20 : Int) (23 : Int))
  let q1 := (M.s_l03Ok (M.SType.re t))
  let q2 := ((Option.getD q1 Inhabited.default) && ((M.SType.Kind t) != (1 : Int)))
  bif (((Option.isSome q0) || (!(q2 == true))) && ((Option.isSome q1) && true)) then
    some (q2 && (!(Option.getD q0 Inhabited.default)))
  else
    none
end M
namespace M
noncomputable def s_TypeOk (t : M.SType) : Option (Bool) :=
  let q0 := (M.s_l03Ok (M.SType.re t))
  bif ((Option.isSome q0) && true) then
    some (Option.getD q0 Inhabited.default)
  else
    none
end M
namespace M
noncomputable def s_l04Case (rec_s_l04Fits : M.SValue → M.SType → Option (Bool)) (kids : (List M.SValue)) (t : M.SType) : Option (Bool) :=
  bif ((M.SType.Kind t) == (1 : Int)) then
    some (((List.length kids) : Int) == (0 : Int))
  else
    let q0 := (!((((List.length kids) : Int) == (1 : Int)) == true))
    bif (((Option.isSome (rec_s_l04Fits (M.SValue.re (List.getD kids (Int.toNat (0 : Int)) M.SValue.zero)) (M.SType.re t))) || q0) && (((Go.V.inB (0 : Int) (List.length kids)) || q0) && true)) then
      some ((((List.length kids) : Int) == (1 : Int)) && (Option.getD (rec_s_l04Fits (M.SValue.re (List.getD kids (Int.toNat (0 : Int)) M.SValue.zero)) (M.SType.re t)) Inhabited.default))
    else
      none
end M
namespace M
noncomputable def s_l04Items_l0 (rec_s_l04Fits : M.SValue → M.SType → Option (Bool)) (kids : (List M.SValue)) : Nat → Int → M.SType → Option ((Bool) ⊕ (Unit))
  | 0, _, _ => none
  | fuel + 1, i, t =>
    bif (decide (i < ((List.length kids) : Int))) then
      bif (!(Option.getD (rec_s_l04Fits (M.SValue.re (List.getD kids (Int.toNat i) M.SValue.zero)) (M.SType.re t)) Inhabited.default)) then
        let q0 := ((Option.isSome (rec_s_l04Fits (M.SValue.re (List.getD kids (Int.toNat i) M.SValue.zero)) (M.SType.re t))) && ((Go.V.inB i (List.length kids)) && true))
        bif q0 then
          some (.inl false)
        else
          none
      else
        let q0 := ((Option.isSome (rec_s_l04Fits (M.SValue.re (List.getD kids (Int.toNat i) M.SValue.zero)) (M.SType.re t))) && ((Go.V.inB i (List.length kids)) && true))
        bif q0 then
          M.s_l04Items_l0 rec_s_l04Fits kids fuel (Go.IntKind.wrap Go.IntKind.i64 (i + (1 : Int))) (M.SType.re t)
        else
          none
    else
      some ((.inr (())))
end M
namespace M
noncomputable def s_l04Items (rec_s_l04Fits : M.SValue → M.SType → Option (Bool)) (kids : (List M.SValue)) (most : Int) (t : M.SType) : Option (Bool) :=
  bif (decide (most < ((List.length kids) : Int))) then
    some false
  else
    match (M.s_l04Items_l0 rec_s_l04Fits kids Go.V.bigN (0 : Int) (M.SType.re t)) with
    | none => none
    | some y0 =>
      (match y0 with
      | .inl a1 =>
        some a1
      | .inr b1 =>
        some true)
end M
namespace M
def s_CharOk (n : Int) : Option (Bool) :=
  some (((decide ((0 : Int) ≤ n)) && (decide (n ≤ (55295 : Int)))) || ((decide ((57344 : Int) ≤ n)) && (decide (n ≤ (1114111 : Int)))))
end M
namespace M
noncomputable def s_l04Point_l0 (s : (List UInt8)) (many : Int) : Nat → Int → Int → Option ((List UInt8) × Int × Int)
  | 0, _, _ => none
  | fuel + 1, n, i =>
    bif (decide (i < many)) then
      bif ((Go.V.inB i (List.length s)) && true) then
        M.s_l04Point_l0 s many fuel (Go.V.bitsV Go.BinOp.or Go.IntKind.i64 (Go.V.shlV Go.IntKind.i64 n (6 : Int)) (Go.IntKind.wrap Go.IntKind.i64 (Go.V.bitsV Go.BinOp.and Go.IntKind.u8 ((UInt8.toNat (List.getD s (Int.toNat i) (0 : UInt8))) : Int) (63 : Int)))) (Go.IntKind.wrap Go.IntKind.i64 (i + (1 : Int)))
      else
        none
    else
      some ((s, many, n))
end M
namespace M
def s_l04Char (n : Int) : Option ((List UInt8)) :=
  bif (decide (n < (128 : Int))) then
    bif (((Go.V.u8ok (Go.IntKind.wrap Go.IntKind.u8 n)) && true) && true) then
      some (List.map (fun a => a) [(Go.V.u8of (Go.IntKind.wrap Go.IntKind.u8 n))])
    else
      none
  else
    bif (decide (n < (2048 : Int))) then
      let q0 := (Go.IntKind.wrap Go.IntKind.u8 (Go.IntKind.wrap Go.IntKind.i64 ((192 : Int) + (Go.V.shrV Go.IntKind.i64 n (6 : Int)))))
      let q1 := (Go.IntKind.wrap Go.IntKind.u8 (Go.IntKind.wrap Go.IntKind.i64 ((128 : Int) + (Go.V.bitsV Go.BinOp.and Go.IntKind.i64 n (63 : Int)))))
      let q2 := ((Go.V.u8ok q1) && true)
      bif (((Go.V.u8ok q0) && q2) && true) then
        let q3 := [(Go.V.u8of q1)]
        some (List.map (fun a => a) [(Go.V.u8of q0), (Go.V.u8of q1)])
      else
        none
    else
      bif (decide (n < (65536 : Int))) then
        let q0 := (Go.IntKind.wrap Go.IntKind.u8 (Go.IntKind.wrap Go.IntKind.i64 ((224 : Int) + (Go.V.shrV Go.IntKind.i64 n (12 : Int)))))
        let q1 := (Go.IntKind.wrap Go.IntKind.u8 (Go.IntKind.wrap Go.IntKind.i64 ((128 : Int) + (Go.V.bitsV Go.BinOp.and Go.IntKind.i64 (Go.V.shrV Go.IntKind.i64 n (6 : Int)) (63 : Int)))))
        let q2 := (Go.IntKind.wrap Go.IntKind.u8 (Go.IntKind.wrap Go.IntKind.i64 ((128 : Int) + (Go.V.bitsV Go.BinOp.and Go.IntKind.i64 n (63 : Int)))))
        let q3 := ((Go.V.u8ok q2) && true)
        let q4 := ((Go.V.u8ok q1) && q3)
        bif (((Go.V.u8ok q0) && q4) && true) then
          let q5 := [(Go.V.u8of q2)]
          let q6 := [(Go.V.u8of q1), (Go.V.u8of q2)]
          some (List.map (fun a => a) [(Go.V.u8of q0), (Go.V.u8of q1), (Go.V.u8of q2)])
        else
          none
      else
        let q0 := (Go.IntKind.wrap Go.IntKind.u8 (Go.IntKind.wrap Go.IntKind.i64 ((240 : Int) + (Go.V.shrV Go.IntKind.i64 n (18 : Int)))))
        let q1 := (Go.IntKind.wrap Go.IntKind.u8 (Go.IntKind.wrap Go.IntKind.i64 ((128 : Int) + (Go.V.bitsV Go.BinOp.and Go.IntKind.i64 (Go.V.shrV Go.IntKind.i64 n (12 : Int)) (63 : Int)))))
        let q2 := (Go.IntKind.wrap Go.IntKind.u8 (Go.IntKind.wrap Go.IntKind.i64 ((128 : Int) + (Go.V.bitsV Go.BinOp.and Go.IntKind.i64 (Go.V.shrV Go.IntKind.i64 n (6 : Int)) (63 : Int)))))
        let q3 := (Go.IntKind.wrap Go.IntKind.u8 (Go.IntKind.wrap Go.IntKind.i64 ((128 : Int) + (Go.V.bitsV Go.BinOp.and Go.IntKind.i64 n (63 : Int)))))
        let q4 := ((Go.V.u8ok q3) && true)
        let q5 := ((Go.V.u8ok q2) && q4)
        bif (((Go.V.u8ok q0) && ((Go.V.u8ok q1) && q5)) && true) then
          let q6 := [(Go.V.u8of q3)]
          let q7 := [(Go.V.u8of q2), (Go.V.u8of q3)]
          some (List.map (fun a => a) [(Go.V.u8of q0), (Go.V.u8of q1), (Go.V.u8of q2), (Go.V.u8of q3)])
        else
          none
end M
namespace M
noncomputable def s_l04Point (s : (List UInt8)) : Option (Int × Int) :=
  bif (s == []) then
    some ((0 : Int), (0 : Int))
  else
    let q0 := (bif (decide ((240 : Int) ≤ ((UInt8.toNat (List.getD s (Int.toNat (0 : Int)) (0 : UInt8))) : Int))) then (4 : Int) else (bif (decide ((224 : Int) ≤ ((UInt8.toNat (List.getD s (Int.toNat (0 : Int)) (0 : UInt8))) : Int))) then (3 : Int) else (bif (decide ((192 : Int) ≤ ((UInt8.toNat (List.getD s (Int.toNat (0 : Int)) (0 : UInt8))) : Int))) then (2 : Int) else (1 : Int))))
    bif (decide (((List.length s) : Int) < q0)) then
      let q1 := ((Go.V.inB (0 : Int) (List.length s)) && ((Go.V.inB (0 : Int) (List.length s)) && ((Go.V.inB (0 : Int) (List.length s)) && true)))
      let q2 := ((Go.V.inB (0 : Int) (List.length s)) && q1)
      let q3 := ((q1 || (!(decide ((240 : Int) ≤ ((UInt8.toNat (List.getD s (Int.toNat (0 : Int)) (0 : UInt8))) : Int))))) && (((q2 || (!(decide ((224 : Int) ≤ ((UInt8.toNat (List.getD s (Int.toNat (0 : Int)) (0 : UInt8))) : Int))))) && (((((Go.V.inB (0 : Int) (List.length s)) && q2) || (!(decide ((192 : Int) ≤ ((UInt8.toNat (List.getD s (Int.toNat (0 : Int)) (0 : UInt8))) : Int))))) && (q2 || (decide ((192 : Int) ≤ ((UInt8.toNat (List.getD s (Int.toNat (0 : Int)) (0 : UInt8))) : Int))))) || (decide ((224 : Int) ≤ ((UInt8.toNat (List.getD s (Int.toNat (0 : Int)) (0 : UInt8))) : Int))))) || (decide ((240 : Int) ≤ ((UInt8.toNat (List.getD s (Int.toNat (0 : Int)) (0 : UInt8))) : Int)))))
      bif q3 then
        some ((0 : Int), (0 : Int))
      else
        none
    else
      let q1 := (Go.IntKind.wrap Go.IntKind.i64 ((UInt8.toNat (List.getD s (Int.toNat (0 : Int)) (0 : UInt8))) : Int))
      match (M.s_l04Point_l0 s q0 Go.V.bigN (bif (decide ((240 : Int) ≤ ((UInt8.toNat (List.getD s (Int.toNat (0 : Int)) (0 : UInt8))) : Int))) then (Go.IntKind.wrap Go.IntKind.i64 (q1 - (240 : Int))) else (bif (decide ((224 : Int) ≤ ((UInt8.toNat (List.getD s (Int.toNat (0 : Int)) (0 : UInt8))) : Int))) then (Go.IntKind.wrap Go.IntKind.i64 (q1 - (224 : Int))) else (bif (decide ((192 : Int) ≤ ((UInt8.toNat (List.getD s (Int.toNat (0 : Int)) (0 : UInt8))) : Int))) then (Go.IntKind.wrap Go.IntKind.i64 (q1 - (192 : Int))) else q1))) (1 : Int)) with
      | none => none
      | some y2 =>
        let q3 := (M.s_CharOk y2.2.2)
        let q4 := (!(Option.getD q3 Inhabited.default))
        let q5 := (M.s_l04Char y2.2.2)
        bif (q4 || (!((Option.getD q5 Inhabited.default) == (List.drop (Int.toNat (0 : Int)) (List.take (Int.toNat y2.2.1) y2.1))))) then
          let q6 := (!(q4 == false))
          let q7 := ((Go.V.inB (0 : Int) (List.length s)) && ((Go.V.inB (0 : Int) (List.length s)) && ((Go.V.inB (0 : Int) (List.length s)) && true)))
          let q8 := ((Go.V.inB (0 : Int) (List.length s)) && q7)
          let q9 := ((q7 || (!(decide ((240 : Int) ≤ ((UInt8.toNat (List.getD s (Int.toNat (0 : Int)) (0 : UInt8))) : Int))))) && (((q8 || (!(decide ((224 : Int) ≤ ((UInt8.toNat (List.getD s (Int.toNat (0 : Int)) (0 : UInt8))) : Int))))) && (((((Go.V.inB (0 : Int) (List.length s)) && q8) || (!(decide ((192 : Int) ≤ ((UInt8.toNat (List.getD s (Int.toNat (0 : Int)) (0 : UInt8))) : Int))))) && (q8 || (decide ((192 : Int) ≤ ((UInt8.toNat (List.getD s (Int.toNat (0 : Int)) (0 : UInt8))) : Int))))) || (decide ((224 : Int) ≤ ((UInt8.toNat (List.getD s (Int.toNat (0 : Int)) (0 : UInt8))) : Int))))) || (decide ((240 : Int) ≤ ((UInt8.toNat (List.getD s (Int.toNat (0 : Int)) (0 : UInt8))) : Int)))))
          let q10 := (((Go.V.slB (0 : Int) y2.2.1 (List.length y2.1)) || q6) && (((Option.isSome q5) || q6) && ((Option.isSome q3) && q9)))
          bif q10 then
            some ((0 : Int), (0 : Int))
          else
            none
        else
          let q6 := (!(q4 == false))
          let q7 := ((Go.V.inB (0 : Int) (List.length s)) && ((Go.V.inB (0 : Int) (List.length s)) && ((Go.V.inB (0 : Int) (List.length s)) && true)))
          let q8 := ((Go.V.inB (0 : Int) (List.length s)) && q7)
          let q9 := ((q7 || (!(decide ((240 : Int) ≤ ((UInt8.toNat (List.getD s (Int.toNat (0 : Int)) (0 : UInt8))) : Int))))) && (((q8 || (!(decide ((224 : Int) ≤ ((UInt8.toNat (List.getD s (Int.toNat (0 : Int)) (0 : UInt8))) : Int))))) && (((((Go.V.inB (0 : Int) (List.length s)) && q8) || (!(decide ((192 : Int) ≤ ((UInt8.toNat (List.getD s (Int.toNat (0 : Int)) (0 : UInt8))) : Int))))) && (q8 || (decide ((192 : Int) ≤ ((UInt8.toNat (List.getD s (Int.toNat (0 : Int)) (0 : UInt8))) : Int))))) || (decide ((224 : Int) ≤ ((UInt8.toNat (List.getD s (Int.toNat (0 : Int)) (0 : UInt8))) : Int))))) || (decide ((240 : Int) ≤ ((UInt8.toNat (List.getD s (Int.toNat (0 : Int)) (0 : UInt8))) : Int)))))
          let q10 := (((Go.V.slB (0 : Int) y2.2.1 (List.length y2.1)) || q6) && (((Option.isSome q5) || q6) && ((Option.isSome q3) && q9)))
          bif q10 then
            some (y2.2.2, y2.2.1)
          else
            none
end M
namespace M
noncomputable def s_l04Points_l0 : Nat → (List UInt8) → (List Int) → Option ((Bool × (List Int)) ⊕ ((List Int)))
  | 0, _, _ => none
  | fuel + 1, s, out =>
    bif (decide ((0 : Int) < ((List.length s) : Int))) then
      let q0 := (M.s_l04Point s)
      bif ((Option.getD q0 Inhabited.default).2 == (0 : Int)) then
        bif ((Option.isSome q0) && true) then
          some (.inl (false, []))
        else
          none
      else
        let q1 := [(Option.getD q0 Inhabited.default).1]
        bif ((Go.V.slB (Option.getD q0 Inhabited.default).2 ((List.length s) : Int) (List.length s)) && ((decide (((List.length out) + (List.length q1)) ≤ 1073741824)) && ((Option.isSome q0) && true))) then
          M.s_l04Points_l0 fuel (List.drop (Int.toNat (Option.getD q0 Inhabited.default).2) (List.take (Int.toNat ((List.length s) : Int)) s)) (out ++ q1)
        else
          none
    else
      some ((.inr (out)))
end M
namespace M
noncomputable def s_l04Points (s : (List UInt8)) : Option ((List Int) × Bool) :=
  match (M.s_l04Points_l0 Go.V.bigN s []) with
  | none => none
  | some y0 =>
    (match y0 with
    | .inl a1 =>
      some (a1.2, a1.1)
    | .inr b1 =>
      some (b1, true))
end M
namespace M
noncomputable def s_TextOk (s : (List UInt8)) : Option (Bool) :=
  bif (decide ((24 : Int) < ((List.length s) : Int))) then
    some false
  else
    let q0 := (M.s_l04Points s)
    bif ((Option.isSome q0) && true) then
      some (Option.getD q0 Inhabited.default).2
    else
      none
end M
namespace M
noncomputable def s_l04All_l0 (rec_s_l04Fits : M.SValue → M.SType → Option (Bool)) (kids : (List M.SValue)) (ts : (List M.SType)) : Nat → Int → Option ((Bool) ⊕ (Unit))
  | 0, _ => none
  | fuel + 1, i =>
    bif (decide (i < ((List.length kids) : Int))) then
      bif (!(Option.getD (rec_s_l04Fits (M.SValue.re (List.getD kids (Int.toNat i) M.SValue.zero)) (M.SType.re (List.getD ts (Int.toNat i) M.SType.zero))) Inhabited.default)) then
        let q0 := ((Option.isSome (rec_s_l04Fits (M.SValue.re (List.getD kids (Int.toNat i) M.SValue.zero)) (M.SType.re (List.getD ts (Int.toNat i) M.SType.zero)))) && ((Go.V.inB i (List.length ts)) && ((Go.V.inB i (List.length kids)) && true)))
        bif q0 then
          some (.inl false)
        else
          none
      else
        let q0 := ((Option.isSome (rec_s_l04Fits (M.SValue.re (List.getD kids (Int.toNat i) M.SValue.zero)) (M.SType.re (List.getD ts (Int.toNat i) M.SType.zero)))) && ((Go.V.inB i (List.length ts)) && ((Go.V.inB i (List.length kids)) && true)))
        bif q0 then
          M.s_l04All_l0 rec_s_l04Fits kids ts fuel (Go.IntKind.wrap Go.IntKind.i64 (i + (1 : Int)))
        else
          none
    else
      some ((.inr (())))
end M
namespace M
noncomputable def s_l04All (rec_s_l04Fits : M.SValue → M.SType → Option (Bool)) (kids : (List M.SValue)) (ts : (List M.SType)) : Option (Bool) :=
  bif (((List.length kids) : Int) != ((List.length ts) : Int)) then
    some false
  else
    match (M.s_l04All_l0 rec_s_l04Fits kids ts Go.V.bigN (0 : Int)) with
    | none => none
    | some y0 =>
      (match y0 with
      | .inl a1 =>
        some a1
      | .inr b1 =>
        some true)
end M
namespace M
def s_NumRange (kind : Int) : Option (Int × Int × Bool) :=
  bif (kind == (3 : Int)) then
    some ((0 : Int), (255 : Int), true)
  else
    bif (kind == (4 : Int)) then
      some ((-(128 : Int)), (127 : Int), true)
    else
      bif (kind == (5 : Int)) then
        some ((0 : Int), (65535 : Int), true)
      else
        bif (kind == (6 : Int)) then
          some ((-(32768 : Int)), (32767 : Int), true)
        else
          bif (kind == (7 : Int)) then
            some ((0 : Int), (4294967295 : Int), true)
          else
            bif (kind == (8 : Int)) then
              some ((-(2147483648 : Int)), (2147483647 : Int), true)
            else
              bif (kind == (9 : Int)) then
                some ((-(9223372036854775808 : Int)), (9223372036854775807 : Int), true)
              else
                some ((0 : Int), (0 : Int), false)
end M
namespace M
noncomputable def s_l04Fits_b (rec_s_l04Fits : M.SValue → M.SType → Option (Bool)) (v : M.SValue) (t : M.SType) : Option (Bool) :=
  bif (((M.SValue.Kind v) != (M.SType.Kind t)) || (((M.SType.Kind t) != (11 : Int)) && (!((M.SValue.Text v) == [])))) then
    some false
  else
    bif (bif ((M.SType.Kind t) == (2 : Int)) then ((M.SType.Kind t) == (2 : Int)) else ((M.SType.Kind t) == (14 : Int))) then
      bif (!((decide ((0 : Int) ≤ (M.SValue.Num v))) && (decide ((M.SValue.Num v) ≤ (1 : Int))))) then
        some false
      else
        let q0 := (((M.SType.Kind t) == (14 : Int)) || ((M.SType.Kind t) == (17 : Int)))
        bif q0 then
          let q1 := (M.s_l04Case rec_s_l04Fits (M.SValue.Kids v) (M.SType.re (List.getD (M.SType.Kids t) (Int.toNat (M.SValue.Num v)) M.SType.zero)))
          let q2 := (Option.isSome q1)
          bif (q2 && ((Go.V.inB (M.SValue.Num v) (List.length (M.SType.Kids t))) && true)) then
            let q3 := (Option.getD q1 Inhabited.default)
            some q3
          else
            none
        else
          some (((List.length (M.SValue.Kids v)) : Int) == (0 : Int))
    else
      bif ((M.SType.Kind t) == (13 : Int)) then
        let q0 := (M.s_l04Items rec_s_l04Fits (M.SValue.Kids v) (1 : Int) (M.SType.re (List.getD (M.SType.Kids t) (Int.toNat (0 : Int)) M.SType.zero)))
        let q1 := (!(((M.SValue.Num v) == ((List.length (M.SValue.Kids v)) : Int)) == true))
        bif (((Option.isSome q0) || q1) && (((Go.V.inB (0 : Int) (List.length (M.SType.Kids t))) || q1) && true)) then
          some (((M.SValue.Num v) == ((List.length (M.SValue.Kids v)) : Int)) && (Option.getD q0 Inhabited.default))
        else
          none
      else
        bif ((M.SType.Kind t) == (10 : Int)) then
          some ((Option.getD (M.s_CharOk (M.SValue.Num v)) Inhabited.default) && (((List.length (M.SValue.Kids v)) : Int) == (0 : Int)))
        else
          bif ((M.SType.Kind t) == (11 : Int)) then
            let q0 := (M.s_TextOk (M.SValue.Text v))
            bif ((Option.isSome q0) && true) then
              some (((Option.getD q0 Inhabited.default) && ((M.SValue.Num v) == (0 : Int))) && (((List.length (M.SValue.Kids v)) : Int) == (0 : Int)))
            else
              none
          else
            bif ((M.SType.Kind t) == (12 : Int)) then
              let q0 := (M.s_l04Items rec_s_l04Fits (M.SValue.Kids v) (8 : Int) (M.SType.re (List.getD (M.SType.Kids t) (Int.toNat (0 : Int)) M.SType.zero)))
              let q1 := (!(((M.SValue.Num v) == (0 : Int)) == true))
              bif (((Option.isSome q0) || q1) && (((Go.V.inB (0 : Int) (List.length (M.SType.Kids t))) || q1) && true)) then
                some (((M.SValue.Num v) == (0 : Int)) && (Option.getD q0 Inhabited.default))
              else
                none
            else
              bif (bif ((M.SType.Kind t) == (15 : Int)) then ((M.SType.Kind t) == (15 : Int)) else ((M.SType.Kind t) == (16 : Int))) then
                let q0 := (M.s_l04All rec_s_l04Fits (M.SValue.Kids v) (M.SType.Kids t))
                let q1 := (!(((M.SValue.Num v) == (0 : Int)) == true))
                bif (((Option.isSome q0) || q1) && true) then
                  some (((M.SValue.Num v) == (0 : Int)) && (Option.getD q0 Inhabited.default))
                else
                  none
              else
                let q0 := (bif ((M.SType.Kind t) == (17 : Int)) then ((M.SType.Kind t) == (17 : Int)) else ((M.SType.Kind t) == (18 : Int)))
                let q1 := (bif ((M.SType.Kind t) == (20 : Int)) then ((M.SType.Kind t) == (20 : Int)) else (bif ((M.SType.Kind t) == (21 : Int)) then ((M.SType.Kind t) == (21 : Int)) else (bif ((M.SType.Kind t) == (22 : Int)) then ((M.SType.Kind t) == (22 : Int)) else ((M.SType.Kind t) == (23 : Int)))))
                let q2 := (M.s_NumRange (M.SType.Kind t))
                bif (!((decide ((bif q0 then (0 : Int) else (bif ((M.SType.Kind t) == (19 : Int)) then (0 : Int) else (bif q1 then (0 : Int) else (Option.getD q2 Inhabited.default).1))) ≤ (M.SValue.Num v))) && (decide ((M.SValue.Num v) ≤ (bif q0 then (Go.IntKind.wrap Go.IntKind.i64 (((List.length (M.SType.Labels t)) : Int) - (1 : Int))) else (bif ((M.SType.Kind t) == (19 : Int)) then (Go.IntKind.wrap Go.IntKind.i64 ((Go.V.shlV Go.IntKind.i64 (1 : Int) (Go.IntKind.wrap Go.IntKind.u64 ((List.length (M.SType.Labels t)) : Int))) - (1 : Int))) else (bif q1 then (2147483647 : Int) else (Option.getD q2 Inhabited.default).2.1))))))) then
                  let q3 := (((((Option.isSome q2) && true) || q1) || ((M.SType.Kind t) == (19 : Int))) || q0)
                  bif q3 then
                    some false
                  else
                    none
                else
                  let q3 := (((M.SType.Kind t) == (14 : Int)) || ((M.SType.Kind t) == (17 : Int)))
                  bif q3 then
                    let q4 := (M.s_l04Case rec_s_l04Fits (M.SValue.Kids v) (M.SType.re (List.getD (M.SType.Kids t) (Int.toNat (M.SValue.Num v)) M.SType.zero)))
                    let q5 := (Option.isSome q4)
                    let q6 := (((((Option.isSome q2) && true) || q1) || ((M.SType.Kind t) == (19 : Int))) || q0)
                    bif (q5 && ((Go.V.inB (M.SValue.Num v) (List.length (M.SType.Kids t))) && q6)) then
                      let q7 := (Option.getD q4 Inhabited.default)
                      some q7
                    else
                      none
                  else
                    let q4 := (((((Option.isSome q2) && true) || q1) || ((M.SType.Kind t) == (19 : Int))) || q0)
                    bif q4 then
                      some (((List.length (M.SValue.Kids v)) : Int) == (0 : Int))
                    else
                      none
noncomputable def s_l04Fits_n : Nat → M.SValue → M.SType → Option (Bool)
  | 0 => fun _ _ => none
  | n + 1 => s_l04Fits_b (s_l04Fits_n n)
noncomputable def s_l04Fits : M.SValue → M.SType → Option (Bool) := s_l04Fits_n Go.V.bigN
end M
namespace M
noncomputable def s_Fits (v : M.SValue) (t : M.SType) : Option (Bool) :=
  let q0 := (M.s_l04Fits (M.SValue.re v) (M.SType.re t))
  let q1 := (M.s_TypeOk (M.SType.re t))
  bif (((Option.isSome q0) || (!((Option.getD q1 Inhabited.default) == true))) && ((Option.isSome q1) && true)) then
    some ((Option.getD q1 Inhabited.default) && (Option.getD q0 Inhabited.default))
  else
    none
end M
namespace M
noncomputable def s_l21Fits_l0 (list : (List M.SValue)) : Nat → Int → M.SType → Option ((Bool) ⊕ (Unit))
  | 0, _, _ => none
  | fuel + 1, i, t =>
    bif (decide (i < ((List.length list) : Int))) then
      let q0 := (M.s_Fits (M.SValue.re (List.getD list (Int.toNat i) M.SValue.zero)) (M.SType.re t))
      bif (!(Option.getD q0 Inhabited.default)) then
        let q1 := ((Option.isSome q0) && ((Go.V.inB i (List.length list)) && true))
        bif q1 then
          some (.inl false)
        else
          none
      else
        let q1 := ((Option.isSome q0) && ((Go.V.inB i (List.length list)) && true))
        bif q1 then
          M.s_l21Fits_l0 list fuel (Go.IntKind.wrap Go.IntKind.i64 (i + (1 : Int))) (M.SType.re t)
        else
          none
    else
      some ((.inr (())))
end M
namespace M
noncomputable def s_l21Fits (list : (List M.SValue)) (t : M.SType) (most : Int) : Option (Bool) :=
  bif (decide (most < ((List.length list) : Int))) then
    some false
  else
    match (M.s_l21Fits_l0 list Go.V.bigN (0 : Int) (M.SType.re t)) with
    | none => none
    | some y0 =>
      (match y0 with
      | .inl a1 =>
        some a1
      | .inr b1 =>
        some true)
end M
namespace M
noncomputable def s_StreamOk (s : M.SStream) : Option (Bool) :=
  let q0 := (M.s_l21Type (M.SType.re (M.SStream.Type_ s)))
  let q1 := (((!(Option.getD q0 Inhabited.default)) || (!((decide ((1 : Int) ≤ (M.SStream.Room s))) && (decide ((M.SStream.Room s) ≤ (6 : Int)))))) || ((M.SStream.Future s) && ((M.SStream.Room s) != (1 : Int))))
  let q2 := (M.s_l21Fits (M.SStream.Buffer s) (M.SType.re (M.SStream.Type_ s)) (M.SStream.Room s))
  bif (q1 || (!(Option.getD q2 Inhabited.default))) then
    let q3 := (((Option.isSome q2) || (!(q1 == false))) && ((Option.isSome q0) && true))
    bif q3 then
      some false
    else
      none
  else
    bif (((decide ((M.SStream.Got s) < (0 : Int))) || (!((decide ((M.SStream.Got s) ≤ (M.SStream.Put s))) && (decide ((M.SStream.Put s) ≤ (1000000 : Int)))))) || ((M.SStream.Future s) && (decide ((1 : Int) < (M.SStream.Put s))))) then
      let q3 := (((Option.isSome q2) || (!(q1 == false))) && ((Option.isSome q0) && true))
      bif q3 then
        some false
      else
        none
    else
      bif (((M.SStream.Gone s) && (decide ((0 : Int) < ((List.length (M.SStream.Buffer s)) : Int)))) || ((!(M.SStream.Gone s)) && ((Go.IntKind.wrap Go.IntKind.i64 ((M.SStream.Put s) - (M.SStream.Got s))) != ((List.length (M.SStream.Buffer s)) : Int)))) then
        let q3 := (((Option.isSome q2) || (!(q1 == false))) && ((Option.isSome q0) && true))
        bif q3 then
          some false
        else
          none
      else
        let q3 := (((Option.isSome q2) || (!(q1 == false))) && ((Option.isSome q0) && true))
        bif q3 then
          some ((((!(M.SStream.Future s)) || (!(M.SStream.Shut s))) || ((M.SStream.Put s) == (1 : Int))) || (M.SStream.Gone s))
        else
          none
end M
namespace M
noncomputable def s_l22Ok_l0 (w : M.SAsync) : Nat → Int → Option ((Bool × (List M.SProg) × (List M.SStream) × (List M.STask) × (List Int) × (List M.SNote)) ⊕ (M.SAsync))
  | 0, _ => none
  | fuel + 1, i =>
    bif (decide (i < ((List.length (M.SAsync.Streams w)) : Int))) then
      let q0 := (M.s_StreamOk (M.SStream.re (List.getD (M.SAsync.Streams w) (Int.toNat i) M.SStream.zero)))
      let q1 := (!(Option.getD q0 Inhabited.default))
      let q2 := (q1 || (M.SStream.Future (List.getD (M.SAsync.Streams w) (Int.toNat i) M.SStream.zero)))
      bif (q2 || ((M.SType.Kind (M.SStream.Type_ (List.getD (M.SAsync.Streams w) (Int.toNat i) M.SStream.zero))) != (9 : Int))) then
        let q3 := (((Go.V.inB i (List.length (M.SAsync.Streams w))) || (!(q2 == false))) && (((Go.V.inB i (List.length (M.SAsync.Streams w))) || (!(q1 == false))) && ((Option.isSome q0) && ((Go.V.inB i (List.length (M.SAsync.Streams w))) && true))))
        bif q3 then
          some (.inl (false, (M.SAsync.Progs w), (M.SAsync.Streams w), (M.SAsync.Tasks w), (M.SAsync.Back w), (M.SAsync.Notes w)))
        else
          none
      else
        let q3 := (((Go.V.inB i (List.length (M.SAsync.Streams w))) || (!(q2 == false))) && (((Go.V.inB i (List.length (M.SAsync.Streams w))) || (!(q1 == false))) && ((Option.isSome q0) && ((Go.V.inB i (List.length (M.SAsync.Streams w))) && true))))
        bif q3 then
          M.s_l22Ok_l0 w fuel (Go.IntKind.wrap Go.IntKind.i64 (i + (1 : Int)))
        else
          none
    else
      some ((.inr (w)))
end M
namespace M
noncomputable def s_l22Rises_l0 (list : (List Int)) : Nat → Int → Option ((Bool) ⊕ (Unit))
  | 0, _ => none
  | fuel + 1, i =>
    bif (decide (i < ((List.length list) : Int))) then
      bif (decide ((List.getD list (Int.toNat i) (0 : Int)) ≤ (List.getD list (Int.toNat (Go.IntKind.wrap Go.IntKind.i64 (i - (1 : Int)))) (0 : Int)))) then
        let q0 := ((Go.V.inB i (List.length list)) && ((Go.V.inB (Go.IntKind.wrap Go.IntKind.i64 (i - (1 : Int))) (List.length list)) && true))
        bif q0 then
          some (.inl false)
        else
          none
      else
        let q0 := ((Go.V.inB i (List.length list)) && ((Go.V.inB (Go.IntKind.wrap Go.IntKind.i64 (i - (1 : Int))) (List.length list)) && true))
        bif q0 then
          M.s_l22Rises_l0 list fuel (Go.IntKind.wrap Go.IntKind.i64 (i + (1 : Int)))
        else
          none
    else
      some ((.inr (())))
end M
namespace M
noncomputable def s_l22Rises (list : (List Int)) : Option (Bool) :=
  match (M.s_l22Rises_l0 list Go.V.bigN (1 : Int)) with
  | none => none
  | some y0 =>
    (match y0 with
    | .inl a1 =>
      some a1
    | .inr b1 =>
      some true)
end M
namespace M
noncomputable def s_l22Task_l0 (n : Int) (w : M.SAsync) (t : M.STask) : Nat → Int → Option ((Bool × (List M.SProg) × (List M.SStream) × (List M.STask) × (List Int) × (List M.SNote)) ⊕ (Int × (List M.SProg) × (List M.SStream) × (List M.STask) × (List Int) × (List M.SNote) × M.STask))
  | 0, _ => none
  | fuel + 1, i =>
    bif (decide (i < ((List.length (M.STask.Subs t)) : Int))) then
      let q0 := (!((decide ((1 : Int) ≤ (List.getD (M.STask.Subs t) (Int.toNat i) (0 : Int)))) && (decide ((List.getD (M.STask.Subs t) (Int.toNat i) (0 : Int)) ≤ ((List.length (M.SAsync.Tasks w)) : Int)))))
      let q1 := (Go.IntKind.wrap Go.IntKind.i64 ((List.getD (M.STask.Subs t) (Int.toNat i) (0 : Int)) - (1 : Int)))
      bif (q0 || ((M.STask.Parent (List.getD (M.SAsync.Tasks w) (Int.toNat q1) M.STask.zero)) != (M.STask.Id t))) then
        let q2 := (!(q0 == false))
        let q3 := (((Go.V.inB q1 (List.length (M.SAsync.Tasks w))) || q2) && (((Go.V.inB i (List.length (M.STask.Subs t))) || q2) && ((Go.V.inB i (List.length (M.STask.Subs t))) && true)))
        bif q3 then
          some (.inl (false, (M.SAsync.Progs w), (M.SAsync.Streams w), (M.SAsync.Tasks w), (M.SAsync.Back w), (M.SAsync.Notes w)))
        else
          none
      else
        let q2 := (!(q0 == false))
        let q3 := (((Go.V.inB q1 (List.length (M.SAsync.Tasks w))) || q2) && (((Go.V.inB i (List.length (M.STask.Subs t))) || q2) && ((Go.V.inB i (List.length (M.STask.Subs t))) && true)))
        bif q3 then
          M.s_l22Task_l0 n w t fuel (Go.IntKind.wrap Go.IntKind.i64 (i + (1 : Int)))
        else
          none
    else
      some ((.inr ((n, (M.SAsync.Progs w), (M.SAsync.Streams w), (M.SAsync.Tasks w), (M.SAsync.Back w), (M.SAsync.Notes w), t))))
end M
namespace M
noncomputable def s_l00Has_l0 (list : (List Int)) (n : Int) : Nat → Int → Option ((Bool) ⊕ (Unit))
  | 0, _ => none
  | fuel + 1, i =>
    bif (decide (i < ((List.length list) : Int))) then
      bif ((List.getD list (Int.toNat i) (0 : Int)) == n) then
        bif ((Go.V.inB i (List.length list)) && true) then
          some (.inl true)
        else
          none
      else
        bif ((Go.V.inB i (List.length list)) && true) then
          M.s_l00Has_l0 list n fuel (Go.IntKind.wrap Go.IntKind.i64 (i + (1 : Int)))
        else
          none
    else
      some ((.inr (())))
end M
namespace M
noncomputable def s_l00Has (list : (List Int)) (n : Int) : Option (Bool) :=
  match (M.s_l00Has_l0 list n Go.V.bigN (0 : Int)) with
  | none => none
  | some y0 =>
    (match y0 with
    | .inl a1 =>
      some a1
    | .inr b1 =>
      some false)
end M
namespace M
noncomputable def s_l22Task_l1 (n : Int) (t : M.STask) : Nat → Int → Option ((Bool) ⊕ (Int × M.STask))
  | 0, _ => none
  | fuel + 1, i =>
    bif (decide (i < ((List.length (M.STask.Set t)) : Int))) then
      let q0 := (M.s_l00Has (M.STask.Subs t) (List.getD (M.STask.Set t) (Int.toNat i) (0 : Int)))
      bif (!(Option.getD q0 Inhabited.default)) then
        let q1 := ((Option.isSome q0) && ((Go.V.inB i (List.length (M.STask.Set t))) && true))
        bif q1 then
          some (.inl false)
        else
          none
      else
        let q1 := ((Option.isSome q0) && ((Go.V.inB i (List.length (M.STask.Set t))) && true))
        bif q1 then
          M.s_l22Task_l1 n t fuel (Go.IntKind.wrap Go.IntKind.i64 (i + (1 : Int)))
        else
          none
    else
      some ((.inr ((n, t))))
end M
namespace M
noncomputable def s_l22Tells (t : M.STask) : Option (Bool) :=
  some (((M.STask.Returned t) || ((M.STask.Status t) == (4 : Int))) || ((M.STask.Status t) == (5 : Int)))
end M
namespace M
noncomputable def s_l22Task (k : Int) (w : M.SAsync) : Option (Bool × M.SAsync) :=
  bif (((((((M.STask.Id (List.getD (M.SAsync.Tasks w) (Int.toNat k) M.STask.zero)) != (Go.IntKind.wrap Go.IntKind.i64 (k + (1 : Int)))) || (!((decide ((0 : Int) ≤ (M.STask.Prog (List.getD (M.SAsync.Tasks w) (Int.toNat k) M.STask.zero)))) && (decide ((M.STask.Prog (List.getD (M.SAsync.Tasks w) (Int.toNat k) M.STask.zero)) ≤ (Go.IntKind.wrap Go.IntKind.i64 (((List.length (M.SAsync.Progs w)) : Int) - (1 : Int)))))))) || (!((decide ((0 : Int) ≤ (M.STask.Parent (List.getD (M.SAsync.Tasks w) (Int.toNat k) M.STask.zero)))) && (decide ((M.STask.Parent (List.getD (M.SAsync.Tasks w) (Int.toNat k) M.STask.zero)) ≤ (Go.IntKind.wrap Go.IntKind.i64 ((M.STask.Id (List.getD (M.SAsync.Tasks w) (Int.toNat k) M.STask.zero)) - (1 : Int)))))))) || (!((decide ((1 : Int) ≤ (M.STask.Status (List.getD (M.SAsync.Tasks w) (Int.toNat k) M.STask.zero)))) && (decide ((M.STask.Status (List.getD (M.SAsync.Tasks w) (Int.toNat k) M.STask.zero)) ≤ (5 : Int)))))) || (!((decide ((0 : Int) ≤ (M.STask.Result (List.getD (M.SAsync.Tasks w) (Int.toNat k) M.STask.zero)))) && (decide ((M.STask.Result (List.getD (M.SAsync.Tasks w) (Int.toNat k) M.STask.zero)) ≤ (999 : Int)))))) || ((!(M.STask.Returned (List.getD (M.SAsync.Tasks w) (Int.toNat k) M.STask.zero))) && ((M.STask.Result (List.getD (M.SAsync.Tasks w) (Int.toNat k) M.STask.zero)) != (0 : Int)))) then
    bif ((Go.V.inB k (List.length (M.SAsync.Tasks w))) && true) then
      some (false, w)
    else
      none
  else
    let q0 := (((!((decide ((0 : Int) ≤ (M.STask.PC (List.getD (M.SAsync.Tasks w) (Int.toNat k) M.STask.zero)))) && (decide ((M.STask.PC (List.getD (M.SAsync.Tasks w) (Int.toNat k) M.STask.zero)) ≤ ((List.length (M.SProg.Ops (List.getD (M.SAsync.Progs w) (Int.toNat (M.STask.Prog (List.getD (M.SAsync.Tasks w) (Int.toNat k) M.STask.zero))) M.SProg.zero))) : Int))))) || (decide ((8 : Int) < ((List.length (M.STask.Subs (List.getD (M.SAsync.Tasks w) (Int.toNat k) M.STask.zero))) : Int)))) || (decide (((List.length (M.STask.Subs (List.getD (M.SAsync.Tasks w) (Int.toNat k) M.STask.zero))) : Int) < ((List.length (M.STask.Set (List.getD (M.SAsync.Tasks w) (Int.toNat k) M.STask.zero))) : Int))))
    let q1 := (M.s_l22Rises (M.STask.Subs (List.getD (M.SAsync.Tasks w) (Int.toNat k) M.STask.zero)))
    let q2 := (q0 || (!(Option.getD q1 Inhabited.default)))
    let q3 := (M.s_l22Rises (M.STask.Set (List.getD (M.SAsync.Tasks w) (Int.toNat k) M.STask.zero)))
    bif (q2 || (!(Option.getD q3 Inhabited.default))) then
      let q4 := (((Option.isSome q3) || (!(q2 == false))) && (((Option.isSome q1) || (!(q0 == false))) && ((Go.V.inB (M.STask.Prog (List.getD (M.SAsync.Tasks w) (Int.toNat k) M.STask.zero)) (List.length (M.SAsync.Progs w))) && ((Go.V.inB k (List.length (M.SAsync.Tasks w))) && true))))
      bif q4 then
        some (false, w)
      else
        none
    else
      match (M.s_l22Task_l0 ((List.length (M.SProg.Ops (List.getD (M.SAsync.Progs w) (Int.toNat (M.STask.Prog (List.getD (M.SAsync.Tasks w) (Int.toNat k) M.STask.zero))) M.SProg.zero))) : Int) w (List.getD (M.SAsync.Tasks w) (Int.toNat k) M.STask.zero) Go.V.bigN (0 : Int)) with
      | none => none
      | some y4 =>
        (match y4 with
        | .inl a5 =>
          let q6 := (((Option.isSome q3) || (!(q2 == false))) && (((Option.isSome q1) || (!(q0 == false))) && ((Go.V.inB (M.STask.Prog (List.getD (M.SAsync.Tasks w) (Int.toNat k) M.STask.zero)) (List.length (M.SAsync.Progs w))) && ((Go.V.inB k (List.length (M.SAsync.Tasks w))) && true))))
          bif q6 then
            let q7 := a5.2
            let q8 := q7.2
            let q9 := q8.2
            let q10 := q9.2
            some (a5.1, (M.SAsync.mk q7.1 q8.1 q9.1 q10.1 q10.2))
          else
            none
        | .inr b5 =>
          let q6 := b5.2
          let q7 := q6.2
          let q8 := q7.2
          let q9 := q8.2
          let q10 := q9.2
          match (M.s_l22Task_l1 b5.1 q10.2 Go.V.bigN (0 : Int)) with
          | none => none
          | some y11 =>
            (match y11 with
            | .inl a12 =>
              let q13 := (((Option.isSome q3) || (!(q2 == false))) && (((Option.isSome q1) || (!(q0 == false))) && ((Go.V.inB (M.STask.Prog (List.getD (M.SAsync.Tasks w) (Int.toNat k) M.STask.zero)) (List.length (M.SAsync.Progs w))) && ((Go.V.inB k (List.length (M.SAsync.Tasks w))) && true))))
              bif q13 then
                some (a12, (M.SAsync.mk q6.1 q7.1 q8.1 q9.1 q10.1))
              else
                none
            | .inr b12 =>
              bif ((M.STask.Status b12.2) == (1 : Int)) then
                bif (((((M.STask.PC b12.2) != (0 : Int)) || (M.STask.Returned b12.2)) || (M.STask.Asked b12.2)) || (decide ((0 : Int) < ((List.length (M.STask.Subs b12.2)) : Int)))) then
                  let q13 := (((Option.isSome q3) || (!(q2 == false))) && (((Option.isSome q1) || (!(q0 == false))) && ((Go.V.inB (M.STask.Prog (List.getD (M.SAsync.Tasks w) (Int.toNat k) M.STask.zero)) (List.length (M.SAsync.Progs w))) && ((Go.V.inB k (List.length (M.SAsync.Tasks w))) && true))))
                  bif q13 then
                    some (false, (M.SAsync.mk q6.1 q7.1 q8.1 q9.1 q10.1))
                  else
                    none
                else
                  let q13 := (((Option.isSome q3) || (!(q2 == false))) && (((Option.isSome q1) || (!(q0 == false))) && ((Go.V.inB (M.STask.Prog (List.getD (M.SAsync.Tasks w) (Int.toNat k) M.STask.zero)) (List.length (M.SAsync.Progs w))) && ((Go.V.inB k (List.length (M.SAsync.Tasks w))) && true))))
                  bif q13 then
                    let q14 := ((!(M.STask.Told b12.2)) || (((M.STask.Returned b12.2) || ((M.STask.Status b12.2) == (4 : Int))) || ((M.STask.Status b12.2) == (5 : Int))))
                    some (q14, (M.SAsync.mk q6.1 q7.1 q8.1 q9.1 q10.1))
                  else
                    none
              else
                bif ((M.STask.Status b12.2) == (3 : Int)) then
                  bif ((!(M.STask.Returned b12.2)) || ((M.STask.PC b12.2) != b12.1)) then
                    let q13 := (((Option.isSome q3) || (!(q2 == false))) && (((Option.isSome q1) || (!(q0 == false))) && ((Go.V.inB (M.STask.Prog (List.getD (M.SAsync.Tasks w) (Int.toNat k) M.STask.zero)) (List.length (M.SAsync.Progs w))) && ((Go.V.inB k (List.length (M.SAsync.Tasks w))) && true))))
                    bif q13 then
                      some (false, (M.SAsync.mk q6.1 q7.1 q8.1 q9.1 q10.1))
                    else
                      none
                  else
                    let q13 := (((Option.isSome q3) || (!(q2 == false))) && (((Option.isSome q1) || (!(q0 == false))) && ((Go.V.inB (M.STask.Prog (List.getD (M.SAsync.Tasks w) (Int.toNat k) M.STask.zero)) (List.length (M.SAsync.Progs w))) && ((Go.V.inB k (List.length (M.SAsync.Tasks w))) && true))))
                    bif q13 then
                      let q14 := ((!(M.STask.Told b12.2)) || (((M.STask.Returned b12.2) || ((M.STask.Status b12.2) == (4 : Int))) || ((M.STask.Status b12.2) == (5 : Int))))
                      some (q14, (M.SAsync.mk q6.1 q7.1 q8.1 q9.1 q10.1))
                    else
                      none
                else
                  bif ((M.STask.Status b12.2) == (4 : Int)) then
                    bif (M.STask.Returned b12.2) then
                      let q13 := (((Option.isSome q3) || (!(q2 == false))) && (((Option.isSome q1) || (!(q0 == false))) && ((Go.V.inB (M.STask.Prog (List.getD (M.SAsync.Tasks w) (Int.toNat k) M.STask.zero)) (List.length (M.SAsync.Progs w))) && ((Go.V.inB k (List.length (M.SAsync.Tasks w))) && true))))
                      bif q13 then
                        some (false, (M.SAsync.mk q6.1 q7.1 q8.1 q9.1 q10.1))
                      else
                        none
                    else
                      let q13 := (((Option.isSome q3) || (!(q2 == false))) && (((Option.isSome q1) || (!(q0 == false))) && ((Go.V.inB (M.STask.Prog (List.getD (M.SAsync.Tasks w) (Int.toNat k) M.STask.zero)) (List.length (M.SAsync.Progs w))) && ((Go.V.inB k (List.length (M.SAsync.Tasks w))) && true))))
                      bif q13 then
                        let q14 := ((!(M.STask.Told b12.2)) || (((M.STask.Returned b12.2) || ((M.STask.Status b12.2) == (4 : Int))) || ((M.STask.Status b12.2) == (5 : Int))))
                        some (q14, (M.SAsync.mk q6.1 q7.1 q8.1 q9.1 q10.1))
                      else
                        none
                  else
                    let q13 := (((Option.isSome q3) || (!(q2 == false))) && (((Option.isSome q1) || (!(q0 == false))) && ((Go.V.inB (M.STask.Prog (List.getD (M.SAsync.Tasks w) (Int.toNat k) M.STask.zero)) (List.length (M.SAsync.Progs w))) && ((Go.V.inB k (List.length (M.SAsync.Tasks w))) && true))))
                    bif q13 then
                      let q14 := ((!(M.STask.Told b12.2)) || (((M.STask.Returned b12.2) || ((M.STask.Status b12.2) == (4 : Int))) || ((M.STask.Status b12.2) == (5 : Int))))
                      some (q14, (M.SAsync.mk q6.1 q7.1 q8.1 q9.1 q10.1))
                    else
                      none))
end M
namespace M
noncomputable def s_l22Ok_l1 : Nat → Int → M.SAsync → Option ((Bool × (List M.SProg) × (List M.SStream) × (List M.STask) × (List Int) × (List M.SNote)) ⊕ (M.SAsync))
  | 0, _, _ => none
  | fuel + 1, i, w =>
    bif (decide (i < ((List.length (M.SAsync.Tasks w)) : Int))) then
      let q0 := (M.s_l22Task i w)
      bif (!(Option.getD q0 Inhabited.default).1) then
        bif ((Option.isSome q0) && true) then
          some (.inl (false, (M.SAsync.Progs (Option.getD q0 Inhabited.default).2), (M.SAsync.Streams (Option.getD q0 Inhabited.default).2), (M.SAsync.Tasks (Option.getD q0 Inhabited.default).2), (M.SAsync.Back (Option.getD q0 Inhabited.default).2), (M.SAsync.Notes (Option.getD q0 Inhabited.default).2)))
        else
          none
      else
        bif ((Option.isSome q0) && true) then
          M.s_l22Ok_l1 fuel (Go.IntKind.wrap Go.IntKind.i64 (i + (1 : Int))) (Option.getD q0 Inhabited.default).2
        else
          none
    else
      some ((.inr (w)))
end M
namespace M
noncomputable def s_l22Ok_l2 (w : M.SAsync) : Nat → Int → Option ((Bool × (List M.SProg) × (List M.SStream) × (List M.STask) × (List Int) × (List M.SNote)) ⊕ (M.SAsync))
  | 0, _ => none
  | fuel + 1, i =>
    bif (decide (i < ((List.length (M.SAsync.Back w)) : Int))) then
      let q0 := (!((decide ((1 : Int) ≤ (List.getD (M.SAsync.Back w) (Int.toNat i) (0 : Int)))) && (decide ((List.getD (M.SAsync.Back w) (Int.toNat i) (0 : Int)) ≤ (6 : Int)))))
      bif (q0 || ((decide ((0 : Int) < i)) && (decide ((List.getD (M.SAsync.Back w) (Int.toNat i) (0 : Int)) ≤ (List.getD (M.SAsync.Back w) (Int.toNat (Go.IntKind.wrap Go.IntKind.i64 (i - (1 : Int)))) (0 : Int)))))) then
        let q1 := (!((q0 == false) && ((decide ((0 : Int) < i)) == true)))
        let q2 := (((Go.V.inB i (List.length (M.SAsync.Back w))) || q1) && (((Go.V.inB (Go.IntKind.wrap Go.IntKind.i64 (i - (1 : Int))) (List.length (M.SAsync.Back w))) || q1) && ((Go.V.inB i (List.length (M.SAsync.Back w))) && true)))
        bif q2 then
          some (.inl (false, (M.SAsync.Progs w), (M.SAsync.Streams w), (M.SAsync.Tasks w), (M.SAsync.Back w), (M.SAsync.Notes w)))
        else
          none
      else
        let q1 := (!((q0 == false) && ((decide ((0 : Int) < i)) == true)))
        let q2 := (((Go.V.inB i (List.length (M.SAsync.Back w))) || q1) && (((Go.V.inB (Go.IntKind.wrap Go.IntKind.i64 (i - (1 : Int))) (List.length (M.SAsync.Back w))) || q1) && ((Go.V.inB i (List.length (M.SAsync.Back w))) && true)))
        bif q2 then
          M.s_l22Ok_l2 w fuel (Go.IntKind.wrap Go.IntKind.i64 (i + (1 : Int)))
        else
          none
    else
      some ((.inr (w)))
end M
namespace M
noncomputable def s_l22Ok_l3 (w : M.SAsync) : Nat → Int → Option ((Bool × (List M.SProg) × (List M.SStream) × (List M.STask) × (List Int) × (List M.SNote)) ⊕ ((List M.SProg) × (List M.SStream) × (List M.STask) × (List Int) × (List M.SNote)))
  | 0, _ => none
  | fuel + 1, i =>
    bif (decide (i < ((List.length (M.SAsync.Notes w)) : Int))) then
      let q0 := (!((decide ((1 : Int) ≤ (M.SNote.Task (List.getD (M.SAsync.Notes w) (Int.toNat i) M.SNote.zero)))) && (decide ((M.SNote.Task (List.getD (M.SAsync.Notes w) (Int.toNat i) M.SNote.zero)) ≤ (8 : Int)))))
      bif (q0 || (!((decide ((1 : Int) ≤ (M.SNote.Kind (List.getD (M.SAsync.Notes w) (Int.toNat i) M.SNote.zero)))) && (decide ((M.SNote.Kind (List.getD (M.SAsync.Notes w) (Int.toNat i) M.SNote.zero)) ≤ (9 : Int)))))) then
        let q1 := (((Go.V.inB i (List.length (M.SAsync.Notes w))) || (!(q0 == false))) && ((Go.V.inB i (List.length (M.SAsync.Notes w))) && true))
        bif q1 then
          some (.inl (false, (M.SAsync.Progs w), (M.SAsync.Streams w), (M.SAsync.Tasks w), (M.SAsync.Back w), (M.SAsync.Notes w)))
        else
          none
      else
        let q1 := (((Go.V.inB i (List.length (M.SAsync.Notes w))) || (!(q0 == false))) && ((Go.V.inB i (List.length (M.SAsync.Notes w))) && true))
        bif q1 then
          M.s_l22Ok_l3 w fuel (Go.IntKind.wrap Go.IntKind.i64 (i + (1 : Int)))
        else
          none
    else
      some ((.inr (((M.SAsync.Progs w), (M.SAsync.Streams w), (M.SAsync.Tasks w), (M.SAsync.Back w), (M.SAsync.Notes w)))))
end M
namespace M
noncomputable def s_l22Ok (w : M.SAsync) : Option (Bool × M.SAsync) :=
  let q0 := (M.s_l22Progs (M.SAsync.Progs w))
  bif (((((!(Option.getD q0 Inhabited.default)) || (decide ((4 : Int) < ((List.length (M.SAsync.Streams w)) : Int)))) || (decide ((8 : Int) < ((List.length (M.SAsync.Tasks w)) : Int)))) || (decide ((6 : Int) < ((List.length (M.SAsync.Back w)) : Int)))) || (decide ((120 : Int) < ((List.length (M.SAsync.Notes w)) : Int)))) then
    bif ((Option.isSome q0) && true) then
      some (false, w)
    else
      none
  else
    match (M.s_l22Ok_l0 w Go.V.bigN (0 : Int)) with
    | none => none
    | some y1 =>
      (match y1 with
      | .inl a2 =>
        bif ((Option.isSome q0) && true) then
          let q3 := a2.2
          let q4 := q3.2
          let q5 := q4.2
          let q6 := q5.2
          some (a2.1, (M.SAsync.mk q3.1 q4.1 q5.1 q6.1 q6.2))
        else
          none
      | .inr b2 =>
        match (M.s_l22Ok_l1 Go.V.bigN (0 : Int) b2) with
        | none => none
        | some y3 =>
          (match y3 with
          | .inl a4 =>
            bif ((Option.isSome q0) && true) then
              let q5 := a4.2
              let q6 := q5.2
              let q7 := q6.2
              let q8 := q7.2
              some (a4.1, (M.SAsync.mk q5.1 q6.1 q7.1 q8.1 q8.2))
            else
              none
          | .inr b4 =>
            match (M.s_l22Ok_l2 b4 Go.V.bigN (0 : Int)) with
            | none => none
            | some y5 =>
              (match y5 with
              | .inl a6 =>
                bif ((Option.isSome q0) && true) then
                  let q7 := a6.2
                  let q8 := q7.2
                  let q9 := q8.2
                  let q10 := q9.2
                  some (a6.1, (M.SAsync.mk q7.1 q8.1 q9.1 q10.1 q10.2))
                else
                  none
              | .inr b6 =>
                match (M.s_l22Ok_l3 b6 Go.V.bigN (0 : Int)) with
                | none => none
                | some y7 =>
                  (match y7 with
                  | .inl a8 =>
                    bif ((Option.isSome q0) && true) then
                      let q9 := a8.2
                      let q10 := q9.2
                      let q11 := q10.2
                      let q12 := q11.2
                      some (a8.1, (M.SAsync.mk q9.1 q10.1 q11.1 q12.1 q12.2))
                    else
                      none
                  | .inr b8 =>
                    bif ((Option.isSome q0) && true) then
                      let q9 := b8.2.2
                      let q10 := q9.2
                      some (true, (M.SAsync.mk b8.1 b8.2.1 q9.1 q10.1 q10.2))
                    else
                      none))))
end M
namespace M
noncomputable def s_AsyncOk (w : M.SAsync) : Option (Bool) :=
  let q0 := (M.s_l22Ok w)
  bif ((Option.isSome q0) && true) then
    some (Option.getD q0 Inhabited.default).1
  else
    none
end M
namespace M
noncomputable def i_size_Prog (list : (List M.SProg)) : Option (Int) :=
  some ((List.length list) : Int)
end M
namespace M
noncomputable def i_aopOk (o : M.SAop) : Option (Bool) :=
  let q0 := (bif ((M.SAop.Kind o) == (2 : Int)) then ((M.SAop.Kind o) == (2 : Int)) else ((M.SAop.Kind o) == (10 : Int)))
  let q1 := (bif ((M.SAop.Kind o) == (5 : Int)) then ((M.SAop.Kind o) == (5 : Int)) else ((M.SAop.Kind o) == (6 : Int)))
  some ((((decide ((1 : Int) ≤ (M.SAop.Kind o))) && (decide ((M.SAop.Kind o) ≤ (12 : Int)))) && ((decide ((0 : Int) ≤ (M.SAop.A o))) && (decide ((M.SAop.A o) ≤ (bif ((M.SAop.Kind o) == (1 : Int)) then (5 : Int) else (bif q0 then (7 : Int) else (bif q1 then (3 : Int) else (bif (bif ((M.SAop.Kind o) == (7 : Int)) then ((M.SAop.Kind o) == (7 : Int)) else ((M.SAop.Kind o) == (8 : Int))) then (3 : Int) else (bif ((M.SAop.Kind o) == (9 : Int)) then (999 : Int) else (bif ((M.SAop.Kind o) == (11 : Int)) then (1 : Int) else (0 : Int))))))))))) && ((decide ((bif ((M.SAop.Kind o) == (1 : Int)) then (0 : Int) else (bif q0 then (0 : Int) else (bif q1 then (1 : Int) else (0 : Int)))) ≤ (M.SAop.B o))) && (decide ((M.SAop.B o) ≤ (bif ((M.SAop.Kind o) == (1 : Int)) then (0 : Int) else (bif q0 then (0 : Int) else (bif q1 then (4 : Int) else (0 : Int))))))))
end M
namespace M
noncomputable def i_ProgOk_c1 (o : M.SAop) : Option (Bool) :=
  some (!(Option.getD (M.i_aopOk o) Inhabited.default))
end M
namespace M
noncomputable def slices_IndexFunc_Aop_Aop_l0 (s : (List M.SAop)) (t7 : Int) : Nat → Int → Option ((Int) ⊕ (Unit))
  | 0, _ => none
  | fuel + 1, t8 =>
    bif (decide (t8 < t7)) then
      bif (!(Option.getD (M.i_aopOk (List.getD s (Int.toNat t8) M.SAop.zero)) Inhabited.default)) then
        bif ((Go.V.inB t8 (List.length s)) && true) then
          some (.inl t8)
        else
          none
      else
        bif ((Go.V.inB t8 (List.length s)) && true) then
          M.slices_IndexFunc_Aop_Aop_l0 s t7 fuel (Go.IntKind.wrap Go.IntKind.i64 (t8 + (1 : Int)))
        else
          none
    else
      some ((.inr (())))
end M
namespace M
noncomputable def slices_IndexFunc_Aop_Aop (s : (List M.SAop)) : Option (Int) :=
  match (M.slices_IndexFunc_Aop_Aop_l0 s ((List.length s) : Int) Go.V.bigN (0 : Int)) with
  | none => none
  | some y0 =>
    (match y0 with
    | .inl a1 =>
      some a1
    | .inr b1 =>
      some (-(1 : Int)))
end M
namespace M
noncomputable def slices_ContainsFunc_Aop_Aop (s : (List M.SAop)) : Option (Bool) :=
  let q0 := (M.slices_IndexFunc_Aop_Aop s)
  bif ((Option.isSome q0) && true) then
    some (decide ((0 : Int) ≤ (Option.getD q0 Inhabited.default)))
  else
    none
end M
namespace M
noncomputable def i_ProgOk (p : M.SProg) : Option (Bool) :=
  let q0 := (M.slices_ContainsFunc_Aop_Aop (M.SProg.Ops p))
  let q1 := (((decide ((1 : Int) ≤ (M.SProg.Inst p))) && (decide ((M.SProg.Inst p) ≤ (6 : Int)))) && (decide (((List.length (M.SProg.Ops p)) : Int) ≤ (12 : Int))))
  bif (((Option.isSome q0) || (!(q1 == true))) && true) then
    some (q1 && (!(Option.getD q0 Inhabited.default)))
  else
    none
end M
namespace M
noncomputable def i_progsOk_c1 (p : M.SProg) : Option (Bool) :=
  let q0 := (M.i_ProgOk p)
  bif ((Option.isSome q0) && true) then
    some (!(Option.getD q0 Inhabited.default))
  else
    none
end M
namespace M
noncomputable def slices_IndexFunc_Prog_Prog_l0 (s : (List M.SProg)) (t7 : Int) : Nat → Int → Option ((Int) ⊕ (Unit))
  | 0, _ => none
  | fuel + 1, t8 =>
    bif (decide (t8 < t7)) then
      let q0 := (M.i_progsOk_c1 (List.getD s (Int.toNat t8) M.SProg.zero))
      bif (Option.getD q0 Inhabited.default) then
        let q1 := ((Option.isSome q0) && ((Go.V.inB t8 (List.length s)) && true))
        bif q1 then
          some (.inl t8)
        else
          none
      else
        let q1 := ((Option.isSome q0) && ((Go.V.inB t8 (List.length s)) && true))
        bif q1 then
          M.slices_IndexFunc_Prog_Prog_l0 s t7 fuel (Go.IntKind.wrap Go.IntKind.i64 (t8 + (1 : Int)))
        else
          none
    else
      some ((.inr (())))
end M
namespace M
noncomputable def slices_IndexFunc_Prog_Prog (s : (List M.SProg)) : Option (Int) :=
  match (M.slices_IndexFunc_Prog_Prog_l0 s ((List.length s) : Int) Go.V.bigN (0 : Int)) with
  | none => none
  | some y0 =>
    (match y0 with
    | .inl a1 =>
      some a1
    | .inr b1 =>
      some (-(1 : Int)))
end M
namespace M
noncomputable def slices_ContainsFunc_Prog_Prog (s : (List M.SProg)) : Option (Bool) :=
  let q0 := (M.slices_IndexFunc_Prog_Prog s)
  bif ((Option.isSome q0) && true) then
    some (decide ((0 : Int) ≤ (Option.getD q0 Inhabited.default)))
  else
    none
end M
namespace M
noncomputable def i_progsOk (progs : (List M.SProg)) : Option (Bool) :=
  let q0 := (M.slices_ContainsFunc_Prog_Prog progs)
  let q1 := ((decide ((1 : Int) ≤ ((List.length progs) : Int))) && (decide (((List.length progs) : Int) ≤ (6 : Int))))
  bif (((Option.isSome q0) || (!(q1 == true))) && true) then
    some (q1 && (!(Option.getD q0 Inhabited.default)))
  else
    none
end M
namespace M
noncomputable def i_notesOk_c1 (n : M.SNote) : Option (Bool) :=
  some ((!((decide ((1 : Int) ≤ (M.SNote.Task n))) && (decide ((M.SNote.Task n) ≤ (8 : Int))))) || (!((decide ((1 : Int) ≤ (M.SNote.Kind n))) && (decide ((M.SNote.Kind n) ≤ (9 : Int))))))
end M
namespace M
noncomputable def slices_IndexFunc_Note_Note_l0 (s : (List M.SNote)) (t7 : Int) : Nat → Int → Option ((Int) ⊕ (Unit))
  | 0, _ => none
  | fuel + 1, t8 =>
    bif (decide (t8 < t7)) then
      let q0 := (M.i_notesOk_c1 (List.getD s (Int.toNat t8) M.SNote.zero))
      bif (Option.getD q0 Inhabited.default) then
        let q1 := ((Option.isSome q0) && ((Go.V.inB t8 (List.length s)) && true))
        bif q1 then
          some (.inl t8)
        else
          none
      else
        let q1 := ((Option.isSome q0) && ((Go.V.inB t8 (List.length s)) && true))
        bif q1 then
          M.slices_IndexFunc_Note_Note_l0 s t7 fuel (Go.IntKind.wrap Go.IntKind.i64 (t8 + (1 : Int)))
        else
          none
    else
      some ((.inr (())))
end M
namespace M
noncomputable def slices_IndexFunc_Note_Note (s : (List M.SNote)) : Option (Int) :=
  match (M.slices_IndexFunc_Note_Note_l0 s ((List.length s) : Int) Go.V.bigN (0 : Int)) with
  | none => none
  | some y0 =>
    (match y0 with
    | .inl a1 =>
      some a1
    | .inr b1 =>
      some (-(1 : Int)))
end M
namespace M
noncomputable def slices_ContainsFunc_Note_Note (s : (List M.SNote)) : Option (Bool) :=
  let q0 := (M.slices_IndexFunc_Note_Note s)
  bif ((Option.isSome q0) && true) then
    some (decide ((0 : Int) ≤ (Option.getD q0 Inhabited.default)))
  else
    none
end M
namespace M
noncomputable def i_notesOk (notes : (List M.SNote)) : Option (Bool) :=
  let q0 := (M.slices_ContainsFunc_Note_Note notes)
  bif (((Option.isSome q0) || (!((decide (((List.length notes) : Int) ≤ (120 : Int))) == true))) && true) then
    some ((decide (((List.length notes) : Int) ≤ (120 : Int))) && (!(Option.getD q0 Inhabited.default)))
  else
    none
end M
namespace M
noncomputable def i_TypeOk (t : M.SType) : Option (Bool) :=
  let q0 := (M.i_shapeOk (M.SType.re t))
  let q1 := (M.i_deep (M.SType.re t) (4 : Int))
  let q2 := (M.i_parts (M.SType.re t))
  let q3 := ((decide ((Option.getD q1 Inhabited.default) ≤ (4 : Int))) && (decide ((Option.getD q2 Inhabited.default) ≤ (24 : Int))))
  bif (((Option.isSome q0) || (!(q3 == true))) && (((Option.isSome q2) || (!((decide ((Option.getD q1 Inhabited.default) ≤ (4 : Int))) == true))) && ((Option.isSome q1) && true))) then
    some (q3 && (Option.getD q0 Inhabited.default))
  else
    none
end M
namespace M
noncomputable def i_streamable (t : M.SType) : Option (Bool) :=
  let q0 := (M.i_hasKind (M.SType.re t) [(20 : Int), (21 : Int), (22 : Int), (23 : Int)])
  let q1 := (M.i_TypeOk (M.SType.re t))
  let q2 := ((Option.getD q1 Inhabited.default) && (!((M.SType.Kind t) == (1 : Int))))
  bif (((Option.isSome q0) || (!(q2 == true))) && ((Option.isSome q1) && true)) then
    some (q2 && (!(Option.getD q0 Inhabited.default)))
  else
    none
end M
namespace M
noncomputable def i_size_Value (list : (List M.SValue)) : Option (Int) :=
  some ((List.length list) : Int)
end M
namespace M
def i_numRange (kind : Int) : Option (Int × Int × Bool) :=
  bif (kind == (3 : Int)) then
    some ((0 : Int), (255 : Int), true)
  else
    bif (kind == (4 : Int)) then
      some ((-(128 : Int)), (127 : Int), true)
    else
      bif (kind == (5 : Int)) then
        some ((0 : Int), (65535 : Int), true)
      else
        bif (kind == (6 : Int)) then
          some ((-(32768 : Int)), (32767 : Int), true)
        else
          bif (kind == (7 : Int)) then
            some ((0 : Int), (4294967295 : Int), true)
          else
            bif (kind == (8 : Int)) then
              some ((-(2147483648 : Int)), (2147483647 : Int), true)
            else
              bif (kind == (9 : Int)) then
                some ((-(9223372036854775808 : Int)), (9223372036854775807 : Int), true)
              else
                some ((0 : Int), (0 : Int), false)
end M
namespace M
def i_CharOk (n : Int) : Option (Bool) :=
  some (((decide ((0 : Int) ≤ n)) && (decide (n ≤ (55295 : Int)))) || ((decide ((57344 : Int) ≤ n)) && (decide (n ≤ (1114111 : Int)))))
end M
namespace M
noncomputable def i_numOk (v : M.SValue) (t : M.SType) : Option (Bool) :=
  bif (bif ((M.SType.Kind t) == (2 : Int)) then ((M.SType.Kind t) == (2 : Int)) else (bif ((M.SType.Kind t) == (13 : Int)) then ((M.SType.Kind t) == (13 : Int)) else ((M.SType.Kind t) == (14 : Int)))) then
    some ((decide ((0 : Int) ≤ (M.SValue.Num v))) && (decide ((M.SValue.Num v) ≤ (1 : Int))))
  else
    bif (bif ((M.SType.Kind t) == (3 : Int)) then ((M.SType.Kind t) == (3 : Int)) else (bif ((M.SType.Kind t) == (4 : Int)) then ((M.SType.Kind t) == (4 : Int)) else (bif ((M.SType.Kind t) == (5 : Int)) then ((M.SType.Kind t) == (5 : Int)) else (bif ((M.SType.Kind t) == (6 : Int)) then ((M.SType.Kind t) == (6 : Int)) else (bif ((M.SType.Kind t) == (7 : Int)) then ((M.SType.Kind t) == (7 : Int)) else (bif ((M.SType.Kind t) == (8 : Int)) then ((M.SType.Kind t) == (8 : Int)) else ((M.SType.Kind t) == (9 : Int)))))))) then
      let q0 := (M.i_numRange (M.SType.Kind t))
      bif ((Option.isSome q0) && true) then
        some ((decide ((Option.getD q0 Inhabited.default).1 ≤ (M.SValue.Num v))) && (decide ((M.SValue.Num v) ≤ (Option.getD q0 Inhabited.default).2.1)))
      else
        none
    else
      bif ((M.SType.Kind t) == (10 : Int)) then
        some (Option.getD (M.i_CharOk (M.SValue.Num v)) Inhabited.default)
      else
        some ((decide ((0 : Int) ≤ (M.SValue.Num v))) && (decide ((M.SValue.Num v) ≤ (bif (bif ((M.SType.Kind t) == (17 : Int)) then ((M.SType.Kind t) == (17 : Int)) else ((M.SType.Kind t) == (18 : Int))) then (Go.IntKind.wrap Go.IntKind.i64 (((List.length (M.SType.Labels t)) : Int) - (1 : Int))) else (bif ((M.SType.Kind t) == (19 : Int)) then (Go.IntKind.wrap Go.IntKind.i64 ((Go.V.shlV Go.IntKind.i64 (1 : Int) ((List.length (M.SType.Labels t)) : Int)) - (1 : Int))) else (bif (bif ((M.SType.Kind t) == (20 : Int)) then ((M.SType.Kind t) == (20 : Int)) else (bif ((M.SType.Kind t) == (21 : Int)) then ((M.SType.Kind t) == (21 : Int)) else (bif ((M.SType.Kind t) == (22 : Int)) then ((M.SType.Kind t) == (22 : Int)) else ((M.SType.Kind t) == (23 : Int))))) then (2147483647 : Int) else (0 : Int)))))))
end M
namespace M
noncomputable def i_TextOk (s : (List UInt8)) : Option (Bool) :=
  let q0 := (M.unicode_utf8_ValidString s)
  bif (((Option.isSome q0) || (!((decide (((List.length s) : Int) ≤ (24 : Int))) == true))) && true) then
    some ((decide (((List.length s) : Int) ≤ (24 : Int))) && (Option.getD q0 Inhabited.default))
  else
    none
end M
namespace M
noncomputable def i_caseType (t : M.SType) (num : Int) : Option (M.SType × Bool) :=
  bif ((M.SType.Kind t) == (13 : Int)) then
    bif (num == (0 : Int)) then
      some ((M.SType.mk (1 : Int) [] [] []), true)
    else
      bif (!((decide ((0 : Int) ≤ (Go.IntKind.wrap Go.IntKind.i64 (num - (1 : Int))))) && (decide ((Go.IntKind.wrap Go.IntKind.i64 (num - (1 : Int))) ≤ (Go.IntKind.wrap Go.IntKind.i64 (((List.length (M.SType.Kids t)) : Int) - (1 : Int))))))) then
        some ((M.SType.mk (0 : Int) [] [] []), false)
      else
        bif ((Go.V.inB (Go.IntKind.wrap Go.IntKind.i64 (num - (1 : Int))) (List.length (M.SType.Kids t))) && true) then
          some ((M.SType.re (List.getD (M.SType.Kids t) (Int.toNat (Go.IntKind.wrap Go.IntKind.i64 (num - (1 : Int)))) M.SType.zero)), true)
        else
          none
  else
    bif (!((decide ((0 : Int) ≤ num)) && (decide (num ≤ (Go.IntKind.wrap Go.IntKind.i64 (((List.length (M.SType.Kids t)) : Int) - (1 : Int))))))) then
      some ((M.SType.mk (0 : Int) [] [] []), false)
    else
      bif ((Go.V.inB num (List.length (M.SType.Kids t))) && true) then
        some ((M.SType.re (List.getD (M.SType.Kids t) (Int.toNat num) M.SType.zero)), true)
      else
        none
end M
namespace M
noncomputable def i_kidTypes (v : M.SValue) (t : M.SType) : Option ((List M.SType) × Bool) :=
  bif ((M.SType.Kind t) == (12 : Int)) then
    let q0 := (M.slices_Repeat_Type_Type (M.SType.Kids t) (bif (decide ((8 : Int) < ((List.length (M.SValue.Kids v)) : Int))) then (8 : Int) else ((List.length (M.SValue.Kids v)) : Int)))
    bif ((Option.isSome q0) && true) then
      some ((Option.getD q0 Inhabited.default), true)
    else
      none
  else
    bif (bif ((M.SType.Kind t) == (15 : Int)) then ((M.SType.Kind t) == (15 : Int)) else ((M.SType.Kind t) == (16 : Int))) then
      some ((M.SType.Kids t), true)
    else
      bif (bif ((M.SType.Kind t) == (13 : Int)) then ((M.SType.Kind t) == (13 : Int)) else (bif ((M.SType.Kind t) == (14 : Int)) then ((M.SType.Kind t) == (14 : Int)) else ((M.SType.Kind t) == (17 : Int)))) then
        let q0 := (M.i_caseType (M.SType.re t) (M.SValue.Num v))
        bif ((M.SType.Kind (Option.getD q0 Inhabited.default).1) == (1 : Int)) then
          bif ((Option.isSome q0) && true) then
            some ([], (Option.getD q0 Inhabited.default).2)
          else
            none
        else
          bif ((Option.isSome q0) && true) then
            some ([(M.SType.re (Option.getD q0 Inhabited.default).1)], (Option.getD q0 Inhabited.default).2)
          else
            none
      else
        some ([], true)
end M
namespace M
noncomputable def i_fits_l0 (rec_i_fits : M.SValue → M.SType → Option (Bool)) (kids : (List M.SType)) (t53 : (List M.SValue)) (t54 : Int) : Nat → Int → Option ((Bool) ⊕ (Unit))
  | 0, _ => none
  | fuel + 1, t55 =>
    bif (decide (t55 < t54)) then
      bif (!(Option.getD (rec_i_fits (M.SValue.re (List.getD t53 (Int.toNat t55) M.SValue.zero)) (M.SType.re (List.getD kids (Int.toNat t55) M.SType.zero))) Inhabited.default)) then
        let q0 := ((Option.isSome (rec_i_fits (M.SValue.re (List.getD t53 (Int.toNat t55) M.SValue.zero)) (M.SType.re (List.getD kids (Int.toNat t55) M.SType.zero)))) && ((Go.V.inB t55 (List.length kids)) && ((Go.V.inB t55 (List.length t53)) && true)))
        bif q0 then
          some (.inl false)
        else
          none
      else
        let q0 := ((Option.isSome (rec_i_fits (M.SValue.re (List.getD t53 (Int.toNat t55) M.SValue.zero)) (M.SType.re (List.getD kids (Int.toNat t55) M.SType.zero)))) && ((Go.V.inB t55 (List.length kids)) && ((Go.V.inB t55 (List.length t53)) && true)))
        bif q0 then
          M.i_fits_l0 rec_i_fits kids t53 t54 fuel (Go.IntKind.wrap Go.IntKind.i64 (t55 + (1 : Int)))
        else
          none
    else
      some ((.inr (())))
end M
namespace M
noncomputable def i_fits_b (rec_i_fits : M.SValue → M.SType → Option (Bool)) (v : M.SValue) (t : M.SType) : Option (Bool) :=
  let q0 := (M.i_numOk (M.SValue.re v) (M.SType.re t))
  let q1 := ((((M.SValue.Kind v) != (M.SType.Kind t)) || (!(Option.getD q0 Inhabited.default))) || ((!((M.SValue.Text v) == [])) && ((M.SType.Kind t) != (11 : Int))))
  let q2 := (M.i_TextOk (M.SValue.Text v))
  bif (q1 || (!(Option.getD q2 Inhabited.default))) then
    let q3 := (((Option.isSome q2) || (!(q1 == false))) && (((Option.isSome q0) || (!(((M.SValue.Kind v) != (M.SType.Kind t)) == false))) && true))
    bif q3 then
      some false
    else
      none
  else
    let q3 := (M.i_kidTypes (M.SValue.re v) (M.SType.re t))
    let q4 := (Option.getD q3 Inhabited.default).1
    bif ((!(Option.getD q3 Inhabited.default).2) || (((List.length q4) : Int) != ((List.length (M.SValue.Kids v)) : Int))) then
      let q5 := (((Option.isSome q2) || (!(q1 == false))) && (((Option.isSome q0) || (!(((M.SValue.Kind v) != (M.SType.Kind t)) == false))) && true))
      let q6 := ((Option.isSome q3) && q5)
      bif q6 then
        some false
      else
        none
    else
      match (M.i_fits_l0 rec_i_fits q4 (M.SValue.Kids v) ((List.length (M.SValue.Kids v)) : Int) Go.V.bigN (0 : Int)) with
      | none => none
      | some y5 =>
        (match y5 with
        | .inl a6 =>
          let q7 := (((Option.isSome q2) || (!(q1 == false))) && (((Option.isSome q0) || (!(((M.SValue.Kind v) != (M.SType.Kind t)) == false))) && true))
          let q8 := ((Option.isSome q3) && q7)
          bif q8 then
            some a6
          else
            none
        | .inr b6 =>
          let q7 := (((Option.isSome q2) || (!(q1 == false))) && (((Option.isSome q0) || (!(((M.SValue.Kind v) != (M.SType.Kind t)) == false))) && true))
          let q8 := ((Option.isSome q3) && q7)
          bif q8 then
            some true
          else
            none)
noncomputable def i_fits_n : Nat → M.SValue → M.SType → Option (Bool)
  | 0 => fun _ _ => none
  | n + 1 => i_fits_b (i_fits_n n)
noncomputable def i_fits : M.SValue → M.SType → Option (Bool) := i_fits_n Go.V.bigN
end M
namespace M
noncomputable def i_StreamOk_c1 (v : M.SValue) (t1 : M.SStream) : Option (Bool) :=
  let q0 := (M.i_fits (M.SValue.re v) (M.SType.re (M.SStream.Type_ t1)))
  bif ((Option.isSome q0) && true) then
    some (!(Option.getD q0 Inhabited.default))
  else
    none
end M
namespace M
noncomputable def slices_IndexFunc_Value_Value_l0 (s : (List M.SValue)) (f : M.SStream) (t7 : Int) : Nat → Int → Option ((Int) ⊕ (Unit))
  | 0, _ => none
  | fuel + 1, t8 =>
    bif (decide (t8 < t7)) then
      let q0 := (M.i_StreamOk_c1 (M.SValue.re (List.getD s (Int.toNat t8) M.SValue.zero)) f)
      bif (Option.getD q0 Inhabited.default) then
        let q1 := ((Option.isSome q0) && ((Go.V.inB t8 (List.length s)) && true))
        bif q1 then
          some (.inl t8)
        else
          none
      else
        let q1 := ((Option.isSome q0) && ((Go.V.inB t8 (List.length s)) && true))
        bif q1 then
          M.slices_IndexFunc_Value_Value_l0 s f t7 fuel (Go.IntKind.wrap Go.IntKind.i64 (t8 + (1 : Int)))
        else
          none
    else
      some ((.inr (())))
end M
namespace M
noncomputable def slices_IndexFunc_Value_Value (s : (List M.SValue)) (f : M.SStream) : Option (Int) :=
  match (M.slices_IndexFunc_Value_Value_l0 s f ((List.length s) : Int) Go.V.bigN (0 : Int)) with
  | none => none
  | some y0 =>
    (match y0 with
    | .inl a1 =>
      some a1
    | .inr b1 =>
      some (-(1 : Int)))
end M
namespace M
noncomputable def slices_ContainsFunc_Value_Value (s : (List M.SValue)) (f : M.SStream) : Option (Bool) :=
  let q0 := (M.slices_IndexFunc_Value_Value s f)
  bif ((Option.isSome q0) && true) then
    some (decide ((0 : Int) ≤ (Option.getD q0 Inhabited.default)))
  else
    none
end M
namespace M
noncomputable def i_mostOf (s : M.SStream) : Option (Int) :=
  bif (M.SStream.Future s) then
    some (1 : Int)
  else
    some (1000000 : Int)
end M
namespace M
noncomputable def i_StreamOk (s : M.SStream) : Option (Bool) :=
  let q0 := (M.i_streamable (M.SType.re (M.SStream.Type_ s)))
  bif ((((!(Option.getD q0 Inhabited.default)) || (!((decide ((1 : Int) ≤ (M.SStream.Room s))) && (decide ((M.SStream.Room s) ≤ (6 : Int)))))) || ((M.SStream.Future s) && ((M.SStream.Room s) != (1 : Int)))) || (decide ((M.SStream.Room s) < ((List.length (M.SStream.Buffer s)) : Int)))) then
    bif ((Option.isSome q0) && true) then
      some false
    else
      none
  else
    let q1 := (M.slices_ContainsFunc_Value_Value (M.SStream.Buffer s) (M.SStream.re s))
    let q2 := ((Option.getD q1 Inhabited.default) || (decide ((M.SStream.Got s) < (0 : Int))))
    let q3 := (M.i_mostOf (M.SStream.re s))
    bif (q2 || (!((decide ((M.SStream.Got s) ≤ (M.SStream.Put s))) && (decide ((M.SStream.Put s) ≤ (Option.getD q3 Inhabited.default)))))) then
      let q4 := (((Option.isSome q3) || (!(q2 == false))) && ((Option.isSome q1) && ((Option.isSome q0) && true)))
      bif q4 then
        some false
      else
        none
    else
      bif (((M.SStream.Gone s) && (decide ((0 : Int) < ((List.length (M.SStream.Buffer s)) : Int)))) || ((!(M.SStream.Gone s)) && ((Go.IntKind.wrap Go.IntKind.i64 ((M.SStream.Put s) - (M.SStream.Got s))) != ((List.length (M.SStream.Buffer s)) : Int)))) then
        let q4 := (((Option.isSome q3) || (!(q2 == false))) && ((Option.isSome q1) && ((Option.isSome q0) && true)))
        bif q4 then
          some false
        else
          none
      else
        let q4 := (((Option.isSome q3) || (!(q2 == false))) && ((Option.isSome q1) && ((Option.isSome q0) && true)))
        bif q4 then
          some ((((!(M.SStream.Future s)) || (!(M.SStream.Shut s))) || ((M.SStream.Put s) == (1 : Int))) || (M.SStream.Gone s))
        else
          none
end M
namespace M
noncomputable def i_AsyncOk_c1 (s : M.SStream) : Option (Bool) :=
  let q0 := (M.i_StreamOk (M.SStream.re s))
  bif ((Option.isSome q0) && true) then
    some (((!(Option.getD q0 Inhabited.default)) || ((M.SType.Kind (M.SStream.Type_ s)) != (9 : Int))) || (M.SStream.Future s))
  else
    none
end M
namespace M
noncomputable def slices_IndexFunc_Stream_Stream_l0 (s : (List M.SStream)) (t7 : Int) : Nat → Int → Option ((Int) ⊕ (Unit))
  | 0, _ => none
  | fuel + 1, t8 =>
    bif (decide (t8 < t7)) then
      let q0 := (M.i_AsyncOk_c1 (M.SStream.re (List.getD s (Int.toNat t8) M.SStream.zero)))
      bif (Option.getD q0 Inhabited.default) then
        let q1 := ((Option.isSome q0) && ((Go.V.inB t8 (List.length s)) && true))
        bif q1 then
          some (.inl t8)
        else
          none
      else
        let q1 := ((Option.isSome q0) && ((Go.V.inB t8 (List.length s)) && true))
        bif q1 then
          M.slices_IndexFunc_Stream_Stream_l0 s t7 fuel (Go.IntKind.wrap Go.IntKind.i64 (t8 + (1 : Int)))
        else
          none
    else
      some ((.inr (())))
end M
namespace M
noncomputable def slices_IndexFunc_Stream_Stream (s : (List M.SStream)) : Option (Int) :=
  match (M.slices_IndexFunc_Stream_Stream_l0 s ((List.length s) : Int) Go.V.bigN (0 : Int)) with
  | none => none
  | some y0 =>
    (match y0 with
    | .inl a1 =>
      some a1
    | .inr b1 =>
      some (-(1 : Int)))
end M
namespace M
noncomputable def slices_ContainsFunc_Stream_Stream (s : (List M.SStream)) : Option (Bool) :=
  let q0 := (M.slices_IndexFunc_Stream_Stream s)
  bif ((Option.isSome q0) && true) then
    some (decide ((0 : Int) ≤ (Option.getD q0 Inhabited.default)))
  else
    none
end M
namespace M
noncomputable def i_size_Aop (list : (List M.SAop)) : Option (Int) :=
  some ((List.length list) : Int)
end M
namespace M
noncomputable def i_size_Task (list : (List M.STask)) : Option (Int) :=
  some ((List.length list) : Int)
end M
namespace M
noncomputable def i_subsOk_l0 (t10 : (List Int)) (t11 : Int) (w : M.SAsync) (t : M.STask) : Nat → Int → Option ((Bool) ⊕ (M.STask))
  | 0, _ => none
  | fuel + 1, t12 =>
    bif (decide (t12 < t11)) then
      let q0 := (!((decide ((1 : Int) ≤ (List.getD t10 (Int.toNat t12) (0 : Int)))) && (decide ((List.getD t10 (Int.toNat t12) (0 : Int)) ≤ ((List.length (M.SAsync.Tasks w)) : Int)))))
      let q1 := (Go.IntKind.wrap Go.IntKind.i64 ((List.getD t10 (Int.toNat t12) (0 : Int)) - (1 : Int)))
      let q2 := (q0 || ((M.STask.Parent (List.getD (M.SAsync.Tasks w) (Int.toNat q1) M.STask.zero)) != (M.STask.Id t)))
      bif (q2 || ((decide ((0 : Int) < t12)) && (decide ((List.getD t10 (Int.toNat t12) (0 : Int)) ≤ (List.getD (M.STask.Subs t) (Int.toNat (Go.IntKind.wrap Go.IntKind.i64 (t12 - (1 : Int)))) (0 : Int)))))) then
        let q3 := (((Go.V.inB (Go.IntKind.wrap Go.IntKind.i64 (t12 - (1 : Int))) (List.length (M.STask.Subs t))) || (!((q2 == false) && ((decide ((0 : Int) < t12)) == true)))) && (((Go.V.inB q1 (List.length (M.SAsync.Tasks w))) || (!(q0 == false))) && ((Go.V.inB t12 (List.length t10)) && true)))
        bif q3 then
          some (.inl false)
        else
          none
      else
        let q3 := (((Go.V.inB (Go.IntKind.wrap Go.IntKind.i64 (t12 - (1 : Int))) (List.length (M.STask.Subs t))) || (!((q2 == false) && ((decide ((0 : Int) < t12)) == true)))) && (((Go.V.inB q1 (List.length (M.SAsync.Tasks w))) || (!(q0 == false))) && ((Go.V.inB t12 (List.length t10)) && true)))
        bif q3 then
          M.i_subsOk_l0 t10 t11 w t fuel (Go.IntKind.wrap Go.IntKind.i64 (t12 + (1 : Int)))
        else
          none
    else
      some ((.inr (t)))
end M
namespace M
noncomputable def i_subsOk_l1 (t51 : (List Int)) (t52 : Int) (t : M.STask) : Nat → Int → Option ((Bool) ⊕ (Unit))
  | 0, _ => none
  | fuel + 1, t53 =>
    bif (decide (t53 < t52)) then
      let q0 := (M.slices_Contains_int64_int64 (M.STask.Subs t) (List.getD t51 (Int.toNat t53) (0 : Int)))
      let q1 := (!(Option.getD q0 Inhabited.default))
      bif (q1 || ((decide ((0 : Int) < t53)) && (decide ((List.getD t51 (Int.toNat t53) (0 : Int)) ≤ (List.getD (M.STask.Set t) (Int.toNat (Go.IntKind.wrap Go.IntKind.i64 (t53 - (1 : Int)))) (0 : Int)))))) then
        let q2 := (((Go.V.inB (Go.IntKind.wrap Go.IntKind.i64 (t53 - (1 : Int))) (List.length (M.STask.Set t))) || (!((q1 == false) && ((decide ((0 : Int) < t53)) == true)))) && ((Option.isSome q0) && ((Go.V.inB t53 (List.length t51)) && true)))
        bif q2 then
          some (.inl false)
        else
          none
      else
        let q2 := (((Go.V.inB (Go.IntKind.wrap Go.IntKind.i64 (t53 - (1 : Int))) (List.length (M.STask.Set t))) || (!((q1 == false) && ((decide ((0 : Int) < t53)) == true)))) && ((Option.isSome q0) && ((Go.V.inB t53 (List.length t51)) && true)))
        bif q2 then
          M.i_subsOk_l1 t51 t52 t fuel (Go.IntKind.wrap Go.IntKind.i64 (t53 + (1 : Int)))
        else
          none
    else
      some ((.inr (())))
end M
namespace M
noncomputable def i_subsOk (w : M.SAsync) (t : M.STask) : Option (Bool) :=
  match (M.i_subsOk_l0 (M.STask.Subs t) ((List.length (M.STask.Subs t)) : Int) w t Go.V.bigN (0 : Int)) with
  | none => none
  | some y0 =>
    (match y0 with
    | .inl a1 =>
      some a1
    | .inr b1 =>
      match (M.i_subsOk_l1 (M.STask.Set b1) ((List.length (M.STask.Set b1)) : Int) b1 Go.V.bigN (0 : Int)) with
      | none => none
      | some y2 =>
        (match y2 with
        | .inl a3 =>
          some a3
        | .inr b3 =>
          some true))
end M
namespace M
noncomputable def i_Task_event (t : M.STask) : Option (Bool) :=
  some (((M.STask.Returned t) || ((M.STask.Status t) == (4 : Int))) || ((M.STask.Status t) == (5 : Int)))
end M
namespace M
noncomputable def i_taskOk (w : M.SAsync) (k : Int) : Option (Bool) :=
  bif (((((M.STask.Id (List.getD (M.SAsync.Tasks w) (Int.toNat k) M.STask.zero)) != (Go.IntKind.wrap Go.IntKind.i64 (k + (1 : Int)))) || (!((decide ((0 : Int) ≤ (M.STask.Prog (List.getD (M.SAsync.Tasks w) (Int.toNat k) M.STask.zero)))) && (decide ((M.STask.Prog (List.getD (M.SAsync.Tasks w) (Int.toNat k) M.STask.zero)) ≤ (Go.IntKind.wrap Go.IntKind.i64 (((List.length (M.SAsync.Progs w)) : Int) - (1 : Int)))))))) || (!((decide ((0 : Int) ≤ (M.STask.Parent (List.getD (M.SAsync.Tasks w) (Int.toNat k) M.STask.zero)))) && (decide ((M.STask.Parent (List.getD (M.SAsync.Tasks w) (Int.toNat k) M.STask.zero)) ≤ (Go.IntKind.wrap Go.IntKind.i64 ((M.STask.Id (List.getD (M.SAsync.Tasks w) (Int.toNat k) M.STask.zero)) - (1 : Int)))))))) || (!((decide ((1 : Int) ≤ (M.STask.Status (List.getD (M.SAsync.Tasks w) (Int.toNat k) M.STask.zero)))) && (decide ((M.STask.Status (List.getD (M.SAsync.Tasks w) (Int.toNat k) M.STask.zero)) ≤ (5 : Int)))))) then
    bif ((Go.V.inB k (List.length (M.SAsync.Tasks w))) && true) then
      some false
    else
      none
  else
    let q0 := (!(M.STask.Returned (List.getD (M.SAsync.Tasks w) (Int.toNat k) M.STask.zero)))
    let q1 := (((!((decide ((0 : Int) ≤ (M.STask.PC (List.getD (M.SAsync.Tasks w) (Int.toNat k) M.STask.zero)))) && (decide ((M.STask.PC (List.getD (M.SAsync.Tasks w) (Int.toNat k) M.STask.zero)) ≤ ((List.length (M.SProg.Ops (List.getD (M.SAsync.Progs w) (Int.toNat (M.STask.Prog (List.getD (M.SAsync.Tasks w) (Int.toNat k) M.STask.zero))) M.SProg.zero))) : Int))))) || (!((decide ((0 : Int) ≤ (M.STask.Result (List.getD (M.SAsync.Tasks w) (Int.toNat k) M.STask.zero)))) && (decide ((M.STask.Result (List.getD (M.SAsync.Tasks w) (Int.toNat k) M.STask.zero)) ≤ (999 : Int)))))) || (((M.STask.Result (List.getD (M.SAsync.Tasks w) (Int.toNat k) M.STask.zero)) != (0 : Int)) && q0))
    let q2 := (M.i_subsOk w (List.getD (M.SAsync.Tasks w) (Int.toNat k) M.STask.zero))
    bif (q1 || (!(Option.getD q2 Inhabited.default))) then
      let q3 := (((Option.isSome q2) || (!(q1 == false))) && ((Go.V.inB (M.STask.Prog (List.getD (M.SAsync.Tasks w) (Int.toNat k) M.STask.zero)) (List.length (M.SAsync.Progs w))) && ((Go.V.inB k (List.length (M.SAsync.Tasks w))) && true)))
      bif q3 then
        some false
      else
        none
    else
      bif ((M.STask.Told (List.getD (M.SAsync.Tasks w) (Int.toNat k) M.STask.zero)) && (!(((M.STask.Returned (List.getD (M.SAsync.Tasks w) (Int.toNat k) M.STask.zero)) || ((M.STask.Status (List.getD (M.SAsync.Tasks w) (Int.toNat k) M.STask.zero)) == (4 : Int))) || ((M.STask.Status (List.getD (M.SAsync.Tasks w) (Int.toNat k) M.STask.zero)) == (5 : Int))))) then
        let q3 := (((Option.isSome q2) || (!(q1 == false))) && ((Go.V.inB (M.STask.Prog (List.getD (M.SAsync.Tasks w) (Int.toNat k) M.STask.zero)) (List.length (M.SAsync.Progs w))) && ((Go.V.inB k (List.length (M.SAsync.Tasks w))) && true)))
        bif q3 then
          some false
        else
          none
      else
        bif ((M.STask.Status (List.getD (M.SAsync.Tasks w) (Int.toNat k) M.STask.zero)) == (1 : Int)) then
          let q3 := (((Option.isSome q2) || (!(q1 == false))) && ((Go.V.inB (M.STask.Prog (List.getD (M.SAsync.Tasks w) (Int.toNat k) M.STask.zero)) (List.length (M.SAsync.Progs w))) && ((Go.V.inB k (List.length (M.SAsync.Tasks w))) && true)))
          bif q3 then
            some (((((M.STask.PC (List.getD (M.SAsync.Tasks w) (Int.toNat k) M.STask.zero)) == (0 : Int)) && (((List.length (M.STask.Subs (List.getD (M.SAsync.Tasks w) (Int.toNat k) M.STask.zero))) : Int) == (0 : Int))) && q0) && (!(M.STask.Asked (List.getD (M.SAsync.Tasks w) (Int.toNat k) M.STask.zero))))
          else
            none
        else
          bif ((M.STask.Status (List.getD (M.SAsync.Tasks w) (Int.toNat k) M.STask.zero)) == (3 : Int)) then
            let q3 := (((Option.isSome q2) || (!(q1 == false))) && ((Go.V.inB (M.STask.Prog (List.getD (M.SAsync.Tasks w) (Int.toNat k) M.STask.zero)) (List.length (M.SAsync.Progs w))) && ((Go.V.inB k (List.length (M.SAsync.Tasks w))) && true)))
            bif q3 then
              some ((M.STask.Returned (List.getD (M.SAsync.Tasks w) (Int.toNat k) M.STask.zero)) && ((M.STask.PC (List.getD (M.SAsync.Tasks w) (Int.toNat k) M.STask.zero)) == ((List.length (M.SProg.Ops (List.getD (M.SAsync.Progs w) (Int.toNat (M.STask.Prog (List.getD (M.SAsync.Tasks w) (Int.toNat k) M.STask.zero))) M.SProg.zero))) : Int)))
            else
              none
          else
            let q3 := (((Option.isSome q2) || (!(q1 == false))) && ((Go.V.inB (M.STask.Prog (List.getD (M.SAsync.Tasks w) (Int.toNat k) M.STask.zero)) (List.length (M.SAsync.Progs w))) && ((Go.V.inB k (List.length (M.SAsync.Tasks w))) && true)))
            bif q3 then
              some (((M.STask.Status (List.getD (M.SAsync.Tasks w) (Int.toNat k) M.STask.zero)) != (4 : Int)) || q0)
            else
              none
end M
namespace M
noncomputable def i_AsyncOk_l0 (t33 : Int) (w : M.SAsync) : Nat → Int → Option ((Bool) ⊕ (M.SAsync))
  | 0, _ => none
  | fuel + 1, t34 =>
    bif (decide (t34 < t33)) then
      let q0 := (M.i_taskOk w t34)
      bif (!(Option.getD q0 Inhabited.default)) then
        bif ((Option.isSome q0) && true) then
          some (.inl false)
        else
          none
      else
        bif ((Option.isSome q0) && true) then
          M.i_AsyncOk_l0 t33 w fuel (Go.IntKind.wrap Go.IntKind.i64 (t34 + (1 : Int)))
        else
          none
    else
      some ((.inr (w)))
end M
namespace M
noncomputable def i_AsyncOk_l1 (t43 : (List Int)) (t44 : Int) (w : M.SAsync) : Nat → Int → Option ((Bool) ⊕ (Unit))
  | 0, _ => none
  | fuel + 1, t45 =>
    bif (decide (t45 < t44)) then
      let q0 := (!((decide ((1 : Int) ≤ (List.getD t43 (Int.toNat t45) (0 : Int)))) && (decide ((List.getD t43 (Int.toNat t45) (0 : Int)) ≤ (6 : Int)))))
      bif (q0 || ((decide ((0 : Int) < t45)) && (decide ((List.getD t43 (Int.toNat t45) (0 : Int)) ≤ (List.getD (M.SAsync.Back w) (Int.toNat (Go.IntKind.wrap Go.IntKind.i64 (t45 - (1 : Int)))) (0 : Int)))))) then
        let q1 := (((Go.V.inB (Go.IntKind.wrap Go.IntKind.i64 (t45 - (1 : Int))) (List.length (M.SAsync.Back w))) || (!((q0 == false) && ((decide ((0 : Int) < t45)) == true)))) && ((Go.V.inB t45 (List.length t43)) && true))
        bif q1 then
          some (.inl false)
        else
          none
      else
        let q1 := (((Go.V.inB (Go.IntKind.wrap Go.IntKind.i64 (t45 - (1 : Int))) (List.length (M.SAsync.Back w))) || (!((q0 == false) && ((decide ((0 : Int) < t45)) == true)))) && ((Go.V.inB t45 (List.length t43)) && true))
        bif q1 then
          M.i_AsyncOk_l1 t43 t44 w fuel (Go.IntKind.wrap Go.IntKind.i64 (t45 + (1 : Int)))
        else
          none
    else
      some ((.inr (())))
end M
namespace M
noncomputable def i_AsyncOk (w : M.SAsync) : Option (Bool) :=
  let q0 := (M.i_progsOk (M.SAsync.Progs w))
  let q1 := (((!(Option.getD q0 Inhabited.default)) || (decide ((4 : Int) < ((List.length (M.SAsync.Streams w)) : Int)))) || (decide ((8 : Int) < ((List.length (M.SAsync.Tasks w)) : Int))))
  let q2 := (M.i_notesOk (M.SAsync.Notes w))
  bif (q1 || (!(Option.getD q2 Inhabited.default))) then
    let q3 := (((Option.isSome q2) || (!(q1 == false))) && ((Option.isSome q0) && true))
    bif q3 then
      some false
    else
      none
  else
    let q3 := (M.slices_ContainsFunc_Stream_Stream (M.SAsync.Streams w))
    bif (Option.getD q3 Inhabited.default) then
      let q4 := (((Option.isSome q2) || (!(q1 == false))) && ((Option.isSome q0) && true))
      let q5 := ((Option.isSome q3) && q4)
      bif q5 then
        some false
      else
        none
    else
      match (M.i_AsyncOk_l0 ((List.length (M.SAsync.Tasks w)) : Int) w Go.V.bigN (0 : Int)) with
      | none => none
      | some y4 =>
        (match y4 with
        | .inl a5 =>
          let q6 := (((Option.isSome q2) || (!(q1 == false))) && ((Option.isSome q0) && true))
          let q7 := ((Option.isSome q3) && q6)
          bif q7 then
            some a5
          else
            none
        | .inr b5 =>
          match (M.i_AsyncOk_l1 (M.SAsync.Back b5) ((List.length (M.SAsync.Back b5)) : Int) b5 Go.V.bigN (0 : Int)) with
          | none => none
          | some y6 =>
            (match y6 with
            | .inl a7 =>
              let q8 := (((Option.isSome q2) || (!(q1 == false))) && ((Option.isSome q0) && true))
              let q9 := ((Option.isSome q3) && q8)
              bif q9 then
                some a7
              else
                none
            | .inr b7 =>
              let q8 := (((Option.isSome q2) || (!(q1 == false))) && ((Option.isSome q0) && true))
              let q9 := ((Option.isSome q3) && q8)
              bif q9 then
                some true
              else
                none))
end M
namespace M
noncomputable def l_eqAop (a : M.SAop) (b : M.SAop) : Option (Bool) :=
  bif ((M.SAop.Kind a) != (M.SAop.Kind b)) then
    some false
  else
    bif ((M.SAop.A a) != (M.SAop.A b)) then
      some false
    else
      bif ((M.SAop.B a) != (M.SAop.B b)) then
        some false
      else
        some true
end M
namespace M
noncomputable def l_eqAopS_l0 (a : (List M.SAop)) (b : (List M.SAop)) : Nat → Int → Option ((Bool) ⊕ (Unit))
  | 0, _ => none
  | fuel + 1, i =>
    bif (decide (i < ((List.length a) : Int))) then
      let q0 := (M.l_eqAop (List.getD a (Int.toNat i) M.SAop.zero) (List.getD b (Int.toNat i) M.SAop.zero))
      bif (!(Option.getD q0 Inhabited.default)) then
        let q1 := ((Option.isSome q0) && ((Go.V.inB i (List.length b)) && ((Go.V.inB i (List.length a)) && true)))
        bif q1 then
          some (.inl false)
        else
          none
      else
        let q1 := ((Option.isSome q0) && ((Go.V.inB i (List.length b)) && ((Go.V.inB i (List.length a)) && true)))
        bif q1 then
          M.l_eqAopS_l0 a b fuel (Go.IntKind.wrap Go.IntKind.i64 (i + (1 : Int)))
        else
          none
    else
      some ((.inr (())))
end M
namespace M
noncomputable def l_eqAopS (a : (List M.SAop)) (b : (List M.SAop)) : Option (Bool) :=
  bif (((List.length a) : Int) != ((List.length b) : Int)) then
    some false
  else
    match (M.l_eqAopS_l0 a b Go.V.bigN (0 : Int)) with
    | none => none
    | some y0 =>
      (match y0 with
      | .inl a1 =>
        some a1
      | .inr b1 =>
        some true)
end M
namespace M
noncomputable def l_eqProg (a : M.SProg) (b : M.SProg) : Option (Bool) :=
  bif ((M.SProg.Inst a) != (M.SProg.Inst b)) then
    some false
  else
    let q0 := (M.l_eqAopS (M.SProg.Ops a) (M.SProg.Ops b))
    bif (!(Option.getD q0 Inhabited.default)) then
      bif ((Option.isSome q0) && true) then
        some false
      else
        none
    else
      bif ((Option.isSome q0) && true) then
        some true
      else
        none
end M
namespace M
noncomputable def l_eqProgS_l0 (a : (List M.SProg)) (b : (List M.SProg)) : Nat → Int → Option ((Bool) ⊕ (Unit))
  | 0, _ => none
  | fuel + 1, i =>
    bif (decide (i < ((List.length a) : Int))) then
      let q0 := (M.l_eqProg (List.getD a (Int.toNat i) M.SProg.zero) (List.getD b (Int.toNat i) M.SProg.zero))
      bif (!(Option.getD q0 Inhabited.default)) then
        let q1 := ((Option.isSome q0) && ((Go.V.inB i (List.length b)) && ((Go.V.inB i (List.length a)) && true)))
        bif q1 then
          some (.inl false)
        else
          none
      else
        let q1 := ((Option.isSome q0) && ((Go.V.inB i (List.length b)) && ((Go.V.inB i (List.length a)) && true)))
        bif q1 then
          M.l_eqProgS_l0 a b fuel (Go.IntKind.wrap Go.IntKind.i64 (i + (1 : Int)))
        else
          none
    else
      some ((.inr (())))
end M
namespace M
noncomputable def l_eqProgS (a : (List M.SProg)) (b : (List M.SProg)) : Option (Bool) :=
  bif (((List.length a) : Int) != ((List.length b) : Int)) then
    some false
  else
    match (M.l_eqProgS_l0 a b Go.V.bigN (0 : Int)) with
    | none => none
    | some y0 =>
      (match y0 with
      | .inl a1 =>
        some a1
      | .inr b1 =>
        some true)
end M
namespace M
noncomputable def l_eqStream (a : M.SStream) (b : M.SStream) : Option (Bool) :=
  let q0 := (M.l_eqType (M.SType.re (M.SStream.Type_ a)) (M.SType.re (M.SStream.Type_ b)))
  bif (!(Option.getD q0 Inhabited.default)) then
    bif ((Option.isSome q0) && true) then
      some false
    else
      none
  else
    bif ((M.SStream.Room a) != (M.SStream.Room b)) then
      bif ((Option.isSome q0) && true) then
        some false
      else
        none
    else
      bif (!((M.SStream.Future a) == (M.SStream.Future b))) then
        bif ((Option.isSome q0) && true) then
          some false
        else
          none
      else
        let q1 := (M.l_eqValueS M.l_eqValue (M.SStream.Buffer a) (M.SStream.Buffer b))
        bif (!(Option.getD q1 Inhabited.default)) then
          let q2 := ((Option.isSome q1) && ((Option.isSome q0) && true))
          bif q2 then
            some false
          else
            none
        else
          bif ((M.SStream.Put a) != (M.SStream.Put b)) then
            let q2 := ((Option.isSome q1) && ((Option.isSome q0) && true))
            bif q2 then
              some false
            else
              none
          else
            bif ((M.SStream.Got a) != (M.SStream.Got b)) then
              let q2 := ((Option.isSome q1) && ((Option.isSome q0) && true))
              bif q2 then
                some false
              else
                none
            else
              bif (!((M.SStream.Shut a) == (M.SStream.Shut b))) then
                let q2 := ((Option.isSome q1) && ((Option.isSome q0) && true))
                bif q2 then
                  some false
                else
                  none
              else
                bif (!((M.SStream.Gone a) == (M.SStream.Gone b))) then
                  let q2 := ((Option.isSome q1) && ((Option.isSome q0) && true))
                  bif q2 then
                    some false
                  else
                    none
                else
                  let q2 := ((Option.isSome q1) && ((Option.isSome q0) && true))
                  bif q2 then
                    some true
                  else
                    none
end M
namespace M
noncomputable def l_eqStreamS_l0 (a : (List M.SStream)) (b : (List M.SStream)) : Nat → Int → Option ((Bool) ⊕ (Unit))
  | 0, _ => none
  | fuel + 1, i =>
    bif (decide (i < ((List.length a) : Int))) then
      let q0 := (M.l_eqStream (M.SStream.re (List.getD a (Int.toNat i) M.SStream.zero)) (M.SStream.re (List.getD b (Int.toNat i) M.SStream.zero)))
      bif (!(Option.getD q0 Inhabited.default)) then
        let q1 := ((Option.isSome q0) && ((Go.V.inB i (List.length b)) && ((Go.V.inB i (List.length a)) && true)))
        bif q1 then
          some (.inl false)
        else
          none
      else
        let q1 := ((Option.isSome q0) && ((Go.V.inB i (List.length b)) && ((Go.V.inB i (List.length a)) && true)))
        bif q1 then
          M.l_eqStreamS_l0 a b fuel (Go.IntKind.wrap Go.IntKind.i64 (i + (1 : Int)))
        else
          none
    else
      some ((.inr (())))
end M
namespace M
noncomputable def l_eqStreamS (a : (List M.SStream)) (b : (List M.SStream)) : Option (Bool) :=
  bif (((List.length a) : Int) != ((List.length b) : Int)) then
    some false
  else
    match (M.l_eqStreamS_l0 a b Go.V.bigN (0 : Int)) with
    | none => none
    | some y0 =>
      (match y0 with
      | .inl a1 =>
        some a1
      | .inr b1 =>
        some true)
end M
namespace M
noncomputable def l_eqInt64S_l0 (a : (List Int)) (b : (List Int)) : Nat → Int → Option ((Bool) ⊕ (Unit))
  | 0, _ => none
  | fuel + 1, i =>
    bif (decide (i < ((List.length a) : Int))) then
      bif ((List.getD a (Int.toNat i) (0 : Int)) != (List.getD b (Int.toNat i) (0 : Int))) then
        let q0 := ((Go.V.inB i (List.length b)) && ((Go.V.inB i (List.length a)) && true))
        bif q0 then
          some (.inl false)
        else
          none
      else
        let q0 := ((Go.V.inB i (List.length b)) && ((Go.V.inB i (List.length a)) && true))
        bif q0 then
          M.l_eqInt64S_l0 a b fuel (Go.IntKind.wrap Go.IntKind.i64 (i + (1 : Int)))
        else
          none
    else
      some ((.inr (())))
end M
namespace M
noncomputable def l_eqInt64S (a : (List Int)) (b : (List Int)) : Option (Bool) :=
  bif (((List.length a) : Int) != ((List.length b) : Int)) then
    some false
  else
    match (M.l_eqInt64S_l0 a b Go.V.bigN (0 : Int)) with
    | none => none
    | some y0 =>
      (match y0 with
      | .inl a1 =>
        some a1
      | .inr b1 =>
        some true)
end M
namespace M
noncomputable def l_eqTask (a : M.STask) (b : M.STask) : Option (Bool) :=
  bif ((M.STask.Id a) != (M.STask.Id b)) then
    some false
  else
    bif ((M.STask.Prog a) != (M.STask.Prog b)) then
      some false
    else
      bif ((M.STask.PC a) != (M.STask.PC b)) then
        some false
      else
        bif ((M.STask.Parent a) != (M.STask.Parent b)) then
          some false
        else
          bif ((M.STask.Status a) != (M.STask.Status b)) then
            some false
          else
            bif ((M.STask.Result a) != (M.STask.Result b)) then
              some false
            else
              bif (!((M.STask.Returned a) == (M.STask.Returned b))) then
                some false
              else
                bif (!((M.STask.Asked a) == (M.STask.Asked b))) then
                  some false
                else
                  bif (!((M.STask.Told a) == (M.STask.Told b))) then
                    some false
                  else
                    let q0 := (M.l_eqInt64S (M.STask.Subs a) (M.STask.Subs b))
                    bif (!(Option.getD q0 Inhabited.default)) then
                      bif ((Option.isSome q0) && true) then
                        some false
                      else
                        none
                    else
                      let q1 := (M.l_eqInt64S (M.STask.Set a) (M.STask.Set b))
                      bif (!(Option.getD q1 Inhabited.default)) then
                        bif ((Option.isSome q1) && ((Option.isSome q0) && true)) then
                          some false
                        else
                          none
                      else
                        bif ((Option.isSome q1) && ((Option.isSome q0) && true)) then
                          some true
                        else
                          none
end M
namespace M
noncomputable def l_eqTaskS_l0 (a : (List M.STask)) (b : (List M.STask)) : Nat → Int → Option ((Bool) ⊕ (Unit))
  | 0, _ => none
  | fuel + 1, i =>
    bif (decide (i < ((List.length a) : Int))) then
      let q0 := (M.l_eqTask (List.getD a (Int.toNat i) M.STask.zero) (List.getD b (Int.toNat i) M.STask.zero))
      bif (!(Option.getD q0 Inhabited.default)) then
        let q1 := ((Option.isSome q0) && ((Go.V.inB i (List.length b)) && ((Go.V.inB i (List.length a)) && true)))
        bif q1 then
          some (.inl false)
        else
          none
      else
        let q1 := ((Option.isSome q0) && ((Go.V.inB i (List.length b)) && ((Go.V.inB i (List.length a)) && true)))
        bif q1 then
          M.l_eqTaskS_l0 a b fuel (Go.IntKind.wrap Go.IntKind.i64 (i + (1 : Int)))
        else
          none
    else
      some ((.inr (())))
end M
namespace M
noncomputable def l_eqTaskS (a : (List M.STask)) (b : (List M.STask)) : Option (Bool) :=
  bif (((List.length a) : Int) != ((List.length b) : Int)) then
    some false
  else
    match (M.l_eqTaskS_l0 a b Go.V.bigN (0 : Int)) with
    | none => none
    | some y0 =>
      (match y0 with
      | .inl a1 =>
        some a1
      | .inr b1 =>
        some true)
end M
namespace M
noncomputable def l_eqNote (a : M.SNote) (b : M.SNote) : Option (Bool) :=
  bif ((M.SNote.Task a) != (M.SNote.Task b)) then
    some false
  else
    bif ((M.SNote.Kind a) != (M.SNote.Kind b)) then
      some false
    else
      bif ((M.SNote.A a) != (M.SNote.A b)) then
        some false
      else
        bif ((M.SNote.B a) != (M.SNote.B b)) then
          some false
        else
          some true
end M
namespace M
noncomputable def l_eqNoteS_l0 (a : (List M.SNote)) (b : (List M.SNote)) : Nat → Int → Option ((Bool) ⊕ (Unit))
  | 0, _ => none
  | fuel + 1, i =>
    bif (decide (i < ((List.length a) : Int))) then
      let q0 := (M.l_eqNote (List.getD a (Int.toNat i) M.SNote.zero) (List.getD b (Int.toNat i) M.SNote.zero))
      bif (!(Option.getD q0 Inhabited.default)) then
        let q1 := ((Option.isSome q0) && ((Go.V.inB i (List.length b)) && ((Go.V.inB i (List.length a)) && true)))
        bif q1 then
          some (.inl false)
        else
          none
      else
        let q1 := ((Option.isSome q0) && ((Go.V.inB i (List.length b)) && ((Go.V.inB i (List.length a)) && true)))
        bif q1 then
          M.l_eqNoteS_l0 a b fuel (Go.IntKind.wrap Go.IntKind.i64 (i + (1 : Int)))
        else
          none
    else
      some ((.inr (())))
end M
namespace M
noncomputable def l_eqNoteS (a : (List M.SNote)) (b : (List M.SNote)) : Option (Bool) :=
  bif (((List.length a) : Int) != ((List.length b) : Int)) then
    some false
  else
    match (M.l_eqNoteS_l0 a b Go.V.bigN (0 : Int)) with
    | none => none
    | some y0 =>
      (match y0 with
      | .inl a1 =>
        some a1
      | .inr b1 =>
        some true)
end M
namespace M
noncomputable def l_eqAsync (a : M.SAsync) (b : M.SAsync) : Option (Bool) :=
  let q0 := (M.l_eqProgS (M.SAsync.Progs a) (M.SAsync.Progs b))
  bif (!(Option.getD q0 Inhabited.default)) then
    bif ((Option.isSome q0) && true) then
      some false
    else
      none
  else
    let q1 := (M.l_eqStreamS (M.SAsync.Streams a) (M.SAsync.Streams b))
    bif (!(Option.getD q1 Inhabited.default)) then
      bif ((Option.isSome q1) && ((Option.isSome q0) && true)) then
        some false
      else
        none
    else
      let q2 := (M.l_eqTaskS (M.SAsync.Tasks a) (M.SAsync.Tasks b))
      bif (!(Option.getD q2 Inhabited.default)) then
        let q3 := ((Option.isSome q2) && ((Option.isSome q1) && ((Option.isSome q0) && true)))
        bif q3 then
          some false
        else
          none
      else
        let q3 := (M.l_eqInt64S (M.SAsync.Back a) (M.SAsync.Back b))
        bif (!(Option.getD q3 Inhabited.default)) then
          let q4 := ((Option.isSome q2) && ((Option.isSome q1) && ((Option.isSome q0) && true)))
          let q5 := ((Option.isSome q3) && q4)
          bif q5 then
            some false
          else
            none
        else
          let q4 := (M.l_eqNoteS (M.SAsync.Notes a) (M.SAsync.Notes b))
          bif (!(Option.getD q4 Inhabited.default)) then
            let q5 := ((Option.isSome q2) && ((Option.isSome q1) && ((Option.isSome q0) && true)))
            let q6 := ((Option.isSome q3) && q5)
            let q7 := ((Option.isSome q4) && q6)
            bif q7 then
              some false
            else
              none
          else
            let q5 := ((Option.isSome q2) && ((Option.isSome q1) && ((Option.isSome q0) && true)))
            let q6 := ((Option.isSome q3) && q5)
            let q7 := ((Option.isSome q4) && q6)
            bif q7 then
              some true
            else
              none
end M
namespace M
noncomputable def l_FnExactAsyncOk (aW : M.SAsync) : Option (Bool) :=
  let q0 := (M.l_szAsync aW (1048576 : Int))
  bif (decide ((Option.getD q0 Inhabited.default) < (0 : Int))) then
    bif ((Option.isSome q0) && true) then
      some true
    else
      none
  else
    let q1 := (M.l_toAsync aW)
    let q2 := (M.i_AsyncOk (Option.getD q1 Inhabited.default))
    let q3 := (M.s_AsyncOk (Option.getD q1 Inhabited.default))
    bif (!((Option.getD q2 Inhabited.default) == (Option.getD q3 Inhabited.default))) then
      let q4 := ((Option.isSome q2) && ((Option.isSome q1) && ((Option.isSome q3) && ((Option.isSome q1) && ((Option.isSome q0) && true)))))
      bif q4 then
        some false
      else
        none
    else
      let q4 := (M.l_eqAsync (Option.getD q1 Inhabited.default) (Option.getD q1 Inhabited.default))
      bif (!(Option.getD q4 Inhabited.default)) then
        let q5 := ((Option.isSome q2) && ((Option.isSome q1) && ((Option.isSome q3) && ((Option.isSome q1) && ((Option.isSome q0) && true)))))
        let q6 := ((Option.isSome q4) && ((Option.isSome q1) && q5))
        bif q6 then
          some false
        else
          none
      else
        let q5 := ((Option.isSome q2) && ((Option.isSome q1) && ((Option.isSome q3) && ((Option.isSome q1) && ((Option.isSome q0) && true)))))
        let q6 := ((Option.isSome q4) && ((Option.isSome q1) && q5))
        bif q6 then
          some true
        else
          none
end M
