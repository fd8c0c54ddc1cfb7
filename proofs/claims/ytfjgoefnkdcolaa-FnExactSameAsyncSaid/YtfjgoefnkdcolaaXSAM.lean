import Derived.Test.YtfjgoefnkdcolaaXVdata
set_option linter.unusedVariables false
set_option maxRecDepth 100000
namespace M
noncomputable def l_szStringS_l0 (a : (List (List UInt8))) : Nat → Int → Int → Option ((Int) ⊕ (Int))
  | 0, _, _ => none
  | fuel + 1, left, i =>
    bif (decide (i < ((List.length a) : Int))) then
      let q0 := (Go.IntKind.wrap Go.IntKind.i64 (left - ((List.length (List.getD a (Int.toNat i) [])) : Int)))
      bif (decide (q0 < (0 : Int))) then
        bif ((Go.V.inB i (List.length a)) && true) then
          some (.inl (-(1 : Int)))
        else
          none
      else
        bif ((Go.V.inB i (List.length a)) && true) then
          M.l_szStringS_l0 a fuel q0 (Go.IntKind.wrap Go.IntKind.i64 (i + (1 : Int)))
        else
          none
    else
      some ((.inr (left)))
end M
namespace M
noncomputable def l_szStringS (a : (List (List UInt8))) (left : Int) : Option (Int) :=
  bif (decide ((Go.IntKind.wrap Go.IntKind.i64 (left - ((List.length a) : Int))) < (0 : Int))) then
    some (-(1 : Int))
  else
    match (M.l_szStringS_l0 a Go.V.bigN (Go.IntKind.wrap Go.IntKind.i64 (left - ((List.length a) : Int))) (0 : Int)) with
    | none => none
    | some y0 =>
      (match y0 with
      | .inl a1 =>
        some a1
      | .inr b1 =>
        some b1)
end M
namespace M
noncomputable def l_szTypeS_l0 (rec_l_szType : M.SType → Int → Option (Int)) (a : (List M.SType)) : Nat → Int → Int → Option ((Int) ⊕ (Int))
  | 0, _, _ => none
  | fuel + 1, left, i =>
    bif (decide (i < ((List.length a) : Int))) then
      let q0 := (Option.getD (rec_l_szType (M.SType.re (List.getD a (Int.toNat i) M.SType.zero)) left) Inhabited.default)
      bif (decide (q0 < (0 : Int))) then
        let q1 := ((Option.isSome (rec_l_szType (M.SType.re (List.getD a (Int.toNat i) M.SType.zero)) left)) && ((Go.V.inB i (List.length a)) && true))
        bif q1 then
          some (.inl (-(1 : Int)))
        else
          none
      else
        let q1 := ((Option.isSome (rec_l_szType (M.SType.re (List.getD a (Int.toNat i) M.SType.zero)) left)) && ((Go.V.inB i (List.length a)) && true))
        bif q1 then
          M.l_szTypeS_l0 rec_l_szType a fuel q0 (Go.IntKind.wrap Go.IntKind.i64 (i + (1 : Int)))
        else
          none
    else
      some ((.inr (left)))
end M
namespace M
noncomputable def l_szTypeS (rec_l_szType : M.SType → Int → Option (Int)) (a : (List M.SType)) (left : Int) : Option (Int) :=
  bif (decide ((Go.IntKind.wrap Go.IntKind.i64 (left - ((List.length a) : Int))) < (0 : Int))) then
    some (-(1 : Int))
  else
    match (M.l_szTypeS_l0 rec_l_szType a Go.V.bigN (Go.IntKind.wrap Go.IntKind.i64 (left - ((List.length a) : Int))) (0 : Int)) with
    | none => none
    | some y0 =>
      (match y0 with
      | .inl a1 =>
        some a1
      | .inr b1 =>
        some b1)
end M
namespace M
noncomputable def l_szType_b (rec_l_szType : M.SType → Int → Option (Int)) (a : M.SType) (left : Int) : Option (Int) :=
  bif (decide ((Go.IntKind.wrap Go.IntKind.i64 (left - ((List.length (M.SType.Name a)) : Int))) < (0 : Int))) then
    some (-(1 : Int))
  else
    let q0 := (M.l_szStringS (M.SType.Labels a) (Go.IntKind.wrap Go.IntKind.i64 (left - ((List.length (M.SType.Name a)) : Int))))
    let q1 := (Option.getD q0 Inhabited.default)
    bif (decide (q1 < (0 : Int))) then
      let q2 := ((Option.isSome q0) && true)
      bif q2 then
        some (-(1 : Int))
      else
        none
    else
      let q2 := (M.l_szTypeS rec_l_szType (M.SType.Kids a) q1)
      let q3 := (Option.getD q2 Inhabited.default)
      bif (decide (q3 < (0 : Int))) then
        let q4 := ((Option.isSome q0) && true)
        let q5 := ((Option.isSome q2) && q4)
        bif q5 then
          some (-(1 : Int))
        else
          none
      else
        let q4 := ((Option.isSome q0) && true)
        let q5 := ((Option.isSome q2) && q4)
        bif q5 then
          some q3
        else
          none
noncomputable def l_szType_n : Nat → M.SType → Int → Option (Int)
  | 0 => fun _ _ => none
  | n + 1 => l_szType_b (l_szType_n n)
noncomputable def l_szType : M.SType → Int → Option (Int) := l_szType_n Go.V.bigN
end M
namespace M
noncomputable def l_toStringS_l0 (a : (List (List UInt8))) : Nat → Int → (List (List UInt8)) → Option ((List (List UInt8)))
  | 0, _, _ => none
  | fuel + 1, i, out =>
    bif (decide (i < ((List.length a) : Int))) then
      bif ((Go.V.inB i (List.length out)) && ((Go.V.inB i (List.length a)) && true)) then
        M.l_toStringS_l0 a fuel (Go.IntKind.wrap Go.IntKind.i64 (i + (1 : Int))) (List.set out (Int.toNat i) (List.getD a (Int.toNat i) []))
      else
        none
    else
      some (out)
end M
namespace M
noncomputable def l_toStringS (a : (List (List UInt8))) : Option ((List (List UInt8))) :=
  match (M.l_toStringS_l0 a Go.V.bigN (0 : Int) (List.replicate (Int.toNat ((List.length a) : Int)) [])) with
  | none => none
  | some y0 =>
    bif (((decide (((List.length a) : Int) ≤ ((List.length a) : Int))) && (decide (((List.length a) : Int) ≤ (1073741824 : Int)))) && true) then
      some y0
    else
      none
end M
namespace M
noncomputable def l_toTypeS_l0 (rec_l_toType : M.SType → Option (M.SType)) (a : (List M.SType)) : Nat → Int → (List M.SType) → Option ((List M.SType))
  | 0, _, _ => none
  | fuel + 1, i, out =>
    bif (decide (i < ((List.length a) : Int))) then
      bif ((Go.V.inB i (List.length out)) && ((Option.isSome (rec_l_toType (M.SType.re (List.getD a (Int.toNat i) M.SType.zero)))) && ((Go.V.inB i (List.length a)) && true))) then
        M.l_toTypeS_l0 rec_l_toType a fuel (Go.IntKind.wrap Go.IntKind.i64 (i + (1 : Int))) (List.set out (Int.toNat i) (M.SType.re (Option.getD (rec_l_toType (M.SType.re (List.getD a (Int.toNat i) M.SType.zero))) Inhabited.default)))
      else
        none
    else
      some (out)
end M
namespace M
noncomputable def l_toTypeS (rec_l_toType : M.SType → Option (M.SType)) (a : (List M.SType)) : Option ((List M.SType)) :=
  match (M.l_toTypeS_l0 rec_l_toType a Go.V.bigN (0 : Int) (List.replicate (Int.toNat ((List.length a) : Int)) (M.SType.mk (0 : Int) [] [] []))) with
  | none => none
  | some y0 =>
    bif (((decide (((List.length a) : Int) ≤ ((List.length a) : Int))) && (decide (((List.length a) : Int) ≤ (1073741824 : Int)))) && true) then
      some y0
    else
      none
end M
namespace M
noncomputable def l_toType_b (rec_l_toType : M.SType → Option (M.SType)) (a : M.SType) : Option (M.SType) :=
  let q0 := (M.l_toTypeS rec_l_toType (M.SType.Kids a))
  let q1 := (M.l_toStringS (M.SType.Labels a))
  bif ((Option.isSome q0) && ((Option.isSome q1) && true)) then
    some (M.SType.mk (M.SType.Kind a) (M.SType.Name a) (Option.getD q1 Inhabited.default) (Option.getD q0 Inhabited.default))
  else
    none
noncomputable def l_toType_n : Nat → M.SType → Option (M.SType)
  | 0 => fun _ => none
  | n + 1 => l_toType_b (l_toType_n n)
noncomputable def l_toType : M.SType → Option (M.SType) := l_toType_n Go.V.bigN
end M
namespace M
noncomputable def l_eqStringS_l0 (a : (List (List UInt8))) (b : (List (List UInt8))) : Nat → Int → Option ((Bool) ⊕ (Unit))
  | 0, _ => none
  | fuel + 1, i =>
    bif (decide (i < ((List.length a) : Int))) then
      bif (!((List.getD a (Int.toNat i) []) == (List.getD b (Int.toNat i) []))) then
        let q0 := ((Go.V.inB i (List.length b)) && ((Go.V.inB i (List.length a)) && true))
        bif q0 then
          some (.inl false)
        else
          none
      else
        let q0 := ((Go.V.inB i (List.length b)) && ((Go.V.inB i (List.length a)) && true))
        bif q0 then
          M.l_eqStringS_l0 a b fuel (Go.IntKind.wrap Go.IntKind.i64 (i + (1 : Int)))
        else
          none
    else
      some ((.inr (())))
end M
namespace M
noncomputable def l_eqStringS (a : (List (List UInt8))) (b : (List (List UInt8))) : Option (Bool) :=
  bif (((List.length a) : Int) != ((List.length b) : Int)) then
    some false
  else
    match (M.l_eqStringS_l0 a b Go.V.bigN (0 : Int)) with
    | none => none
    | some y0 =>
      (match y0 with
      | .inl a1 =>
        some a1
      | .inr b1 =>
        some true)
end M
namespace M
noncomputable def l_eqTypeS_l0 (rec_l_eqType : M.SType → M.SType → Option (Bool)) (a : (List M.SType)) (b : (List M.SType)) : Nat → Int → Option ((Bool) ⊕ (Unit))
  | 0, _ => none
  | fuel + 1, i =>
    bif (decide (i < ((List.length a) : Int))) then
      bif (!(Option.getD (rec_l_eqType (M.SType.re (List.getD a (Int.toNat i) M.SType.zero)) (M.SType.re (List.getD b (Int.toNat i) M.SType.zero))) Inhabited.default)) then
        let q0 := ((Option.isSome (rec_l_eqType (M.SType.re (List.getD a (Int.toNat i) M.SType.zero)) (M.SType.re (List.getD b (Int.toNat i) M.SType.zero)))) && ((Go.V.inB i (List.length b)) && ((Go.V.inB i (List.length a)) && true)))
        bif q0 then
          some (.inl false)
        else
          none
      else
        let q0 := ((Option.isSome (rec_l_eqType (M.SType.re (List.getD a (Int.toNat i) M.SType.zero)) (M.SType.re (List.getD b (Int.toNat i) M.SType.zero)))) && ((Go.V.inB i (List.length b)) && ((Go.V.inB i (List.length a)) && true)))
        bif q0 then
          M.l_eqTypeS_l0 rec_l_eqType a b fuel (Go.IntKind.wrap Go.IntKind.i64 (i + (1 : Int)))
        else
          none
    else
      some ((.inr (())))
end M
namespace M
noncomputable def l_eqTypeS (rec_l_eqType : M.SType → M.SType → Option (Bool)) (a : (List M.SType)) (b : (List M.SType)) : Option (Bool) :=
  bif (((List.length a) : Int) != ((List.length b) : Int)) then
    some false
  else
    match (M.l_eqTypeS_l0 rec_l_eqType a b Go.V.bigN (0 : Int)) with
    | none => none
    | some y0 =>
      (match y0 with
      | .inl a1 =>
        some a1
      | .inr b1 =>
        some true)
end M
namespace M
noncomputable def l_eqType_b (rec_l_eqType : M.SType → M.SType → Option (Bool)) (a : M.SType) (b : M.SType) : Option (Bool) :=
  bif ((M.SType.Kind a) != (M.SType.Kind b)) then
    some false
  else
    bif (!((M.SType.Name a) == (M.SType.Name b))) then
      some false
    else
      let q0 := (M.l_eqStringS (M.SType.Labels a) (M.SType.Labels b))
      bif (!(Option.getD q0 Inhabited.default)) then
        bif ((Option.isSome q0) && true) then
          some false
        else
          none
      else
        let q1 := (M.l_eqTypeS rec_l_eqType (M.SType.Kids a) (M.SType.Kids b))
        bif (!(Option.getD q1 Inhabited.default)) then
          bif ((Option.isSome q1) && ((Option.isSome q0) && true)) then
            some false
          else
            none
        else
          bif ((Option.isSome q1) && ((Option.isSome q0) && true)) then
            some true
          else
            none
noncomputable def l_eqType_n : Nat → M.SType → M.SType → Option (Bool)
  | 0 => fun _ _ => none
  | n + 1 => l_eqType_b (l_eqType_n n)
noncomputable def l_eqType : M.SType → M.SType → Option (Bool) := l_eqType_n Go.V.bigN
end M
namespace M
noncomputable def l_szValueS_l0 (rec_l_szValue : M.SValue → Int → Option (Int)) (a : (List M.SValue)) : Nat → Int → Int → Option ((Int) ⊕ (Int))
  | 0, _, _ => none
  | fuel + 1, left, i =>
    bif (decide (i < ((List.length a) : Int))) then
      let q0 := (Option.getD (rec_l_szValue (M.SValue.re (List.getD a (Int.toNat i) M.SValue.zero)) left) Inhabited.default)
      bif (decide (q0 < (0 : Int))) then
        let q1 := ((Option.isSome (rec_l_szValue (M.SValue.re (List.getD a (Int.toNat i) M.SValue.zero)) left)) && ((Go.V.inB i (List.length a)) && true))
        bif q1 then
          some (.inl (-(1 : Int)))
        else
          none
      else
        let q1 := ((Option.isSome (rec_l_szValue (M.SValue.re (List.getD a (Int.toNat i) M.SValue.zero)) left)) && ((Go.V.inB i (List.length a)) && true))
        bif q1 then
          M.l_szValueS_l0 rec_l_szValue a fuel q0 (Go.IntKind.wrap Go.IntKind.i64 (i + (1 : Int)))
        else
          none
    else
      some ((.inr (left)))
end M
namespace M
noncomputable def l_szValueS (rec_l_szValue : M.SValue → Int → Option (Int)) (a : (List M.SValue)) (left : Int) : Option (Int) :=
  bif (decide ((Go.IntKind.wrap Go.IntKind.i64 (left - ((List.length a) : Int))) < (0 : Int))) then
    some (-(1 : Int))
  else
    match (M.l_szValueS_l0 rec_l_szValue a Go.V.bigN (Go.IntKind.wrap Go.IntKind.i64 (left - ((List.length a) : Int))) (0 : Int)) with
    | none => none
    | some y0 =>
      (match y0 with
      | .inl a1 =>
        some a1
      | .inr b1 =>
        some b1)
end M
namespace M
noncomputable def l_szValue_b (rec_l_szValue : M.SValue → Int → Option (Int)) (a : M.SValue) (left : Int) : Option (Int) :=
  bif (decide ((Go.IntKind.wrap Go.IntKind.i64 (left - ((List.length (M.SValue.Text a)) : Int))) < (0 : Int))) then
    some (-(1 : Int))
  else
    let q0 := (M.l_szValueS rec_l_szValue (M.SValue.Kids a) (Go.IntKind.wrap Go.IntKind.i64 (left - ((List.length (M.SValue.Text a)) : Int))))
    let q1 := (Option.getD q0 Inhabited.default)
    bif (decide (q1 < (0 : Int))) then
      let q2 := ((Option.isSome q0) && true)
      bif q2 then
        some (-(1 : Int))
      else
        none
    else
      let q2 := ((Option.isSome q0) && true)
      bif q2 then
        some q1
      else
        none
noncomputable def l_szValue_n : Nat → M.SValue → Int → Option (Int)
  | 0 => fun _ _ => none
  | n + 1 => l_szValue_b (l_szValue_n n)
noncomputable def l_szValue : M.SValue → Int → Option (Int) := l_szValue_n Go.V.bigN
end M
namespace M
noncomputable def l_toValueS_l0 (rec_l_toValue : M.SValue → Option (M.SValue)) (a : (List M.SValue)) : Nat → Int → (List M.SValue) → Option ((List M.SValue))
  | 0, _, _ => none
  | fuel + 1, i, out =>
    bif (decide (i < ((List.length a) : Int))) then
      bif ((Go.V.inB i (List.length out)) && ((Option.isSome (rec_l_toValue (M.SValue.re (List.getD a (Int.toNat i) M.SValue.zero)))) && ((Go.V.inB i (List.length a)) && true))) then
        M.l_toValueS_l0 rec_l_toValue a fuel (Go.IntKind.wrap Go.IntKind.i64 (i + (1 : Int))) (List.set out (Int.toNat i) (M.SValue.re (Option.getD (rec_l_toValue (M.SValue.re (List.getD a (Int.toNat i) M.SValue.zero))) Inhabited.default)))
      else
        none
    else
      some (out)
end M
namespace M
noncomputable def l_toValueS (rec_l_toValue : M.SValue → Option (M.SValue)) (a : (List M.SValue)) : Option ((List M.SValue)) :=
  match (M.l_toValueS_l0 rec_l_toValue a Go.V.bigN (0 : Int) (List.replicate (Int.toNat ((List.length a) : Int)) (M.SValue.mk (0 : Int) (0 : Int) [] []))) with
  | none => none
  | some y0 =>
    bif (((decide (((List.length a) : Int) ≤ ((List.length a) : Int))) && (decide (((List.length a) : Int) ≤ (1073741824 : Int)))) && true) then
      some y0
    else
      none
end M
namespace M
noncomputable def l_toValue_b (rec_l_toValue : M.SValue → Option (M.SValue)) (a : M.SValue) : Option (M.SValue) :=
  let q0 := (M.l_toValueS rec_l_toValue (M.SValue.Kids a))
  bif ((Option.isSome q0) && true) then
    some (M.SValue.mk (M.SValue.Kind a) (M.SValue.Num a) (M.SValue.Text a) (Option.getD q0 Inhabited.default))
  else
    none
noncomputable def l_toValue_n : Nat → M.SValue → Option (M.SValue)
  | 0 => fun _ => none
  | n + 1 => l_toValue_b (l_toValue_n n)
noncomputable def l_toValue : M.SValue → Option (M.SValue) := l_toValue_n Go.V.bigN
end M
namespace M
noncomputable def l_eqValueS_l0 (rec_l_eqValue : M.SValue → M.SValue → Option (Bool)) (a : (List M.SValue)) (b : (List M.SValue)) : Nat → Int → Option ((Bool) ⊕ (Unit))
  | 0, _ => none
  | fuel + 1, i =>
    bif (decide (i < ((List.length a) : Int))) then
      bif (!(Option.getD (rec_l_eqValue (M.SValue.re (List.getD a (Int.toNat i) M.SValue.zero)) (M.SValue.re (List.getD b (Int.toNat i) M.SValue.zero))) Inhabited.default)) then
        let q0 := ((Option.isSome (rec_l_eqValue (M.SValue.re (List.getD a (Int.toNat i) M.SValue.zero)) (M.SValue.re (List.getD b (Int.toNat i) M.SValue.zero)))) && ((Go.V.inB i (List.length b)) && ((Go.V.inB i (List.length a)) && true)))
        bif q0 then
          some (.inl false)
        else
          none
      else
        let q0 := ((Option.isSome (rec_l_eqValue (M.SValue.re (List.getD a (Int.toNat i) M.SValue.zero)) (M.SValue.re (List.getD b (Int.toNat i) M.SValue.zero)))) && ((Go.V.inB i (List.length b)) && ((Go.V.inB i (List.length a)) && true)))
        bif q0 then
          M.l_eqValueS_l0 rec_l_eqValue a b fuel (Go.IntKind.wrap Go.IntKind.i64 (i + (1 : Int)))
        else
          none
    else
      some ((.inr (())))
end M
namespace M
noncomputable def l_eqValueS (rec_l_eqValue : M.SValue → M.SValue → Option (Bool)) (a : (List M.SValue)) (b : (List M.SValue)) : Option (Bool) :=
  bif (((List.length a) : Int) != ((List.length b) : Int)) then
    some false
  else
    match (M.l_eqValueS_l0 rec_l_eqValue a b Go.V.bigN (0 : Int)) with
    | none => none
    | some y0 =>
      (match y0 with
      | .inl a1 =>
        some a1
      | .inr b1 =>
        some true)
end M
namespace M
noncomputable def l_eqValue_b (rec_l_eqValue : M.SValue → M.SValue → Option (Bool)) (a : M.SValue) (b : M.SValue) : Option (Bool) :=
  bif ((M.SValue.Kind a) != (M.SValue.Kind b)) then
    some false
  else
    bif ((M.SValue.Num a) != (M.SValue.Num b)) then
      some false
    else
      bif (!((M.SValue.Text a) == (M.SValue.Text b))) then
        some false
      else
        let q0 := (M.l_eqValueS rec_l_eqValue (M.SValue.Kids a) (M.SValue.Kids b))
        bif (!(Option.getD q0 Inhabited.default)) then
          bif ((Option.isSome q0) && true) then
            some false
          else
            none
        else
          bif ((Option.isSome q0) && true) then
            some true
          else
            none
noncomputable def l_eqValue_n : Nat → M.SValue → M.SValue → Option (Bool)
  | 0 => fun _ _ => none
  | n + 1 => l_eqValue_b (l_eqValue_n n)
noncomputable def l_eqValue : M.SValue → M.SValue → Option (Bool) := l_eqValue_n Go.V.bigN
end M
namespace M
noncomputable def s_l03Texts_l0 (a : (List (List UInt8))) (b : (List (List UInt8))) : Nat → Int → Option ((Bool) ⊕ (Unit))
  | 0, _ => none
  | fuel + 1, i =>
    bif (decide (i < ((List.length a) : Int))) then
      bif (!((List.getD a (Int.toNat i) []) == (List.getD b (Int.toNat i) []))) then
        let q0 := ((Go.V.inB i (List.length b)) && ((Go.V.inB i (List.length a)) && true))
        bif q0 then
          some (.inl false)
        else
          none
      else
        let q0 := ((Go.V.inB i (List.length b)) && ((Go.V.inB i (List.length a)) && true))
        bif q0 then
          M.s_l03Texts_l0 a b fuel (Go.IntKind.wrap Go.IntKind.i64 (i + (1 : Int)))
        else
          none
    else
      some ((.inr (())))
end M
namespace M
noncomputable def s_l03Texts (a : (List (List UInt8))) (b : (List (List UInt8))) : Option (Bool) :=
  bif (((List.length a) : Int) != ((List.length b) : Int)) then
    some false
  else
    match (M.s_l03Texts_l0 a b Go.V.bigN (0 : Int)) with
    | none => none
    | some y0 =>
      (match y0 with
      | .inl a1 =>
        some a1
      | .inr b1 =>
        some true)
end M
namespace M
noncomputable def s_l03Same_l0 (rec_s_l03Same : M.SType → M.SType → Int → Option (Bool)) (deep : Int) : Nat → Int → M.SType → M.SType → Option ((Bool) ⊕ (Unit))
  | 0, _, _, _ => none
  | fuel + 1, i, a, b =>
    bif (decide (i < ((List.length (M.SType.Kids a)) : Int))) then
      bif (!(Option.getD (rec_s_l03Same (M.SType.re (List.getD (M.SType.Kids a) (Int.toNat i) M.SType.zero)) (M.SType.re (List.getD (M.SType.Kids b) (Int.toNat i) M.SType.zero)) (Go.IntKind.wrap Go.IntKind.i64 (deep + (1 : Int)))) Inhabited.default)) then
        let q0 := ((Option.isSome (rec_s_l03Same (M.SType.re (List.getD (M.SType.Kids a) (Int.toNat i) M.SType.zero)) (M.SType.re (List.getD (M.SType.Kids b) (Int.toNat i) M.SType.zero)) (Go.IntKind.wrap Go.IntKind.i64 (deep + (1 : Int))))) && ((Go.V.inB i (List.length (M.SType.Kids b))) && ((Go.V.inB i (List.length (M.SType.Kids a))) && true)))
        bif q0 then
          some (.inl false)
        else
          none
      else
        let q0 := ((Option.isSome (rec_s_l03Same (M.SType.re (List.getD (M.SType.Kids a) (Int.toNat i) M.SType.zero)) (M.SType.re (List.getD (M.SType.Kids b) (Int.toNat i) M.SType.zero)) (Go.IntKind.wrap Go.IntKind.i64 (deep + (1 : Int))))) && ((Go.V.inB i (List.length (M.SType.Kids b))) && ((Go.V.inB i (List.length (M.SType.Kids a))) && true)))
        bif q0 then
          M.s_l03Same_l0 rec_s_l03Same deep fuel (Go.IntKind.wrap Go.IntKind.i64 (i + (1 : Int))) (M.SType.re a) (M.SType.re b)
        else
          none
    else
      some ((.inr (())))
end M
namespace M
noncomputable def s_l03Same_b (rec_s_l03Same : M.SType → M.SType → Int → Option (Bool)) (a : M.SType) (b : M.SType) (deep : Int) : Option (Bool) :=
  let q0 := (((decide ((100 : Int) < deep)) || ((M.SType.Kind a) != (M.SType.Kind b))) || (!((M.SType.Name a) == (M.SType.Name b))))
  let q1 := (M.s_l03Texts (M.SType.Labels a) (M.SType.Labels b))
  bif ((q0 || (!(Option.getD q1 Inhabited.default))) || (((List.length (M.SType.Kids a)) : Int) != ((List.length (M.SType.Kids b)) : Int))) then
    let q2 := (((Option.isSome q1) || (!(q0 == false))) && true)
    bif q2 then
      some false
    else
      none
  else
    match (M.s_l03Same_l0 rec_s_l03Same deep Go.V.bigN (0 : Int) (M.SType.re a) (M.SType.re b)) with
    | none => none
    | some y2 =>
      (match y2 with
      | .inl a3 =>
        let q4 := (((Option.isSome q1) || (!(q0 == false))) && true)
        bif q4 then
          some a3
        else
          none
      | .inr b3 =>
        let q4 := (((Option.isSome q1) || (!(q0 == false))) && true)
        bif q4 then
          some true
        else
          none)
noncomputable def s_l03Same_n : Nat → M.SType → M.SType → Int → Option (Bool)
  | 0 => fun _ _ _ => none
  | n + 1 => s_l03Same_b (s_l03Same_n n)
noncomputable def s_l03Same : M.SType → M.SType → Int → Option (Bool) := s_l03Same_n Go.V.bigN
end M
namespace M
noncomputable def s_SameValue_l0 (rec_s_SameValue : M.SValue → M.SValue → Option (Bool)) : Nat → Int → M.SValue → M.SValue → Option ((Bool) ⊕ (Unit))
  | 0, _, _, _ => none
  | fuel + 1, i, a, b =>
    bif (decide (i < ((List.length (M.SValue.Kids a)) : Int))) then
      bif (!(Option.getD (rec_s_SameValue (M.SValue.re (List.getD (M.SValue.Kids a) (Int.toNat i) M.SValue.zero)) (M.SValue.re (List.getD (M.SValue.Kids b) (Int.toNat i) M.SValue.zero))) Inhabited.default)) then
        let q0 := ((Option.isSome (rec_s_SameValue (M.SValue.re (List.getD (M.SValue.Kids a) (Int.toNat i) M.SValue.zero)) (M.SValue.re (List.getD (M.SValue.Kids b) (Int.toNat i) M.SValue.zero)))) && ((Go.V.inB i (List.length (M.SValue.Kids b))) && ((Go.V.inB i (List.length (M.SValue.Kids a))) && true)))
        bif q0 then
          some (.inl false)
        else
          none
      else
        let q0 := ((Option.isSome (rec_s_SameValue (M.SValue.re (List.getD (M.SValue.Kids a) (Int.toNat i) M.SValue.zero)) (M.SValue.re (List.getD (M.SValue.Kids b) (Int.toNat i) M.SValue.zero)))) && ((Go.V.inB i (List.length (M.SValue.Kids b))) && ((Go.V.inB i (List.length (M.SValue.Kids a))) && true)))
        bif q0 then
          M.s_SameValue_l0 rec_s_SameValue fuel (Go.IntKind.wrap Go.IntKind.i64 (i + (1 : Int))) (M.SValue.re a) (M.SValue.re b)
        else
          none
    else
      some ((.inr (())))
end M
namespace M
noncomputable def s_SameValue_b (rec_s_SameValue : M.SValue → M.SValue → Option (Bool)) (a : M.SValue) (b : M.SValue) : Option (Bool) :=
  bif (((((M.SValue.Kind a) != (M.SValue.Kind b)) || ((M.SValue.Num a) != (M.SValue.Num b))) || (!((M.SValue.Text a) == (M.SValue.Text b)))) || (((List.length (M.SValue.Kids a)) : Int) != ((List.length (M.SValue.Kids b)) : Int))) then
    some false
  else
    match (M.s_SameValue_l0 rec_s_SameValue Go.V.bigN (0 : Int) (M.SValue.re a) (M.SValue.re b)) with
    | none => none
    | some y0 =>
      (match y0 with
      | .inl a1 =>
        some a1
      | .inr b1 =>
        some true)
noncomputable def s_SameValue_n : Nat → M.SValue → M.SValue → Option (Bool)
  | 0 => fun _ _ => none
  | n + 1 => s_SameValue_b (s_SameValue_n n)
noncomputable def s_SameValue : M.SValue → M.SValue → Option (Bool) := s_SameValue_n Go.V.bigN
end M
namespace M
noncomputable def slices_Equal_string_string_l0 (s1 : (List (List UInt8))) (s2 : (List (List UInt8))) (t12 : Int) : Nat → Int → Option ((Bool) ⊕ (Unit))
  | 0, _ => none
  | fuel + 1, t13 =>
    bif (decide (t13 < t12)) then
      bif (!((List.getD s1 (Int.toNat t13) []) == (List.getD s2 (Int.toNat t13) []))) then
        let q0 := ((Go.V.inB t13 (List.length s2)) && ((Go.V.inB t13 (List.length s1)) && true))
        bif q0 then
          some (.inl false)
        else
          none
      else
        let q0 := ((Go.V.inB t13 (List.length s2)) && ((Go.V.inB t13 (List.length s1)) && true))
        bif q0 then
          M.slices_Equal_string_string_l0 s1 s2 t12 fuel (Go.IntKind.wrap Go.IntKind.i64 (t13 + (1 : Int)))
        else
          none
    else
      some ((.inr (())))
end M
namespace M
noncomputable def slices_Equal_string_string (s1 : (List (List UInt8))) (s2 : (List (List UInt8))) : Option (Bool) :=
  bif (((List.length s1) : Int) != ((List.length s2) : Int)) then
    some false
  else
    match (M.slices_Equal_string_string_l0 s1 s2 ((List.length s1) : Int) Go.V.bigN (0 : Int)) with
    | none => none
    | some y0 =>
      (match y0 with
      | .inl a1 =>
        some a1
      | .inr b1 =>
        some true)
end M
namespace M
noncomputable def i_sameType_c1 (rec_i_sameType : M.SType → M.SType → Int → Option (Bool)) (x : M.SType) (y_ : M.SType) (t2 : Int) : Option (Bool) :=
  bif ((Option.isSome (rec_i_sameType (M.SType.re x) (M.SType.re y_) (Go.IntKind.wrap Go.IntKind.i64 (t2 - (1 : Int))))) && true) then
    some (Option.getD (rec_i_sameType (M.SType.re x) (M.SType.re y_) (Go.IntKind.wrap Go.IntKind.i64 (t2 - (1 : Int)))) Inhabited.default)
  else
    none
end M
namespace M
noncomputable def slices_EqualFunc_Type_Type_Type_Type_l0 (rec_i_sameType : M.SType → M.SType → Int → Option (Bool)) (s2 : (List M.SType)) (eq : Int) (t15 : (List M.SType)) (t16 : Int) : Nat → Int → Option ((Bool) ⊕ (Unit))
  | 0, _ => none
  | fuel + 1, t17 =>
    bif (decide (t17 < t16)) then
      let q0 := (M.i_sameType_c1 rec_i_sameType (M.SType.re (List.getD t15 (Int.toNat t17) M.SType.zero)) (M.SType.re (List.getD s2 (Int.toNat t17) M.SType.zero)) eq)
      bif (!(Option.getD q0 Inhabited.default)) then
        let q1 := ((Option.isSome q0) && ((Go.V.inB t17 (List.length s2)) && ((Go.V.inB t17 (List.length t15)) && true)))
        bif q1 then
          some (.inl false)
        else
          none
      else
        let q1 := ((Option.isSome q0) && ((Go.V.inB t17 (List.length s2)) && ((Go.V.inB t17 (List.length t15)) && true)))
        bif q1 then
          M.slices_EqualFunc_Type_Type_Type_Type_l0 rec_i_sameType s2 eq t15 t16 fuel (Go.IntKind.wrap Go.IntKind.i64 (t17 + (1 : Int)))
        else
          none
    else
      some ((.inr (())))
end M
namespace M
noncomputable def slices_EqualFunc_Type_Type_Type_Type (rec_i_sameType : M.SType → M.SType → Int → Option (Bool)) (s1 : (List M.SType)) (s2 : (List M.SType)) (eq : Int) : Option (Bool) :=
  bif (((List.length s1) : Int) != ((List.length s2) : Int)) then
    some false
  else
    match (M.slices_EqualFunc_Type_Type_Type_Type_l0 rec_i_sameType s2 eq s1 ((List.length s1) : Int) Go.V.bigN (0 : Int)) with
    | none => none
    | some y0 =>
      (match y0 with
      | .inl a1 =>
        some a1
      | .inr b1 =>
        some true)
end M
namespace M
noncomputable def i_sameType_b (rec_i_sameType : M.SType → M.SType → Int → Option (Bool)) (a : M.SType) (b : M.SType) (levels : Int) : Option (Bool) :=
  let q0 := (((levels == (0 : Int)) || ((M.SType.Kind a) != (M.SType.Kind b))) || (!((M.SType.Name a) == (M.SType.Name b))))
  let q1 := (M.slices_Equal_string_string (M.SType.Labels a) (M.SType.Labels b))
  bif (q0 || (!(Option.getD q1 Inhabited.default))) then
    let q2 := (((Option.isSome q1) || (!(q0 == false))) && true)
    bif q2 then
      some false
    else
      none
  else
    let q2 := (M.slices_EqualFunc_Type_Type_Type_Type rec_i_sameType (M.SType.Kids a) (M.SType.Kids b) levels)
    let q3 := (((Option.isSome q1) || (!(q0 == false))) && true)
    bif ((Option.isSome q2) && q3) then
      some (Option.getD q2 Inhabited.default)
    else
      none
noncomputable def i_sameType_n : Nat → M.SType → M.SType → Int → Option (Bool)
  | 0 => fun _ _ _ => none
  | n + 1 => i_sameType_b (i_sameType_n n)
noncomputable def i_sameType : M.SType → M.SType → Int → Option (Bool) := i_sameType_n Go.V.bigN
end M
namespace M
noncomputable def slices_EqualFunc_Value_Value_Value_Value_l0 (rec_i_SameValue : M.SValue → M.SValue → Option (Bool)) (s2 : (List M.SValue)) (t15 : (List M.SValue)) (t16 : Int) : Nat → Int → Option ((Bool) ⊕ (Unit))
  | 0, _ => none
  | fuel + 1, t17 =>
    bif (decide (t17 < t16)) then
      bif (!(Option.getD (rec_i_SameValue (M.SValue.re (List.getD t15 (Int.toNat t17) M.SValue.zero)) (M.SValue.re (List.getD s2 (Int.toNat t17) M.SValue.zero))) Inhabited.default)) then
        let q0 := ((Option.isSome (rec_i_SameValue (M.SValue.re (List.getD t15 (Int.toNat t17) M.SValue.zero)) (M.SValue.re (List.getD s2 (Int.toNat t17) M.SValue.zero)))) && ((Go.V.inB t17 (List.length s2)) && ((Go.V.inB t17 (List.length t15)) && true)))
        bif q0 then
          some (.inl false)
        else
          none
      else
        let q0 := ((Option.isSome (rec_i_SameValue (M.SValue.re (List.getD t15 (Int.toNat t17) M.SValue.zero)) (M.SValue.re (List.getD s2 (Int.toNat t17) M.SValue.zero)))) && ((Go.V.inB t17 (List.length s2)) && ((Go.V.inB t17 (List.length t15)) && true)))
        bif q0 then
          M.slices_EqualFunc_Value_Value_Value_Value_l0 rec_i_SameValue s2 t15 t16 fuel (Go.IntKind.wrap Go.IntKind.i64 (t17 + (1 : Int)))
        else
          none
    else
      some ((.inr (())))
end M
namespace M
noncomputable def slices_EqualFunc_Value_Value_Value_Value (rec_i_SameValue : M.SValue → M.SValue → Option (Bool)) (s1 : (List M.SValue)) (s2 : (List M.SValue)) : Option (Bool) :=
  bif (((List.length s1) : Int) != ((List.length s2) : Int)) then
    some false
  else
    match (M.slices_EqualFunc_Value_Value_Value_Value_l0 rec_i_SameValue s2 s1 ((List.length s1) : Int) Go.V.bigN (0 : Int)) with
    | none => none
    | some y0 =>
      (match y0 with
      | .inl a1 =>
        some a1
      | .inr b1 =>
        some true)
end M
namespace M
noncomputable def i_SameValue_b (rec_i_SameValue : M.SValue → M.SValue → Option (Bool)) (a : M.SValue) (b : M.SValue) : Option (Bool) :=
  let q0 := (M.slices_EqualFunc_Value_Value_Value_Value rec_i_SameValue (M.SValue.Kids a) (M.SValue.Kids b))
  let q1 := ((((M.SValue.Kind a) == (M.SValue.Kind b)) && ((M.SValue.Num a) == (M.SValue.Num b))) && ((M.SValue.Text a) == (M.SValue.Text b)))
  bif (((Option.isSome q0) || (!(q1 == true))) && true) then
    some (q1 && (Option.getD q0 Inhabited.default))
  else
    none
noncomputable def i_SameValue_n : Nat → M.SValue → M.SValue → Option (Bool)
  | 0 => fun _ _ => none
  | n + 1 => i_SameValue_b (i_SameValue_n n)
noncomputable def i_SameValue : M.SValue → M.SValue → Option (Bool) := i_SameValue_n Go.V.bigN
end M
namespace M
noncomputable def l_szAopS (a : (List M.SAop)) (left : Int) : Option (Int) :=
  bif (decide ((Go.IntKind.wrap Go.IntKind.i64 (left - ((List.length a) : Int))) < (0 : Int))) then
    some (-(1 : Int))
  else
    some (Go.IntKind.wrap Go.IntKind.i64 (left - ((List.length a) : Int)))
end M
namespace M
noncomputable def l_szProg (a : M.SProg) (left : Int) : Option (Int) :=
  let q0 := (M.l_szAopS (M.SProg.Ops a) left)
  bif (decide ((Option.getD q0 Inhabited.default) < (0 : Int))) then
    bif ((Option.isSome q0) && true) then
      some (-(1 : Int))
    else
      none
  else
    bif ((Option.isSome q0) && true) then
      some (Option.getD q0 Inhabited.default)
    else
      none
end M
namespace M
noncomputable def l_szProgS_l0 (a : (List M.SProg)) : Nat → Int → Int → Option ((Int) ⊕ (Int))
  | 0, _, _ => none
  | fuel + 1, left, i =>
    bif (decide (i < ((List.length a) : Int))) then
      let q0 := (M.l_szProg (List.getD a (Int.toNat i) M.SProg.zero) left)
      let q1 := (Option.getD q0 Inhabited.default)
      bif (decide (q1 < (0 : Int))) then
        let q2 := ((Option.isSome q0) && ((Go.V.inB i (List.length a)) && true))
        bif q2 then
          some (.inl (-(1 : Int)))
        else
          none
      else
        let q2 := ((Option.isSome q0) && ((Go.V.inB i (List.length a)) && true))
        bif q2 then
          M.l_szProgS_l0 a fuel q1 (Go.IntKind.wrap Go.IntKind.i64 (i + (1 : Int)))
        else
          none
    else
      some ((.inr (left)))
end M
namespace M
noncomputable def l_szProgS (a : (List M.SProg)) (left : Int) : Option (Int) :=
  bif (decide ((Go.IntKind.wrap Go.IntKind.i64 (left - ((List.length a) : Int))) < (0 : Int))) then
    some (-(1 : Int))
  else
    match (M.l_szProgS_l0 a Go.V.bigN (Go.IntKind.wrap Go.IntKind.i64 (left - ((List.length a) : Int))) (0 : Int)) with
    | none => none
    | some y0 =>
      (match y0 with
      | .inl a1 =>
        some a1
      | .inr b1 =>
        some b1)
end M
namespace M
noncomputable def l_szStream (a : M.SStream) (left : Int) : Option (Int) :=
  let q0 := (M.l_szType (M.SType.re (M.SStream.Type_ a)) left)
  bif (decide ((Option.getD q0 Inhabited.default) < (0 : Int))) then
    bif ((Option.isSome q0) && true) then
      some (-(1 : Int))
    else
      none
  else
    let q1 := (M.l_szValueS M.l_szValue (M.SStream.Buffer a) (Option.getD q0 Inhabited.default))
    let q2 := (Option.getD q1 Inhabited.default)
    bif (decide (q2 < (0 : Int))) then
      let q3 := ((Option.isSome q1) && ((Option.isSome q0) && true))
      bif q3 then
        some (-(1 : Int))
      else
        none
    else
      let q3 := ((Option.isSome q1) && ((Option.isSome q0) && true))
      bif q3 then
        some q2
      else
        none
end M
namespace M
noncomputable def l_szStreamS_l0 (a : (List M.SStream)) : Nat → Int → Int → Option ((Int) ⊕ (Int))
  | 0, _, _ => none
  | fuel + 1, left, i =>
    bif (decide (i < ((List.length a) : Int))) then
      let q0 := (M.l_szStream (M.SStream.re (List.getD a (Int.toNat i) M.SStream.zero)) left)
      let q1 := (Option.getD q0 Inhabited.default)
      bif (decide (q1 < (0 : Int))) then
        let q2 := ((Option.isSome q0) && ((Go.V.inB i (List.length a)) && true))
        bif q2 then
          some (.inl (-(1 : Int)))
        else
          none
      else
        let q2 := ((Option.isSome q0) && ((Go.V.inB i (List.length a)) && true))
        bif q2 then
          M.l_szStreamS_l0 a fuel q1 (Go.IntKind.wrap Go.IntKind.i64 (i + (1 : Int)))
        else
          none
    else
      some ((.inr (left)))
end M
namespace M
noncomputable def l_szStreamS (a : (List M.SStream)) (left : Int) : Option (Int) :=
  bif (decide ((Go.IntKind.wrap Go.IntKind.i64 (left - ((List.length a) : Int))) < (0 : Int))) then
    some (-(1 : Int))
  else
    match (M.l_szStreamS_l0 a Go.V.bigN (Go.IntKind.wrap Go.IntKind.i64 (left - ((List.length a) : Int))) (0 : Int)) with
    | none => none
    | some y0 =>
      (match y0 with
      | .inl a1 =>
        some a1
      | .inr b1 =>
        some b1)
end M
namespace M
def l_szInt64S (a : (List Int)) (left : Int) : Option (Int) :=
  bif (decide ((Go.IntKind.wrap Go.IntKind.i64 (left - ((List.length a) : Int))) < (0 : Int))) then
    some (-(1 : Int))
  else
    some (Go.IntKind.wrap Go.IntKind.i64 (left - ((List.length a) : Int)))
end M
namespace M
noncomputable def l_szTask (a : M.STask) (left : Int) : Option (Int) :=
  let q0 := (M.l_szInt64S (M.STask.Subs a) left)
  bif (decide ((Option.getD q0 Inhabited.default) < (0 : Int))) then
    bif ((Option.isSome q0) && true) then
      some (-(1 : Int))
    else
      none
  else
    let q1 := (M.l_szInt64S (M.STask.Set a) (Option.getD q0 Inhabited.default))
    let q2 := (Option.getD q1 Inhabited.default)
    bif (decide (q2 < (0 : Int))) then
      let q3 := ((Option.isSome q1) && ((Option.isSome q0) && true))
      bif q3 then
        some (-(1 : Int))
      else
        none
    else
      let q3 := ((Option.isSome q1) && ((Option.isSome q0) && true))
      bif q3 then
        some q2
      else
        none
end M
namespace M
noncomputable def l_szTaskS_l0 (a : (List M.STask)) : Nat → Int → Int → Option ((Int) ⊕ (Int))
  | 0, _, _ => none
  | fuel + 1, left, i =>
    bif (decide (i < ((List.length a) : Int))) then
      let q0 := (M.l_szTask (List.getD a (Int.toNat i) M.STask.zero) left)
      let q1 := (Option.getD q0 Inhabited.default)
      bif (decide (q1 < (0 : Int))) then
        let q2 := ((Option.isSome q0) && ((Go.V.inB i (List.length a)) && true))
        bif q2 then
          some (.inl (-(1 : Int)))
        else
          none
      else
        let q2 := ((Option.isSome q0) && ((Go.V.inB i (List.length a)) && true))
        bif q2 then
          M.l_szTaskS_l0 a fuel q1 (Go.IntKind.wrap Go.IntKind.i64 (i + (1 : Int)))
        else
          none
    else
      some ((.inr (left)))
end M
namespace M
noncomputable def l_szTaskS (a : (List M.STask)) (left : Int) : Option (Int) :=
  bif (decide ((Go.IntKind.wrap Go.IntKind.i64 (left - ((List.length a) : Int))) < (0 : Int))) then
    some (-(1 : Int))
  else
    match (M.l_szTaskS_l0 a Go.V.bigN (Go.IntKind.wrap Go.IntKind.i64 (left - ((List.length a) : Int))) (0 : Int)) with
    | none => none
    | some y0 =>
      (match y0 with
      | .inl a1 =>
        some a1
      | .inr b1 =>
        some b1)
end M
namespace M
noncomputable def l_szNoteS (a : (List M.SNote)) (left : Int) : Option (Int) :=
  bif (decide ((Go.IntKind.wrap Go.IntKind.i64 (left - ((List.length a) : Int))) < (0 : Int))) then
    some (-(1 : Int))
  else
    some (Go.IntKind.wrap Go.IntKind.i64 (left - ((List.length a) : Int)))
end M
namespace M
noncomputable def l_szAsync (a : M.SAsync) (left : Int) : Option (Int) :=
  let q0 := (M.l_szProgS (M.SAsync.Progs a) left)
  bif (decide ((Option.getD q0 Inhabited.default) < (0 : Int))) then
    bif ((Option.isSome q0) && true) then
      some (-(1 : Int))
    else
      none
  else
    let q1 := (M.l_szStreamS (M.SAsync.Streams a) (Option.getD q0 Inhabited.default))
    let q2 := (Option.getD q1 Inhabited.default)
    bif (decide (q2 < (0 : Int))) then
      let q3 := ((Option.isSome q1) && ((Option.isSome q0) && true))
      bif q3 then
        some (-(1 : Int))
      else
        none
    else
      let q3 := (M.l_szTaskS (M.SAsync.Tasks a) q2)
      let q4 := (Option.getD q3 Inhabited.default)
      bif (decide (q4 < (0 : Int))) then
        let q5 := ((Option.isSome q1) && ((Option.isSome q0) && true))
        let q6 := ((Option.isSome q3) && q5)
        bif q6 then
          some (-(1 : Int))
        else
          none
      else
        let q5 := (M.l_szInt64S (M.SAsync.Back a) q4)
        let q6 := (Option.getD q5 Inhabited.default)
        bif (decide (q6 < (0 : Int))) then
          let q7 := ((Option.isSome q1) && ((Option.isSome q0) && true))
          let q8 := ((Option.isSome q3) && q7)
          let q9 := ((Option.isSome q5) && q8)
          bif q9 then
            some (-(1 : Int))
          else
            none
        else
          let q7 := (M.l_szNoteS (M.SAsync.Notes a) q6)
          let q8 := (Option.getD q7 Inhabited.default)
          bif (decide (q8 < (0 : Int))) then
            let q9 := ((Option.isSome q1) && ((Option.isSome q0) && true))
            let q10 := ((Option.isSome q3) && q9)
            let q11 := ((Option.isSome q5) && q10)
            let q12 := ((Option.isSome q7) && q11)
            bif q12 then
              some (-(1 : Int))
            else
              none
          else
            let q9 := ((Option.isSome q1) && ((Option.isSome q0) && true))
            let q10 := ((Option.isSome q3) && q9)
            let q11 := ((Option.isSome q5) && q10)
            let q12 := ((Option.isSome q7) && q11)
            bif q12 then
              some q8
            else
              none
end M
namespace M
noncomputable def l_toAop (a : M.SAop) : Option (M.SAop) :=
  some a
end M
namespace M
noncomputable def l_toAopS_l0 (a : (List M.SAop)) : Nat → Int → (List M.SAop) → Option ((List M.SAop))
  | 0, _, _ => none
  | fuel + 1, i, out =>
    bif (decide (i < ((List.length a) : Int))) then
      bif ((Go.V.inB i (List.length out)) && ((Go.V.inB i (List.length a)) && true)) then
        M.l_toAopS_l0 a fuel (Go.IntKind.wrap Go.IntKind.i64 (i + (1 : Int))) (List.set out (Int.toNat i) (List.getD a (Int.toNat i) M.SAop.zero))
      else
        none
    else
      some (out)
end M
namespace M
noncomputable def l_toAopS (a : (List M.SAop)) : Option ((List M.SAop)) :=
  match (M.l_toAopS_l0 a Go.V.bigN (0 : Int) (List.replicate (Int.toNat ((List.length a) : Int)) (M.SAop.mk (0 : Int) (0 : Int) (0 : Int)))) with
  | none => none
  | some y0 =>
    bif (((decide (((List.length a) : Int) ≤ ((List.length a) : Int))) && (decide (((List.length a) : Int) ≤ (1073741824 : Int)))) && true) then
      some y0
    else
      none
end M
namespace M
noncomputable def l_toProg (a : M.SProg) : Option (M.SProg) :=
  let q0 := (M.l_toAopS (M.SProg.Ops a))
  bif ((Option.isSome q0) && true) then
    some (M.SProg.mk (M.SProg.Inst a) (Option.getD q0 Inhabited.default))
  else
    none
end M
namespace M
noncomputable def l_toProgS_l0 (a : (List M.SProg)) : Nat → Int → (List M.SProg) → Option ((List M.SProg))
  | 0, _, _ => none
  | fuel + 1, i, out =>
    bif (decide (i < ((List.length a) : Int))) then
      let q0 := (M.l_toProg (List.getD a (Int.toNat i) M.SProg.zero))
      bif ((Go.V.inB i (List.length out)) && ((Option.isSome q0) && ((Go.V.inB i (List.length a)) && true))) then
        M.l_toProgS_l0 a fuel (Go.IntKind.wrap Go.IntKind.i64 (i + (1 : Int))) (List.set out (Int.toNat i) (Option.getD q0 Inhabited.default))
      else
        none
    else
      some (out)
end M
namespace M
noncomputable def l_toProgS (a : (List M.SProg)) : Option ((List M.SProg)) :=
  match (M.l_toProgS_l0 a Go.V.bigN (0 : Int) (List.replicate (Int.toNat ((List.length a) : Int)) (M.SProg.mk (0 : Int) []))) with
  | none => none
  | some y0 =>
    bif (((decide (((List.length a) : Int) ≤ ((List.length a) : Int))) && (decide (((List.length a) : Int) ≤ (1073741824 : Int)))) && true) then
      some y0
    else
      none
end M
namespace M
noncomputable def l_toStream (a : M.SStream) : Option (M.SStream) :=
  let q0 := (M.l_toValueS M.l_toValue (M.SStream.Buffer a))
  let q1 := (M.l_toType (M.SType.re (M.SStream.Type_ a)))
  bif ((Option.isSome q0) && ((Option.isSome q1) && true)) then
    some (M.SStream.mk (M.SType.re (Option.getD q1 Inhabited.default)) (M.SStream.Room a) (M.SStream.Future a) (Option.getD q0 Inhabited.default) (M.SStream.Put a) (M.SStream.Got a) (M.SStream.Shut a) (M.SStream.Gone a))
  else
    none
end M
namespace M
noncomputable def l_toStreamS_l0 (a : (List M.SStream)) : Nat → Int → (List M.SStream) → Option ((List M.SStream))
  | 0, _, _ => none
  | fuel + 1, i, out =>
    bif (decide (i < ((List.length a) : Int))) then
      let q0 := (M.l_toStream (M.SStream.re (List.getD a (Int.toNat i) M.SStream.zero)))
      bif ((Go.V.inB i (List.length out)) && ((Option.isSome q0) && ((Go.V.inB i (List.length a)) && true))) then
        M.l_toStreamS_l0 a fuel (Go.IntKind.wrap Go.IntKind.i64 (i + (1 : Int))) (List.set out (Int.toNat i) (M.SStream.re (Option.getD q0 Inhabited.default)))
      else
        none
    else
      some (out)
end M
namespace M
noncomputable def l_toStreamS (a : (List M.SStream)) : Option ((List M.SStream)) :=
  match (M.l_toStreamS_l0 a Go.V.bigN (0 : Int) (List.replicate (Int.toNat ((List.length a) : Int)) (M.SStream.mk (M.SType.mk (0 : Int) [] [] []) (0 : Int) false [] (0 : Int) (0 : Int) false false))) with
  | none => none
  | some y0 =>
    bif (((decide (((List.length a) : Int) ≤ ((List.length a) : Int))) && (decide (((List.length a) : Int) ≤ (1073741824 : Int)))) && true) then
      some y0
    else
      none
end M
namespace M
noncomputable def l_toInt64S_l0 (a : (List Int)) : Nat → Int → (List Int) → Option ((List Int))
  | 0, _, _ => none
  | fuel + 1, i, out =>
    bif (decide (i < ((List.length a) : Int))) then
      bif ((Go.V.inB i (List.length out)) && ((Go.V.inB i (List.length a)) && true)) then
        M.l_toInt64S_l0 a fuel (Go.IntKind.wrap Go.IntKind.i64 (i + (1 : Int))) (List.set out (Int.toNat i) (List.getD a (Int.toNat i) (0 : Int)))
      else
        none
    else
      some (out)
end M
namespace M
noncomputable def l_toInt64S (a : (List Int)) : Option ((List Int)) :=
  match (M.l_toInt64S_l0 a Go.V.bigN (0 : Int) (List.replicate (Int.toNat ((List.length a) : Int)) (0 : Int))) with
  | none => none
  | some y0 =>
    bif (((decide (((List.length a) : Int) ≤ ((List.length a) : Int))) && (decide (((List.length a) : Int) ≤ (1073741824 : Int)))) && true) then
      some y0
    else
      none
end M
namespace M
noncomputable def l_toTask (a : M.STask) : Option (M.STask) :=
  let q0 := (M.l_toInt64S (M.STask.Set a))
  let q1 := (M.l_toInt64S (M.STask.Subs a))
  bif ((Option.isSome q0) && ((Option.isSome q1) && true)) then
    some (M.STask.mk (M.STask.Id a) (M.STask.Prog a) (M.STask.PC a) (M.STask.Parent a) (M.STask.Status a) (M.STask.Result a) (M.STask.Returned a) (M.STask.Asked a) (M.STask.Told a) (Option.getD q1 Inhabited.default) (Option.getD q0 Inhabited.default))
  else
    none
end M
namespace M
noncomputable def l_toTaskS_l0 (a : (List M.STask)) : Nat → Int → (List M.STask) → Option ((List M.STask))
  | 0, _, _ => none
  | fuel + 1, i, out =>
    bif (decide (i < ((List.length a) : Int))) then
      let q0 := (M.l_toTask (List.getD a (Int.toNat i) M.STask.zero))
      bif ((Go.V.inB i (List.length out)) && ((Option.isSome q0) && ((Go.V.inB i (List.length a)) && true))) then
        M.l_toTaskS_l0 a fuel (Go.IntKind.wrap Go.IntKind.i64 (i + (1 : Int))) (List.set out (Int.toNat i) (Option.getD q0 Inhabited.default))
      else
        none
    else
      some (out)
end M
namespace M
noncomputable def l_toTaskS (a : (List M.STask)) : Option ((List M.STask)) :=
  match (M.l_toTaskS_l0 a Go.V.bigN (0 : Int) (List.replicate (Int.toNat ((List.length a) : Int)) (M.STask.mk (0 : Int) (0 : Int) (0 : Int) (0 : Int) (0 : Int) (0 : Int) false false false [] []))) with
  | none => none
  | some y0 =>
    bif (((decide (((List.length a) : Int) ≤ ((List.length a) : Int))) && (decide (((List.length a) : Int) ≤ (1073741824 : Int)))) && true) then
      some y0
    else
      none
end M
namespace M
noncomputable def l_toNote (a : M.SNote) : Option (M.SNote) :=
  some a
end M
namespace M
noncomputable def l_toNoteS_l0 (a : (List M.SNote)) : Nat → Int → (List M.SNote) → Option ((List M.SNote))
  | 0, _, _ => none
  | fuel + 1, i, out =>
    bif (decide (i < ((List.length a) : Int))) then
      bif ((Go.V.inB i (List.length out)) && ((Go.V.inB i (List.length a)) && true)) then
        M.l_toNoteS_l0 a fuel (Go.IntKind.wrap Go.IntKind.i64 (i + (1 : Int))) (List.set out (Int.toNat i) (List.getD a (Int.toNat i) M.SNote.zero))
      else
        none
    else
      some (out)
end M
namespace M
noncomputable def l_toNoteS (a : (List M.SNote)) : Option ((List M.SNote)) :=
  match (M.l_toNoteS_l0 a Go.V.bigN (0 : Int) (List.replicate (Int.toNat ((List.length a) : Int)) (M.SNote.mk (0 : Int) (0 : Int) (0 : Int) (0 : Int)))) with
  | none => none
  | some y0 =>
    bif (((decide (((List.length a) : Int) ≤ ((List.length a) : Int))) && (decide (((List.length a) : Int) ≤ (1073741824 : Int)))) && true) then
      some y0
    else
      none
end M
namespace M
noncomputable def l_toAsync (a : M.SAsync) : Option (M.SAsync) :=
  let q0 := (M.l_toNoteS (M.SAsync.Notes a))
  let q1 := (M.l_toInt64S (M.SAsync.Back a))
  let q2 := (M.l_toTaskS (M.SAsync.Tasks a))
  let q3 := (M.l_toStreamS (M.SAsync.Streams a))
  let q4 := (M.l_toProgS (M.SAsync.Progs a))
  bif ((Option.isSome q0) && ((Option.isSome q1) && ((Option.isSome q2) && ((Option.isSome q3) && ((Option.isSome q4) && true))))) then
    some (M.SAsync.mk (Option.getD q4 Inhabited.default) (Option.getD q3 Inhabited.default) (Option.getD q2 Inhabited.default) (Option.getD q1 Inhabited.default) (Option.getD q0 Inhabited.default))
  else
    none
end M
namespace M
noncomputable def s_l00Same_l0 (a : (List Int)) (b : (List Int)) : Nat → Int → Option ((Bool) ⊕ (Unit))
  | 0, _ => none
  | fuel + 1, i =>
    bif (decide (i < ((List.length a) : Int))) then
      bif ((List.getD a (Int.toNat i) (0 : Int)) != (List.getD b (Int.toNat i) (0 : Int))) then
        let q0 := ((Go.V.inB i (List.length b)) && ((Go.V.inB i (List.length a)) && true))
        bif q0 then
          some (.inl false)
        else
          none
      else
        let q0 := ((Go.V.inB i (List.length b)) && ((Go.V.inB i (List.length a)) && true))
        bif q0 then
          M.s_l00Same_l0 a b fuel (Go.IntKind.wrap Go.IntKind.i64 (i + (1 : Int)))
        else
          none
    else
      some ((.inr (())))
end M
namespace M
noncomputable def s_l00Same (a : (List Int)) (b : (List Int)) : Option (Bool) :=
  bif (((List.length a) : Int) != ((List.length b) : Int)) then
    some false
  else
    match (M.s_l00Same_l0 a b Go.V.bigN (0 : Int)) with
    | none => none
    | some y0 =>
      (match y0 with
      | .inl a1 =>
        some a1
      | .inr b1 =>
        some true)
end M
namespace M
noncomputable def s_l22SameProg_l0 (a : M.SProg) (b : M.SProg) : Nat → Int → Option ((Bool) ⊕ (Unit))
  | 0, _ => none
  | fuel + 1, i =>
    bif (decide (i < ((List.length (M.SProg.Ops a)) : Int))) then
      bif (!(((M.SAop.Kind (List.getD (M.SProg.Ops a) (Int.toNat i) M.SAop.zero)) == (M.SAop.Kind (List.getD (M.SProg.Ops b) (Int.toNat i) M.SAop.zero))) && (((M.SAop.A (List.getD (M.SProg.Ops a) (Int.toNat i) M.SAop.zero)) == (M.SAop.A (List.getD (M.SProg.Ops b) (Int.toNat i) M.SAop.zero))) && (((M.SAop.B (List.getD (M.SProg.Ops a) (Int.toNat i) M.SAop.zero)) == (M.SAop.B (List.getD (M.SProg.Ops b) (Int.toNat i) M.SAop.zero))) && true)))) then
        let q0 := ((Go.V.inB i (List.length (M.SProg.Ops b))) && ((Go.V.inB i (List.length (M.SProg.Ops a))) && true))
        bif q0 then
          some (.inl false)
        else
          none
      else
        let q0 := ((Go.V.inB i (List.length (M.SProg.Ops b))) && ((Go.V.inB i (List.length (M.SProg.Ops a))) && true))
        bif q0 then
          M.s_l22SameProg_l0 a b fuel (Go.IntKind.wrap Go.IntKind.i64 (i + (1 : Int)))
        else
          none
    else
      some ((.inr (())))
end M
namespace M
noncomputable def s_l22SameProg (a : M.SProg) (b : M.SProg) : Option (Bool) :=
  bif (((M.SProg.Inst a) != (M.SProg.Inst b)) || (((List.length (M.SProg.Ops a)) : Int) != ((List.length (M.SProg.Ops b)) : Int))) then
    some false
  else
    match (M.s_l22SameProg_l0 a b Go.V.bigN (0 : Int)) with
    | none => none
    | some y0 =>
      (match y0 with
      | .inl a1 =>
        some a1
      | .inr b1 =>
        some true)
end M
namespace M
noncomputable def s_SameAsync_l0 (a : M.SAsync) (b : M.SAsync) : Nat → Int → Option ((Bool) ⊕ (M.SAsync × M.SAsync))
  | 0, _ => none
  | fuel + 1, i =>
    bif (decide (i < ((List.length (M.SAsync.Progs a)) : Int))) then
      let q0 := (M.s_l22SameProg (List.getD (M.SAsync.Progs a) (Int.toNat i) M.SProg.zero) (List.getD (M.SAsync.Progs b) (Int.toNat i) M.SProg.zero))
      bif (!(Option.getD q0 Inhabited.default)) then
        let q1 := ((Option.isSome q0) && ((Go.V.inB i (List.length (M.SAsync.Progs b))) && ((Go.V.inB i (List.length (M.SAsync.Progs a))) && true)))
        bif q1 then
          some (.inl false)
        else
          none
      else
        let q1 := ((Option.isSome q0) && ((Go.V.inB i (List.length (M.SAsync.Progs b))) && ((Go.V.inB i (List.length (M.SAsync.Progs a))) && true)))
        bif q1 then
          M.s_SameAsync_l0 a b fuel (Go.IntKind.wrap Go.IntKind.i64 (i + (1 : Int)))
        else
          none
    else
      some ((.inr ((a, b))))
end M
namespace M
noncomputable def s_SameType (a : M.SType) (b : M.SType) : Option (Bool) :=
  let q0 := (M.s_l03Same (M.SType.re a) (M.SType.re b) (1 : Int))
  bif ((Option.isSome q0) && true) then
    some (Option.getD q0 Inhabited.default)
  else
    none
end M
namespace M
noncomputable def s_l21SameValues_l0 (a : (List M.SValue)) (b : (List M.SValue)) : Nat → Int → Option ((Bool) ⊕ (Unit))
  | 0, _ => none
  | fuel + 1, i =>
    bif (decide (i < ((List.length a) : Int))) then
      let q0 := (M.s_SameValue (M.SValue.re (List.getD a (Int.toNat i) M.SValue.zero)) (M.SValue.re (List.getD b (Int.toNat i) M.SValue.zero)))
      bif (!(Option.getD q0 Inhabited.default)) then
        let q1 := ((Option.isSome q0) && ((Go.V.inB i (List.length b)) && ((Go.V.inB i (List.length a)) && true)))
        bif q1 then
          some (.inl false)
        else
          none
      else
        let q1 := ((Option.isSome q0) && ((Go.V.inB i (List.length b)) && ((Go.V.inB i (List.length a)) && true)))
        bif q1 then
          M.s_l21SameValues_l0 a b fuel (Go.IntKind.wrap Go.IntKind.i64 (i + (1 : Int)))
        else
          none
    else
      some ((.inr (())))
end M
namespace M
noncomputable def s_l21SameValues (a : (List M.SValue)) (b : (List M.SValue)) : Option (Bool) :=
  bif (((List.length a) : Int) != ((List.length b) : Int)) then
    some false
  else
    match (M.s_l21SameValues_l0 a b Go.V.bigN (0 : Int)) with
    | none => none
    | some y0 =>
      (match y0 with
      | .inl a1 =>
        some a1
      | .inr b1 =>
        some true)
end M
namespace M
noncomputable def s_SameStream (a : M.SStream) (b : M.SStream) : Option (Bool) :=
  let q0 := (M.s_l21SameValues (M.SStream.Buffer a) (M.SStream.Buffer b))
  let q1 := (M.s_SameType (M.SType.re (M.SStream.Type_ a)) (M.SType.re (M.SStream.Type_ b)))
  let q2 := (((Option.getD q1 Inhabited.default) && ((M.SStream.Room a) == (M.SStream.Room b))) && ((M.SStream.Future a) == (M.SStream.Future b)))
  bif (((Option.isSome q0) || (!(q2 == true))) && ((Option.isSome q1) && true)) then
    some (((((q2 && (Option.getD q0 Inhabited.default)) && ((M.SStream.Put a) == (M.SStream.Put b))) && ((M.SStream.Got a) == (M.SStream.Got b))) && ((M.SStream.Shut a) == (M.SStream.Shut b))) && ((M.SStream.Gone a) == (M.SStream.Gone b)))
  else
    none
end M
namespace M
noncomputable def s_SameAsync_l1 (a : M.SAsync) (b : M.SAsync) : Nat → Int → Option ((Bool) ⊕ (M.SAsync × M.SAsync))
  | 0, _ => none
  | fuel + 1, i =>
    bif (decide (i < ((List.length (M.SAsync.Streams a)) : Int))) then
      let q0 := (M.s_SameStream (M.SStream.re (List.getD (M.SAsync.Streams a) (Int.toNat i) M.SStream.zero)) (M.SStream.re (List.getD (M.SAsync.Streams b) (Int.toNat i) M.SStream.zero)))
      bif (!(Option.getD q0 Inhabited.default)) then
        let q1 := ((Option.isSome q0) && ((Go.V.inB i (List.length (M.SAsync.Streams b))) && ((Go.V.inB i (List.length (M.SAsync.Streams a))) && true)))
        bif q1 then
          some (.inl false)
        else
          none
      else
        let q1 := ((Option.isSome q0) && ((Go.V.inB i (List.length (M.SAsync.Streams b))) && ((Go.V.inB i (List.length (M.SAsync.Streams a))) && true)))
        bif q1 then
          M.s_SameAsync_l1 a b fuel (Go.IntKind.wrap Go.IntKind.i64 (i + (1 : Int)))
        else
          none
    else
      some ((.inr ((a, b))))
end M
namespace M
noncomputable def s_l22SameTask (a : M.STask) (b : M.STask) : Option (Bool) :=
  let q0 := (M.s_l00Same (M.STask.Set a) (M.STask.Set b))
  let q1 := ((((((((((M.STask.Id a) == (M.STask.Id b)) && ((M.STask.Prog a) == (M.STask.Prog b))) && ((M.STask.PC a) == (M.STask.PC b))) && ((M.STask.Parent a) == (M.STask.Parent b))) && ((M.STask.Status a) == (M.STask.Status b))) && ((M.STask.Result a) == (M.STask.Result b))) && ((M.STask.Returned a) == (M.STask.Returned b))) && ((M.STask.Asked a) == (M.STask.Asked b))) && ((M.STask.Told a) == (M.STask.Told b)))
  let q2 := (M.s_l00Same (M.STask.Subs a) (M.STask.Subs b))
  let q3 := (q1 && (Option.getD q2 Inhabited.default))
  bif (((Option.isSome q0) || (!(q3 == true))) && (((Option.isSome q2) || (!(q1 == true))) && true)) then
    some (q3 && (Option.getD q0 Inhabited.default))
  else
    none
end M
namespace M
noncomputable def s_SameAsync_l2 (a : M.SAsync) (b : M.SAsync) : Nat → Int → Option ((Bool) ⊕ (M.SAsync × M.SAsync))
  | 0, _ => none
  | fuel + 1, i =>
    bif (decide (i < ((List.length (M.SAsync.Tasks a)) : Int))) then
      let q0 := (M.s_l22SameTask (List.getD (M.SAsync.Tasks a) (Int.toNat i) M.STask.zero) (List.getD (M.SAsync.Tasks b) (Int.toNat i) M.STask.zero))
      bif (!(Option.getD q0 Inhabited.default)) then
        let q1 := ((Option.isSome q0) && ((Go.V.inB i (List.length (M.SAsync.Tasks b))) && ((Go.V.inB i (List.length (M.SAsync.Tasks a))) && true)))
        bif q1 then
          some (.inl false)
        else
          none
      else
        let q1 := ((Option.isSome q0) && ((Go.V.inB i (List.length (M.SAsync.Tasks b))) && ((Go.V.inB i (List.length (M.SAsync.Tasks a))) && true)))
        bif q1 then
          M.s_SameAsync_l2 a b fuel (Go.IntKind.wrap Go.IntKind.i64 (i + (1 : Int)))
        else
          none
    else
      some ((.inr ((a, b))))
end M
namespace M
noncomputable def s_SameAsync_l3 (a : M.SAsync) (b : M.SAsync) : Nat → Int → Option ((Bool) ⊕ (Unit))
  | 0, _ => none
  | fuel + 1, i =>
    bif (decide (i < ((List.length (M.SAsync.Notes a)) : Int))) then
      bif (!(((M.SNote.Task (List.getD (M.SAsync.Notes a) (Int.toNat i) M.SNote.zero)) == (M.SNote.Task (List.getD (M.SAsync.Notes b) (Int.toNat i) M.SNote.zero))) && (((M.SNote.Kind (List.getD (M.SAsync.Notes a) (Int.toNat i) M.SNote.zero)) == (M.SNote.Kind (List.getD (M.SAsync.Notes b) (Int.toNat i) M.SNote.zero))) && (((M.SNote.A (List.getD (M.SAsync.Notes a) (Int.toNat i) M.SNote.zero)) == (M.SNote.A (List.getD (M.SAsync.Notes b) (Int.toNat i) M.SNote.zero))) && (((M.SNote.B (List.getD (M.SAsync.Notes a) (Int.toNat i) M.SNote.zero)) == (M.SNote.B (List.getD (M.SAsync.Notes b) (Int.toNat i) M.SNote.zero))) && true))))) then
        let q0 := ((Go.V.inB i (List.length (M.SAsync.Notes b))) && ((Go.V.inB i (List.length (M.SAsync.Notes a))) && true))
        bif q0 then
          some (.inl false)
        else
          none
      else
        let q0 := ((Go.V.inB i (List.length (M.SAsync.Notes b))) && ((Go.V.inB i (List.length (M.SAsync.Notes a))) && true))
        bif q0 then
          M.s_SameAsync_l3 a b fuel (Go.IntKind.wrap Go.IntKind.i64 (i + (1 : Int)))
        else
          none
    else
      some ((.inr (())))
end M
namespace M
noncomputable def s_SameAsync (a : M.SAsync) (b : M.SAsync) : Option (Bool) :=
  let q0 := (((((List.length (M.SAsync.Progs a)) : Int) != ((List.length (M.SAsync.Progs b)) : Int)) || (((List.length (M.SAsync.Streams a)) : Int) != ((List.length (M.SAsync.Streams b)) : Int))) || (((List.length (M.SAsync.Tasks a)) : Int) != ((List.length (M.SAsync.Tasks b)) : Int)))
  let q1 := (M.s_l00Same (M.SAsync.Back a) (M.SAsync.Back b))
  bif ((q0 || (!(Option.getD q1 Inhabited.default))) || (((List.length (M.SAsync.Notes a)) : Int) != ((List.length (M.SAsync.Notes b)) : Int))) then
    let q2 := (((Option.isSome q1) || (!(q0 == false))) && true)
    bif q2 then
      some false
    else
      none
  else
    match (M.s_SameAsync_l0 a b Go.V.bigN (0 : Int)) with
    | none => none
    | some y2 =>
      (match y2 with
      | .inl a3 =>
        let q4 := (((Option.isSome q1) || (!(q0 == false))) && true)
        bif q4 then
          some a3
        else
          none
      | .inr b3 =>
        match (M.s_SameAsync_l1 b3.1 b3.2 Go.V.bigN (0 : Int)) with
        | none => none
        | some y4 =>
          (match y4 with
          | .inl a5 =>
            let q6 := (((Option.isSome q1) || (!(q0 == false))) && true)
            bif q6 then
              some a5
            else
              none
          | .inr b5 =>
            match (M.s_SameAsync_l2 b5.1 b5.2 Go.V.bigN (0 : Int)) with
            | none => none
            | some y6 =>
              (match y6 with
              | .inl a7 =>
                let q8 := (((Option.isSome q1) || (!(q0 == false))) && true)
                bif q8 then
                  some a7
                else
                  none
              | .inr b7 =>
                match (M.s_SameAsync_l3 b7.1 b7.2 Go.V.bigN (0 : Int)) with
                | none => none
                | some y8 =>
                  (match y8 with
                  | .inl a9 =>
                    let q10 := (((Option.isSome q1) || (!(q0 == false))) && true)
                    bif q10 then
                      some a9
                    else
                      none
                  | .inr b9 =>
                    let q10 := (((Option.isSome q1) || (!(q0 == false))) && true)
                    bif q10 then
                      some true
                    else
                      none))))
end M
namespace M
noncomputable def slices_Equal_Aop_Aop_l0 (s1 : (List M.SAop)) (s2 : (List M.SAop)) (t12 : Int) : Nat → Int → Option ((Bool) ⊕ (Unit))
  | 0, _ => none
  | fuel + 1, t13 =>
    bif (decide (t13 < t12)) then
      bif (!(((M.SAop.Kind (List.getD s1 (Int.toNat t13) M.SAop.zero)) == (M.SAop.Kind (List.getD s2 (Int.toNat t13) M.SAop.zero))) && (((M.SAop.A (List.getD s1 (Int.toNat t13) M.SAop.zero)) == (M.SAop.A (List.getD s2 (Int.toNat t13) M.SAop.zero))) && (((M.SAop.B (List.getD s1 (Int.toNat t13) M.SAop.zero)) == (M.SAop.B (List.getD s2 (Int.toNat t13) M.SAop.zero))) && true)))) then
        let q0 := ((Go.V.inB t13 (List.length s2)) && ((Go.V.inB t13 (List.length s1)) && true))
        bif q0 then
          some (.inl false)
        else
          none
      else
        let q0 := ((Go.V.inB t13 (List.length s2)) && ((Go.V.inB t13 (List.length s1)) && true))
        bif q0 then
          M.slices_Equal_Aop_Aop_l0 s1 s2 t12 fuel (Go.IntKind.wrap Go.IntKind.i64 (t13 + (1 : Int)))
        else
          none
    else
      some ((.inr (())))
end M
namespace M
noncomputable def slices_Equal_Aop_Aop (s1 : (List M.SAop)) (s2 : (List M.SAop)) : Option (Bool) :=
  bif (((List.length s1) : Int) != ((List.length s2) : Int)) then
    some false
  else
    match (M.slices_Equal_Aop_Aop_l0 s1 s2 ((List.length s1) : Int) Go.V.bigN (0 : Int)) with
    | none => none
    | some y0 =>
      (match y0 with
      | .inl a1 =>
        some a1
      | .inr b1 =>
        some true)
end M
namespace M
noncomputable def i_SameAsync_c1 (x : M.SProg) (y_ : M.SProg) : Option (Bool) :=
  let q0 := (M.slices_Equal_Aop_Aop (M.SProg.Ops x) (M.SProg.Ops y_))
  bif (((Option.isSome q0) || (!(((M.SProg.Inst x) == (M.SProg.Inst y_)) == true))) && true) then
    some (((M.SProg.Inst x) == (M.SProg.Inst y_)) && (Option.getD q0 Inhabited.default))
  else
    none
end M
namespace M
noncomputable def slices_EqualFunc_Prog_Prog_Prog_Prog_l0 (s2 : (List M.SProg)) (t15 : (List M.SProg)) (t16 : Int) : Nat → Int → Option ((Bool) ⊕ (Unit))
  | 0, _ => none
  | fuel + 1, t17 =>
    bif (decide (t17 < t16)) then
      let q0 := (M.i_SameAsync_c1 (List.getD t15 (Int.toNat t17) M.SProg.zero) (List.getD s2 (Int.toNat t17) M.SProg.zero))
      bif (!(Option.getD q0 Inhabited.default)) then
        let q1 := ((Option.isSome q0) && ((Go.V.inB t17 (List.length s2)) && ((Go.V.inB t17 (List.length t15)) && true)))
        bif q1 then
          some (.inl false)
        else
          none
      else
        let q1 := ((Option.isSome q0) && ((Go.V.inB t17 (List.length s2)) && ((Go.V.inB t17 (List.length t15)) && true)))
        bif q1 then
          M.slices_EqualFunc_Prog_Prog_Prog_Prog_l0 s2 t15 t16 fuel (Go.IntKind.wrap Go.IntKind.i64 (t17 + (1 : Int)))
        else
          none
    else
      some ((.inr (())))
end M
namespace M
noncomputable def slices_EqualFunc_Prog_Prog_Prog_Prog (s1 : (List M.SProg)) (s2 : (List M.SProg)) : Option (Bool) :=
  bif (((List.length s1) : Int) != ((List.length s2) : Int)) then
    some false
  else
    match (M.slices_EqualFunc_Prog_Prog_Prog_Prog_l0 s2 s1 ((List.length s1) : Int) Go.V.bigN (0 : Int)) with
    | none => none
    | some y0 =>
      (match y0 with
      | .inl a1 =>
        some a1
      | .inr b1 =>
        some true)
end M
namespace M
noncomputable def i_SameType (a : M.SType) (b : M.SType) : Option (Bool) :=
  let q0 := (M.i_sameType (M.SType.re a) (M.SType.re b) (100 : Int))
  bif ((Option.isSome q0) && true) then
    some (Option.getD q0 Inhabited.default)
  else
    none
end M
namespace M
noncomputable def i_SameStream (a : M.SStream) (b : M.SStream) : Option (Bool) :=
  let q0 := (M.slices_EqualFunc_Value_Value_Value_Value M.i_SameValue (M.SStream.Buffer a) (M.SStream.Buffer b))
  let q1 := (M.i_SameType (M.SType.re (M.SStream.Type_ a)) (M.SType.re (M.SStream.Type_ b)))
  let q2 := (((Option.getD q1 Inhabited.default) && ((M.SStream.Room a) == (M.SStream.Room b))) && ((M.SStream.Future a) == (M.SStream.Future b)))
  bif (((Option.isSome q0) || (!(q2 == true))) && ((Option.isSome q1) && true)) then
    some (((((q2 && (Option.getD q0 Inhabited.default)) && ((M.SStream.Put a) == (M.SStream.Put b))) && ((M.SStream.Got a) == (M.SStream.Got b))) && ((M.SStream.Shut a) == (M.SStream.Shut b))) && ((M.SStream.Gone a) == (M.SStream.Gone b)))
  else
    none
end M
namespace M
noncomputable def slices_EqualFunc_Stream_Stream_Stream_Stream_l0 (s2 : (List M.SStream)) (t15 : (List M.SStream)) (t16 : Int) : Nat → Int → Option ((Bool) ⊕ (Unit))
  | 0, _ => none
  | fuel + 1, t17 =>
    bif (decide (t17 < t16)) then
      let q0 := (M.i_SameStream (M.SStream.re (List.getD t15 (Int.toNat t17) M.SStream.zero)) (M.SStream.re (List.getD s2 (Int.toNat t17) M.SStream.zero)))
      bif (!(Option.getD q0 Inhabited.default)) then
        let q1 := ((Option.isSome q0) && ((Go.V.inB t17 (List.length s2)) && ((Go.V.inB t17 (List.length t15)) && true)))
        bif q1 then
          some (.inl false)
        else
          none
      else
        let q1 := ((Option.isSome q0) && ((Go.V.inB t17 (List.length s2)) && ((Go.V.inB t17 (List.length t15)) && true)))
        bif q1 then
          M.slices_EqualFunc_Stream_Stream_Stream_Stream_l0 s2 t15 t16 fuel (Go.IntKind.wrap Go.IntKind.i64 (t17 + (1 : Int)))
        else
          none
    else
      some ((.inr (())))
end M
namespace M
noncomputable def slices_EqualFunc_Stream_Stream_Stream_Stream (s1 : (List M.SStream)) (s2 : (List M.SStream)) : Option (Bool) :=
  bif (((List.length s1) : Int) != ((List.length s2) : Int)) then
    some false
  else
    match (M.slices_EqualFunc_Stream_Stream_Stream_Stream_l0 s2 s1 ((List.length s1) : Int) Go.V.bigN (0 : Int)) with
    | none => none
    | some y0 =>
      (match y0 with
      | .inl a1 =>
        some a1
      | .inr b1 =>
        some true)
end M
namespace M
noncomputable def slices_Equal_int64_int64_l0 (s1 : (List Int)) (s2 : (List Int)) (t12 : Int) : Nat → Int → Option ((Bool) ⊕ (Unit))
  | 0, _ => none
  | fuel + 1, t13 =>
    bif (decide (t13 < t12)) then
      bif ((List.getD s1 (Int.toNat t13) (0 : Int)) != (List.getD s2 (Int.toNat t13) (0 : Int))) then
        let q0 := ((Go.V.inB t13 (List.length s2)) && ((Go.V.inB t13 (List.length s1)) && true))
        bif q0 then
          some (.inl false)
        else
          none
      else
        let q0 := ((Go.V.inB t13 (List.length s2)) && ((Go.V.inB t13 (List.length s1)) && true))
        bif q0 then
          M.slices_Equal_int64_int64_l0 s1 s2 t12 fuel (Go.IntKind.wrap Go.IntKind.i64 (t13 + (1 : Int)))
        else
          none
    else
      some ((.inr (())))
end M
namespace M
noncomputable def slices_Equal_int64_int64 (s1 : (List Int)) (s2 : (List Int)) : Option (Bool) :=
  bif (((List.length s1) : Int) != ((List.length s2) : Int)) then
    some false
  else
    match (M.slices_Equal_int64_int64_l0 s1 s2 ((List.length s1) : Int) Go.V.bigN (0 : Int)) with
    | none => none
    | some y0 =>
      (match y0 with
      | .inl a1 =>
        some a1
      | .inr b1 =>
        some true)
end M
namespace M
noncomputable def i_sameTask (a : M.STask) (b : M.STask) : Option (Bool) :=
  let q0 := (M.slices_Equal_int64_int64 (M.STask.Set a) (M.STask.Set b))
  let q1 := ((((((((((M.STask.Id a) == (M.STask.Id b)) && ((M.STask.Prog a) == (M.STask.Prog b))) && ((M.STask.PC a) == (M.STask.PC b))) && ((M.STask.Parent a) == (M.STask.Parent b))) && ((M.STask.Status a) == (M.STask.Status b))) && ((M.STask.Result a) == (M.STask.Result b))) && ((M.STask.Returned a) == (M.STask.Returned b))) && ((M.STask.Asked a) == (M.STask.Asked b))) && ((M.STask.Told a) == (M.STask.Told b)))
  let q2 := (M.slices_Equal_int64_int64 (M.STask.Subs a) (M.STask.Subs b))
  let q3 := (q1 && (Option.getD q2 Inhabited.default))
  bif (((Option.isSome q0) || (!(q3 == true))) && (((Option.isSome q2) || (!(q1 == true))) && true)) then
    some (q3 && (Option.getD q0 Inhabited.default))
  else
    none
end M
namespace M
noncomputable def slices_EqualFunc_Task_Task_Task_Task_l0 (s2 : (List M.STask)) (t15 : (List M.STask)) (t16 : Int) : Nat → Int → Option ((Bool) ⊕ (Unit))
  | 0, _ => none
  | fuel + 1, t17 =>
    bif (decide (t17 < t16)) then
      let q0 := (M.i_sameTask (List.getD t15 (Int.toNat t17) M.STask.zero) (List.getD s2 (Int.toNat t17) M.STask.zero))
      bif (!(Option.getD q0 Inhabited.default)) then
        let q1 := ((Option.isSome q0) && ((Go.V.inB t17 (List.length s2)) && ((Go.V.inB t17 (List.length t15)) && true)))
        bif q1 then
          some (.inl false)
        else
          none
      else
        let q1 := ((Option.isSome q0) && ((Go.V.inB t17 (List.length s2)) && ((Go.V.inB t17 (List.length t15)) && true)))
        bif q1 then
          M.slices_EqualFunc_Task_Task_Task_Task_l0 s2 t15 t16 fuel (Go.IntKind.wrap Go.IntKind.i64 (t17 + (1 : Int)))
        else
          none
    else
      some ((.inr (())))
end M
namespace M
noncomputable def slices_EqualFunc_Task_Task_Task_Task (s1 : (List M.STask)) (s2 : (List M.STask)) : Option (Bool) :=
  bif (((List.length s1) : Int) != ((List.length s2) : Int)) then
    some false
  else
    match (M.slices_EqualFunc_Task_Task_Task_Task_l0 s2 s1 ((List.length s1) : Int) Go.V.bigN (0 : Int)) with
    | none => none
    | some y0 =>
      (match y0 with
      | .inl a1 =>
        some a1
      | .inr b1 =>
        some true)
end M
namespace M
noncomputable def slices_Equal_Note_Note_l0 (s1 : (List M.SNote)) (s2 : (List M.SNote)) (t12 : Int) : Nat → Int → Option ((Bool) ⊕ (Unit))
  | 0, _ => none
  | fuel + 1, t13 =>
    bif (decide (t13 < t12)) then
      bif (!(((M.SNote.Task (List.getD s1 (Int.toNat t13) M.SNote.zero)) == (M.SNote.Task (List.getD s2 (Int.toNat t13) M.SNote.zero))) && (((M.SNote.Kind (List.getD s1 (Int.toNat t13) M.SNote.zero)) == (M.SNote.Kind (List.getD s2 (Int.toNat t13) M.SNote.zero))) && (((M.SNote.A (List.getD s1 (Int.toNat t13) M.SNote.zero)) == (M.SNote.A (List.getD s2 (Int.toNat t13) M.SNote.zero))) && (((M.SNote.B (List.getD s1 (Int.toNat t13) M.SNote.zero)) == (M.SNote.B (List.getD s2 (Int.toNat t13) M.SNote.zero))) && true))))) then
        let q0 := ((Go.V.inB t13 (List.length s2)) && ((Go.V.inB t13 (List.length s1)) && true))
        bif q0 then
          some (.inl false)
        else
          none
      else
        let q0 := ((Go.V.inB t13 (List.length s2)) && ((Go.V.inB t13 (List.length s1)) && true))
        bif q0 then
          M.slices_Equal_Note_Note_l0 s1 s2 t12 fuel (Go.IntKind.wrap Go.IntKind.i64 (t13 + (1 : Int)))
        else
          none
    else
      some ((.inr (())))
end M
namespace M
noncomputable def slices_Equal_Note_Note (s1 : (List M.SNote)) (s2 : (List M.SNote)) : Option (Bool) :=
  bif (((List.length s1) : Int) != ((List.length s2) : Int)) then
    some false
  else
    match (M.slices_Equal_Note_Note_l0 s1 s2 ((List.length s1) : Int) Go.V.bigN (0 : Int)) with
    | none => none
    | some y0 =>
      (match y0 with
      | .inl a1 =>
        some a1
      | .inr b1 =>
        some true)
end M
namespace M
noncomputable def i_SameAsync (a : M.SAsync) (b : M.SAsync) : Option (Bool) :=
  let q0 := (M.slices_Equal_Note_Note (M.SAsync.Notes a) (M.SAsync.Notes b))
  let q1 := (M.slices_EqualFunc_Prog_Prog_Prog_Prog (M.SAsync.Progs a) (M.SAsync.Progs b))
  let q2 := (M.slices_EqualFunc_Stream_Stream_Stream_Stream (M.SAsync.Streams a) (M.SAsync.Streams b))
  let q3 := ((Option.getD q1 Inhabited.default) && (Option.getD q2 Inhabited.default))
  let q4 := (M.slices_EqualFunc_Task_Task_Task_Task (M.SAsync.Tasks a) (M.SAsync.Tasks b))
  let q5 := (q3 && (Option.getD q4 Inhabited.default))
  let q6 := (M.slices_Equal_int64_int64 (M.SAsync.Back a) (M.SAsync.Back b))
  let q7 := (q5 && (Option.getD q6 Inhabited.default))
  bif (((Option.isSome q0) || (!(q7 == true))) && (((Option.isSome q6) || (!(q5 == true))) && (((Option.isSome q4) || (!(q3 == true))) && (((Option.isSome q2) || (!((Option.getD q1 Inhabited.default) == true))) && ((Option.isSome q1) && true))))) then
    some (q7 && (Option.getD q0 Inhabited.default))
  else
    none
end M
namespace M
noncomputable def l_eqAop (a : M.SAop) (b : M.SAop) : Option (Bool) :=
  bif ((M.SAop.Kind a) != (M.SAop.Kind b)) then
    some false
  else
    bif ((M.SAop.A a) != (M.SAop.A b)) then
      some false
    else
      bif ((M.SAop.B a) != (M.SAop.B b)) then
        some false
      else
        some true
end M
namespace M
noncomputable def l_eqAopS_l0 (a : (List M.SAop)) (b : (List M.SAop)) : Nat → Int → Option ((Bool) ⊕ (Unit))
  | 0, _ => none
  | fuel + 1, i =>
    bif (decide (i < ((List.length a) : Int))) then
      let q0 := (M.l_eqAop (List.getD a (Int.toNat i) M.SAop.zero) (List.getD b (Int.toNat i) M.SAop.zero))
      bif (!(Option.getD q0 Inhabited.default)) then
        let q1 := ((Option.isSome q0) && ((Go.V.inB i (List.length b)) && ((Go.V.inB i (List.length a)) && true)))
        bif q1 then
          some (.inl false)
        else
          none
      else
        let q1 := ((Option.isSome q0) && ((Go.V.inB i (List.length b)) && ((Go.V.inB i (List.length a)) && true)))
        bif q1 then
          M.l_eqAopS_l0 a b fuel (Go.IntKind.wrap Go.IntKind.i64 (i + (1 : Int)))
        else
          none
    else
      some ((.inr (())))
end M
namespace M
noncomputable def l_eqAopS (a : (List M.SAop)) (b : (List M.SAop)) : Option (Bool) :=
  bif (((List.length a) : Int) != ((List.length b) : Int)) then
    some false
  else
    match (M.l_eqAopS_l0 a b Go.V.bigN (0 : Int)) with
    | none => none
    | some y0 =>
      (match y0 with
      | .inl a1 =>
        some a1
      | .inr b1 =>
        some true)
end M
namespace M
noncomputable def l_eqProg (a : M.SProg) (b : M.SProg) : Option (Bool) :=
  bif ((M.SProg.Inst a) != (M.SProg.Inst b)) then
    some false
  else
    let q0 := (M.l_eqAopS (M.SProg.Ops a) (M.SProg.Ops b))
    bif (!(Option.getD q0 Inhabited.default)) then
      bif ((Option.isSome q0) && true) then
        some false
      else
        none
    else
      bif ((Option.isSome q0) && true) then
        some true
      else
        none
end M
namespace M
noncomputable def l_eqProgS_l0 (a : (List M.SProg)) (b : (List M.SProg)) : Nat → Int → Option ((Bool) ⊕ (Unit))
  | 0, _ => none
  | fuel + 1, i =>
    bif (decide (i < ((List.length a) : Int))) then
      let q0 := (M.l_eqProg (List.getD a (Int.toNat i) M.SProg.zero) (List.getD b (Int.toNat i) M.SProg.zero))
      bif (!(Option.getD q0 Inhabited.default)) then
        let q1 := ((Option.isSome q0) && ((Go.V.inB i (List.length b)) && ((Go.V.inB i (List.length a)) && true)))
        bif q1 then
          some (.inl false)
        else
          none
      else
        let q1 := ((Option.isSome q0) && ((Go.V.inB i (List.length b)) && ((Go.V.inB i (List.length a)) && true)))
        bif q1 then
          M.l_eqProgS_l0 a b fuel (Go.IntKind.wrap Go.IntKind.i64 (i + (1 : Int)))
        else
          none
    else
      some ((.inr (())))
end M
namespace M
noncomputable def l_eqProgS (a : (List M.SProg)) (b : (List M.SProg)) : Option (Bool) :=
  bif (((List.length a) : Int) != ((List.length b) : Int)) then
    some false
  else
    match (M.l_eqProgS_l0 a b Go.V.bigN (0 : Int)) with
    | none => none
    | some y0 =>
      (match y0 with
      | .inl a1 =>
        some a1
      | .inr b1 =>
        some true)
end M
namespace M
noncomputable def l_eqStream (a : M.SStream) (b : M.SStream) : Option (Bool) :=
  let q0 := (M.l_eqType (M.SType.re (M.SStream.Type_ a)) (M.SType.re (M.SStream.Type_ b)))
  bif (!(Option.getD q0 Inhabited.default)) then
    bif ((Option.isSome q0) && true) then
      some false
    else
      none
  else
    bif ((M.SStream.Room a) != (M.SStream.Room b)) then
      bif ((Option.isSome q0) && true) then
        some false
      else
        none
    else
      bif (!((M.SStream.Future a) == (M.SStream.Future b))) then
        bif ((Option.isSome q0) && true) then
          some false
        else
          none
      else
        let q1 := (M.l_eqValueS M.l_eqValue (M.SStream.Buffer a) (M.SStream.Buffer b))
        bif (!(Option.getD q1 Inhabited.default)) then
          let q2 := ((Option.isSome q1) && ((Option.isSome q0) && true))
          bif q2 then
            some false
          else
            none
        else
          bif ((M.SStream.Put a) != (M.SStream.Put b)) then
            let q2 := ((Option.isSome q1) && ((Option.isSome q0) && true))
            bif q2 then
              some false
            else
              none
          else
            bif ((M.SStream.Got a) != (M.SStream.Got b)) then
              let q2 := ((Option.isSome q1) && ((Option.isSome q0) && true))
              bif q2 then
                some false
              else
                none
            else
              bif (!((M.SStream.Shut a) == (M.SStream.Shut b))) then
                let q2 := ((Option.isSome q1) && ((Option.isSome q0) && true))
                bif q2 then
                  some false
                else
                  none
              else
                bif (!((M.SStream.Gone a) == (M.SStream.Gone b))) then
                  let q2 := ((Option.isSome q1) && ((Option.isSome q0) && true))
                  bif q2 then
                    some false
                  else
                    none
                else
                  let q2 := ((Option.isSome q1) && ((Option.isSome q0) && true))
                  bif q2 then
                    some true
                  else
                    none
end M
namespace M
noncomputable def l_eqStreamS_l0 (a : (List M.SStream)) (b : (List M.SStream)) : Nat → Int → Option ((Bool) ⊕ (Unit))
  | 0, _ => none
  | fuel + 1, i =>
    bif (decide (i < ((List.length a) : Int))) then
      let q0 := (M.l_eqStream (M.SStream.re (List.getD a (Int.toNat i) M.SStream.zero)) (M.SStream.re (List.getD b (Int.toNat i) M.SStream.zero)))
      bif (!(Option.getD q0 Inhabited.default)) then
        let q1 := ((Option.isSome q0) && ((Go.V.inB i (List.length b)) && ((Go.V.inB i (List.length a)) && true)))
        bif q1 then
          some (.inl false)
        else
          none
      else
        let q1 := ((Option.isSome q0) && ((Go.V.inB i (List.length b)) && ((Go.V.inB i (List.length a)) && true)))
        bif q1 then
          M.l_eqStreamS_l0 a b fuel (Go.IntKind.wrap Go.IntKind.i64 (i + (1 : Int)))
        else
          none
    else
      some ((.inr (())))
end M
namespace M
noncomputable def l_eqStreamS (a : (List M.SStream)) (b : (List M.SStream)) : Option (Bool) :=
  bif (((List.length a) : Int) != ((List.length b) : Int)) then
    some false
  else
    match (M.l_eqStreamS_l0 a b Go.V.bigN (0 : Int)) with
    | none => none
    | some y0 =>
      (match y0 with
      | .inl a1 =>
        some a1
      | .inr b1 =>
        some true)
end M
namespace M
noncomputable def l_eqInt64S_l0 (a : (List Int)) (b : (List Int)) : Nat → Int → Option ((Bool) ⊕ (Unit))
  | 0, _ => none
  | fuel + 1, i =>
    bif (decide (i < ((List.length a) : Int))) then
      bif ((List.getD a (Int.toNat i) (0 : Int)) != (List.getD b (Int.toNat i) (0 : Int))) then
        let q0 := ((Go.V.inB i (List.length b)) && ((Go.V.inB i (List.length a)) && true))
        bif q0 then
          some (.inl false)
        else
          none
      else
        let q0 := ((Go.V.inB i (List.length b)) && ((Go.V.inB i (List.length a)) && true))
        bif q0 then
          M.l_eqInt64S_l0 a b fuel (Go.IntKind.wrap Go.IntKind.i64 (i + (1 : Int)))
        else
          none
    else
      some ((.inr (())))
end M
namespace M
noncomputable def l_eqInt64S (a : (List Int)) (b : (List Int)) : Option (Bool) :=
  bif (((List.length a) : Int) != ((List.length b) : Int)) then
    some false
  else
    match (M.l_eqInt64S_l0 a b Go.V.bigN (0 : Int)) with
    | none => none
    | some y0 =>
      (match y0 with
      | .inl a1 =>
        some a1
      | .inr b1 =>
        some true)
end M
namespace M
noncomputable def l_eqTask (a : M.STask) (b : M.STask) : Option (Bool) :=
  bif ((M.STask.Id a) != (M.STask.Id b)) then
    some false
  else
    bif ((M.STask.Prog a) != (M.STask.Prog b)) then
      some false
    else
      bif ((M.STask.PC a) != (M.STask.PC b)) then
        some false
      else
        bif ((M.STask.Parent a) != (M.STask.Parent b)) then
          some false
        else
          bif ((M.STask.Status a) != (M.STask.Status b)) then
            some false
          else
            bif ((M.STask.Result a) != (M.STask.Result b)) then
              some false
            else
              bif (!((M.STask.Returned a) == (M.STask.Returned b))) then
                some false
              else
                bif (!((M.STask.Asked a) == (M.STask.Asked b))) then
                  some false
                else
                  bif (!((M.STask.Told a) == (M.STask.Told b))) then
                    some false
                  else
                    let q0 := (M.l_eqInt64S (M.STask.Subs a) (M.STask.Subs b))
                    bif (!(Option.getD q0 Inhabited.default)) then
                      bif ((Option.isSome q0) && true) then
                        some false
                      else
                        none
                    else
                      let q1 := (M.l_eqInt64S (M.STask.Set a) (M.STask.Set b))
                      bif (!(Option.getD q1 Inhabited.default)) then
                        bif ((Option.isSome q1) && ((Option.isSome q0) && true)) then
                          some false
                        else
                          none
                      else
                        bif ((Option.isSome q1) && ((Option.isSome q0) && true)) then
                          some true
                        else
                          none
end M
namespace M
noncomputable def l_eqTaskS_l0 (a : (List M.STask)) (b : (List M.STask)) : Nat → Int → Option ((Bool) ⊕ (Unit))
  | 0, _ => none
  | fuel + 1, i =>
    bif (decide (i < ((List.length a) : Int))) then
      let q0 := (M.l_eqTask (List.getD a (Int.toNat i) M.STask.zero) (List.getD b (Int.toNat i) M.STask.zero))
      bif (!(Option.getD q0 Inhabited.default)) then
        let q1 := ((Option.isSome q0) && ((Go.V.inB i (List.length b)) && ((Go.V.inB i (List.length a)) && true)))
        bif q1 then
          some (.inl false)
        else
          none
      else
        let q1 := ((Option.isSome q0) && ((Go.V.inB i (List.length b)) && ((Go.V.inB i (List.length a)) && true)))
        bif q1 then
          M.l_eqTaskS_l0 a b fuel (Go.IntKind.wrap Go.IntKind.i64 (i + (1 : Int)))
        else
          none
    else
      some ((.inr (())))
end M
namespace M
noncomputable def l_eqTaskS (a : (List M.STask)) (b : (List M.STask)) : Option (Bool) :=
  bif (((List.length a) : Int) != ((List.length b) : Int)) then
    some false
  else
    match (M.l_eqTaskS_l0 a b Go.V.bigN (0 : Int)) with
    | none => none
    | some y0 =>
      (match y0 with
      | .inl a1 =>
        some a1
      | .inr b1 =>
        some true)
end M
namespace M
noncomputable def l_eqNote (a : M.SNote) (b : M.SNote) : Option (Bool) :=
  bif ((M.SNote.Task a) != (M.SNote.Task b)) then
    some false
  else
    bif ((M.SNote.Kind a) != (M.SNote.Kind b)) then
      some false
    else
      bif ((M.SNote.A a) != (M.SNote.A b)) then
        some false
      else
        bif ((M.SNote.B a) != (M.SNote.B b)) then
          some false
        else
          some true
end M
namespace M
noncomputable def l_eqNoteS_l0 (a : (List M.SNote)) (b : (List M.SNote)) : Nat → Int → Option ((Bool) ⊕ (Unit))
  | 0, _ => none
  | fuel + 1, i =>
    bif (decide (i < ((List.length a) : Int))) then
      let q0 := (M.l_eqNote (List.getD a (Int.toNat i) M.SNote.zero) (List.getD b (Int.toNat i) M.SNote.zero))
      bif (!(Option.getD q0 Inhabited.default)) then
        let q1 := ((Option.isSome q0) && ((Go.V.inB i (List.length b)) && ((Go.V.inB i (List.length a)) && true)))
        bif q1 then
          some (.inl false)
        else
          none
      else
        let q1 := ((Option.isSome q0) && ((Go.V.inB i (List.length b)) && ((Go.V.inB i (List.length a)) && true)))
        bif q1 then
          M.l_eqNoteS_l0 a b fuel (Go.IntKind.wrap Go.IntKind.i64 (i + (1 : Int)))
        else
          none
    else
      some ((.inr (())))
end M
namespace M
noncomputable def l_eqNoteS (a : (List M.SNote)) (b : (List M.SNote)) : Option (Bool) :=
  bif (((List.length a) : Int) != ((List.length b) : Int)) then
    some false
  else
    match (M.l_eqNoteS_l0 a b Go.V.bigN (0 : Int)) with
    | none => none
    | some y0 =>
      (match y0 with
      | .inl a1 =>
        some a1
      | .inr b1 =>
        some true)
end M
namespace M
noncomputable def l_eqAsync (a : M.SAsync) (b : M.SAsync) : Option (Bool) :=
  let q0 := (M.l_eqProgS (M.SAsync.Progs a) (M.SAsync.Progs b))
  bif (!(Option.getD q0 Inhabited.default)) then
    bif ((Option.isSome q0) && true) then
      some false
    else
      none
  else
    let q1 := (M.l_eqStreamS (M.SAsync.Streams a) (M.SAsync.Streams b))
    bif (!(Option.getD q1 Inhabited.default)) then
      bif ((Option.isSome q1) && ((Option.isSome q0) && true)) then
        some false
      else
        none
    else
      let q2 := (M.l_eqTaskS (M.SAsync.Tasks a) (M.SAsync.Tasks b))
      bif (!(Option.getD q2 Inhabited.default)) then
        let q3 := ((Option.isSome q2) && ((Option.isSome q1) && ((Option.isSome q0) && true)))
        bif q3 then
          some false
        else
          none
      else
        let q3 := (M.l_eqInt64S (M.SAsync.Back a) (M.SAsync.Back b))
        bif (!(Option.getD q3 Inhabited.default)) then
          let q4 := ((Option.isSome q2) && ((Option.isSome q1) && ((Option.isSome q0) && true)))
          let q5 := ((Option.isSome q3) && q4)
          bif q5 then
            some false
          else
            none
        else
          let q4 := (M.l_eqNoteS (M.SAsync.Notes a) (M.SAsync.Notes b))
          bif (!(Option.getD q4 Inhabited.default)) then
            let q5 := ((Option.isSome q2) && ((Option.isSome q1) && ((Option.isSome q0) && true)))
            let q6 := ((Option.isSome q3) && q5)
            let q7 := ((Option.isSome q4) && q6)
            bif q7 then
              some false
            else
              none
          else
            let q5 := ((Option.isSome q2) && ((Option.isSome q1) && ((Option.isSome q0) && true)))
            let q6 := ((Option.isSome q3) && q5)
            let q7 := ((Option.isSome q4) && q6)
            bif q7 then
              some true
            else
              none
end M
namespace M
noncomputable def l_FnExactSameAsync (aA : M.SAsync) (aB : M.SAsync) : Option (Bool) :=
  let q0 := (M.l_szAsync aA (1048576 : Int))
  bif (decide ((Option.getD q0 Inhabited.default) < (0 : Int))) then
    bif ((Option.isSome q0) && true) then
      some true
    else
      none
  else
    let q1 := (M.l_szAsync aB (Option.getD q0 Inhabited.default))
    bif (decide ((Option.getD q1 Inhabited.default) < (0 : Int))) then
      let q2 := ((Option.isSome q1) && ((Option.isSome q0) && true))
      bif q2 then
        some true
      else
        none
    else
      let q2 := (M.l_toAsync aA)
      let q3 := (M.l_toAsync aB)
      let q4 := (M.i_SameAsync (Option.getD q2 Inhabited.default) (Option.getD q3 Inhabited.default))
      let q5 := (M.s_SameAsync (Option.getD q2 Inhabited.default) (Option.getD q3 Inhabited.default))
      bif (!((Option.getD q4 Inhabited.default) == (Option.getD q5 Inhabited.default))) then
        let q6 := ((Option.isSome q1) && ((Option.isSome q0) && true))
        let q7 := ((Option.isSome q4) && ((Option.isSome q3) && ((Option.isSome q2) && ((Option.isSome q5) && ((Option.isSome q3) && ((Option.isSome q2) && q6))))))
        bif q7 then
          some false
        else
          none
      else
        let q6 := (M.l_eqAsync (Option.getD q2 Inhabited.default) (Option.getD q2 Inhabited.default))
        bif (!(Option.getD q6 Inhabited.default)) then
          let q7 := ((Option.isSome q1) && ((Option.isSome q0) && true))
          let q8 := ((Option.isSome q4) && ((Option.isSome q3) && ((Option.isSome q2) && ((Option.isSome q5) && ((Option.isSome q3) && ((Option.isSome q2) && q7))))))
          let q9 := ((Option.isSome q6) && ((Option.isSome q2) && q8))
          bif q9 then
            some false
          else
            none
        else
          let q7 := (M.l_eqAsync (Option.getD q3 Inhabited.default) (Option.getD q3 Inhabited.default))
          bif (!(Option.getD q7 Inhabited.default)) then
            let q8 := ((Option.isSome q1) && ((Option.isSome q0) && true))
            let q9 := ((Option.isSome q4) && ((Option.isSome q3) && ((Option.isSome q2) && ((Option.isSome q5) && ((Option.isSome q3) && ((Option.isSome q2) && q8))))))
            let q10 := ((Option.isSome q6) && ((Option.isSome q2) && q9))
            let q11 := ((Option.isSome q7) && ((Option.isSome q3) && q10))
            bif q11 then
              some false
            else
              none
          else
            let q8 := ((Option.isSome q1) && ((Option.isSome q0) && true))
            let q9 := ((Option.isSome q4) && ((Option.isSome q3) && ((Option.isSome q2) && ((Option.isSome q5) && ((Option.isSome q3) && ((Option.isSome q2) && q8))))))
            let q10 := ((Option.isSome q6) && ((Option.isSome q2) && q9))
            let q11 := ((Option.isSome q7) && ((Option.isSome q3) && q10))
            bif q11 then
              some true
            else
              none
end M
