import Derived.Test.YtfjgoefnkdcolaaGreatXVdata
set_option linter.unusedVariables false
set_option maxRecDepth 100000
namespace M
noncomputable def l_szStringS_l0 (a : (List (List UInt8))) : Nat → Int → Int → Option ((Int) ⊕ (Int))
  | 0, _, _ => none
  | fuel + 1, left, i =>
    bif (decide (i < ((List.length a) : Int))) then
      let q0 := (Go.IntKind.wrap Go.IntKind.i64 (left - ((List.length (List.getD a (Int.toNat i) [])) : Int)))
      bif (decide (q0 < (0 : Int))) then
        bif ((Go.V.inB i (List.length a)) && true) then
          some (.inl (-(1 : Int)))
        else
          none
      else
        bif ((Go.V.inB i (List.length a)) && true) then
          M.l_szStringS_l0 a fuel q0 (Go.IntKind.wrap Go.IntKind.i64 (i + (1 : Int)))
        else
          none
    else
      some ((.inr (left)))
end M
namespace M
noncomputable def l_szStringS (a : (List (List UInt8))) (left : Int) : Option (Int) :=
  bif (decide ((Go.IntKind.wrap Go.IntKind.i64 (left - ((List.length a) : Int))) < (0 : Int))) then
    some (-(1 : Int))
  else
    match (M.l_szStringS_l0 a Go.V.bigN (Go.IntKind.wrap Go.IntKind.i64 (left - ((List.length a) : Int))) (0 : Int)) with
    | none => none
    | some y0 =>
      (match y0 with
      | .inl a1 =>
        some a1
      | .inr b1 =>
        some b1)
end M
namespace M
noncomputable def l_szTypeS_l0 (rec_l_szType : M.SType → Int → Option (Int)) (a : (List M.SType)) : Nat → Int → Int → Option ((Int) ⊕ (Int))
  | 0, _, _ => none
  | fuel + 1, left, i =>
    bif (decide (i < ((List.length a) : Int))) then
      let q0 := (Option.getD (rec_l_szType (M.SType.re (List.getD a (Int.toNat i) M.SType.zero)) left) Inhabited.default)
      bif (decide (q0 < (0 : Int))) then
        let q1 := ((Option.isSome (rec_l_szType (M.SType.re (List.getD a (Int.toNat i) M.SType.zero)) left)) && ((Go.V.inB i (List.length a)) && true))
        bif q1 then
          some (.inl (-(1 : Int)))
        else
          none
      else
        let q1 := ((Option.isSome (rec_l_szType (M.SType.re (List.getD a (Int.toNat i) M.SType.zero)) left)) && ((Go.V.inB i (List.length a)) && true))
        bif q1 then
          M.l_szTypeS_l0 rec_l_szType a fuel q0 (Go.IntKind.wrap Go.IntKind.i64 (i + (1 : Int)))
        else
          none
    else
      some ((.inr (left)))
end M
namespace M
noncomputable def l_szTypeS (rec_l_szType : M.SType → Int → Option (Int)) (a : (List M.SType)) (left : Int) : Option (Int) :=
  bif (decide ((Go.IntKind.wrap Go.IntKind.i64 (left - ((List.length a) : Int))) < (0 : Int))) then
    some (-(1 : Int))
  else
    match (M.l_szTypeS_l0 rec_l_szType a Go.V.bigN (Go.IntKind.wrap Go.IntKind.i64 (left - ((List.length a) : Int))) (0 : Int)) with
    | none => none
    | some y0 =>
      (match y0 with
      | .inl a1 =>
        some a1
      | .inr b1 =>
        some b1)
end M
namespace M
noncomputable def l_szType_b (rec_l_szType : M.SType → Int → Option (Int)) (a : M.SType) (left : Int) : Option (Int) :=
  bif (decide ((Go.IntKind.wrap Go.IntKind.i64 (left - ((List.length (M.SType.Name a)) : Int))) < (0 : Int))) then
    some (-(1 : Int))
  else
    let q0 := (M.l_szStringS (M.SType.Labels a) (Go.IntKind.wrap Go.IntKind.i64 (left - ((List.length (M.SType.Name a)) : Int))))
    let q1 := (Option.getD q0 Inhabited.default)
    bif (decide (q1 < (0 : Int))) then
      let q2 := ((Option.isSome q0) && true)
      bif q2 then
        some (-(1 : Int))
      else
        none
    else
      let q2 := (M.l_szTypeS rec_l_szType (M.SType.Kids a) q1)
      let q3 := (Option.getD q2 Inhabited.default)
      bif (decide (q3 < (0 : Int))) then
        let q4 := ((Option.isSome q0) && true)
        let q5 := ((Option.isSome q2) && q4)
        bif q5 then
          some (-(1 : Int))
        else
          none
      else
        let q4 := ((Option.isSome q0) && true)
        let q5 := ((Option.isSome q2) && q4)
        bif q5 then
          some q3
        else
          none
noncomputable def l_szType_n : Nat → M.SType → Int → Option (Int)
  | 0 => fun _ _ => none
  | n + 1 => l_szType_b (l_szType_n n)
noncomputable def l_szType : M.SType → Int → Option (Int) := l_szType_n Go.V.bigN
end M
namespace M
noncomputable def l_toStringS_l0 (a : (List (List UInt8))) : Nat → Int → (List (List UInt8)) → Option ((List (List UInt8)))
  | 0, _, _ => none
  | fuel + 1, i, out =>
    bif (decide (i < ((List.length a) : Int))) then
      bif ((Go.V.inB i (List.length out)) && ((Go.V.inB i (List.length a)) && true)) then
        M.l_toStringS_l0 a fuel (Go.IntKind.wrap Go.IntKind.i64 (i + (1 : Int))) (List.set out (Int.toNat i) (List.getD a (Int.toNat i) []))
      else
        none
    else
      some (out)
end M
namespace M
noncomputable def l_toStringS (a : (List (List UInt8))) : Option ((List (List UInt8))) :=
  match (M.l_toStringS_l0 a Go.V.bigN (0 : Int) (List.replicate (Int.toNat ((List.length a) : Int)) [])) with
  | none => none
  | some y0 =>
    bif (((decide (((List.length a) : Int) ≤ ((List.length a) : Int))) && (decide (((List.length a) : Int) ≤ (1073741824 : Int)))) && true) then
      some y0
    else
      none
end M
namespace M
noncomputable def l_toTypeS_l0 (rec_l_toType : M.SType → Option (M.SType)) (a : (List M.SType)) : Nat → Int → (List M.SType) → Option ((List M.SType))
  | 0, _, _ => none
  | fuel + 1, i, out =>
    bif (decide (i < ((List.length a) : Int))) then
      bif ((Go.V.inB i (List.length out)) && ((Option.isSome (rec_l_toType (M.SType.re (List.getD a (Int.toNat i) M.SType.zero)))) && ((Go.V.inB i (List.length a)) && true))) then
        M.l_toTypeS_l0 rec_l_toType a fuel (Go.IntKind.wrap Go.IntKind.i64 (i + (1 : Int))) (List.set out (Int.toNat i) (M.SType.re (Option.getD (rec_l_toType (M.SType.re (List.getD a (Int.toNat i) M.SType.zero))) Inhabited.default)))
      else
        none
    else
      some (out)
end M
namespace M
noncomputable def l_toTypeS (rec_l_toType : M.SType → Option (M.SType)) (a : (List M.SType)) : Option ((List M.SType)) :=
  match (M.l_toTypeS_l0 rec_l_toType a Go.V.bigN (0 : Int) (List.replicate (Int.toNat ((List.length a) : Int)) (M.SType.mk (0 : Int) [] [] []))) with
  | none => none
  | some y0 =>
    bif (((decide (((List.length a) : Int) ≤ ((List.length a) : Int))) && (decide (((List.length a) : Int) ≤ (1073741824 : Int)))) && true) then
      some y0
    else
      none
end M
namespace M
noncomputable def l_toType_b (rec_l_toType : M.SType → Option (M.SType)) (a : M.SType) : Option (M.SType) :=
  let q0 := (M.l_toTypeS rec_l_toType (M.SType.Kids a))
  let q1 := (M.l_toStringS (M.SType.Labels a))
  bif ((Option.isSome q0) && ((Option.isSome q1) && true)) then
    some (M.SType.mk (M.SType.Kind a) (M.SType.Name a) (Option.getD q1 Inhabited.default) (Option.getD q0 Inhabited.default))
  else
    none
noncomputable def l_toType_n : Nat → M.SType → Option (M.SType)
  | 0 => fun _ => none
  | n + 1 => l_toType_b (l_toType_n n)
noncomputable def l_toType : M.SType → Option (M.SType) := l_toType_n Go.V.bigN
end M
namespace M
noncomputable def l_eqStringS_l0 (a : (List (List UInt8))) (b : (List (List UInt8))) : Nat → Int → Option ((Bool) ⊕ (Unit))
  | 0, _ => none
  | fuel + 1, i =>
    bif (decide (i < ((List.length a) : Int))) then
      bif (!((List.getD a (Int.toNat i) []) == (List.getD b (Int.toNat i) []))) then
        let q0 := ((Go.V.inB i (List.length b)) && ((Go.V.inB i (List.length a)) && true))
        bif q0 then
          some (.inl false)
        else
          none
      else
        let q0 := ((Go.V.inB i (List.length b)) && ((Go.V.inB i (List.length a)) && true))
        bif q0 then
          M.l_eqStringS_l0 a b fuel (Go.IntKind.wrap Go.IntKind.i64 (i + (1 : Int)))
        else
          none
    else
      some ((.inr (())))
end M
namespace M
noncomputable def l_eqStringS (a : (List (List UInt8))) (b : (List (List UInt8))) : Option (Bool) :=
  bif (((List.length a) : Int) != ((List.length b) : Int)) then
    some false
  else
    match (M.l_eqStringS_l0 a b Go.V.bigN (0 : Int)) with
    | none => none
    | some y0 =>
      (match y0 with
      | .inl a1 =>
        some a1
      | .inr b1 =>
        some true)
end M
namespace M
noncomputable def l_eqTypeS_l0 (rec_l_eqType : M.SType → M.SType → Option (Bool)) (a : (List M.SType)) (b : (List M.SType)) : Nat → Int → Option ((Bool) ⊕ (Unit))
  | 0, _ => none
  | fuel + 1, i =>
    bif (decide (i < ((List.length a) : Int))) then
      bif (!(Option.getD (rec_l_eqType (M.SType.re (List.getD a (Int.toNat i) M.SType.zero)) (M.SType.re (List.getD b (Int.toNat i) M.SType.zero))) Inhabited.default)) then
        let q0 := ((Option.isSome (rec_l_eqType (M.SType.re (List.getD a (Int.toNat i) M.SType.zero)) (M.SType.re (List.getD b (Int.toNat i) M.SType.zero)))) && ((Go.V.inB i (List.length b)) && ((Go.V.inB i (List.length a)) && true)))
        bif q0 then
          some (.inl false)
        else
          none
      else
        let q0 := ((Option.isSome (rec_l_eqType (M.SType.re (List.getD a (Int.toNat i) M.SType.zero)) (M.SType.re (List.getD b (Int.toNat i) M.SType.zero)))) && ((Go.V.inB i (List.length b)) && ((Go.V.inB i (List.length a)) && true)))
        bif q0 then
          M.l_eqTypeS_l0 rec_l_eqType a b fuel (Go.IntKind.wrap Go.IntKind.i64 (i + (1 : Int)))
        else
          none
    else
      some ((.inr (())))
end M
namespace M
noncomputable def l_eqTypeS (rec_l_eqType : M.SType → M.SType → Option (Bool)) (a : (List M.SType)) (b : (List M.SType)) : Option (Bool) :=
  bif (((List.length a) : Int) != ((List.length b) : Int)) then
    some false
  else
    match (M.l_eqTypeS_l0 rec_l_eqType a b Go.V.bigN (0 : Int)) with
    | none => none
    | some y0 =>
      (match y0 with
      | .inl a1 =>
        some a1
      | .inr b1 =>
        some true)
end M
namespace M
noncomputable def l_eqType_b (rec_l_eqType : M.SType → M.SType → Option (Bool)) (a : M.SType) (b : M.SType) : Option (Bool) :=
  bif ((M.SType.Kind a) != (M.SType.Kind b)) then
    some false
  else
    bif (!((M.SType.Name a) == (M.SType.Name b))) then
      some false
    else
      let q0 := (M.l_eqStringS (M.SType.Labels a) (M.SType.Labels b))
      bif (!(Option.getD q0 Inhabited.default)) then
        bif ((Option.isSome q0) && true) then
          some false
        else
          none
      else
        let q1 := (M.l_eqTypeS rec_l_eqType (M.SType.Kids a) (M.SType.Kids b))
        bif (!(Option.getD q1 Inhabited.default)) then
          bif ((Option.isSome q1) && ((Option.isSome q0) && true)) then
            some false
          else
            none
        else
          bif ((Option.isSome q1) && ((Option.isSome q0) && true)) then
            some true
          else
            none
noncomputable def l_eqType_n : Nat → M.SType → M.SType → Option (Bool)
  | 0 => fun _ _ => none
  | n + 1 => l_eqType_b (l_eqType_n n)
noncomputable def l_eqType : M.SType → M.SType → Option (Bool) := l_eqType_n Go.V.bigN
end M
namespace M
noncomputable def s_l03Texts_l0 (a : (List (List UInt8))) (b : (List (List UInt8))) : Nat → Int → Option ((Bool) ⊕ (Unit))
  | 0, _ => none
  | fuel + 1, i =>
    bif (decide (i < ((List.length a) : Int))) then
      bif (!((List.getD a (Int.toNat i) []) == (List.getD b (Int.toNat i) []))) then
        let q0 := ((Go.V.inB i (List.length b)) && ((Go.V.inB i (List.length a)) && true))
        bif q0 then
          some (.inl false)
        else
          none
      else
        let q0 := ((Go.V.inB i (List.length b)) && ((Go.V.inB i (List.length a)) && true))
        bif q0 then
          M.s_l03Texts_l0 a b fuel (Go.IntKind.wrap Go.IntKind.i64 (i + (1 : Int)))
        else
          none
    else
      some ((.inr (())))
end M
namespace M
noncomputable def s_l03Texts (a : (List (List UInt8))) (b : (List (List UInt8))) : Option (Bool) :=
  bif (((List.length a) : Int) != ((List.length b) : Int)) then
    some false
  else
    match (M.s_l03Texts_l0 a b Go.V.bigN (0 : Int)) with
    | none => none
    | some y0 =>
      (match y0 with
      | .inl a1 =>
        some a1
      | .inr b1 =>
        some true)
end M
namespace M
noncomputable def s_l03Same_l0 (rec_s_l03Same : M.SType → M.SType → Int → Option (Bool)) (deep : Int) : Nat → Int → M.SType → M.SType → Option ((Bool) ⊕ (Unit))
  | 0, _, _, _ => none
  | fuel + 1, i, a, b =>
    bif (decide (i < ((List.length (M.SType.Kids a)) : Int))) then
      bif (!(Option.getD (rec_s_l03Same (M.SType.re (List.getD (M.SType.Kids a) (Int.toNat i) M.SType.zero)) (M.SType.re (List.getD (M.SType.Kids b) (Int.toNat i) M.SType.zero)) (Go.IntKind.wrap Go.IntKind.i64 (deep + (1 : Int)))) Inhabited.default)) then
        let q0 := ((Option.isSome (rec_s_l03Same (M.SType.re (List.getD (M.SType.Kids a) (Int.toNat i) M.SType.zero)) (M.SType.re (List.getD (M.SType.Kids b) (Int.toNat i) M.SType.zero)) (Go.IntKind.wrap Go.IntKind.i64 (deep + (1 : Int))))) && ((Go.V.inB i (List.length (M.SType.Kids b))) && ((Go.V.inB i (List.length (M.SType.Kids a))) && true)))
        bif q0 then
          some (.inl false)
        else
          none
      else
        let q0 := ((Option.isSome (rec_s_l03Same (M.SType.re (List.getD (M.SType.Kids a) (Int.toNat i) M.SType.zero)) (M.SType.re (List.getD (M.SType.Kids b) (Int.toNat i) M.SType.zero)) (Go.IntKind.wrap Go.IntKind.i64 (deep + (1 : Int))))) && ((Go.V.inB i (List.length (M.SType.Kids b))) && ((Go.V.inB i (List.length (M.SType.Kids a))) && true)))
        bif q0 then
          M.s_l03Same_l0 rec_s_l03Same deep fuel (Go.IntKind.wrap Go.IntKind.i64 (i + (1 : Int))) (M.SType.re a) (M.SType.re b)
        else
          none
    else
      some ((.inr (())))
end M
namespace M
noncomputable def s_l03Same_b (rec_s_l03Same : M.SType → M.SType → Int → Option (Bool)) (a : M.SType) (b : M.SType) (deep : Int) : Option (Bool) :=
  let q0 := (((decide ((100 : Int) < deep)) || ((M.SType.Kind a) != (M.SType.Kind b))) || (!((M.SType.Name a) == (M.SType.Name b))))
  let q1 := (M.s_l03Texts (M.SType.Labels a) (M.SType.Labels b))
  bif ((q0 || (!(Option.getD q1 Inhabited.default))) || (((List.length (M.SType.Kids a)) : Int) != ((List.length (M.SType.Kids b)) : Int))) then
    let q2 := (((Option.isSome q1) || (!(q0 == false))) && true)
    bif q2 then
      some false
    else
      none
  else
    match (M.s_l03Same_l0 rec_s_l03Same deep Go.V.bigN (0 : Int) (M.SType.re a) (M.SType.re b)) with
    | none => none
    | some y2 =>
      (match y2 with
      | .inl a3 =>
        let q4 := (((Option.isSome q1) || (!(q0 == false))) && true)
        bif q4 then
          some a3
        else
          none
      | .inr b3 =>
        let q4 := (((Option.isSome q1) || (!(q0 == false))) && true)
        bif q4 then
          some true
        else
          none)
noncomputable def s_l03Same_n : Nat → M.SType → M.SType → Int → Option (Bool)
  | 0 => fun _ _ _ => none
  | n + 1 => s_l03Same_b (s_l03Same_n n)
noncomputable def s_l03Same : M.SType → M.SType → Int → Option (Bool) := s_l03Same_n Go.V.bigN
end M
namespace M
noncomputable def slices_Equal_string_string_l0 (s1 : (List (List UInt8))) (s2 : (List (List UInt8))) (t12 : Int) : Nat → Int → Option ((Bool) ⊕ (Unit))
  | 0, _ => none
  | fuel + 1, t13 =>
    bif (decide (t13 < t12)) then
      bif (!((List.getD s1 (Int.toNat t13) []) == (List.getD s2 (Int.toNat t13) []))) then
        let q0 := ((Go.V.inB t13 (List.length s2)) && ((Go.V.inB t13 (List.length s1)) && true))
        bif q0 then
          some (.inl false)
        else
          none
      else
        let q0 := ((Go.V.inB t13 (List.length s2)) && ((Go.V.inB t13 (List.length s1)) && true))
        bif q0 then
          M.slices_Equal_string_string_l0 s1 s2 t12 fuel (Go.IntKind.wrap Go.IntKind.i64 (t13 + (1 : Int)))
        else
          none
    else
      some ((.inr (())))
end M
namespace M
noncomputable def slices_Equal_string_string (s1 : (List (List UInt8))) (s2 : (List (List UInt8))) : Option (Bool) :=
  bif (((List.length s1) : Int) != ((List.length s2) : Int)) then
    some false
  else
    match (M.slices_Equal_string_string_l0 s1 s2 ((List.length s1) : Int) Go.V.bigN (0 : Int)) with
    | none => none
    | some y0 =>
      (match y0 with
      | .inl a1 =>
        some a1
      | .inr b1 =>
        some true)
end M
namespace M
noncomputable def i_sameType_c1 (rec_i_sameType : M.SType → M.SType → Int → Option (Bool)) (x : M.SType) (y_ : M.SType) (t2 : Int) : Option (Bool) :=
  bif ((Option.isSome (rec_i_sameType (M.SType.re x) (M.SType.re y_) (Go.IntKind.wrap Go.IntKind.i64 (t2 - (1 : Int))))) && true) then
    some (Option.getD (rec_i_sameType (M.SType.re x) (M.SType.re y_) (Go.IntKind.wrap Go.IntKind.i64 (t2 - (1 : Int)))) Inhabited.default)
  else
    none
end M
namespace M
noncomputable def slices_EqualFunc_Type_Type_Type_Type_l0 (rec_i_sameType : M.SType → M.SType → Int → Option (Bool)) (s2 : (List M.SType)) (eq : Int) (t15 : (List M.SType)) (t16 : Int) : Nat → Int → Option ((Bool) ⊕ (Unit))
  | 0, _ => none
  | fuel + 1, t17 =>
    bif (decide (t17 < t16)) then
      let q0 := (M.i_sameType_c1 rec_i_sameType (M.SType.re (List.getD t15 (Int.toNat t17) M.SType.zero)) (M.SType.re (List.getD s2 (Int.toNat t17) M.SType.zero)) eq)
      bif (!(Option.getD q0 Inhabited.default)) then
        let q1 := ((Option.isSome q0) && ((Go.V.inB t17 (List.length s2)) && ((Go.V.inB t17 (List.length t15)) && true)))
        bif q1 then
          some (.inl false)
        else
          none
      else
        let q1 := ((Option.isSome q0) && ((Go.V.inB t17 (List.length s2)) && ((Go.V.inB t17 (List.length t15)) && true)))
        bif q1 then
          M.slices_EqualFunc_Type_Type_Type_Type_l0 rec_i_sameType s2 eq t15 t16 fuel (Go.IntKind.wrap Go.IntKind.i64 (t17 + (1 : Int)))
        else
          none
    else
      some ((.inr (())))
end M
namespace M
noncomputable def slices_EqualFunc_Type_Type_Type_Type (rec_i_sameType : M.SType → M.SType → Int → Option (Bool)) (s1 : (List M.SType)) (s2 : (List M.SType)) (eq : Int) : Option (Bool) :=
  bif (((List.length s1) : Int) != ((List.length s2) : Int)) then
    some false
  else
    match (M.slices_EqualFunc_Type_Type_Type_Type_l0 rec_i_sameType s2 eq s1 ((List.length s1) : Int) Go.V.bigN (0 : Int)) with
    | none => none
    | some y0 =>
      (match y0 with
      | .inl a1 =>
        some a1
      | .inr b1 =>
        some true)
end M
namespace M
noncomputable def i_sameType_b (rec_i_sameType : M.SType → M.SType → Int → Option (Bool)) (a : M.SType) (b : M.SType) (levels : Int) : Option (Bool) :=
  let q0 := (((levels == (0 : Int)) || ((M.SType.Kind a) != (M.SType.Kind b))) || (!((M.SType.Name a) == (M.SType.Name b))))
  let q1 := (M.slices_Equal_string_string (M.SType.Labels a) (M.SType.Labels b))
  bif (q0 || (!(Option.getD q1 Inhabited.default))) then
    let q2 := (((Option.isSome q1) || (!(q0 == false))) && true)
    bif q2 then
      some false
    else
      none
  else
    let q2 := (M.slices_EqualFunc_Type_Type_Type_Type rec_i_sameType (M.SType.Kids a) (M.SType.Kids b) levels)
    let q3 := (((Option.isSome q1) || (!(q0 == false))) && true)
    bif ((Option.isSome q2) && q3) then
      some (Option.getD q2 Inhabited.default)
    else
      none
noncomputable def i_sameType_n : Nat → M.SType → M.SType → Int → Option (Bool)
  | 0 => fun _ _ _ => none
  | n + 1 => i_sameType_b (i_sameType_n n)
noncomputable def i_sameType : M.SType → M.SType → Int → Option (Bool) := i_sameType_n Go.V.bigN
end M
namespace M
noncomputable def l_szParam (a : M.SParam) (left : Int) : Option (Int) :=
  bif (decide ((Go.IntKind.wrap Go.IntKind.i64 (left - ((List.length (M.SParam.Name a)) : Int))) < (0 : Int))) then
    some (-(1 : Int))
  else
    let q0 := (M.l_szType (M.SType.re (M.SParam.Type_ a)) (Go.IntKind.wrap Go.IntKind.i64 (left - ((List.length (M.SParam.Name a)) : Int))))
    let q1 := (Option.getD q0 Inhabited.default)
    bif (decide (q1 < (0 : Int))) then
      let q2 := ((Option.isSome q0) && true)
      bif q2 then
        some (-(1 : Int))
      else
        none
    else
      let q2 := ((Option.isSome q0) && true)
      bif q2 then
        some q1
      else
        none
end M
namespace M
noncomputable def l_szParamS_l0 (a : (List M.SParam)) : Nat → Int → Int → Option ((Int) ⊕ (Int))
  | 0, _, _ => none
  | fuel + 1, left, i =>
    bif (decide (i < ((List.length a) : Int))) then
      let q0 := (M.l_szParam (M.SParam.re (List.getD a (Int.toNat i) M.SParam.zero)) left)
      let q1 := (Option.getD q0 Inhabited.default)
      bif (decide (q1 < (0 : Int))) then
        let q2 := ((Option.isSome q0) && ((Go.V.inB i (List.length a)) && true))
        bif q2 then
          some (.inl (-(1 : Int)))
        else
          none
      else
        let q2 := ((Option.isSome q0) && ((Go.V.inB i (List.length a)) && true))
        bif q2 then
          M.l_szParamS_l0 a fuel q1 (Go.IntKind.wrap Go.IntKind.i64 (i + (1 : Int)))
        else
          none
    else
      some ((.inr (left)))
end M
namespace M
noncomputable def l_szParamS (a : (List M.SParam)) (left : Int) : Option (Int) :=
  bif (decide ((Go.IntKind.wrap Go.IntKind.i64 (left - ((List.length a) : Int))) < (0 : Int))) then
    some (-(1 : Int))
  else
    match (M.l_szParamS_l0 a Go.V.bigN (Go.IntKind.wrap Go.IntKind.i64 (left - ((List.length a) : Int))) (0 : Int)) with
    | none => none
    | some y0 =>
      (match y0 with
      | .inl a1 =>
        some a1
      | .inr b1 =>
        some b1)
end M
namespace M
noncomputable def l_szFuncType (a : M.SFuncType) (left : Int) : Option (Int) :=
  let q0 := (M.l_szParamS (M.SFuncType.Params a) left)
  bif (decide ((Option.getD q0 Inhabited.default) < (0 : Int))) then
    bif ((Option.isSome q0) && true) then
      some (-(1 : Int))
    else
      none
  else
    let q1 := (M.l_szType (M.SType.re (M.SFuncType.Result a)) (Option.getD q0 Inhabited.default))
    let q2 := (Option.getD q1 Inhabited.default)
    bif (decide (q2 < (0 : Int))) then
      let q3 := ((Option.isSome q1) && ((Option.isSome q0) && true))
      bif q3 then
        some (-(1 : Int))
      else
        none
    else
      let q3 := ((Option.isSome q1) && ((Option.isSome q0) && true))
      bif q3 then
        some q2
      else
        none
end M
namespace M
noncomputable def l_szFunc (a : M.SFunc) (left : Int) : Option (Int) :=
  bif (decide ((Go.IntKind.wrap Go.IntKind.i64 (left - ((List.length (M.SFunc.Name a)) : Int))) < (0 : Int))) then
    some (-(1 : Int))
  else
    let q0 := (M.l_szFuncType (M.SFuncType.re (M.SFunc.Type_ a)) (Go.IntKind.wrap Go.IntKind.i64 (left - ((List.length (M.SFunc.Name a)) : Int))))
    let q1 := (Option.getD q0 Inhabited.default)
    bif (decide (q1 < (0 : Int))) then
      let q2 := ((Option.isSome q0) && true)
      bif q2 then
        some (-(1 : Int))
      else
        none
    else
      let q2 := ((Option.isSome q0) && true)
      bif q2 then
        some q1
      else
        none
end M
namespace M
noncomputable def l_szFuncS_l0 (a : (List M.SFunc)) : Nat → Int → Int → Option ((Int) ⊕ (Int))
  | 0, _, _ => none
  | fuel + 1, left, i =>
    bif (decide (i < ((List.length a) : Int))) then
      let q0 := (M.l_szFunc (M.SFunc.re (List.getD a (Int.toNat i) M.SFunc.zero)) left)
      let q1 := (Option.getD q0 Inhabited.default)
      bif (decide (q1 < (0 : Int))) then
        let q2 := ((Option.isSome q0) && ((Go.V.inB i (List.length a)) && true))
        bif q2 then
          some (.inl (-(1 : Int)))
        else
          none
      else
        let q2 := ((Option.isSome q0) && ((Go.V.inB i (List.length a)) && true))
        bif q2 then
          M.l_szFuncS_l0 a fuel q1 (Go.IntKind.wrap Go.IntKind.i64 (i + (1 : Int)))
        else
          none
    else
      some ((.inr (left)))
end M
namespace M
noncomputable def l_szFuncS (a : (List M.SFunc)) (left : Int) : Option (Int) :=
  bif (decide ((Go.IntKind.wrap Go.IntKind.i64 (left - ((List.length a) : Int))) < (0 : Int))) then
    some (-(1 : Int))
  else
    match (M.l_szFuncS_l0 a Go.V.bigN (Go.IntKind.wrap Go.IntKind.i64 (left - ((List.length a) : Int))) (0 : Int)) with
    | none => none
    | some y0 =>
      (match y0 with
      | .inl a1 =>
        some a1
      | .inr b1 =>
        some b1)
end M
namespace M
noncomputable def l_szFace (a : M.SFace) (left : Int) : Option (Int) :=
  bif (decide ((Go.IntKind.wrap Go.IntKind.i64 (left - ((List.length (M.SFace.Package a)) : Int))) < (0 : Int))) then
    some (-(1 : Int))
  else
    let q0 := (Go.IntKind.wrap Go.IntKind.i64 ((Go.IntKind.wrap Go.IntKind.i64 (left - ((List.length (M.SFace.Package a)) : Int))) - ((List.length (M.SFace.Name a)) : Int)))
    bif (decide (q0 < (0 : Int))) then
      some (-(1 : Int))
    else
      let q1 := (Go.IntKind.wrap Go.IntKind.i64 (q0 - ((List.length (M.SFace.Version a)) : Int)))
      bif (decide (q1 < (0 : Int))) then
        some (-(1 : Int))
      else
        let q2 := (M.l_szStringS (M.SFace.Resources a) q1)
        let q3 := (Option.getD q2 Inhabited.default)
        bif (decide (q3 < (0 : Int))) then
          let q4 := ((Option.isSome q2) && true)
          bif q4 then
            some (-(1 : Int))
          else
            none
        else
          let q4 := (M.l_szFuncS (M.SFace.Funcs a) q3)
          let q5 := (Option.getD q4 Inhabited.default)
          bif (decide (q5 < (0 : Int))) then
            let q6 := ((Option.isSome q2) && true)
            let q7 := ((Option.isSome q4) && q6)
            bif q7 then
              some (-(1 : Int))
            else
              none
          else
            let q6 := ((Option.isSome q2) && true)
            let q7 := ((Option.isSome q4) && q6)
            bif q7 then
              some q5
            else
              none
end M
namespace M
noncomputable def l_szFaceS_l0 (a : (List M.SFace)) : Nat → Int → Int → Option ((Int) ⊕ (Int))
  | 0, _, _ => none
  | fuel + 1, left, i =>
    bif (decide (i < ((List.length a) : Int))) then
      let q0 := (M.l_szFace (List.getD a (Int.toNat i) M.SFace.zero) left)
      let q1 := (Option.getD q0 Inhabited.default)
      bif (decide (q1 < (0 : Int))) then
        let q2 := ((Option.isSome q0) && ((Go.V.inB i (List.length a)) && true))
        bif q2 then
          some (.inl (-(1 : Int)))
        else
          none
      else
        let q2 := ((Option.isSome q0) && ((Go.V.inB i (List.length a)) && true))
        bif q2 then
          M.l_szFaceS_l0 a fuel q1 (Go.IntKind.wrap Go.IntKind.i64 (i + (1 : Int)))
        else
          none
    else
      some ((.inr (left)))
end M
namespace M
noncomputable def l_szFaceS (a : (List M.SFace)) (left : Int) : Option (Int) :=
  bif (decide ((Go.IntKind.wrap Go.IntKind.i64 (left - ((List.length a) : Int))) < (0 : Int))) then
    some (-(1 : Int))
  else
    match (M.l_szFaceS_l0 a Go.V.bigN (Go.IntKind.wrap Go.IntKind.i64 (left - ((List.length a) : Int))) (0 : Int)) with
    | none => none
    | some y0 =>
      (match y0 with
      | .inl a1 =>
        some a1
      | .inr b1 =>
        some b1)
end M
namespace M
noncomputable def l_szImport (a : M.SImport) (left : Int) : Option (Int) :=
  bif (decide ((Go.IntKind.wrap Go.IntKind.i64 (left - ((List.length (M.SImport.Name a)) : Int))) < (0 : Int))) then
    some (-(1 : Int))
  else
    some (Go.IntKind.wrap Go.IntKind.i64 (left - ((List.length (M.SImport.Name a)) : Int)))
end M
namespace M
noncomputable def l_szImportS_l0 (a : (List M.SImport)) : Nat → Int → Int → Option ((Int) ⊕ (Int))
  | 0, _, _ => none
  | fuel + 1, left, i =>
    bif (decide (i < ((List.length a) : Int))) then
      let q0 := (M.l_szImport (List.getD a (Int.toNat i) M.SImport.zero) left)
      let q1 := (Option.getD q0 Inhabited.default)
      bif (decide (q1 < (0 : Int))) then
        let q2 := ((Option.isSome q0) && ((Go.V.inB i (List.length a)) && true))
        bif q2 then
          some (.inl (-(1 : Int)))
        else
          none
      else
        let q2 := ((Option.isSome q0) && ((Go.V.inB i (List.length a)) && true))
        bif q2 then
          M.l_szImportS_l0 a fuel q1 (Go.IntKind.wrap Go.IntKind.i64 (i + (1 : Int)))
        else
          none
    else
      some ((.inr (left)))
end M
namespace M
noncomputable def l_szImportS (a : (List M.SImport)) (left : Int) : Option (Int) :=
  bif (decide ((Go.IntKind.wrap Go.IntKind.i64 (left - ((List.length a) : Int))) < (0 : Int))) then
    some (-(1 : Int))
  else
    match (M.l_szImportS_l0 a Go.V.bigN (Go.IntKind.wrap Go.IntKind.i64 (left - ((List.length a) : Int))) (0 : Int)) with
    | none => none
    | some y0 =>
      (match y0 with
      | .inl a1 =>
        some a1
      | .inr b1 =>
        some b1)
end M
namespace M
noncomputable def l_szInsS (a : (List M.SIns)) (left : Int) : Option (Int) :=
  bif (decide ((Go.IntKind.wrap Go.IntKind.i64 (left - ((List.length a) : Int))) < (0 : Int))) then
    some (-(1 : Int))
  else
    some (Go.IntKind.wrap Go.IntKind.i64 (left - ((List.length a) : Int)))
end M
namespace M
noncomputable def l_szCore (a : M.SCore) (left : Int) : Option (Int) :=
  bif (decide ((Go.IntKind.wrap Go.IntKind.i64 (left - ((List.length (M.SCore.Name a)) : Int))) < (0 : Int))) then
    some (-(1 : Int))
  else
    let q0 := (M.l_szInsS (M.SCore.Code a) (Go.IntKind.wrap Go.IntKind.i64 (left - ((List.length (M.SCore.Name a)) : Int))))
    let q1 := (Option.getD q0 Inhabited.default)
    bif (decide (q1 < (0 : Int))) then
      let q2 := ((Option.isSome q0) && true)
      bif q2 then
        some (-(1 : Int))
      else
        none
    else
      let q2 := ((Option.isSome q0) && true)
      bif q2 then
        some q1
      else
        none
end M
namespace M
noncomputable def l_szCoreS_l0 (a : (List M.SCore)) : Nat → Int → Int → Option ((Int) ⊕ (Int))
  | 0, _, _ => none
  | fuel + 1, left, i =>
    bif (decide (i < ((List.length a) : Int))) then
      let q0 := (M.l_szCore (List.getD a (Int.toNat i) M.SCore.zero) left)
      let q1 := (Option.getD q0 Inhabited.default)
      bif (decide (q1 < (0 : Int))) then
        let q2 := ((Option.isSome q0) && ((Go.V.inB i (List.length a)) && true))
        bif q2 then
          some (.inl (-(1 : Int)))
        else
          none
      else
        let q2 := ((Option.isSome q0) && ((Go.V.inB i (List.length a)) && true))
        bif q2 then
          M.l_szCoreS_l0 a fuel q1 (Go.IntKind.wrap Go.IntKind.i64 (i + (1 : Int)))
        else
          none
    else
      some ((.inr (left)))
end M
namespace M
noncomputable def l_szCoreS (a : (List M.SCore)) (left : Int) : Option (Int) :=
  bif (decide ((Go.IntKind.wrap Go.IntKind.i64 (left - ((List.length a) : Int))) < (0 : Int))) then
    some (-(1 : Int))
  else
    match (M.l_szCoreS_l0 a Go.V.bigN (Go.IntKind.wrap Go.IntKind.i64 (left - ((List.length a) : Int))) (0 : Int)) with
    | none => none
    | some y0 =>
      (match y0 with
      | .inl a1 =>
        some a1
      | .inr b1 =>
        some b1)
end M
namespace M
noncomputable def l_szModule (a : M.SModule) (left : Int) : Option (Int) :=
  let q0 := (M.l_szImportS (M.SModule.Imports a) left)
  bif (decide ((Option.getD q0 Inhabited.default) < (0 : Int))) then
    bif ((Option.isSome q0) && true) then
      some (-(1 : Int))
    else
      none
  else
    let q1 := (M.l_szCoreS (M.SModule.Cores a) (Option.getD q0 Inhabited.default))
    let q2 := (Option.getD q1 Inhabited.default)
    bif (decide (q2 < (0 : Int))) then
      let q3 := ((Option.isSome q1) && ((Option.isSome q0) && true))
      bif q3 then
        some (-(1 : Int))
      else
        none
    else
      let q3 := ((Option.isSome q1) && ((Option.isSome q0) && true))
      bif q3 then
        some q2
      else
        none
end M
namespace M
noncomputable def l_szLift (a : M.SLift) (left : Int) : Option (Int) :=
  bif (decide ((Go.IntKind.wrap Go.IntKind.i64 (left - ((List.length (M.SLift.Face a)) : Int))) < (0 : Int))) then
    some (-(1 : Int))
  else
    let q0 := (Go.IntKind.wrap Go.IntKind.i64 ((Go.IntKind.wrap Go.IntKind.i64 (left - ((List.length (M.SLift.Face a)) : Int))) - ((List.length (M.SLift.Func a)) : Int)))
    bif (decide (q0 < (0 : Int))) then
      some (-(1 : Int))
    else
      let q1 := (Go.IntKind.wrap Go.IntKind.i64 (q0 - ((List.length (M.SLift.Core a)) : Int)))
      bif (decide (q1 < (0 : Int))) then
        some (-(1 : Int))
      else
        some q1
end M
namespace M
noncomputable def l_szLiftS_l0 (a : (List M.SLift)) : Nat → Int → Int → Option ((Int) ⊕ (Int))
  | 0, _, _ => none
  | fuel + 1, left, i =>
    bif (decide (i < ((List.length a) : Int))) then
      let q0 := (M.l_szLift (List.getD a (Int.toNat i) M.SLift.zero) left)
      let q1 := (Option.getD q0 Inhabited.default)
      bif (decide (q1 < (0 : Int))) then
        let q2 := ((Option.isSome q0) && ((Go.V.inB i (List.length a)) && true))
        bif q2 then
          some (.inl (-(1 : Int)))
        else
          none
      else
        let q2 := ((Option.isSome q0) && ((Go.V.inB i (List.length a)) && true))
        bif q2 then
          M.l_szLiftS_l0 a fuel q1 (Go.IntKind.wrap Go.IntKind.i64 (i + (1 : Int)))
        else
          none
    else
      some ((.inr (left)))
end M
namespace M
noncomputable def l_szLiftS (a : (List M.SLift)) (left : Int) : Option (Int) :=
  bif (decide ((Go.IntKind.wrap Go.IntKind.i64 (left - ((List.length a) : Int))) < (0 : Int))) then
    some (-(1 : Int))
  else
    match (M.l_szLiftS_l0 a Go.V.bigN (Go.IntKind.wrap Go.IntKind.i64 (left - ((List.length a) : Int))) (0 : Int)) with
    | none => none
    | some y0 =>
      (match y0 with
      | .inl a1 =>
        some a1
      | .inr b1 =>
        some b1)
end M
namespace M
noncomputable def l_szLower (a : M.SLower) (left : Int) : Option (Int) :=
  bif (decide ((Go.IntKind.wrap Go.IntKind.i64 (left - ((List.length (M.SLower.Face a)) : Int))) < (0 : Int))) then
    some (-(1 : Int))
  else
    let q0 := (Go.IntKind.wrap Go.IntKind.i64 ((Go.IntKind.wrap Go.IntKind.i64 (left - ((List.length (M.SLower.Face a)) : Int))) - ((List.length (M.SLower.Func a)) : Int)))
    bif (decide (q0 < (0 : Int))) then
      some (-(1 : Int))
    else
      let q1 := (Go.IntKind.wrap Go.IntKind.i64 (q0 - ((List.length (M.SLower.Import a)) : Int)))
      bif (decide (q1 < (0 : Int))) then
        some (-(1 : Int))
      else
        some q1
end M
namespace M
noncomputable def l_szLowerS_l0 (a : (List M.SLower)) : Nat → Int → Int → Option ((Int) ⊕ (Int))
  | 0, _, _ => none
  | fuel + 1, left, i =>
    bif (decide (i < ((List.length a) : Int))) then
      let q0 := (M.l_szLower (List.getD a (Int.toNat i) M.SLower.zero) left)
      let q1 := (Option.getD q0 Inhabited.default)
      bif (decide (q1 < (0 : Int))) then
        let q2 := ((Option.isSome q0) && ((Go.V.inB i (List.length a)) && true))
        bif q2 then
          some (.inl (-(1 : Int)))
        else
          none
      else
        let q2 := ((Option.isSome q0) && ((Go.V.inB i (List.length a)) && true))
        bif q2 then
          M.l_szLowerS_l0 a fuel q1 (Go.IntKind.wrap Go.IntKind.i64 (i + (1 : Int)))
        else
          none
    else
      some ((.inr (left)))
end M
namespace M
noncomputable def l_szLowerS (a : (List M.SLower)) (left : Int) : Option (Int) :=
  bif (decide ((Go.IntKind.wrap Go.IntKind.i64 (left - ((List.length a) : Int))) < (0 : Int))) then
    some (-(1 : Int))
  else
    match (M.l_szLowerS_l0 a Go.V.bigN (Go.IntKind.wrap Go.IntKind.i64 (left - ((List.length a) : Int))) (0 : Int)) with
    | none => none
    | some y0 =>
      (match y0 with
      | .inl a1 =>
        some a1
      | .inr b1 =>
        some b1)
end M
namespace M
noncomputable def l_szBuiltin (a : M.SBuiltin) (left : Int) : Option (Int) :=
  bif (decide ((Go.IntKind.wrap Go.IntKind.i64 (left - ((List.length (M.SBuiltin.Face a)) : Int))) < (0 : Int))) then
    some (-(1 : Int))
  else
    let q0 := (Go.IntKind.wrap Go.IntKind.i64 ((Go.IntKind.wrap Go.IntKind.i64 (left - ((List.length (M.SBuiltin.Face a)) : Int))) - ((List.length (M.SBuiltin.Resource a)) : Int)))
    bif (decide (q0 < (0 : Int))) then
      some (-(1 : Int))
    else
      let q1 := (Go.IntKind.wrap Go.IntKind.i64 (q0 - ((List.length (M.SBuiltin.Import a)) : Int)))
      bif (decide (q1 < (0 : Int))) then
        some (-(1 : Int))
      else
        some q1
end M
namespace M
noncomputable def l_szBuiltinS_l0 (a : (List M.SBuiltin)) : Nat → Int → Int → Option ((Int) ⊕ (Int))
  | 0, _, _ => none
  | fuel + 1, left, i =>
    bif (decide (i < ((List.length a) : Int))) then
      let q0 := (M.l_szBuiltin (List.getD a (Int.toNat i) M.SBuiltin.zero) left)
      let q1 := (Option.getD q0 Inhabited.default)
      bif (decide (q1 < (0 : Int))) then
        let q2 := ((Option.isSome q0) && ((Go.V.inB i (List.length a)) && true))
        bif q2 then
          some (.inl (-(1 : Int)))
        else
          none
      else
        let q2 := ((Option.isSome q0) && ((Go.V.inB i (List.length a)) && true))
        bif q2 then
          M.l_szBuiltinS_l0 a fuel q1 (Go.IntKind.wrap Go.IntKind.i64 (i + (1 : Int)))
        else
          none
    else
      some ((.inr (left)))
end M
namespace M
noncomputable def l_szBuiltinS (a : (List M.SBuiltin)) (left : Int) : Option (Int) :=
  bif (decide ((Go.IntKind.wrap Go.IntKind.i64 (left - ((List.length a) : Int))) < (0 : Int))) then
    some (-(1 : Int))
  else
    match (M.l_szBuiltinS_l0 a Go.V.bigN (Go.IntKind.wrap Go.IntKind.i64 (left - ((List.length a) : Int))) (0 : Int)) with
    | none => none
    | some y0 =>
      (match y0 with
      | .inl a1 =>
        some a1
      | .inr b1 =>
        some b1)
end M
namespace M
noncomputable def l_szComponent (a : M.SComponent) (left : Int) : Option (Int) :=
  bif (decide ((Go.IntKind.wrap Go.IntKind.i64 (left - ((List.length (M.SComponent.Name a)) : Int))) < (0 : Int))) then
    some (-(1 : Int))
  else
    let q0 := (Go.IntKind.wrap Go.IntKind.i64 ((Go.IntKind.wrap Go.IntKind.i64 (left - ((List.length (M.SComponent.Name a)) : Int))) - ((List.length (M.SComponent.Version a)) : Int)))
    bif (decide (q0 < (0 : Int))) then
      some (-(1 : Int))
    else
      let q1 := (M.l_szFaceS (M.SComponent.Imports a) q0)
      let q2 := (Option.getD q1 Inhabited.default)
      bif (decide (q2 < (0 : Int))) then
        let q3 := ((Option.isSome q1) && true)
        bif q3 then
          some (-(1 : Int))
        else
          none
      else
        let q3 := (M.l_szFaceS (M.SComponent.Exports a) q2)
        let q4 := (Option.getD q3 Inhabited.default)
        bif (decide (q4 < (0 : Int))) then
          let q5 := ((Option.isSome q1) && true)
          let q6 := ((Option.isSome q3) && q5)
          bif q6 then
            some (-(1 : Int))
          else
            none
        else
          let q5 := (M.l_szModule (M.SComponent.Module a) q4)
          let q6 := (Option.getD q5 Inhabited.default)
          bif (decide (q6 < (0 : Int))) then
            let q7 := ((Option.isSome q1) && true)
            let q8 := ((Option.isSome q3) && q7)
            let q9 := ((Option.isSome q5) && q8)
            bif q9 then
              some (-(1 : Int))
            else
              none
          else
            let q7 := (M.l_szLiftS (M.SComponent.Lifts a) q6)
            let q8 := (Option.getD q7 Inhabited.default)
            bif (decide (q8 < (0 : Int))) then
              let q9 := ((Option.isSome q1) && true)
              let q10 := ((Option.isSome q3) && q9)
              let q11 := ((Option.isSome q5) && q10)
              let q12 := ((Option.isSome q7) && q11)
              bif q12 then
                some (-(1 : Int))
              else
                none
            else
              let q9 := (M.l_szLowerS (M.SComponent.Lowers a) q8)
              let q10 := (Option.getD q9 Inhabited.default)
              bif (decide (q10 < (0 : Int))) then
                let q11 := ((Option.isSome q1) && true)
                let q12 := ((Option.isSome q3) && q11)
                let q13 := ((Option.isSome q5) && q12)
                let q14 := ((Option.isSome q7) && q13)
                let q15 := ((Option.isSome q9) && q14)
                bif q15 then
                  some (-(1 : Int))
                else
                  none
              else
                let q11 := (M.l_szBuiltinS (M.SComponent.Builtins a) q10)
                let q12 := (Option.getD q11 Inhabited.default)
                bif (decide (q12 < (0 : Int))) then
                  let q13 := ((Option.isSome q1) && true)
                  let q14 := ((Option.isSome q3) && q13)
                  let q15 := ((Option.isSome q5) && q14)
                  let q16 := ((Option.isSome q7) && q15)
                  let q17 := ((Option.isSome q9) && q16)
                  let q18 := ((Option.isSome q11) && q17)
                  bif q18 then
                    some (-(1 : Int))
                  else
                    none
                else
                  let q13 := ((Option.isSome q1) && true)
                  let q14 := ((Option.isSome q3) && q13)
                  let q15 := ((Option.isSome q5) && q14)
                  let q16 := ((Option.isSome q7) && q15)
                  let q17 := ((Option.isSome q9) && q16)
                  let q18 := ((Option.isSome q11) && q17)
                  bif q18 then
                    some q12
                  else
                    none
end M
namespace M
noncomputable def l_toParam (a : M.SParam) : Option (M.SParam) :=
  let q0 := (M.l_toType (M.SType.re (M.SParam.Type_ a)))
  bif ((Option.isSome q0) && true) then
    some (M.SParam.mk (M.SParam.Name a) (M.SType.re (Option.getD q0 Inhabited.default)))
  else
    none
end M
namespace M
noncomputable def l_toParamS_l0 (a : (List M.SParam)) : Nat → Int → (List M.SParam) → Option ((List M.SParam))
  | 0, _, _ => none
  | fuel + 1, i, out =>
    bif (decide (i < ((List.length a) : Int))) then
      let q0 := (M.l_toParam (M.SParam.re (List.getD a (Int.toNat i) M.SParam.zero)))
      bif ((Go.V.inB i (List.length out)) && ((Option.isSome q0) && ((Go.V.inB i (List.length a)) && true))) then
        M.l_toParamS_l0 a fuel (Go.IntKind.wrap Go.IntKind.i64 (i + (1 : Int))) (List.set out (Int.toNat i) (M.SParam.re (Option.getD q0 Inhabited.default)))
      else
        none
    else
      some (out)
end M
namespace M
noncomputable def l_toParamS (a : (List M.SParam)) : Option ((List M.SParam)) :=
  match (M.l_toParamS_l0 a Go.V.bigN (0 : Int) (List.replicate (Int.toNat ((List.length a) : Int)) (M.SParam.mk [] (M.SType.mk (0 : Int) [] [] [])))) with
  | none => none
  | some y0 =>
    bif (((decide (((List.length a) : Int) ≤ ((List.length a) : Int))) && (decide (((List.length a) : Int) ≤ (1073741824 : Int)))) && true) then
      some y0
    else
      none
end M
namespace M
noncomputable def l_toFuncType (a : M.SFuncType) : Option (M.SFuncType) :=
  let q0 := (M.l_toType (M.SType.re (M.SFuncType.Result a)))
  let q1 := (M.l_toParamS (M.SFuncType.Params a))
  bif ((Option.isSome q0) && ((Option.isSome q1) && true)) then
    some (M.SFuncType.mk (Option.getD q1 Inhabited.default) (M.SType.re (Option.getD q0 Inhabited.default)) (M.SFuncType.Async a))
  else
    none
end M
namespace M
noncomputable def l_toFunc (a : M.SFunc) : Option (M.SFunc) :=
  let q0 := (M.l_toFuncType (M.SFuncType.re (M.SFunc.Type_ a)))
  bif ((Option.isSome q0) && true) then
    some (M.SFunc.mk (M.SFunc.Name a) (M.SFuncType.re (Option.getD q0 Inhabited.default)))
  else
    none
end M
namespace M
noncomputable def l_toFuncS_l0 (a : (List M.SFunc)) : Nat → Int → (List M.SFunc) → Option ((List M.SFunc))
  | 0, _, _ => none
  | fuel + 1, i, out =>
    bif (decide (i < ((List.length a) : Int))) then
      let q0 := (M.l_toFunc (M.SFunc.re (List.getD a (Int.toNat i) M.SFunc.zero)))
      bif ((Go.V.inB i (List.length out)) && ((Option.isSome q0) && ((Go.V.inB i (List.length a)) && true))) then
        M.l_toFuncS_l0 a fuel (Go.IntKind.wrap Go.IntKind.i64 (i + (1 : Int))) (List.set out (Int.toNat i) (M.SFunc.re (Option.getD q0 Inhabited.default)))
      else
        none
    else
      some (out)
end M
namespace M
noncomputable def l_toFuncS (a : (List M.SFunc)) : Option ((List M.SFunc)) :=
  match (M.l_toFuncS_l0 a Go.V.bigN (0 : Int) (List.replicate (Int.toNat ((List.length a) : Int)) (M.SFunc.mk [] (M.SFuncType.mk [] (M.SType.mk (0 : Int) [] [] []) false)))) with
  | none => none
  | some y0 =>
    bif (((decide (((List.length a) : Int) ≤ ((List.length a) : Int))) && (decide (((List.length a) : Int) ≤ (1073741824 : Int)))) && true) then
      some y0
    else
      none
end M
namespace M
noncomputable def l_toFace (a : M.SFace) : Option (M.SFace) :=
  let q0 := (M.l_toFuncS (M.SFace.Funcs a))
  let q1 := (M.l_toStringS (M.SFace.Resources a))
  bif ((Option.isSome q0) && ((Option.isSome q1) && true)) then
    some (M.SFace.mk (M.SFace.Package a) (M.SFace.Name a) (M.SFace.Version a) (Option.getD q1 Inhabited.default) (Option.getD q0 Inhabited.default))
  else
    none
end M
namespace M
noncomputable def l_toFaceS_l0 (a : (List M.SFace)) : Nat → Int → (List M.SFace) → Option ((List M.SFace))
  | 0, _, _ => none
  | fuel + 1, i, out =>
    bif (decide (i < ((List.length a) : Int))) then
      let q0 := (M.l_toFace (List.getD a (Int.toNat i) M.SFace.zero))
      bif ((Go.V.inB i (List.length out)) && ((Option.isSome q0) && ((Go.V.inB i (List.length a)) && true))) then
        M.l_toFaceS_l0 a fuel (Go.IntKind.wrap Go.IntKind.i64 (i + (1 : Int))) (List.set out (Int.toNat i) (Option.getD q0 Inhabited.default))
      else
        none
    else
      some (out)
end M
namespace M
noncomputable def l_toFaceS (a : (List M.SFace)) : Option ((List M.SFace)) :=
  match (M.l_toFaceS_l0 a Go.V.bigN (0 : Int) (List.replicate (Int.toNat ((List.length a) : Int)) (M.SFace.mk [] [] [] [] []))) with
  | none => none
  | some y0 =>
    bif (((decide (((List.length a) : Int) ≤ ((List.length a) : Int))) && (decide (((List.length a) : Int) ≤ (1073741824 : Int)))) && true) then
      some y0
    else
      none
end M
namespace M
noncomputable def l_toImport (a : M.SImport) : Option (M.SImport) :=
  some a
end M
namespace M
noncomputable def l_toImportS_l0 (a : (List M.SImport)) : Nat → Int → (List M.SImport) → Option ((List M.SImport))
  | 0, _, _ => none
  | fuel + 1, i, out =>
    bif (decide (i < ((List.length a) : Int))) then
      bif ((Go.V.inB i (List.length out)) && ((Go.V.inB i (List.length a)) && true)) then
        M.l_toImportS_l0 a fuel (Go.IntKind.wrap Go.IntKind.i64 (i + (1 : Int))) (List.set out (Int.toNat i) (List.getD a (Int.toNat i) M.SImport.zero))
      else
        none
    else
      some (out)
end M
namespace M
noncomputable def l_toImportS (a : (List M.SImport)) : Option ((List M.SImport)) :=
  match (M.l_toImportS_l0 a Go.V.bigN (0 : Int) (List.replicate (Int.toNat ((List.length a) : Int)) (M.SImport.mk [] (0 : Int) false))) with
  | none => none
  | some y0 =>
    bif (((decide (((List.length a) : Int) ≤ ((List.length a) : Int))) && (decide (((List.length a) : Int) ≤ (1073741824 : Int)))) && true) then
      some y0
    else
      none
end M
namespace M
noncomputable def l_toIns (a : M.SIns) : Option (M.SIns) :=
  some a
end M
namespace M
noncomputable def l_toInsS_l0 (a : (List M.SIns)) : Nat → Int → (List M.SIns) → Option ((List M.SIns))
  | 0, _, _ => none
  | fuel + 1, i, out =>
    bif (decide (i < ((List.length a) : Int))) then
      bif ((Go.V.inB i (List.length out)) && ((Go.V.inB i (List.length a)) && true)) then
        M.l_toInsS_l0 a fuel (Go.IntKind.wrap Go.IntKind.i64 (i + (1 : Int))) (List.set out (Int.toNat i) (List.getD a (Int.toNat i) M.SIns.zero))
      else
        none
    else
      some (out)
end M
namespace M
noncomputable def l_toInsS (a : (List M.SIns)) : Option ((List M.SIns)) :=
  match (M.l_toInsS_l0 a Go.V.bigN (0 : Int) (List.replicate (Int.toNat ((List.length a) : Int)) (M.SIns.mk (0 : Int) (0 : Int)))) with
  | none => none
  | some y0 =>
    bif (((decide (((List.length a) : Int) ≤ ((List.length a) : Int))) && (decide (((List.length a) : Int) ≤ (1073741824 : Int)))) && true) then
      some y0
    else
      none
end M
namespace M
noncomputable def l_toCore (a : M.SCore) : Option (M.SCore) :=
  let q0 := (M.l_toInsS (M.SCore.Code a))
  bif ((Option.isSome q0) && true) then
    some (M.SCore.mk (M.SCore.Name a) (M.SCore.Params a) (M.SCore.Locals a) (M.SCore.Result a) (Option.getD q0 Inhabited.default))
  else
    none
end M
namespace M
noncomputable def l_toCoreS_l0 (a : (List M.SCore)) : Nat → Int → (List M.SCore) → Option ((List M.SCore))
  | 0, _, _ => none
  | fuel + 1, i, out =>
    bif (decide (i < ((List.length a) : Int))) then
      let q0 := (M.l_toCore (List.getD a (Int.toNat i) M.SCore.zero))
      bif ((Go.V.inB i (List.length out)) && ((Option.isSome q0) && ((Go.V.inB i (List.length a)) && true))) then
        M.l_toCoreS_l0 a fuel (Go.IntKind.wrap Go.IntKind.i64 (i + (1 : Int))) (List.set out (Int.toNat i) (Option.getD q0 Inhabited.default))
      else
        none
    else
      some (out)
end M
namespace M
noncomputable def l_toCoreS (a : (List M.SCore)) : Option ((List M.SCore)) :=
  match (M.l_toCoreS_l0 a Go.V.bigN (0 : Int) (List.replicate (Int.toNat ((List.length a) : Int)) (M.SCore.mk [] (0 : Int) (0 : Int) false []))) with
  | none => none
  | some y0 =>
    bif (((decide (((List.length a) : Int) ≤ ((List.length a) : Int))) && (decide (((List.length a) : Int) ≤ (1073741824 : Int)))) && true) then
      some y0
    else
      none
end M
namespace M
noncomputable def l_toModule (a : M.SModule) : Option (M.SModule) :=
  let q0 := (M.l_toCoreS (M.SModule.Cores a))
  let q1 := (M.l_toImportS (M.SModule.Imports a))
  bif ((Option.isSome q0) && ((Option.isSome q1) && true)) then
    some (M.SModule.mk (M.SModule.Pages a) (Option.getD q1 Inhabited.default) (Option.getD q0 Inhabited.default))
  else
    none
end M
namespace M
noncomputable def l_toLift (a : M.SLift) : Option (M.SLift) :=
  some a
end M
namespace M
noncomputable def l_toLiftS_l0 (a : (List M.SLift)) : Nat → Int → (List M.SLift) → Option ((List M.SLift))
  | 0, _, _ => none
  | fuel + 1, i, out =>
    bif (decide (i < ((List.length a) : Int))) then
      bif ((Go.V.inB i (List.length out)) && ((Go.V.inB i (List.length a)) && true)) then
        M.l_toLiftS_l0 a fuel (Go.IntKind.wrap Go.IntKind.i64 (i + (1 : Int))) (List.set out (Int.toNat i) (List.getD a (Int.toNat i) M.SLift.zero))
      else
        none
    else
      some (out)
end M
namespace M
noncomputable def l_toLiftS (a : (List M.SLift)) : Option ((List M.SLift)) :=
  match (M.l_toLiftS_l0 a Go.V.bigN (0 : Int) (List.replicate (Int.toNat ((List.length a) : Int)) (M.SLift.mk [] [] []))) with
  | none => none
  | some y0 =>
    bif (((decide (((List.length a) : Int) ≤ ((List.length a) : Int))) && (decide (((List.length a) : Int) ≤ (1073741824 : Int)))) && true) then
      some y0
    else
      none
end M
namespace M
noncomputable def l_toLower (a : M.SLower) : Option (M.SLower) :=
  some a
end M
namespace M
noncomputable def l_toLowerS_l0 (a : (List M.SLower)) : Nat → Int → (List M.SLower) → Option ((List M.SLower))
  | 0, _, _ => none
  | fuel + 1, i, out =>
    bif (decide (i < ((List.length a) : Int))) then
      bif ((Go.V.inB i (List.length out)) && ((Go.V.inB i (List.length a)) && true)) then
        M.l_toLowerS_l0 a fuel (Go.IntKind.wrap Go.IntKind.i64 (i + (1 : Int))) (List.set out (Int.toNat i) (List.getD a (Int.toNat i) M.SLower.zero))
      else
        none
    else
      some (out)
end M
namespace M
noncomputable def l_toLowerS (a : (List M.SLower)) : Option ((List M.SLower)) :=
  match (M.l_toLowerS_l0 a Go.V.bigN (0 : Int) (List.replicate (Int.toNat ((List.length a) : Int)) (M.SLower.mk [] [] []))) with
  | none => none
  | some y0 =>
    bif (((decide (((List.length a) : Int) ≤ ((List.length a) : Int))) && (decide (((List.length a) : Int) ≤ (1073741824 : Int)))) && true) then
      some y0
    else
      none
end M
namespace M
noncomputable def l_toBuiltin (a : M.SBuiltin) : Option (M.SBuiltin) :=
  some a
end M
namespace M
noncomputable def l_toBuiltinS_l0 (a : (List M.SBuiltin)) : Nat → Int → (List M.SBuiltin) → Option ((List M.SBuiltin))
  | 0, _, _ => none
  | fuel + 1, i, out =>
    bif (decide (i < ((List.length a) : Int))) then
      bif ((Go.V.inB i (List.length out)) && ((Go.V.inB i (List.length a)) && true)) then
        M.l_toBuiltinS_l0 a fuel (Go.IntKind.wrap Go.IntKind.i64 (i + (1 : Int))) (List.set out (Int.toNat i) (List.getD a (Int.toNat i) M.SBuiltin.zero))
      else
        none
    else
      some (out)
end M
namespace M
noncomputable def l_toBuiltinS (a : (List M.SBuiltin)) : Option ((List M.SBuiltin)) :=
  match (M.l_toBuiltinS_l0 a Go.V.bigN (0 : Int) (List.replicate (Int.toNat ((List.length a) : Int)) (M.SBuiltin.mk (0 : Int) [] [] []))) with
  | none => none
  | some y0 =>
    bif (((decide (((List.length a) : Int) ≤ ((List.length a) : Int))) && (decide (((List.length a) : Int) ≤ (1073741824 : Int)))) && true) then
      some y0
    else
      none
end M
namespace M
noncomputable def l_toComponent (a : M.SComponent) : Option (M.SComponent) :=
  let q0 := (M.l_toBuiltinS (M.SComponent.Builtins a))
  let q1 := (M.l_toLowerS (M.SComponent.Lowers a))
  let q2 := (M.l_toLiftS (M.SComponent.Lifts a))
  let q3 := (M.l_toModule (M.SComponent.Module a))
  let q4 := (M.l_toFaceS (M.SComponent.Exports a))
  let q5 := (M.l_toFaceS (M.SComponent.Imports a))
  bif ((Option.isSome q0) && ((Option.isSome q1) && ((Option.isSome q2) && ((Option.isSome q3) && ((Option.isSome q4) && ((Option.isSome q5) && true)))))) then
    some (M.SComponent.mk (M.SComponent.Name a) (M.SComponent.Version a) (Option.getD q5 Inhabited.default) (Option.getD q4 Inhabited.default) (M.SComponent.Encoding a) (M.SComponent.Reserve a) (Option.getD q3 Inhabited.default) (Option.getD q2 Inhabited.default) (Option.getD q1 Inhabited.default) (Option.getD q0 Inhabited.default))
  else
    none
end M
namespace M
noncomputable def s_SameType (a : M.SType) (b : M.SType) : Option (Bool) :=
  let q0 := (M.s_l03Same (M.SType.re a) (M.SType.re b) (1 : Int))
  bif ((Option.isSome q0) && true) then
    some (Option.getD q0 Inhabited.default)
  else
    none
end M
namespace M
noncomputable def s_SameFunc_l0 : Nat → Int → M.SFuncType → M.SFuncType → Option ((Bool) ⊕ (Unit))
  | 0, _, _, _ => none
  | fuel + 1, i, a, b =>
    bif (decide (i < ((List.length (M.SFuncType.Params a)) : Int))) then
      let q0 := (!((M.SParam.Name (List.getD (M.SFuncType.Params a) (Int.toNat i) M.SParam.zero)) == (M.SParam.Name (List.getD (M.SFuncType.Params b) (Int.toNat i) M.SParam.zero))))
      let q1 := (M.s_SameType (M.SType.re (M.SParam.Type_ (List.getD (M.SFuncType.Params a) (Int.toNat i) M.SParam.zero))) (M.SType.re (M.SParam.Type_ (List.getD (M.SFuncType.Params b) (Int.toNat i) M.SParam.zero))))
      bif (q0 || (!(Option.getD q1 Inhabited.default))) then
        let q2 := (!(q0 == false))
        let q3 := (((Option.isSome q1) || q2) && (((Go.V.inB i (List.length (M.SFuncType.Params b))) || q2) && (((Go.V.inB i (List.length (M.SFuncType.Params a))) || q2) && ((Go.V.inB i (List.length (M.SFuncType.Params b))) && ((Go.V.inB i (List.length (M.SFuncType.Params a))) && true)))))
        bif q3 then
          some (.inl false)
        else
          none
      else
        let q2 := (!(q0 == false))
        let q3 := (((Option.isSome q1) || q2) && (((Go.V.inB i (List.length (M.SFuncType.Params b))) || q2) && (((Go.V.inB i (List.length (M.SFuncType.Params a))) || q2) && ((Go.V.inB i (List.length (M.SFuncType.Params b))) && ((Go.V.inB i (List.length (M.SFuncType.Params a))) && true)))))
        bif q3 then
          M.s_SameFunc_l0 fuel (Go.IntKind.wrap Go.IntKind.i64 (i + (1 : Int))) (M.SFuncType.re a) (M.SFuncType.re b)
        else
          none
    else
      some ((.inr (())))
end M
namespace M
noncomputable def s_SameFunc (a : M.SFuncType) (b : M.SFuncType) : Option (Bool) :=
  let q0 := ((((List.length (M.SFuncType.Params a)) : Int) != ((List.length (M.SFuncType.Params b)) : Int)) || (!((M.SFuncType.Async a) == (M.SFuncType.Async b))))
  let q1 := (M.s_SameType (M.SType.re (M.SFuncType.Result a)) (M.SType.re (M.SFuncType.Result b)))
  bif (q0 || (!(Option.getD q1 Inhabited.default))) then
    let q2 := (((Option.isSome q1) || (!(q0 == false))) && true)
    bif q2 then
      some false
    else
      none
  else
    match (M.s_SameFunc_l0 Go.V.bigN (0 : Int) (M.SFuncType.re a) (M.SFuncType.re b)) with
    | none => none
    | some y2 =>
      (match y2 with
      | .inl a3 =>
        let q4 := (((Option.isSome q1) || (!(q0 == false))) && true)
        bif q4 then
          some a3
        else
          none
      | .inr b3 =>
        let q4 := (((Option.isSome q1) || (!(q0 == false))) && true)
        bif q4 then
          some true
        else
          none)
end M
namespace M
noncomputable def s_SameFace_l0 (a : M.SFace) (b : M.SFace) : Nat → Int → Option ((Bool) ⊕ (Unit))
  | 0, _ => none
  | fuel + 1, i =>
    bif (decide (i < ((List.length (M.SFace.Funcs a)) : Int))) then
      let q0 := (!((M.SFunc.Name (List.getD (M.SFace.Funcs a) (Int.toNat i) M.SFunc.zero)) == (M.SFunc.Name (List.getD (M.SFace.Funcs b) (Int.toNat i) M.SFunc.zero))))
      let q1 := (M.s_SameFunc (M.SFuncType.re (M.SFunc.Type_ (List.getD (M.SFace.Funcs a) (Int.toNat i) M.SFunc.zero))) (M.SFuncType.re (M.SFunc.Type_ (List.getD (M.SFace.Funcs b) (Int.toNat i) M.SFunc.zero))))
      bif (q0 || (!(Option.getD q1 Inhabited.default))) then
        let q2 := (!(q0 == false))
        let q3 := (((Option.isSome q1) || q2) && (((Go.V.inB i (List.length (M.SFace.Funcs b))) || q2) && (((Go.V.inB i (List.length (M.SFace.Funcs a))) || q2) && ((Go.V.inB i (List.length (M.SFace.Funcs b))) && ((Go.V.inB i (List.length (M.SFace.Funcs a))) && true)))))
        bif q3 then
          some (.inl false)
        else
          none
      else
        let q2 := (!(q0 == false))
        let q3 := (((Option.isSome q1) || q2) && (((Go.V.inB i (List.length (M.SFace.Funcs b))) || q2) && (((Go.V.inB i (List.length (M.SFace.Funcs a))) || q2) && ((Go.V.inB i (List.length (M.SFace.Funcs b))) && ((Go.V.inB i (List.length (M.SFace.Funcs a))) && true)))))
        bif q3 then
          M.s_SameFace_l0 a b fuel (Go.IntKind.wrap Go.IntKind.i64 (i + (1 : Int)))
        else
          none
    else
      some ((.inr (())))
end M
namespace M
noncomputable def s_SameFace (a : M.SFace) (b : M.SFace) : Option (Bool) :=
  let q0 := (((!((M.SFace.Package a) == (M.SFace.Package b))) || (!((M.SFace.Name a) == (M.SFace.Name b)))) || (!((M.SFace.Version a) == (M.SFace.Version b))))
  let q1 := (M.s_l03Texts (M.SFace.Resources a) (M.SFace.Resources b))
  bif ((q0 || (!(Option.getD q1 Inhabited.default))) || (((List.length (M.SFace.Funcs a)) : Int) != ((List.length (M.SFace.Funcs b)) : Int))) then
    let q2 := (((Option.isSome q1) || (!(q0 == false))) && true)
    bif q2 then
      some false
    else
      none
  else
    match (M.s_SameFace_l0 a b Go.V.bigN (0 : Int)) with
    | none => none
    | some y2 =>
      (match y2 with
      | .inl a3 =>
        let q4 := (((Option.isSome q1) || (!(q0 == false))) && true)
        bif q4 then
          some a3
        else
          none
      | .inr b3 =>
        let q4 := (((Option.isSome q1) || (!(q0 == false))) && true)
        bif q4 then
          some true
        else
          none)
end M
namespace M
noncomputable def s_l23SameFaces_l0 (a : (List M.SFace)) (b : (List M.SFace)) : Nat → Int → Option ((Bool) ⊕ (Unit))
  | 0, _ => none
  | fuel + 1, i =>
    bif (decide (i < ((List.length a) : Int))) then
      let q0 := (M.s_SameFace (List.getD a (Int.toNat i) M.SFace.zero) (List.getD b (Int.toNat i) M.SFace.zero))
      bif (!(Option.getD q0 Inhabited.default)) then
        let q1 := ((Option.isSome q0) && ((Go.V.inB i (List.length b)) && ((Go.V.inB i (List.length a)) && true)))
        bif q1 then
          some (.inl false)
        else
          none
      else
        let q1 := ((Option.isSome q0) && ((Go.V.inB i (List.length b)) && ((Go.V.inB i (List.length a)) && true)))
        bif q1 then
          M.s_l23SameFaces_l0 a b fuel (Go.IntKind.wrap Go.IntKind.i64 (i + (1 : Int)))
        else
          none
    else
      some ((.inr (())))
end M
namespace M
noncomputable def s_l23SameFaces (a : (List M.SFace)) (b : (List M.SFace)) : Option (Bool) :=
  bif (((List.length a) : Int) != ((List.length b) : Int)) then
    some false
  else
    match (M.s_l23SameFaces_l0 a b Go.V.bigN (0 : Int)) with
    | none => none
    | some y0 =>
      (match y0 with
      | .inl a1 =>
        some a1
      | .inr b1 =>
        some true)
end M
namespace M
noncomputable def s_SameModule_l0 (a : M.SModule) (b : M.SModule) : Nat → Int → Option ((Bool) ⊕ (M.SModule × M.SModule))
  | 0, _ => none
  | fuel + 1, i =>
    bif (decide (i < ((List.length (M.SModule.Imports a)) : Int))) then
      bif (!(((M.SImport.Name (List.getD (M.SModule.Imports a) (Int.toNat i) M.SImport.zero)) == (M.SImport.Name (List.getD (M.SModule.Imports b) (Int.toNat i) M.SImport.zero))) && (((M.SImport.Params (List.getD (M.SModule.Imports a) (Int.toNat i) M.SImport.zero)) == (M.SImport.Params (List.getD (M.SModule.Imports b) (Int.toNat i) M.SImport.zero))) && (((M.SImport.Result (List.getD (M.SModule.Imports a) (Int.toNat i) M.SImport.zero)) == (M.SImport.Result (List.getD (M.SModule.Imports b) (Int.toNat i) M.SImport.zero))) && true)))) then
        let q0 := ((Go.V.inB i (List.length (M.SModule.Imports b))) && ((Go.V.inB i (List.length (M.SModule.Imports a))) && true))
        bif q0 then
          some (.inl false)
        else
          none
      else
        let q0 := ((Go.V.inB i (List.length (M.SModule.Imports b))) && ((Go.V.inB i (List.length (M.SModule.Imports a))) && true))
        bif q0 then
          M.s_SameModule_l0 a b fuel (Go.IntKind.wrap Go.IntKind.i64 (i + (1 : Int)))
        else
          none
    else
      some ((.inr ((a, b))))
end M
namespace M
noncomputable def s_l15SameCore_l0 (a : M.SCore) (b : M.SCore) : Nat → Int → Option ((Bool) ⊕ (Unit))
  | 0, _ => none
  | fuel + 1, i =>
    bif (decide (i < ((List.length (M.SCore.Code a)) : Int))) then
      bif (!(((M.SIns.Op (List.getD (M.SCore.Code a) (Int.toNat i) M.SIns.zero)) == (M.SIns.Op (List.getD (M.SCore.Code b) (Int.toNat i) M.SIns.zero))) && (((M.SIns.A (List.getD (M.SCore.Code a) (Int.toNat i) M.SIns.zero)) == (M.SIns.A (List.getD (M.SCore.Code b) (Int.toNat i) M.SIns.zero))) && true))) then
        let q0 := ((Go.V.inB i (List.length (M.SCore.Code b))) && ((Go.V.inB i (List.length (M.SCore.Code a))) && true))
        bif q0 then
          some (.inl false)
        else
          none
      else
        let q0 := ((Go.V.inB i (List.length (M.SCore.Code b))) && ((Go.V.inB i (List.length (M.SCore.Code a))) && true))
        bif q0 then
          M.s_l15SameCore_l0 a b fuel (Go.IntKind.wrap Go.IntKind.i64 (i + (1 : Int)))
        else
          none
    else
      some ((.inr (())))
end M
namespace M
noncomputable def s_l15SameCore (a : M.SCore) (b : M.SCore) : Option (Bool) :=
  bif (((((!((M.SCore.Name a) == (M.SCore.Name b))) || ((M.SCore.Params a) != (M.SCore.Params b))) || ((M.SCore.Locals a) != (M.SCore.Locals b))) || (!((M.SCore.Result a) == (M.SCore.Result b)))) || (((List.length (M.SCore.Code a)) : Int) != ((List.length (M.SCore.Code b)) : Int))) then
    some false
  else
    match (M.s_l15SameCore_l0 a b Go.V.bigN (0 : Int)) with
    | none => none
    | some y0 =>
      (match y0 with
      | .inl a1 =>
        some a1
      | .inr b1 =>
        some true)
end M
namespace M
noncomputable def s_SameModule_l1 (a : M.SModule) (b : M.SModule) : Nat → Int → Option ((Bool) ⊕ (Unit))
  | 0, _ => none
  | fuel + 1, i =>
    bif (decide (i < ((List.length (M.SModule.Cores a)) : Int))) then
      let q0 := (M.s_l15SameCore (List.getD (M.SModule.Cores a) (Int.toNat i) M.SCore.zero) (List.getD (M.SModule.Cores b) (Int.toNat i) M.SCore.zero))
      bif (!(Option.getD q0 Inhabited.default)) then
        let q1 := ((Option.isSome q0) && ((Go.V.inB i (List.length (M.SModule.Cores b))) && ((Go.V.inB i (List.length (M.SModule.Cores a))) && true)))
        bif q1 then
          some (.inl false)
        else
          none
      else
        let q1 := ((Option.isSome q0) && ((Go.V.inB i (List.length (M.SModule.Cores b))) && ((Go.V.inB i (List.length (M.SModule.Cores a))) && true)))
        bif q1 then
          M.s_SameModule_l1 a b fuel (Go.IntKind.wrap Go.IntKind.i64 (i + (1 : Int)))
        else
          none
    else
      some ((.inr (())))
end M
namespace M
noncomputable def s_SameModule (a : M.SModule) (b : M.SModule) : Option (Bool) :=
  bif ((((M.SModule.Pages a) != (M.SModule.Pages b)) || (((List.length (M.SModule.Imports a)) : Int) != ((List.length (M.SModule.Imports b)) : Int))) || (((List.length (M.SModule.Cores a)) : Int) != ((List.length (M.SModule.Cores b)) : Int))) then
    some false
  else
    match (M.s_SameModule_l0 a b Go.V.bigN (0 : Int)) with
    | none => none
    | some y0 =>
      (match y0 with
      | .inl a1 =>
        some a1
      | .inr b1 =>
        match (M.s_SameModule_l1 b1.1 b1.2 Go.V.bigN (0 : Int)) with
        | none => none
        | some y2 =>
          (match y2 with
          | .inl a3 =>
            some a3
          | .inr b3 =>
            some true))
end M
namespace M
noncomputable def s_SameComponent_l0 (a : M.SComponent) (b : M.SComponent) : Nat → Int → Option ((Bool) ⊕ (M.SComponent × M.SComponent))
  | 0, _ => none
  | fuel + 1, i =>
    bif (decide (i < ((List.length (M.SComponent.Lifts a)) : Int))) then
      bif (!(((M.SLift.Face (List.getD (M.SComponent.Lifts a) (Int.toNat i) M.SLift.zero)) == (M.SLift.Face (List.getD (M.SComponent.Lifts b) (Int.toNat i) M.SLift.zero))) && (((M.SLift.Func (List.getD (M.SComponent.Lifts a) (Int.toNat i) M.SLift.zero)) == (M.SLift.Func (List.getD (M.SComponent.Lifts b) (Int.toNat i) M.SLift.zero))) && (((M.SLift.Core (List.getD (M.SComponent.Lifts a) (Int.toNat i) M.SLift.zero)) == (M.SLift.Core (List.getD (M.SComponent.Lifts b) (Int.toNat i) M.SLift.zero))) && true)))) then
        let q0 := ((Go.V.inB i (List.length (M.SComponent.Lifts b))) && ((Go.V.inB i (List.length (M.SComponent.Lifts a))) && true))
        bif q0 then
          some (.inl false)
        else
          none
      else
        let q0 := ((Go.V.inB i (List.length (M.SComponent.Lifts b))) && ((Go.V.inB i (List.length (M.SComponent.Lifts a))) && true))
        bif q0 then
          M.s_SameComponent_l0 a b fuel (Go.IntKind.wrap Go.IntKind.i64 (i + (1 : Int)))
        else
          none
    else
      some ((.inr ((a, b))))
end M
namespace M
noncomputable def s_SameComponent_l1 (a : M.SComponent) (b : M.SComponent) : Nat → Int → Option ((Bool) ⊕ (M.SComponent × M.SComponent))
  | 0, _ => none
  | fuel + 1, i =>
    bif (decide (i < ((List.length (M.SComponent.Lowers a)) : Int))) then
      bif (!(((M.SLower.Face (List.getD (M.SComponent.Lowers a) (Int.toNat i) M.SLower.zero)) == (M.SLower.Face (List.getD (M.SComponent.Lowers b) (Int.toNat i) M.SLower.zero))) && (((M.SLower.Func (List.getD (M.SComponent.Lowers a) (Int.toNat i) M.SLower.zero)) == (M.SLower.Func (List.getD (M.SComponent.Lowers b) (Int.toNat i) M.SLower.zero))) && (((M.SLower.Import (List.getD (M.SComponent.Lowers a) (Int.toNat i) M.SLower.zero)) == (M.SLower.Import (List.getD (M.SComponent.Lowers b) (Int.toNat i) M.SLower.zero))) && true)))) then
        let q0 := ((Go.V.inB i (List.length (M.SComponent.Lowers b))) && ((Go.V.inB i (List.length (M.SComponent.Lowers a))) && true))
        bif q0 then
          some (.inl false)
        else
          none
      else
        let q0 := ((Go.V.inB i (List.length (M.SComponent.Lowers b))) && ((Go.V.inB i (List.length (M.SComponent.Lowers a))) && true))
        bif q0 then
          M.s_SameComponent_l1 a b fuel (Go.IntKind.wrap Go.IntKind.i64 (i + (1 : Int)))
        else
          none
    else
      some ((.inr ((a, b))))
end M
namespace M
noncomputable def s_SameComponent_l2 (a : M.SComponent) (b : M.SComponent) : Nat → Int → Option ((Bool) ⊕ (Unit))
  | 0, _ => none
  | fuel + 1, i =>
    bif (decide (i < ((List.length (M.SComponent.Builtins a)) : Int))) then
      bif (!(((M.SBuiltin.Kind (List.getD (M.SComponent.Builtins a) (Int.toNat i) M.SBuiltin.zero)) == (M.SBuiltin.Kind (List.getD (M.SComponent.Builtins b) (Int.toNat i) M.SBuiltin.zero))) && (((M.SBuiltin.Face (List.getD (M.SComponent.Builtins a) (Int.toNat i) M.SBuiltin.zero)) == (M.SBuiltin.Face (List.getD (M.SComponent.Builtins b) (Int.toNat i) M.SBuiltin.zero))) && (((M.SBuiltin.Resource (List.getD (M.SComponent.Builtins a) (Int.toNat i) M.SBuiltin.zero)) == (M.SBuiltin.Resource (List.getD (M.SComponent.Builtins b) (Int.toNat i) M.SBuiltin.zero))) && (((M.SBuiltin.Import (List.getD (M.SComponent.Builtins a) (Int.toNat i) M.SBuiltin.zero)) == (M.SBuiltin.Import (List.getD (M.SComponent.Builtins b) (Int.toNat i) M.SBuiltin.zero))) && true))))) then
        let q0 := ((Go.V.inB i (List.length (M.SComponent.Builtins b))) && ((Go.V.inB i (List.length (M.SComponent.Builtins a))) && true))
        bif q0 then
          some (.inl false)
        else
          none
      else
        let q0 := ((Go.V.inB i (List.length (M.SComponent.Builtins b))) && ((Go.V.inB i (List.length (M.SComponent.Builtins a))) && true))
        bif q0 then
          M.s_SameComponent_l2 a b fuel (Go.IntKind.wrap Go.IntKind.i64 (i + (1 : Int)))
        else
          none
    else
      some ((.inr (())))
end M
namespace M
noncomputable def s_SameComponent (a : M.SComponent) (b : M.SComponent) : Option (Bool) :=
  let q0 := ((!((M.SComponent.Name a) == (M.SComponent.Name b))) || (!((M.SComponent.Version a) == (M.SComponent.Version b))))
  let q1 := (M.s_l23SameFaces (M.SComponent.Imports a) (M.SComponent.Imports b))
  let q2 := (q0 || (!(Option.getD q1 Inhabited.default)))
  let q3 := (M.s_l23SameFaces (M.SComponent.Exports a) (M.SComponent.Exports b))
  let q4 := (((q2 || (!(Option.getD q3 Inhabited.default))) || ((M.SComponent.Encoding a) != (M.SComponent.Encoding b))) || ((M.SComponent.Reserve a) != (M.SComponent.Reserve b)))
  let q5 := (M.s_SameModule (M.SComponent.Module a) (M.SComponent.Module b))
  bif (q4 || (!(Option.getD q5 Inhabited.default))) then
    let q6 := (((Option.isSome q5) || (!(q4 == false))) && (((Option.isSome q3) || (!(q2 == false))) && (((Option.isSome q1) || (!(q0 == false))) && true)))
    bif q6 then
      some false
    else
      none
  else
    bif (((((List.length (M.SComponent.Lifts a)) : Int) != ((List.length (M.SComponent.Lifts b)) : Int)) || (((List.length (M.SComponent.Lowers a)) : Int) != ((List.length (M.SComponent.Lowers b)) : Int))) || (((List.length (M.SComponent.Builtins a)) : Int) != ((List.length (M.SComponent.Builtins b)) : Int))) then
      let q6 := (((Option.isSome q5) || (!(q4 == false))) && (((Option.isSome q3) || (!(q2 == false))) && (((Option.isSome q1) || (!(q0 == false))) && true)))
      bif q6 then
        some false
      else
        none
    else
      match (M.s_SameComponent_l0 a b Go.V.bigN (0 : Int)) with
      | none => none
      | some y6 =>
        (match y6 with
        | .inl a7 =>
          let q8 := (((Option.isSome q5) || (!(q4 == false))) && (((Option.isSome q3) || (!(q2 == false))) && (((Option.isSome q1) || (!(q0 == false))) && true)))
          bif q8 then
            some a7
          else
            none
        | .inr b7 =>
          match (M.s_SameComponent_l1 b7.1 b7.2 Go.V.bigN (0 : Int)) with
          | none => none
          | some y8 =>
            (match y8 with
            | .inl a9 =>
              let q10 := (((Option.isSome q5) || (!(q4 == false))) && (((Option.isSome q3) || (!(q2 == false))) && (((Option.isSome q1) || (!(q0 == false))) && true)))
              bif q10 then
                some a9
              else
                none
            | .inr b9 =>
              match (M.s_SameComponent_l2 b9.1 b9.2 Go.V.bigN (0 : Int)) with
              | none => none
              | some y10 =>
                (match y10 with
                | .inl a11 =>
                  let q12 := (((Option.isSome q5) || (!(q4 == false))) && (((Option.isSome q3) || (!(q2 == false))) && (((Option.isSome q1) || (!(q0 == false))) && true)))
                  bif q12 then
                    some a11
                  else
                    none
                | .inr b11 =>
                  let q12 := (((Option.isSome q5) || (!(q4 == false))) && (((Option.isSome q3) || (!(q2 == false))) && (((Option.isSome q1) || (!(q0 == false))) && true)))
                  bif q12 then
                    some true
                  else
                    none)))
end M
namespace M
noncomputable def i_SameType (a : M.SType) (b : M.SType) : Option (Bool) :=
  let q0 := (M.i_sameType (M.SType.re a) (M.SType.re b) (100 : Int))
  bif ((Option.isSome q0) && true) then
    some (Option.getD q0 Inhabited.default)
  else
    none
end M
namespace M
noncomputable def i_SameFunc_c1 (x : M.SParam) (y_ : M.SParam) : Option (Bool) :=
  let q0 := (M.i_SameType (M.SType.re (M.SParam.Type_ x)) (M.SType.re (M.SParam.Type_ y_)))
  bif (((Option.isSome q0) || (!(((M.SParam.Name x) == (M.SParam.Name y_)) == true))) && true) then
    some (((M.SParam.Name x) == (M.SParam.Name y_)) && (Option.getD q0 Inhabited.default))
  else
    none
end M
namespace M
noncomputable def slices_EqualFunc_Param_Param_Param_Param_l0 (s2 : (List M.SParam)) (t15 : (List M.SParam)) (t16 : Int) : Nat → Int → Option ((Bool) ⊕ (Unit))
  | 0, _ => none
  | fuel + 1, t17 =>
    bif (decide (t17 < t16)) then
      let q0 := (M.i_SameFunc_c1 (M.SParam.re (List.getD t15 (Int.toNat t17) M.SParam.zero)) (M.SParam.re (List.getD s2 (Int.toNat t17) M.SParam.zero)))
      bif (!(Option.getD q0 Inhabited.default)) then
        let q1 := ((Option.isSome q0) && ((Go.V.inB t17 (List.length s2)) && ((Go.V.inB t17 (List.length t15)) && true)))
        bif q1 then
          some (.inl false)
        else
          none
      else
        let q1 := ((Option.isSome q0) && ((Go.V.inB t17 (List.length s2)) && ((Go.V.inB t17 (List.length t15)) && true)))
        bif q1 then
          M.slices_EqualFunc_Param_Param_Param_Param_l0 s2 t15 t16 fuel (Go.IntKind.wrap Go.IntKind.i64 (t17 + (1 : Int)))
        else
          none
    else
      some ((.inr (())))
end M
namespace M
noncomputable def slices_EqualFunc_Param_Param_Param_Param (s1 : (List M.SParam)) (s2 : (List M.SParam)) : Option (Bool) :=
  bif (((List.length s1) : Int) != ((List.length s2) : Int)) then
    some false
  else
    match (M.slices_EqualFunc_Param_Param_Param_Param_l0 s2 s1 ((List.length s1) : Int) Go.V.bigN (0 : Int)) with
    | none => none
    | some y0 =>
      (match y0 with
      | .inl a1 =>
        some a1
      | .inr b1 =>
        some true)
end M
namespace M
noncomputable def i_SameFunc (a : M.SFuncType) (b : M.SFuncType) : Option (Bool) :=
  let q0 := (M.slices_EqualFunc_Param_Param_Param_Param (M.SFuncType.Params a) (M.SFuncType.Params b))
  let q1 := (M.i_SameType (M.SType.re (M.SFuncType.Result a)) (M.SType.re (M.SFuncType.Result b)))
  let q2 := (((M.SFuncType.Async a) == (M.SFuncType.Async b)) && (Option.getD q1 Inhabited.default))
  bif (((Option.isSome q0) || (!(q2 == true))) && (((Option.isSome q1) || (!(((M.SFuncType.Async a) == (M.SFuncType.Async b)) == true))) && true)) then
    some (q2 && (Option.getD q0 Inhabited.default))
  else
    none
end M
namespace M
noncomputable def i_SameFace_c1 (x : M.SFunc) (y_ : M.SFunc) : Option (Bool) :=
  let q0 := (M.i_SameFunc (M.SFuncType.re (M.SFunc.Type_ x)) (M.SFuncType.re (M.SFunc.Type_ y_)))
  bif (((Option.isSome q0) || (!(((M.SFunc.Name x) == (M.SFunc.Name y_)) == true))) && true) then
    some (((M.SFunc.Name x) == (M.SFunc.Name y_)) && (Option.getD q0 Inhabited.default))
  else
    none
end M
namespace M
noncomputable def slices_EqualFunc_Func_Func_Func_Func_l0 (s2 : (List M.SFunc)) (t15 : (List M.SFunc)) (t16 : Int) : Nat → Int → Option ((Bool) ⊕ (Unit))
  | 0, _ => none
  | fuel + 1, t17 =>
    bif (decide (t17 < t16)) then
      let q0 := (M.i_SameFace_c1 (M.SFunc.re (List.getD t15 (Int.toNat t17) M.SFunc.zero)) (M.SFunc.re (List.getD s2 (Int.toNat t17) M.SFunc.zero)))
      bif (!(Option.getD q0 Inhabited.default)) then
        let q1 := ((Option.isSome q0) && ((Go.V.inB t17 (List.length s2)) && ((Go.V.inB t17 (List.length t15)) && true)))
        bif q1 then
          some (.inl false)
        else
          none
      else
        let q1 := ((Option.isSome q0) && ((Go.V.inB t17 (List.length s2)) && ((Go.V.inB t17 (List.length t15)) && true)))
        bif q1 then
          M.slices_EqualFunc_Func_Func_Func_Func_l0 s2 t15 t16 fuel (Go.IntKind.wrap Go.IntKind.i64 (t17 + (1 : Int)))
        else
          none
    else
      some ((.inr (())))
end M
namespace M
noncomputable def slices_EqualFunc_Func_Func_Func_Func (s1 : (List M.SFunc)) (s2 : (List M.SFunc)) : Option (Bool) :=
  bif (((List.length s1) : Int) != ((List.length s2) : Int)) then
    some false
  else
    match (M.slices_EqualFunc_Func_Func_Func_Func_l0 s2 s1 ((List.length s1) : Int) Go.V.bigN (0 : Int)) with
    | none => none
    | some y0 =>
      (match y0 with
      | .inl a1 =>
        some a1
      | .inr b1 =>
        some true)
end M
namespace M
noncomputable def i_SameFace (a : M.SFace) (b : M.SFace) : Option (Bool) :=
  let q0 := (M.slices_EqualFunc_Func_Func_Func_Func (M.SFace.Funcs a) (M.SFace.Funcs b))
  let q1 := ((((M.SFace.Package a) == (M.SFace.Package b)) && ((M.SFace.Name a) == (M.SFace.Name b))) && ((M.SFace.Version a) == (M.SFace.Version b)))
  let q2 := (M.slices_Equal_string_string (M.SFace.Resources a) (M.SFace.Resources b))
  let q3 := (q1 && (Option.getD q2 Inhabited.default))
  bif (((Option.isSome q0) || (!(q3 == true))) && (((Option.isSome q2) || (!(q1 == true))) && true)) then
    some (q3 && (Option.getD q0 Inhabited.default))
  else
    none
end M
namespace M
noncomputable def slices_EqualFunc_Face_Face_Face_Face_l0 (s2 : (List M.SFace)) (t15 : (List M.SFace)) (t16 : Int) : Nat → Int → Option ((Bool) ⊕ (Unit))
  | 0, _ => none
  | fuel + 1, t17 =>
    bif (decide (t17 < t16)) then
      let q0 := (M.i_SameFace (List.getD t15 (Int.toNat t17) M.SFace.zero) (List.getD s2 (Int.toNat t17) M.SFace.zero))
      bif (!(Option.getD q0 Inhabited.default)) then
        let q1 := ((Option.isSome q0) && ((Go.V.inB t17 (List.length s2)) && ((Go.V.inB t17 (List.length t15)) && true)))
        bif q1 then
          some (.inl false)
        else
          none
      else
        let q1 := ((Option.isSome q0) && ((Go.V.inB t17 (List.length s2)) && ((Go.V.inB t17 (List.length t15)) && true)))
        bif q1 then
          M.slices_EqualFunc_Face_Face_Face_Face_l0 s2 t15 t16 fuel (Go.IntKind.wrap Go.IntKind.i64 (t17 + (1 : Int)))
        else
          none
    else
      some ((.inr (())))
end M
namespace M
noncomputable def slices_EqualFunc_Face_Face_Face_Face (s1 : (List M.SFace)) (s2 : (List M.SFace)) : Option (Bool) :=
  bif (((List.length s1) : Int) != ((List.length s2) : Int)) then
    some false
  else
    match (M.slices_EqualFunc_Face_Face_Face_Face_l0 s2 s1 ((List.length s1) : Int) Go.V.bigN (0 : Int)) with
    | none => none
    | some y0 =>
      (match y0 with
      | .inl a1 =>
        some a1
      | .inr b1 =>
        some true)
end M
namespace M
noncomputable def slices_Equal_Import_Import_l0 (s1 : (List M.SImport)) (s2 : (List M.SImport)) (t12 : Int) : Nat → Int → Option ((Bool) ⊕ (Unit))
  | 0, _ => none
  | fuel + 1, t13 =>
    bif (decide (t13 < t12)) then
      bif (!(((M.SImport.Name (List.getD s1 (Int.toNat t13) M.SImport.zero)) == (M.SImport.Name (List.getD s2 (Int.toNat t13) M.SImport.zero))) && (((M.SImport.Params (List.getD s1 (Int.toNat t13) M.SImport.zero)) == (M.SImport.Params (List.getD s2 (Int.toNat t13) M.SImport.zero))) && (((M.SImport.Result (List.getD s1 (Int.toNat t13) M.SImport.zero)) == (M.SImport.Result (List.getD s2 (Int.toNat t13) M.SImport.zero))) && true)))) then
        let q0 := ((Go.V.inB t13 (List.length s2)) && ((Go.V.inB t13 (List.length s1)) && true))
        bif q0 then
          some (.inl false)
        else
          none
      else
        let q0 := ((Go.V.inB t13 (List.length s2)) && ((Go.V.inB t13 (List.length s1)) && true))
        bif q0 then
          M.slices_Equal_Import_Import_l0 s1 s2 t12 fuel (Go.IntKind.wrap Go.IntKind.i64 (t13 + (1 : Int)))
        else
          none
    else
      some ((.inr (())))
end M
namespace M
noncomputable def slices_Equal_Import_Import (s1 : (List M.SImport)) (s2 : (List M.SImport)) : Option (Bool) :=
  bif (((List.length s1) : Int) != ((List.length s2) : Int)) then
    some false
  else
    match (M.slices_Equal_Import_Import_l0 s1 s2 ((List.length s1) : Int) Go.V.bigN (0 : Int)) with
    | none => none
    | some y0 =>
      (match y0 with
      | .inl a1 =>
        some a1
      | .inr b1 =>
        some true)
end M
namespace M
noncomputable def slices_Equal_Ins_Ins_l0 (s1 : (List M.SIns)) (s2 : (List M.SIns)) (t12 : Int) : Nat → Int → Option ((Bool) ⊕ (Unit))
  | 0, _ => none
  | fuel + 1, t13 =>
    bif (decide (t13 < t12)) then
      bif (!(((M.SIns.Op (List.getD s1 (Int.toNat t13) M.SIns.zero)) == (M.SIns.Op (List.getD s2 (Int.toNat t13) M.SIns.zero))) && (((M.SIns.A (List.getD s1 (Int.toNat t13) M.SIns.zero)) == (M.SIns.A (List.getD s2 (Int.toNat t13) M.SIns.zero))) && true))) then
        let q0 := ((Go.V.inB t13 (List.length s2)) && ((Go.V.inB t13 (List.length s1)) && true))
        bif q0 then
          some (.inl false)
        else
          none
      else
        let q0 := ((Go.V.inB t13 (List.length s2)) && ((Go.V.inB t13 (List.length s1)) && true))
        bif q0 then
          M.slices_Equal_Ins_Ins_l0 s1 s2 t12 fuel (Go.IntKind.wrap Go.IntKind.i64 (t13 + (1 : Int)))
        else
          none
    else
      some ((.inr (())))
end M
namespace M
noncomputable def slices_Equal_Ins_Ins (s1 : (List M.SIns)) (s2 : (List M.SIns)) : Option (Bool) :=
  bif (((List.length s1) : Int) != ((List.length s2) : Int)) then
    some false
  else
    match (M.slices_Equal_Ins_Ins_l0 s1 s2 ((List.length s1) : Int) Go.V.bigN (0 : Int)) with
    | none => none
    | some y0 =>
      (match y0 with
      | .inl a1 =>
        some a1
      | .inr b1 =>
        some true)
end M
namespace M
noncomputable def i_sameCore (a : M.SCore) (b : M.SCore) : Option (Bool) :=
  let q0 := (M.slices_Equal_Ins_Ins (M.SCore.Code a) (M.SCore.Code b))
  let q1 := (((((M.SCore.Name a) == (M.SCore.Name b)) && ((M.SCore.Params a) == (M.SCore.Params b))) && ((M.SCore.Locals a) == (M.SCore.Locals b))) && ((M.SCore.Result a) == (M.SCore.Result b)))
  bif (((Option.isSome q0) || (!(q1 == true))) && true) then
    some (q1 && (Option.getD q0 Inhabited.default))
  else
    none
end M
namespace M
noncomputable def slices_EqualFunc_Core_Core_Core_Core_l0 (s2 : (List M.SCore)) (t15 : (List M.SCore)) (t16 : Int) : Nat → Int → Option ((Bool) ⊕ (Unit))
  | 0, _ => none
  | fuel + 1, t17 =>
    bif (decide (t17 < t16)) then
      let q0 := (M.i_sameCore (List.getD t15 (Int.toNat t17) M.SCore.zero) (List.getD s2 (Int.toNat t17) M.SCore.zero))
      bif (!(Option.getD q0 Inhabited.default)) then
        let q1 := ((Option.isSome q0) && ((Go.V.inB t17 (List.length s2)) && ((Go.V.inB t17 (List.length t15)) && true)))
        bif q1 then
          some (.inl false)
        else
          none
      else
        let q1 := ((Option.isSome q0) && ((Go.V.inB t17 (List.length s2)) && ((Go.V.inB t17 (List.length t15)) && true)))
        bif q1 then
          M.slices_EqualFunc_Core_Core_Core_Core_l0 s2 t15 t16 fuel (Go.IntKind.wrap Go.IntKind.i64 (t17 + (1 : Int)))
        else
          none
    else
      some ((.inr (())))
end M
namespace M
noncomputable def slices_EqualFunc_Core_Core_Core_Core (s1 : (List M.SCore)) (s2 : (List M.SCore)) : Option (Bool) :=
  bif (((List.length s1) : Int) != ((List.length s2) : Int)) then
    some false
  else
    match (M.slices_EqualFunc_Core_Core_Core_Core_l0 s2 s1 ((List.length s1) : Int) Go.V.bigN (0 : Int)) with
    | none => none
    | some y0 =>
      (match y0 with
      | .inl a1 =>
        some a1
      | .inr b1 =>
        some true)
end M
namespace M
noncomputable def i_SameModule (a : M.SModule) (b : M.SModule) : Option (Bool) :=
  let q0 := (M.slices_EqualFunc_Core_Core_Core_Core (M.SModule.Cores a) (M.SModule.Cores b))
  let q1 := (M.slices_Equal_Import_Import (M.SModule.Imports a) (M.SModule.Imports b))
  let q2 := (((M.SModule.Pages a) == (M.SModule.Pages b)) && (Option.getD q1 Inhabited.default))
  bif (((Option.isSome q0) || (!(q2 == true))) && (((Option.isSome q1) || (!(((M.SModule.Pages a) == (M.SModule.Pages b)) == true))) && true)) then
    some (q2 && (Option.getD q0 Inhabited.default))
  else
    none
end M
namespace M
noncomputable def slices_Equal_Lift_Lift_l0 (s1 : (List M.SLift)) (s2 : (List M.SLift)) (t12 : Int) : Nat → Int → Option ((Bool) ⊕ (Unit))
  | 0, _ => none
  | fuel + 1, t13 =>
    bif (decide (t13 < t12)) then
      bif (!(((M.SLift.Face (List.getD s1 (Int.toNat t13) M.SLift.zero)) == (M.SLift.Face (List.getD s2 (Int.toNat t13) M.SLift.zero))) && (((M.SLift.Func (List.getD s1 (Int.toNat t13) M.SLift.zero)) == (M.SLift.Func (List.getD s2 (Int.toNat t13) M.SLift.zero))) && (((M.SLift.Core (List.getD s1 (Int.toNat t13) M.SLift.zero)) == (M.SLift.Core (List.getD s2 (Int.toNat t13) M.SLift.zero))) && true)))) then
        let q0 := ((Go.V.inB t13 (List.length s2)) && ((Go.V.inB t13 (List.length s1)) && true))
        bif q0 then
          some (.inl false)
        else
          none
      else
        let q0 := ((Go.V.inB t13 (List.length s2)) && ((Go.V.inB t13 (List.length s1)) && true))
        bif q0 then
          M.slices_Equal_Lift_Lift_l0 s1 s2 t12 fuel (Go.IntKind.wrap Go.IntKind.i64 (t13 + (1 : Int)))
        else
          none
    else
      some ((.inr (())))
end M
namespace M
noncomputable def slices_Equal_Lift_Lift (s1 : (List M.SLift)) (s2 : (List M.SLift)) : Option (Bool) :=
  bif (((List.length s1) : Int) != ((List.length s2) : Int)) then
    some false
  else
    match (M.slices_Equal_Lift_Lift_l0 s1 s2 ((List.length s1) : Int) Go.V.bigN (0 : Int)) with
    | none => none
    | some y0 =>
      (match y0 with
      | .inl a1 =>
        some a1
      | .inr b1 =>
        some true)
end M
namespace M
noncomputable def slices_Equal_Lower_Lower_l0 (s1 : (List M.SLower)) (s2 : (List M.SLower)) (t12 : Int) : Nat → Int → Option ((Bool) ⊕ (Unit))
  | 0, _ => none
  | fuel + 1, t13 =>
    bif (decide (t13 < t12)) then
      bif (!(((M.SLower.Face (List.getD s1 (Int.toNat t13) M.SLower.zero)) == (M.SLower.Face (List.getD s2 (Int.toNat t13) M.SLower.zero))) && (((M.SLower.Func (List.getD s1 (Int.toNat t13) M.SLower.zero)) == (M.SLower.Func (List.getD s2 (Int.toNat t13) M.SLower.zero))) && (((M.SLower.Import (List.getD s1 (Int.toNat t13) M.SLower.zero)) == (M.SLower.Import (List.getD s2 (Int.toNat t13) M.SLower.zero))) && true)))) then
        let q0 := ((Go.V.inB t13 (List.length s2)) && ((Go.V.inB t13 (List.length s1)) && true))
        bif q0 then
          some (.inl false)
        else
          none
      else
        let q0 := ((Go.V.inB t13 (List.length s2)) && ((Go.V.inB t13 (List.length s1)) && true))
        bif q0 then
          M.slices_Equal_Lower_Lower_l0 s1 s2 t12 fuel (Go.IntKind.wrap Go.IntKind.i64 (t13 + (1 : Int)))
        else
          none
    else
      some ((.inr (())))
end M
namespace M
noncomputable def slices_Equal_Lower_Lower (s1 : (List M.SLower)) (s2 : (List M.SLower)) : Option (Bool) :=
  bif (((List.length s1) : Int) != ((List.length s2) : Int)) then
    some false
  else
    match (M.slices_Equal_Lower_Lower_l0 s1 s2 ((List.length s1) : Int) Go.V.bigN (0 : Int)) with
    | none => none
    | some y0 =>
      (match y0 with
      | .inl a1 =>
        some a1
      | .inr b1 =>
        some true)
end M
namespace M
noncomputable def slices_Equal_Builtin_Builtin_l0 (s1 : (List M.SBuiltin)) (s2 : (List M.SBuiltin)) (t12 : Int) : Nat → Int → Option ((Bool) ⊕ (Unit))
  | 0, _ => none
  | fuel + 1, t13 =>
    bif (decide (t13 < t12)) then
      bif (!(((M.SBuiltin.Kind (List.getD s1 (Int.toNat t13) M.SBuiltin.zero)) == (M.SBuiltin.Kind (List.getD s2 (Int.toNat t13) M.SBuiltin.zero))) && (((M.SBuiltin.Face (List.getD s1 (Int.toNat t13) M.SBuiltin.zero)) == (M.SBuiltin.Face (List.getD s2 (Int.toNat t13) M.SBuiltin.zero))) && (((M.SBuiltin.Resource (List.getD s1 (Int.toNat t13) M.SBuiltin.zero)) == (M.SBuiltin.Resource (List.getD s2 (Int.toNat t13) M.SBuiltin.zero))) && (((M.SBuiltin.Import (List.getD s1 (Int.toNat t13) M.SBuiltin.zero)) == (M.SBuiltin.Import (List.getD s2 (Int.toNat t13) M.SBuiltin.zero))) && true))))) then
        let q0 := ((Go.V.inB t13 (List.length s2)) && ((Go.V.inB t13 (List.length s1)) && true))
        bif q0 then
          some (.inl false)
        else
          none
      else
        let q0 := ((Go.V.inB t13 (List.length s2)) && ((Go.V.inB t13 (List.length s1)) && true))
        bif q0 then
          M.slices_Equal_Builtin_Builtin_l0 s1 s2 t12 fuel (Go.IntKind.wrap Go.IntKind.i64 (t13 + (1 : Int)))
        else
          none
    else
      some ((.inr (())))
end M
namespace M
noncomputable def slices_Equal_Builtin_Builtin (s1 : (List M.SBuiltin)) (s2 : (List M.SBuiltin)) : Option (Bool) :=
  bif (((List.length s1) : Int) != ((List.length s2) : Int)) then
    some false
  else
    match (M.slices_Equal_Builtin_Builtin_l0 s1 s2 ((List.length s1) : Int) Go.V.bigN (0 : Int)) with
    | none => none
    | some y0 =>
      (match y0 with
      | .inl a1 =>
        some a1
      | .inr b1 =>
        some true)
end M
namespace M
noncomputable def i_SameComponent (a : M.SComponent) (b : M.SComponent) : Option (Bool) :=
  let q0 := (M.slices_Equal_Builtin_Builtin (M.SComponent.Builtins a) (M.SComponent.Builtins b))
  let q1 := (((M.SComponent.Name a) == (M.SComponent.Name b)) && ((M.SComponent.Version a) == (M.SComponent.Version b)))
  let q2 := (M.slices_EqualFunc_Face_Face_Face_Face (M.SComponent.Imports a) (M.SComponent.Imports b))
  let q3 := (q1 && (Option.getD q2 Inhabited.default))
  let q4 := (M.slices_EqualFunc_Face_Face_Face_Face (M.SComponent.Exports a) (M.SComponent.Exports b))
  let q5 := (((q3 && (Option.getD q4 Inhabited.default)) && ((M.SComponent.Encoding a) == (M.SComponent.Encoding b))) && ((M.SComponent.Reserve a) == (M.SComponent.Reserve b)))
  let q6 := (M.i_SameModule (M.SComponent.Module a) (M.SComponent.Module b))
  let q7 := (q5 && (Option.getD q6 Inhabited.default))
  let q8 := (M.slices_Equal_Lift_Lift (M.SComponent.Lifts a) (M.SComponent.Lifts b))
  let q9 := (q7 && (Option.getD q8 Inhabited.default))
  let q10 := (M.slices_Equal_Lower_Lower (M.SComponent.Lowers a) (M.SComponent.Lowers b))
  let q11 := (q9 && (Option.getD q10 Inhabited.default))
  bif (((Option.isSome q0) || (!(q11 == true))) && (((Option.isSome q10) || (!(q9 == true))) && (((Option.isSome q8) || (!(q7 == true))) && (((Option.isSome q6) || (!(q5 == true))) && (((Option.isSome q4) || (!(q3 == true))) && (((Option.isSome q2) || (!(q1 == true))) && true)))))) then
    some (q11 && (Option.getD q0 Inhabited.default))
  else
    none
end M
namespace M
noncomputable def l_eqParam (a : M.SParam) (b : M.SParam) : Option (Bool) :=
  bif (!((M.SParam.Name a) == (M.SParam.Name b))) then
    some false
  else
    let q0 := (M.l_eqType (M.SType.re (M.SParam.Type_ a)) (M.SType.re (M.SParam.Type_ b)))
    bif (!(Option.getD q0 Inhabited.default)) then
      bif ((Option.isSome q0) && true) then
        some false
      else
        none
    else
      bif ((Option.isSome q0) && true) then
        some true
      else
        none
end M
namespace M
noncomputable def l_eqParamS_l0 (a : (List M.SParam)) (b : (List M.SParam)) : Nat → Int → Option ((Bool) ⊕ (Unit))
  | 0, _ => none
  | fuel + 1, i =>
    bif (decide (i < ((List.length a) : Int))) then
      let q0 := (M.l_eqParam (M.SParam.re (List.getD a (Int.toNat i) M.SParam.zero)) (M.SParam.re (List.getD b (Int.toNat i) M.SParam.zero)))
      bif (!(Option.getD q0 Inhabited.default)) then
        let q1 := ((Option.isSome q0) && ((Go.V.inB i (List.length b)) && ((Go.V.inB i (List.length a)) && true)))
        bif q1 then
          some (.inl false)
        else
          none
      else
        let q1 := ((Option.isSome q0) && ((Go.V.inB i (List.length b)) && ((Go.V.inB i (List.length a)) && true)))
        bif q1 then
          M.l_eqParamS_l0 a b fuel (Go.IntKind.wrap Go.IntKind.i64 (i + (1 : Int)))
        else
          none
    else
      some ((.inr (())))
end M
namespace M
noncomputable def l_eqParamS (a : (List M.SParam)) (b : (List M.SParam)) : Option (Bool) :=
  bif (((List.length a) : Int) != ((List.length b) : Int)) then
    some false
  else
    match (M.l_eqParamS_l0 a b Go.V.bigN (0 : Int)) with
    | none => none
    | some y0 =>
      (match y0 with
      | .inl a1 =>
        some a1
      | .inr b1 =>
        some true)
end M
namespace M
noncomputable def l_eqFuncType (a : M.SFuncType) (b : M.SFuncType) : Option (Bool) :=
  let q0 := (M.l_eqParamS (M.SFuncType.Params a) (M.SFuncType.Params b))
  bif (!(Option.getD q0 Inhabited.default)) then
    bif ((Option.isSome q0) && true) then
      some false
    else
      none
  else
    let q1 := (M.l_eqType (M.SType.re (M.SFuncType.Result a)) (M.SType.re (M.SFuncType.Result b)))
    bif (!(Option.getD q1 Inhabited.default)) then
      bif ((Option.isSome q1) && ((Option.isSome q0) && true)) then
        some false
      else
        none
    else
      bif (!((M.SFuncType.Async a) == (M.SFuncType.Async b))) then
        bif ((Option.isSome q1) && ((Option.isSome q0) && true)) then
          some false
        else
          none
      else
        bif ((Option.isSome q1) && ((Option.isSome q0) && true)) then
          some true
        else
          none
end M
namespace M
noncomputable def l_eqFunc (a : M.SFunc) (b : M.SFunc) : Option (Bool) :=
  bif (!((M.SFunc.Name a) == (M.SFunc.Name b))) then
    some false
  else
    let q0 := (M.l_eqFuncType (M.SFuncType.re (M.SFunc.Type_ a)) (M.SFuncType.re (M.SFunc.Type_ b)))
    bif (!(Option.getD q0 Inhabited.default)) then
      bif ((Option.isSome q0) && true) then
        some false
      else
        none
    else
      bif ((Option.isSome q0) && true) then
        some true
      else
        none
end M
namespace M
noncomputable def l_eqFuncS_l0 (a : (List M.SFunc)) (b : (List M.SFunc)) : Nat → Int → Option ((Bool) ⊕ (Unit))
  | 0, _ => none
  | fuel + 1, i =>
    bif (decide (i < ((List.length a) : Int))) then
      let q0 := (M.l_eqFunc (M.SFunc.re (List.getD a (Int.toNat i) M.SFunc.zero)) (M.SFunc.re (List.getD b (Int.toNat i) M.SFunc.zero)))
      bif (!(Option.getD q0 Inhabited.default)) then
        let q1 := ((Option.isSome q0) && ((Go.V.inB i (List.length b)) && ((Go.V.inB i (List.length a)) && true)))
        bif q1 then
          some (.inl false)
        else
          none
      else
        let q1 := ((Option.isSome q0) && ((Go.V.inB i (List.length b)) && ((Go.V.inB i (List.length a)) && true)))
        bif q1 then
          M.l_eqFuncS_l0 a b fuel (Go.IntKind.wrap Go.IntKind.i64 (i + (1 : Int)))
        else
          none
    else
      some ((.inr (())))
end M
namespace M
noncomputable def l_eqFuncS (a : (List M.SFunc)) (b : (List M.SFunc)) : Option (Bool) :=
  bif (((List.length a) : Int) != ((List.length b) : Int)) then
    some false
  else
    match (M.l_eqFuncS_l0 a b Go.V.bigN (0 : Int)) with
    | none => none
    | some y0 =>
      (match y0 with
      | .inl a1 =>
        some a1
      | .inr b1 =>
        some true)
end M
namespace M
noncomputable def l_eqFace (a : M.SFace) (b : M.SFace) : Option (Bool) :=
  bif (!((M.SFace.Package a) == (M.SFace.Package b))) then
    some false
  else
    bif (!((M.SFace.Name a) == (M.SFace.Name b))) then
      some false
    else
      bif (!((M.SFace.Version a) == (M.SFace.Version b))) then
        some false
      else
        let q0 := (M.l_eqStringS (M.SFace.Resources a) (M.SFace.Resources b))
        bif (!(Option.getD q0 Inhabited.default)) then
          bif ((Option.isSome q0) && true) then
            some false
          else
            none
        else
          let q1 := (M.l_eqFuncS (M.SFace.Funcs a) (M.SFace.Funcs b))
          bif (!(Option.getD q1 Inhabited.default)) then
            bif ((Option.isSome q1) && ((Option.isSome q0) && true)) then
              some false
            else
              none
          else
            bif ((Option.isSome q1) && ((Option.isSome q0) && true)) then
              some true
            else
              none
end M
namespace M
noncomputable def l_eqFaceS_l0 (a : (List M.SFace)) (b : (List M.SFace)) : Nat → Int → Option ((Bool) ⊕ (Unit))
  | 0, _ => none
  | fuel + 1, i =>
    bif (decide (i < ((List.length a) : Int))) then
      let q0 := (M.l_eqFace (List.getD a (Int.toNat i) M.SFace.zero) (List.getD b (Int.toNat i) M.SFace.zero))
      bif (!(Option.getD q0 Inhabited.default)) then
        let q1 := ((Option.isSome q0) && ((Go.V.inB i (List.length b)) && ((Go.V.inB i (List.length a)) && true)))
        bif q1 then
          some (.inl false)
        else
          none
      else
        let q1 := ((Option.isSome q0) && ((Go.V.inB i (List.length b)) && ((Go.V.inB i (List.length a)) && true)))
        bif q1 then
          M.l_eqFaceS_l0 a b fuel (Go.IntKind.wrap Go.IntKind.i64 (i + (1 : Int)))
        else
          none
    else
      some ((.inr (())))
end M
namespace M
noncomputable def l_eqFaceS (a : (List M.SFace)) (b : (List M.SFace)) : Option (Bool) :=
  bif (((List.length a) : Int) != ((List.length b) : Int)) then
    some false
  else
    match (M.l_eqFaceS_l0 a b Go.V.bigN (0 : Int)) with
    | none => none
    | some y0 =>
      (match y0 with
      | .inl a1 =>
        some a1
      | .inr b1 =>
        some true)
end M
namespace M
noncomputable def l_eqImport (a : M.SImport) (b : M.SImport) : Option (Bool) :=
  bif (!((M.SImport.Name a) == (M.SImport.Name b))) then
    some false
  else
    bif ((M.SImport.Params a) != (M.SImport.Params b)) then
      some false
    else
      bif (!((M.SImport.Result a) == (M.SImport.Result b))) then
        some false
      else
        some true
end M
namespace M
noncomputable def l_eqImportS_l0 (a : (List M.SImport)) (b : (List M.SImport)) : Nat → Int → Option ((Bool) ⊕ (Unit))
  | 0, _ => none
  | fuel + 1, i =>
    bif (decide (i < ((List.length a) : Int))) then
      let q0 := (M.l_eqImport (List.getD a (Int.toNat i) M.SImport.zero) (List.getD b (Int.toNat i) M.SImport.zero))
      bif (!(Option.getD q0 Inhabited.default)) then
        let q1 := ((Option.isSome q0) && ((Go.V.inB i (List.length b)) && ((Go.V.inB i (List.length a)) && true)))
        bif q1 then
          some (.inl false)
        else
          none
      else
        let q1 := ((Option.isSome q0) && ((Go.V.inB i (List.length b)) && ((Go.V.inB i (List.length a)) && true)))
        bif q1 then
          M.l_eqImportS_l0 a b fuel (Go.IntKind.wrap Go.IntKind.i64 (i + (1 : Int)))
        else
          none
    else
      some ((.inr (())))
end M
namespace M
noncomputable def l_eqImportS (a : (List M.SImport)) (b : (List M.SImport)) : Option (Bool) :=
  bif (((List.length a) : Int) != ((List.length b) : Int)) then
    some false
  else
    match (M.l_eqImportS_l0 a b Go.V.bigN (0 : Int)) with
    | none => none
    | some y0 =>
      (match y0 with
      | .inl a1 =>
        some a1
      | .inr b1 =>
        some true)
end M
namespace M
noncomputable def l_eqIns (a : M.SIns) (b : M.SIns) : Option (Bool) :=
  bif ((M.SIns.Op a) != (M.SIns.Op b)) then
    some false
  else
    bif ((M.SIns.A a) != (M.SIns.A b)) then
      some false
    else
      some true
end M
namespace M
noncomputable def l_eqInsS_l0 (a : (List M.SIns)) (b : (List M.SIns)) : Nat → Int → Option ((Bool) ⊕ (Unit))
  | 0, _ => none
  | fuel + 1, i =>
    bif (decide (i < ((List.length a) : Int))) then
      let q0 := (M.l_eqIns (List.getD a (Int.toNat i) M.SIns.zero) (List.getD b (Int.toNat i) M.SIns.zero))
      bif (!(Option.getD q0 Inhabited.default)) then
        let q1 := ((Option.isSome q0) && ((Go.V.inB i (List.length b)) && ((Go.V.inB i (List.length a)) && true)))
        bif q1 then
          some (.inl false)
        else
          none
      else
        let q1 := ((Option.isSome q0) && ((Go.V.inB i (List.length b)) && ((Go.V.inB i (List.length a)) && true)))
        bif q1 then
          M.l_eqInsS_l0 a b fuel (Go.IntKind.wrap Go.IntKind.i64 (i + (1 : Int)))
        else
          none
    else
      some ((.inr (())))
end M
namespace M
noncomputable def l_eqInsS (a : (List M.SIns)) (b : (List M.SIns)) : Option (Bool) :=
  bif (((List.length a) : Int) != ((List.length b) : Int)) then
    some false
  else
    match (M.l_eqInsS_l0 a b Go.V.bigN (0 : Int)) with
    | none => none
    | some y0 =>
      (match y0 with
      | .inl a1 =>
        some a1
      | .inr b1 =>
        some true)
end M
namespace M
noncomputable def l_eqCore (a : M.SCore) (b : M.SCore) : Option (Bool) :=
  bif (!((M.SCore.Name a) == (M.SCore.Name b))) then
    some false
  else
    bif ((M.SCore.Params a) != (M.SCore.Params b)) then
      some false
    else
      bif ((M.SCore.Locals a) != (M.SCore.Locals b)) then
        some false
      else
        bif (!((M.SCore.Result a) == (M.SCore.Result b))) then
          some false
        else
          let q0 := (M.l_eqInsS (M.SCore.Code a) (M.SCore.Code b))
          bif (!(Option.getD q0 Inhabited.default)) then
            bif ((Option.isSome q0) && true) then
              some false
            else
              none
          else
            bif ((Option.isSome q0) && true) then
              some true
            else
              none
end M
namespace M
noncomputable def l_eqCoreS_l0 (a : (List M.SCore)) (b : (List M.SCore)) : Nat → Int → Option ((Bool) ⊕ (Unit))
  | 0, _ => none
  | fuel + 1, i =>
    bif (decide (i < ((List.length a) : Int))) then
      let q0 := (M.l_eqCore (List.getD a (Int.toNat i) M.SCore.zero) (List.getD b (Int.toNat i) M.SCore.zero))
      bif (!(Option.getD q0 Inhabited.default)) then
        let q1 := ((Option.isSome q0) && ((Go.V.inB i (List.length b)) && ((Go.V.inB i (List.length a)) && true)))
        bif q1 then
          some (.inl false)
        else
          none
      else
        let q1 := ((Option.isSome q0) && ((Go.V.inB i (List.length b)) && ((Go.V.inB i (List.length a)) && true)))
        bif q1 then
          M.l_eqCoreS_l0 a b fuel (Go.IntKind.wrap Go.IntKind.i64 (i + (1 : Int)))
        else
          none
    else
      some ((.inr (())))
end M
namespace M
noncomputable def l_eqCoreS (a : (List M.SCore)) (b : (List M.SCore)) : Option (Bool) :=
  bif (((List.length a) : Int) != ((List.length b) : Int)) then
    some false
  else
    match (M.l_eqCoreS_l0 a b Go.V.bigN (0 : Int)) with
    | none => none
    | some y0 =>
      (match y0 with
      | .inl a1 =>
        some a1
      | .inr b1 =>
        some true)
end M
namespace M
noncomputable def l_eqModule (a : M.SModule) (b : M.SModule) : Option (Bool) :=
  bif ((M.SModule.Pages a) != (M.SModule.Pages b)) then
    some false
  else
    let q0 := (M.l_eqImportS (M.SModule.Imports a) (M.SModule.Imports b))
    bif (!(Option.getD q0 Inhabited.default)) then
      bif ((Option.isSome q0) && true) then
        some false
      else
        none
    else
      let q1 := (M.l_eqCoreS (M.SModule.Cores a) (M.SModule.Cores b))
      bif (!(Option.getD q1 Inhabited.default)) then
        bif ((Option.isSome q1) && ((Option.isSome q0) && true)) then
          some false
        else
          none
      else
        bif ((Option.isSome q1) && ((Option.isSome q0) && true)) then
          some true
        else
          none
end M
namespace M
noncomputable def l_eqLift (a : M.SLift) (b : M.SLift) : Option (Bool) :=
  bif (!((M.SLift.Face a) == (M.SLift.Face b))) then
    some false
  else
    bif (!((M.SLift.Func a) == (M.SLift.Func b))) then
      some false
    else
      bif (!((M.SLift.Core a) == (M.SLift.Core b))) then
        some false
      else
        some true
end M
namespace M
noncomputable def l_eqLiftS_l0 (a : (List M.SLift)) (b : (List M.SLift)) : Nat → Int → Option ((Bool) ⊕ (Unit))
  | 0, _ => none
  | fuel + 1, i =>
    bif (decide (i < ((List.length a) : Int))) then
      let q0 := (M.l_eqLift (List.getD a (Int.toNat i) M.SLift.zero) (List.getD b (Int.toNat i) M.SLift.zero))
      bif (!(Option.getD q0 Inhabited.default)) then
        let q1 := ((Option.isSome q0) && ((Go.V.inB i (List.length b)) && ((Go.V.inB i (List.length a)) && true)))
        bif q1 then
          some (.inl false)
        else
          none
      else
        let q1 := ((Option.isSome q0) && ((Go.V.inB i (List.length b)) && ((Go.V.inB i (List.length a)) && true)))
        bif q1 then
          M.l_eqLiftS_l0 a b fuel (Go.IntKind.wrap Go.IntKind.i64 (i + (1 : Int)))
        else
          none
    else
      some ((.inr (())))
end M
namespace M
noncomputable def l_eqLiftS (a : (List M.SLift)) (b : (List M.SLift)) : Option (Bool) :=
  bif (((List.length a) : Int) != ((List.length b) : Int)) then
    some false
  else
    match (M.l_eqLiftS_l0 a b Go.V.bigN (0 : Int)) with
    | none => none
    | some y0 =>
      (match y0 with
      | .inl a1 =>
        some a1
      | .inr b1 =>
        some true)
end M
namespace M
noncomputable def l_eqLower (a : M.SLower) (b : M.SLower) : Option (Bool) :=
  bif (!((M.SLower.Face a) == (M.SLower.Face b))) then
    some false
  else
    bif (!((M.SLower.Func a) == (M.SLower.Func b))) then
      some false
    else
      bif (!((M.SLower.Import a) == (M.SLower.Import b))) then
        some false
      else
        some true
end M
namespace M
noncomputable def l_eqLowerS_l0 (a : (List M.SLower)) (b : (List M.SLower)) : Nat → Int → Option ((Bool) ⊕ (Unit))
  | 0, _ => none
  | fuel + 1, i =>
    bif (decide (i < ((List.length a) : Int))) then
      let q0 := (M.l_eqLower (List.getD a (Int.toNat i) M.SLower.zero) (List.getD b (Int.toNat i) M.SLower.zero))
      bif (!(Option.getD q0 Inhabited.default)) then
        let q1 := ((Option.isSome q0) && ((Go.V.inB i (List.length b)) && ((Go.V.inB i (List.length a)) && true)))
        bif q1 then
          some (.inl false)
        else
          none
      else
        let q1 := ((Option.isSome q0) && ((Go.V.inB i (List.length b)) && ((Go.V.inB i (List.length a)) && true)))
        bif q1 then
          M.l_eqLowerS_l0 a b fuel (Go.IntKind.wrap Go.IntKind.i64 (i + (1 : Int)))
        else
          none
    else
      some ((.inr (())))
end M
namespace M
noncomputable def l_eqLowerS (a : (List M.SLower)) (b : (List M.SLower)) : Option (Bool) :=
  bif (((List.length a) : Int) != ((List.length b) : Int)) then
    some false
  else
    match (M.l_eqLowerS_l0 a b Go.V.bigN (0 : Int)) with
    | none => none
    | some y0 =>
      (match y0 with
      | .inl a1 =>
        some a1
      | .inr b1 =>
        some true)
end M
namespace M
noncomputable def l_eqBuiltin (a : M.SBuiltin) (b : M.SBuiltin) : Option (Bool) :=
  bif ((M.SBuiltin.Kind a) != (M.SBuiltin.Kind b)) then
    some false
  else
    bif (!((M.SBuiltin.Face a) == (M.SBuiltin.Face b))) then
      some false
    else
      bif (!((M.SBuiltin.Resource a) == (M.SBuiltin.Resource b))) then
        some false
      else
        bif (!((M.SBuiltin.Import a) == (M.SBuiltin.Import b))) then
          some false
        else
          some true
end M
namespace M
noncomputable def l_eqBuiltinS_l0 (a : (List M.SBuiltin)) (b : (List M.SBuiltin)) : Nat → Int → Option ((Bool) ⊕ (Unit))
  | 0, _ => none
  | fuel + 1, i =>
    bif (decide (i < ((List.length a) : Int))) then
      let q0 := (M.l_eqBuiltin (List.getD a (Int.toNat i) M.SBuiltin.zero) (List.getD b (Int.toNat i) M.SBuiltin.zero))
      bif (!(Option.getD q0 Inhabited.default)) then
        let q1 := ((Option.isSome q0) && ((Go.V.inB i (List.length b)) && ((Go.V.inB i (List.length a)) && true)))
        bif q1 then
          some (.inl false)
        else
          none
      else
        let q1 := ((Option.isSome q0) && ((Go.V.inB i (List.length b)) && ((Go.V.inB i (List.length a)) && true)))
        bif q1 then
          M.l_eqBuiltinS_l0 a b fuel (Go.IntKind.wrap Go.IntKind.i64 (i + (1 : Int)))
        else
          none
    else
      some ((.inr (())))
end M
namespace M
noncomputable def l_eqBuiltinS (a : (List M.SBuiltin)) (b : (List M.SBuiltin)) : Option (Bool) :=
  bif (((List.length a) : Int) != ((List.length b) : Int)) then
    some false
  else
    match (M.l_eqBuiltinS_l0 a b Go.V.bigN (0 : Int)) with
    | none => none
    | some y0 =>
      (match y0 with
      | .inl a1 =>
        some a1
      | .inr b1 =>
        some true)
end M
namespace M
noncomputable def l_eqComponent (a : M.SComponent) (b : M.SComponent) : Option (Bool) :=
  bif (!((M.SComponent.Name a) == (M.SComponent.Name b))) then
    some false
  else
    bif (!((M.SComponent.Version a) == (M.SComponent.Version b))) then
      some false
    else
      let q0 := (M.l_eqFaceS (M.SComponent.Imports a) (M.SComponent.Imports b))
      bif (!(Option.getD q0 Inhabited.default)) then
        bif ((Option.isSome q0) && true) then
          some false
        else
          none
      else
        let q1 := (M.l_eqFaceS (M.SComponent.Exports a) (M.SComponent.Exports b))
        bif (!(Option.getD q1 Inhabited.default)) then
          bif ((Option.isSome q1) && ((Option.isSome q0) && true)) then
            some false
          else
            none
        else
          bif ((M.SComponent.Encoding a) != (M.SComponent.Encoding b)) then
            bif ((Option.isSome q1) && ((Option.isSome q0) && true)) then
              some false
            else
              none
          else
            bif ((M.SComponent.Reserve a) != (M.SComponent.Reserve b)) then
              bif ((Option.isSome q1) && ((Option.isSome q0) && true)) then
                some false
              else
                none
            else
              let q2 := (M.l_eqModule (M.SComponent.Module a) (M.SComponent.Module b))
              bif (!(Option.getD q2 Inhabited.default)) then
                let q3 := ((Option.isSome q2) && ((Option.isSome q1) && ((Option.isSome q0) && true)))
                bif q3 then
                  some false
                else
                  none
              else
                let q3 := (M.l_eqLiftS (M.SComponent.Lifts a) (M.SComponent.Lifts b))
                bif (!(Option.getD q3 Inhabited.default)) then
                  let q4 := ((Option.isSome q2) && ((Option.isSome q1) && ((Option.isSome q0) && true)))
                  let q5 := ((Option.isSome q3) && q4)
                  bif q5 then
                    some false
                  else
                    none
                else
                  let q4 := (M.l_eqLowerS (M.SComponent.Lowers a) (M.SComponent.Lowers b))
                  bif (!(Option.getD q4 Inhabited.default)) then
                    let q5 := ((Option.isSome q2) && ((Option.isSome q1) && ((Option.isSome q0) && true)))
                    let q6 := ((Option.isSome q3) && q5)
                    let q7 := ((Option.isSome q4) && q6)
                    bif q7 then
                      some false
                    else
                      none
                  else
                    let q5 := (M.l_eqBuiltinS (M.SComponent.Builtins a) (M.SComponent.Builtins b))
                    bif (!(Option.getD q5 Inhabited.default)) then
                      let q6 := ((Option.isSome q2) && ((Option.isSome q1) && ((Option.isSome q0) && true)))
                      let q7 := ((Option.isSome q3) && q6)
                      let q8 := ((Option.isSome q4) && q7)
                      let q9 := ((Option.isSome q5) && q8)
                      bif q9 then
                        some false
                      else
                        none
                    else
                      let q6 := ((Option.isSome q2) && ((Option.isSome q1) && ((Option.isSome q0) && true)))
                      let q7 := ((Option.isSome q3) && q6)
                      let q8 := ((Option.isSome q4) && q7)
                      let q9 := ((Option.isSome q5) && q8)
                      bif q9 then
                        some true
                      else
                        none
end M
namespace M
noncomputable def l_FnExactSameComponent (aA : M.SComponent) (aB : M.SComponent) : Option (Bool) :=
  let q0 := (M.l_szComponent aA (1048576 : Int))
  bif (decide ((Option.getD q0 Inhabited.default) < (0 : Int))) then
    bif ((Option.isSome q0) && true) then
      some true
    else
      none
  else
    let q1 := (M.l_szComponent aB (Option.getD q0 Inhabited.default))
    bif (decide ((Option.getD q1 Inhabited.default) < (0 : Int))) then
      let q2 := ((Option.isSome q1) && ((Option.isSome q0) && true))
      bif q2 then
        some true
      else
        none
    else
      let q2 := (M.l_toComponent aA)
      let q3 := (M.l_toComponent aB)
      let q4 := (M.i_SameComponent (Option.getD q2 Inhabited.default) (Option.getD q3 Inhabited.default))
      let q5 := (M.s_SameComponent (Option.getD q2 Inhabited.default) (Option.getD q3 Inhabited.default))
      bif (!((Option.getD q4 Inhabited.default) == (Option.getD q5 Inhabited.default))) then
        let q6 := ((Option.isSome q1) && ((Option.isSome q0) && true))
        let q7 := ((Option.isSome q4) && ((Option.isSome q3) && ((Option.isSome q2) && ((Option.isSome q5) && ((Option.isSome q3) && ((Option.isSome q2) && q6))))))
        bif q7 then
          some false
        else
          none
      else
        let q6 := (M.l_eqComponent (Option.getD q2 Inhabited.default) (Option.getD q2 Inhabited.default))
        bif (!(Option.getD q6 Inhabited.default)) then
          let q7 := ((Option.isSome q1) && ((Option.isSome q0) && true))
          let q8 := ((Option.isSome q4) && ((Option.isSome q3) && ((Option.isSome q2) && ((Option.isSome q5) && ((Option.isSome q3) && ((Option.isSome q2) && q7))))))
          let q9 := ((Option.isSome q6) && ((Option.isSome q2) && q8))
          bif q9 then
            some false
          else
            none
        else
          let q7 := (M.l_eqComponent (Option.getD q3 Inhabited.default) (Option.getD q3 Inhabited.default))
          bif (!(Option.getD q7 Inhabited.default)) then
            let q8 := ((Option.isSome q1) && ((Option.isSome q0) && true))
            let q9 := ((Option.isSome q4) && ((Option.isSome q3) && ((Option.isSome q2) && ((Option.isSome q5) && ((Option.isSome q3) && ((Option.isSome q2) && q8))))))
            let q10 := ((Option.isSome q6) && ((Option.isSome q2) && q9))
            let q11 := ((Option.isSome q7) && ((Option.isSome q3) && q10))
            bif q11 then
              some false
            else
              none
          else
            let q8 := ((Option.isSome q1) && ((Option.isSome q0) && true))
            let q9 := ((Option.isSome q4) && ((Option.isSome q3) && ((Option.isSome q2) && ((Option.isSome q5) && ((Option.isSome q3) && ((Option.isSome q2) && q8))))))
            let q10 := ((Option.isSome q6) && ((Option.isSome q2) && q9))
            let q11 := ((Option.isSome q7) && ((Option.isSome q3) && q10))
            bif q11 then
              some true
            else
              none
end M
