import Derived.Test.YtfjgoefnkdcolaaXVdata
set_option linter.unusedVariables false
set_option maxRecDepth 100000
namespace M
noncomputable def l_szAopS (a : (List M.SAop)) (left : Int) : Option (Int) :=
  bif (decide ((Go.IntKind.wrap Go.IntKind.i64 (left - ((List.length a) : Int))) < (0 : Int))) then
    some (-(1 : Int))
  else
    some (Go.IntKind.wrap Go.IntKind.i64 (left - ((List.length a) : Int)))
end M
namespace M
noncomputable def l_szProg (a : M.SProg) (left : Int) : Option (Int) :=
  let q0 := (M.l_szAopS (M.SProg.Ops a) left)
  bif (decide ((Option.getD q0 Inhabited.default) < (0 : Int))) then
    bif ((Option.isSome q0) && true) then
      some (-(1 : Int))
    else
      none
  else
    bif ((Option.isSome q0) && true) then
      some (Option.getD q0 Inhabited.default)
    else
      none
end M
namespace M
noncomputable def l_toAop (a : M.SAop) : Option (M.SAop) :=
  some a
end M
namespace M
noncomputable def l_toAopS_l0 (a : (List M.SAop)) : Nat → Int → (List M.SAop) → Option ((List M.SAop))
  | 0, _, _ => none
  | fuel + 1, i, out =>
    bif (decide (i < ((List.length a) : Int))) then
      bif ((Go.V.inB i (List.length out)) && ((Go.V.inB i (List.length a)) && true)) then
        M.l_toAopS_l0 a fuel (Go.IntKind.wrap Go.IntKind.i64 (i + (1 : Int))) (List.set out (Int.toNat i) (List.getD a (Int.toNat i) M.SAop.zero))
      else
        none
    else
      some (out)
end M
namespace M
noncomputable def l_toAopS (a : (List M.SAop)) : Option ((List M.SAop)) :=
  match (M.l_toAopS_l0 a Go.V.bigN (0 : Int) (List.replicate (Int.toNat ((List.length a) : Int)) (M.SAop.mk (0 : Int) (0 : Int) (0 : Int)))) with
  | none => none
  | some y0 =>
    bif (((decide (((List.length a) : Int) ≤ ((List.length a) : Int))) && (decide (((List.length a) : Int) ≤ (1073741824 : Int)))) && true) then
      some y0
    else
      none
end M
namespace M
noncomputable def l_toProg (a : M.SProg) : Option (M.SProg) :=
  let q0 := (M.l_toAopS (M.SProg.Ops a))
  bif ((Option.isSome q0) && true) then
    some (M.SProg.mk (M.SProg.Inst a) (Option.getD q0 Inhabited.default))
  else
    none
end M
namespace M
def s_l00In (n : Int) (low : Int) (high : Int) : Option (Bool) :=
  some ((decide (low ≤ n)) && (decide (n ≤ high)))
end M
namespace M
noncomputable def s_l22Aop (o : M.SAop) : Option (Bool) :=
  bif ((!((decide ((1 : Int) ≤ (M.SAop.Kind o))) && (decide ((M.SAop.Kind o) ≤ (12 : Int))))) || (!((decide ((0 : Int) ≤ (M.SAop.A o))) && (decide ((M.SAop.A o) ≤ (bif ((M.SAop.Kind o) == (1 : Int)) then (5 : Int) else (bif (bif ((M.SAop.Kind o) == (2 : Int)) then ((M.SAop.Kind o) == (2 : Int)) else ((M.SAop.Kind o) == (10 : Int))) then (7 : Int) else (bif (bif ((M.SAop.Kind o) == (5 : Int)) then ((M.SAop.Kind o) == (5 : Int)) else (bif ((M.SAop.Kind o) == (6 : Int)) then ((M.SAop.Kind o) == (6 : Int)) else (bif ((M.SAop.Kind o) == (7 : Int)) then ((M.SAop.Kind o) == (7 : Int)) else ((M.SAop.Kind o) == (8 : Int))))) then (3 : Int) else (bif ((M.SAop.Kind o) == (9 : Int)) then (999 : Int) else (bif ((M.SAop.Kind o) == (11 : Int)) then (1 : Int) else (0 : Int))))))))))) then
    some false
  else
    bif (((M.SAop.Kind o) == (5 : Int)) || ((M.SAop.Kind o) == (6 : Int))) then
      some ((decide ((1 : Int) ≤ (M.SAop.B o))) && (decide ((M.SAop.B o) ≤ (4 : Int))))
    else
      some ((M.SAop.B o) == (0 : Int))
end M
namespace M
noncomputable def s_ProgOk_l0 (p : M.SProg) : Nat → Int → Option ((Bool) ⊕ (Unit))
  | 0, _ => none
  | fuel + 1, i =>
    bif (decide (i < ((List.length (M.SProg.Ops p)) : Int))) then
      let q0 := (M.s_l22Aop (List.getD (M.SProg.Ops p) (Int.toNat i) M.SAop.zero))
      bif (!(Option.getD q0 Inhabited.default)) then
        let q1 := ((Option.isSome q0) && ((Go.V.inB i (List.length (M.SProg.Ops p))) && true))
        bif q1 then
          some (.inl false)
        else
          none
      else
        let q1 := ((Option.isSome q0) && ((Go.V.inB i (List.length (M.SProg.Ops p))) && true))
        bif q1 then
          M.s_ProgOk_l0 p fuel (Go.IntKind.wrap Go.IntKind.i64 (i + (1 : Int)))
        else
          none
    else
      some ((.inr (())))
end M
namespace M
noncomputable def s_ProgOk (p : M.SProg) : Option (Bool) :=
  bif ((!((decide ((1 : Int) ≤ (M.SProg.Inst p))) && (decide ((M.SProg.Inst p) ≤ (6 : Int))))) || (decide ((12 : Int) < ((List.length (M.SProg.Ops p)) : Int)))) then
    some false
  else
    match (M.s_ProgOk_l0 p Go.V.bigN (0 : Int)) with
    | none => none
    | some y0 =>
      (match y0 with
      | .inl a1 =>
        some a1
      | .inr b1 =>
        some true)
end M
namespace M
def i_within (n : Int) (low : Int) (high : Int) : Option (Bool) :=
  some ((decide (low ≤ n)) && (decide (n ≤ high)))
end M
namespace M
noncomputable def i_aopOk (o : M.SAop) : Option (Bool) :=
  let q0 := (bif ((M.SAop.Kind o) == (2 : Int)) then ((M.SAop.Kind o) == (2 : Int)) else ((M.SAop.Kind o) == (10 : Int)))
  let q1 := (bif ((M.SAop.Kind o) == (5 : Int)) then ((M.SAop.Kind o) == (5 : Int)) else ((M.SAop.Kind o) == (6 : Int)))
  some ((((decide ((1 : Int) ≤ (M.SAop.Kind o))) && (decide ((M.SAop.Kind o) ≤ (12 : Int)))) && ((decide ((0 : Int) ≤ (M.SAop.A o))) && (decide ((M.SAop.A o) ≤ (bif ((M.SAop.Kind o) == (1 : Int)) then (5 : Int) else (bif q0 then (7 : Int) else (bif q1 then (3 : Int) else (bif (bif ((M.SAop.Kind o) == (7 : Int)) then ((M.SAop.Kind o) == (7 : Int)) else ((M.SAop.Kind o) == (8 : Int))) then (3 : Int) else (bif ((M.SAop.Kind o) == (9 : Int)) then (999 : Int) else (bif ((M.SAop.Kind o) == (11 : Int)) then (1 : Int) else (0 : Int))))))))))) && ((decide ((bif ((M.SAop.Kind o) == (1 : Int)) then (0 : Int) else (bif q0 then (0 : Int) else (bif q1 then (1 : Int) else (0 : Int)))) ≤ (M.SAop.B o))) && (decide ((M.SAop.B o) ≤ (bif ((M.SAop.Kind o) == (1 : Int)) then (0 : Int) else (bif q0 then (0 : Int) else (bif q1 then (4 : Int) else (0 : Int))))))))
end M
namespace M
noncomputable def i_ProgOk_c1 (o : M.SAop) : Option (Bool) :=
  some (!(Option.getD (M.i_aopOk o) Inhabited.default))
end M
namespace M
noncomputable def slices_IndexFunc_Aop_Aop_l0 (s : (List M.SAop)) (t7 : Int) : Nat → Int → Option ((Int) ⊕ (Unit))
  | 0, _ => none
  | fuel + 1, t8 =>
    bif (decide (t8 < t7)) then
      bif (bif (Option.getD (M.i_aopOk (List.getD s (Int.toNat t8) M.SAop.zero)) Inhabited.default) then false else true) then
        bif ((Go.V.inB t8 (List.length s)) && true) then
          some (.inl t8)
        else
          none
      else
        bif ((Go.V.inB t8 (List.length s)) && true) then
          M.slices_IndexFunc_Aop_Aop_l0 s t7 fuel (Go.IntKind.wrap Go.IntKind.i64 (t8 + (1 : Int)))
        else
          none
    else
      some ((.inr (())))
end M
namespace M
noncomputable def slices_IndexFunc_Aop_Aop (s : (List M.SAop)) : Option (Int) :=
  match (M.slices_IndexFunc_Aop_Aop_l0 s ((List.length s) : Int) Go.V.bigN (0 : Int)) with
  | none => none
  | some y0 =>
    (match y0 with
    | .inl a1 =>
      some a1
    | .inr b1 =>
      some (-(1 : Int)))
end M
namespace M
noncomputable def slices_ContainsFunc_Aop_Aop (s : (List M.SAop)) : Option (Bool) :=
  let q0 := (M.slices_IndexFunc_Aop_Aop s)
  bif ((Option.isSome q0) && true) then
    some (decide ((0 : Int) ≤ (Option.getD q0 Inhabited.default)))
  else
    none
end M
namespace M
noncomputable def i_ProgOk (p : M.SProg) : Option (Bool) :=
  let q0 := (M.slices_ContainsFunc_Aop_Aop (M.SProg.Ops p))
  let q1 := (((decide ((1 : Int) ≤ (M.SProg.Inst p))) && (decide ((M.SProg.Inst p) ≤ (6 : Int)))) && (decide (((List.length (M.SProg.Ops p)) : Int) ≤ (12 : Int))))
  bif (((Option.isSome q0) || (!(q1 == true))) && true) then
    some (q1 && (!(Option.getD q0 Inhabited.default)))
  else
    none
end M
namespace M
noncomputable def l_eqAop (a : M.SAop) (b : M.SAop) : Option (Bool) :=
  bif ((M.SAop.Kind a) != (M.SAop.Kind b)) then
    some false
  else
    bif ((M.SAop.A a) != (M.SAop.A b)) then
      some false
    else
      bif ((M.SAop.B a) != (M.SAop.B b)) then
        some false
      else
        some true
end M
namespace M
noncomputable def l_eqAopS_l0 (a : (List M.SAop)) (b : (List M.SAop)) : Nat → Int → Option ((Bool) ⊕ (Unit))
  | 0, _ => none
  | fuel + 1, i =>
    bif (decide (i < ((List.length a) : Int))) then
      let q0 := (M.l_eqAop (List.getD a (Int.toNat i) M.SAop.zero) (List.getD b (Int.toNat i) M.SAop.zero))
      bif (!(Option.getD q0 Inhabited.default)) then
        let q1 := ((Option.isSome q0) && ((Go.V.inB i (List.length b)) && ((Go.V.inB i (List.length a)) && true)))
        bif q1 then
          some (.inl false)
        else
          none
      else
        let q1 := ((Option.isSome q0) && ((Go.V.inB i (List.length b)) && ((Go.V.inB i (List.length a)) && true)))
        bif q1 then
          M.l_eqAopS_l0 a b fuel (Go.IntKind.wrap Go.IntKind.i64 (i + (1 : Int)))
        else
          none
    else
      some ((.inr (())))
end M
namespace M
noncomputable def l_eqAopS (a : (List M.SAop)) (b : (List M.SAop)) : Option (Bool) :=
  bif (((List.length a) : Int) != ((List.length b) : Int)) then
    some false
  else
    match (M.l_eqAopS_l0 a b Go.V.bigN (0 : Int)) with
    | none => none
    | some y0 =>
      (match y0 with
      | .inl a1 =>
        some a1
      | .inr b1 =>
        some true)
end M
namespace M
noncomputable def l_eqProg (a : M.SProg) (b : M.SProg) : Option (Bool) :=
  bif ((M.SProg.Inst a) != (M.SProg.Inst b)) then
    some false
  else
    let q0 := (M.l_eqAopS (M.SProg.Ops a) (M.SProg.Ops b))
    bif (!(Option.getD q0 Inhabited.default)) then
      bif ((Option.isSome q0) && true) then
        some false
      else
        none
    else
      bif ((Option.isSome q0) && true) then
        some true
      else
        none
end M
namespace M
noncomputable def l_FnExactProgOk (aP : M.SProg) : Option (Bool) :=
  let q0 := (M.l_szProg aP (1048576 : Int))
  bif (decide ((Option.getD q0 Inhabited.default) < (0 : Int))) then
    bif ((Option.isSome q0) && true) then
      some true
    else
      none
  else
    let q1 := (M.l_toProg aP)
    let q2 := (M.i_ProgOk (Option.getD q1 Inhabited.default))
    let q3 := (M.s_ProgOk (Option.getD q1 Inhabited.default))
    bif (!((Option.getD q2 Inhabited.default) == (Option.getD q3 Inhabited.default))) then
      let q4 := ((Option.isSome q2) && ((Option.isSome q1) && ((Option.isSome q3) && ((Option.isSome q1) && ((Option.isSome q0) && true)))))
      bif q4 then
        some false
      else
        none
    else
      let q4 := (M.l_eqProg (Option.getD q1 Inhabited.default) (Option.getD q1 Inhabited.default))
      bif (!(Option.getD q4 Inhabited.default)) then
        let q5 := ((Option.isSome q2) && ((Option.isSome q1) && ((Option.isSome q3) && ((Option.isSome q1) && ((Option.isSome q0) && true)))))
        let q6 := ((Option.isSome q4) && ((Option.isSome q1) && q5))
        bif q6 then
          some false
        else
          none
      else
        let q5 := ((Option.isSome q2) && ((Option.isSome q1) && ((Option.isSome q3) && ((Option.isSome q1) && ((Option.isSome q0) && true)))))
        let q6 := ((Option.isSome q4) && ((Option.isSome q1) && q5))
        bif q6 then
          some true
        else
          none
end M
