/-
  Part of the proof of the claim.
-/
import Derived.Test.YtcnhfiflhplokaaGreatDoorXQdata
import Derived.Test.YtcnhfiflhplokaaGreatDoorXQhand3
set_option linter.unusedVariables false
set_option maxRecDepth 100000
namespace M
noncomputable def lM (a:(List (List UInt8))):Nat->Int->Int->Option ((Int)⊕(Int))
 |0,_,_=>none
 |fuel+1,left,i=>
  bif (decide (i<((List.length a):Int))) then
   let q0:=(Go.IntKind.wrap Go.IntKind.i64 (left-((List.length (List.getD a (Int.toNat i) [])):Int)))
   bif (decide (q0<(0:Int))) then
    bif ((Go.V.inB i (List.length a))&&true) then
     some (.inl (-(1:Int)))
    else
     none
   else
    bif ((Go.V.inB i (List.length a))&&true) then
     M.lM a fuel q0 (Go.IntKind.wrap Go.IntKind.i64 (i+(1:Int)))
    else
     none
  else
   some ((.inr (left)))
end M
namespace M
noncomputable def uK (a:(List (List UInt8))) (left:Int):Option (Int):=
 bif (decide ((Go.IntKind.wrap Go.IntKind.i64 (left-((List.length a):Int)))<(0:Int))) then
  some (-(1:Int))
 else
  match (M.lM a Go.V.aG (Go.IntKind.wrap Go.IntKind.i64 (left-((List.length a):Int))) (0:Int)) with
  |none=>none
  |some y0=>
   (match y0 with
   | .inl a1=>
     some a1
   | .inr b1=>
     some b1)
end M
namespace M
noncomputable def pM (aV:M.ae->Int->Option (Int)) (a:(List M.ae)):Nat->Int->Int->Option ((Int)⊕(Int))
 |0,_,_=>none
 |fuel+1,left,i=>
  bif (decide (i<((List.length a):Int))) then
   let q0:=(Option.getD (aV (M.ae.re (List.getD a (Int.toNat i) M.ae.zero)) left) Inhabited.default)
   bif (decide (q0<(0:Int))) then
    let q1:=((Option.isSome (aV (M.ae.re (List.getD a (Int.toNat i) M.ae.zero)) left))&&((Go.V.inB i (List.length a))&&true))
    bif q1 then
     some (.inl (-(1:Int)))
    else
     none
   else
    let q1:=((Option.isSome (aV (M.ae.re (List.getD a (Int.toNat i) M.ae.zero)) left))&&((Go.V.inB i (List.length a))&&true))
    bif q1 then
     M.pM aV a fuel q0 (Go.IntKind.wrap Go.IntKind.i64 (i+(1:Int)))
    else
     none
  else
   some ((.inr (left)))
end M
namespace M
noncomputable def xA (aV:M.ae->Int->Option (Int)) (a:(List M.ae)) (left:Int):Option (Int):=
 bif (decide ((Go.IntKind.wrap Go.IntKind.i64 (left-((List.length a):Int)))<(0:Int))) then
  some (-(1:Int))
 else
  match (M.pM aV a Go.V.aG (Go.IntKind.wrap Go.IntKind.i64 (left-((List.length a):Int))) (0:Int)) with
  |none=>none
  |some y0=>
   (match y0 with
   | .inl a1=>
     some a1
   | .inr b1=>
     some b1)
end M
namespace M
noncomputable def AB (aV:M.ae->Int->Option (Int)) (a:M.ae) (left:Int):Option (Int):=
 bif (decide ((Go.IntKind.wrap Go.IntKind.i64 (left-((List.length (M.ae.Name a)):Int)))<(0:Int))) then
  some (-(1:Int))
 else
  let q0:=(M.uK (M.ae.aQ a) (Go.IntKind.wrap Go.IntKind.i64 (left-((List.length (M.ae.Name a)):Int))))
  let q1:=(Option.getD q0 Inhabited.default)
  bif (decide (q1<(0:Int))) then
   let q2:=((Option.isSome q0)&&true)
   bif q2 then
    some (-(1:Int))
   else
    none
  else
   let q2:=(M.xA aV (M.ae.Kids a) q1)
   let q3:=(Option.getD q2 Inhabited.default)
   bif (decide (q3<(0:Int))) then
    let q4:=((Option.isSome q0)&&true)
    let q5:=((Option.isSome q2)&&q4)
    bif q5 then
     some (-(1:Int))
    else
     none
   else
    let q4:=((Option.isSome q0)&&true)
    let q5:=((Option.isSome q2)&&q4)
    bif q5 then
     some q3
    else
     none
noncomputable def uf :Nat->M.ae->Int->Option (Int)
 |0=>fun _ _=>none
 |n+1=>AB (uf n)
noncomputable def IJ :M.ae->Int->Option (Int):=uf Go.V.aG
end M
namespace M
noncomputable def jM (a:(List (List UInt8))):Nat->Int->(List (List UInt8))->Option ((List (List UInt8)))
 |0,_,_=>none
 |fuel+1,i,out=>
  bif (decide (i<((List.length a):Int))) then
   bif ((Go.V.inB i (List.length out))&&((Go.V.inB i (List.length a))&&true)) then
    M.jM a fuel (Go.IntKind.wrap Go.IntKind.i64 (i+(1:Int))) (List.set out (Int.toNat i) (List.getD a (Int.toNat i) []))
   else
    none
  else
   some (out)
end M
namespace M
noncomputable def uM (a:(List (List UInt8))):Option ((List (List UInt8))):=
 match (M.jM a Go.V.aG (0:Int) (List.replicate (Int.toNat ((List.length a):Int)) [])) with
 |none=>none
 |some y0=>
  bif (((decide (((List.length a):Int)<=((List.length a):Int)))&&(decide (((List.length a):Int)<=(1073741824:Int))))&&true) then
   some y0
  else
   none
end M
namespace M
noncomputable def nz (aX:M.ae->Option (Int×(List UInt8)×(List (List UInt8))×(List M.ae))) (a:(List M.ae)):Nat->Int->(List M.ae)->Option ((List M.ae))
 |0,_,_=>none
 |fuel+1,i,out=>
  bif (decide (i<((List.length a):Int))) then
   bif ((Go.V.inB i (List.length out))&&((Option.isSome (aX (M.ae.re (List.getD a (Int.toNat i) M.ae.zero))))&&((Go.V.inB i (List.length a))&&true))) then
    let q0:=(Option.getD (aX (M.ae.re (List.getD a (Int.toNat i) M.ae.zero))) Inhabited.default)
    let q1:=q0.2
    let q2:=q1.2
    M.nz aX a fuel (Go.IntKind.wrap Go.IntKind.i64 (i+(1:Int))) (List.set out (Int.toNat i) (M.ae.mk q0.1 q1.1 q2.1 q2.2))
   else
    none
  else
   some (out)
end M
namespace M
noncomputable def xB (aX:M.ae->Option (Int×(List UInt8)×(List (List UInt8))×(List M.ae))) (a:(List M.ae)):Option ((List M.ae)):=
 match (M.nz aX a Go.V.aG (0:Int) (List.replicate (Int.toNat ((List.length a):Int)) (M.ae.mk (0:Int) [] [] []))) with
 |none=>none
 |some y0=>
  bif (((decide (((List.length a):Int)<=((List.length a):Int)))&&(decide (((List.length a):Int)<=(1073741824:Int))))&&true) then
   some y0
  else
   none
end M
namespace M
noncomputable def AO (aX:M.ae->Option (Int×(List UInt8)×(List (List UInt8))×(List M.ae))) (a:M.ae):Option (Int×(List UInt8)×(List (List UInt8))×(List M.ae)):=
 let q0:=(M.xB aX (M.ae.Kids a))
 let q1:=(M.uM (M.ae.aQ a))
 bif ((Option.isSome q0)&&((Option.isSome q1)&&true)) then
  some ((M.ae.Kind a),(M.ae.Name a),(Option.getD q1 Inhabited.default),(Option.getD q0 Inhabited.default))
 else
  none
noncomputable def ug :Nat->M.ae->Option (Int×(List UInt8)×(List (List UInt8))×(List M.ae))
 |0=>fun _=>none
 |n+1=>AO (ug n)
noncomputable def IM :M.ae->Option (Int×(List UInt8)×(List (List UInt8))×(List M.ae)):=ug Go.V.aG
end M
namespace M
noncomputable def lN (a:(List (List UInt8))) (b:(List (List UInt8))):Nat->Int->Option ((Bool)⊕(Unit))
 |0,_=>none
 |fuel+1,i=>
  bif (decide (i<((List.length a):Int))) then
   bif (!((List.getD a (Int.toNat i) [])==(List.getD b (Int.toNat i) []))) then
    let q0:=((Go.V.inB i (List.length b))&&((Go.V.inB i (List.length a))&&true))
    bif q0 then
     some (.inl false)
    else
     none
   else
    let q0:=((Go.V.inB i (List.length b))&&((Go.V.inB i (List.length a))&&true))
    bif q0 then
     M.lN a b fuel (Go.IntKind.wrap Go.IntKind.i64 (i+(1:Int)))
    else
     none
  else
   some ((.inr (())))
end M
namespace M
noncomputable def uN (a:(List (List UInt8))) (b:(List (List UInt8))):Option (Bool):=
 bif (((List.length a):Int) !=((List.length b):Int)) then
  some false
 else
  match (M.lN a b Go.V.aG (0:Int)) with
  |none=>none
  |some y0=>
   (match y0 with
   | .inl a1=>
     some a1
   | .inr b1=>
     some true)
end M
namespace M
noncomputable def pO (aW:M.ae->M.ae->Option (Bool)) (a:(List M.ae)) (b:(List M.ae)):Nat->Int->Option ((Bool)⊕(Unit))
 |0,_=>none
 |fuel+1,i=>
  bif (decide (i<((List.length a):Int))) then
   bif (!(Option.getD (aW (M.ae.re (List.getD a (Int.toNat i) M.ae.zero)) (M.ae.re (List.getD b (Int.toNat i) M.ae.zero))) Inhabited.default)) then
    let q0:=((Option.isSome (aW (M.ae.re (List.getD a (Int.toNat i) M.ae.zero)) (M.ae.re (List.getD b (Int.toNat i) M.ae.zero))))&&((Go.V.inB i (List.length b))&&((Go.V.inB i (List.length a))&&true)))
    bif q0 then
     some (.inl false)
    else
     none
   else
    let q0:=((Option.isSome (aW (M.ae.re (List.getD a (Int.toNat i) M.ae.zero)) (M.ae.re (List.getD b (Int.toNat i) M.ae.zero))))&&((Go.V.inB i (List.length b))&&((Go.V.inB i (List.length a))&&true)))
    bif q0 then
     M.pO aW a b fuel (Go.IntKind.wrap Go.IntKind.i64 (i+(1:Int)))
    else
     none
  else
   some ((.inr (())))
end M
namespace M
noncomputable def xC (aW:M.ae->M.ae->Option (Bool)) (a:(List M.ae)) (b:(List M.ae)):Option (Bool):=
 bif (((List.length a):Int) !=((List.length b):Int)) then
  some false
 else
  match (M.pO aW a b Go.V.aG (0:Int)) with
  |none=>none
  |some y0=>
   (match y0 with
   | .inl a1=>
     some a1
   | .inr b1=>
     some true)
end M
namespace M
noncomputable def AQ (aW:M.ae->M.ae->Option (Bool)) (a:M.ae) (b:M.ae):Option (Bool):=
 bif ((M.ae.Kind a) !=(M.ae.Kind b)) then
  some false
 else
  bif (!((M.ae.Name a)==(M.ae.Name b))) then
   some false
  else
   let q0:=(M.uN (M.ae.aQ a) (M.ae.aQ b))
   bif (!(Option.getD q0 Inhabited.default)) then
    bif ((Option.isSome q0)&&true) then
     some false
    else
     none
   else
    let q1:=(M.xC aW (M.ae.Kids a) (M.ae.Kids b))
    bif (!(Option.getD q1 Inhabited.default)) then
     bif ((Option.isSome q1)&&((Option.isSome q0)&&true)) then
      some false
     else
      none
    else
     bif ((Option.isSome q1)&&((Option.isSome q0)&&true)) then
      some true
     else
      none
noncomputable def uh :Nat->M.ae->M.ae->Option (Bool)
 |0=>fun _ _=>none
 |n+1=>AQ (uh n)
noncomputable def IU :M.ae->M.ae->Option (Bool):=uh Go.V.aG
end M
namespace M
def yQ (a:Int) (b:Int):Option (Int):=
 bif (decide (b<a)) then
  some a
 else
  some b
end M
namespace M
noncomputable def nC (bJ:M.ae->Int->Option (Int×Int)) (deep:Int):Nat->Int->Int->Int->M.ae->Option ((Int×Int)⊕(Int×Int))
 |0,_,_,_,_=>none
 |fuel+1,most,parts,i,t=>
  bif (decide (i<((List.length (M.ae.Kids t)):Int))) then
   let q0:=(Option.getD (bJ (M.ae.re (List.getD (M.ae.Kids t) (Int.toNat i) M.ae.zero)) (Go.IntKind.wrap Go.IntKind.i64 (deep+(1:Int)))) Inhabited.default)
   let q1:=(Go.IntKind.wrap Go.IntKind.i64 (parts+q0.2))
   bif (decide ((24:Int)<q1)) then
    let q2:=(M.yQ most q0.1)
    let q3:=((Option.isSome q2)&&((Option.isSome (bJ (M.ae.re (List.getD (M.ae.Kids t) (Int.toNat i) M.ae.zero)) (Go.IntKind.wrap Go.IntKind.i64 (deep+(1:Int)))))&&((Go.V.inB i (List.length (M.ae.Kids t)))&&true)))
    bif q3 then
     some (.inl ((5:Int),(25:Int)))
    else
     none
   else
    let q2:=(M.yQ most q0.1)
    let q3:=((Option.isSome q2)&&((Option.isSome (bJ (M.ae.re (List.getD (M.ae.Kids t) (Int.toNat i) M.ae.zero)) (Go.IntKind.wrap Go.IntKind.i64 (deep+(1:Int)))))&&((Go.V.inB i (List.length (M.ae.Kids t)))&&true)))
    bif q3 then
     M.nC bJ deep fuel (Option.getD q2 Inhabited.default) q1 (Go.IntKind.wrap Go.IntKind.i64 (i+(1:Int))) (M.ae.re t)
    else
     none
  else
   some ((.inr ((most,parts))))
end M
namespace M
noncomputable def yR (bJ:M.ae->Int->Option (Int×Int)) (t:M.ae) (deep:Int):Option (Int×Int):=
 bif ((decide ((4:Int)<deep))||(decide ((24:Int)<((List.length (M.ae.Kids t)):Int)))) then
  some ((5:Int),(25:Int))
 else
  match (M.nC bJ deep Go.V.aG (0:Int) (1:Int) (0:Int) (M.ae.re t)) with
  |none=>none
  |some y0=>
   (match y0 with
   | .inl a1=>
     some (a1.1,a1.2)
   | .inr b1=>
     some ((Go.IntKind.wrap Go.IntKind.i64 (b1.1+(1:Int))),b1.2))
noncomputable def pz :Nat->M.ae->Int->Option (Int×Int)
 |0=>fun _ _=>none
 |n+1=>yR (pz n)
noncomputable def J5 :M.ae->Int->Option (Int×Int):=pz Go.V.aG
end M
namespace M
def FQ (n:Int) (low:Int) (high:Int):Option (Bool):=
 some ((decide (low<=n))&&(decide (n<=high)))
end M
namespace M
noncomputable def pW (s:(List UInt8)):Nat->Int->Option ((Bool)⊕(Unit))
 |0,_=>none
 |fuel+1,i=>
  bif (decide (i<((List.length s):Int))) then
   let q0:=((((decide (((UInt8.toNat (List.getD s (Int.toNat i) (0:UInt8))):Int)<(97:Int)))||(decide ((122:Int)<((UInt8.toNat (List.getD s (Int.toNat i) (0:UInt8))):Int))))&&((decide (((UInt8.toNat (List.getD s (Int.toNat i) (0:UInt8))):Int)<(48:Int)))||(decide ((57:Int)<((UInt8.toNat (List.getD s (Int.toNat i) (0:UInt8))):Int)))))&&(((UInt8.toNat (List.getD s (Int.toNat i) (0:UInt8))):Int) !=(45:Int)))
   let q1:=(((UInt8.toNat (List.getD s (Int.toNat i) (0:UInt8))):Int)==(45:Int))
   bif (q0||(q1&&(((UInt8.toNat (List.getD s (Int.toNat (Go.IntKind.wrap Go.IntKind.i64 (i-(1:Int)))) (0:UInt8))):Int)==(45:Int)))) then
    let q2:=(((Go.V.inB (Go.IntKind.wrap Go.IntKind.i64 (i-(1:Int))) (List.length s))||(!((q0==false)&&(q1==true))))&&((Go.V.inB i (List.length s))&&true))
    bif q2 then
     some (.inl false)
    else
     none
   else
    let q2:=(((Go.V.inB (Go.IntKind.wrap Go.IntKind.i64 (i-(1:Int))) (List.length s))||(!((q0==false)&&(q1==true))))&&((Go.V.inB i (List.length s))&&true))
    bif q2 then
     M.pW s fuel (Go.IntKind.wrap Go.IntKind.i64 (i+(1:Int)))
    else
     none
  else
   some ((.inr (())))
end M
namespace M
noncomputable def uO (s:(List UInt8)):Option (Bool):=
 let q0:=((decide (((List.length s):Int)<(1:Int)))||(decide ((12:Int)<((List.length s):Int))))
 let q1:=(q0||(decide (((UInt8.toNat (List.getD s (Int.toNat (0:Int)) (0:UInt8))):Int)<(97:Int))))
 let q2:=(q1||(decide ((122:Int)<((UInt8.toNat (List.getD s (Int.toNat (0:Int)) (0:UInt8))):Int))))
 bif (q2||(((UInt8.toNat (List.getD s (Int.toNat (Go.IntKind.wrap Go.IntKind.i64 (((List.length s):Int)-(1:Int)))) (0:UInt8))):Int)==(45:Int))) then
  let q3:=(((Go.V.inB (Go.IntKind.wrap Go.IntKind.i64 (((List.length s):Int)-(1:Int))) (List.length s))||(!(q2==false)))&&(((Go.V.inB (0:Int) (List.length s))||(!(q1==false)))&&(((Go.V.inB (0:Int) (List.length s))||(!(q0==false)))&&true)))
  bif q3 then
   some false
  else
   none
 else
  match (M.pW s Go.V.aG (0:Int)) with
  |none=>none
  |some y3=>
   (match y3 with
   | .inl a4=>
     let q5:=(((Go.V.inB (Go.IntKind.wrap Go.IntKind.i64 (((List.length s):Int)-(1:Int))) (List.length s))||(!(q2==false)))&&(((Go.V.inB (0:Int) (List.length s))||(!(q1==false)))&&(((Go.V.inB (0:Int) (List.length s))||(!(q0==false)))&&true)))
     bif q5 then
      some a4
     else
      none
   | .inr b4=>
     let q5:=(((Go.V.inB (Go.IntKind.wrap Go.IntKind.i64 (((List.length s):Int)-(1:Int))) (List.length s))||(!(q2==false)))&&(((Go.V.inB (0:Int) (List.length s))||(!(q1==false)))&&(((Go.V.inB (0:Int) (List.length s))||(!(q0==false)))&&true)))
     bif q5 then
      some true
     else
      none)
end M
namespace M
noncomputable def iI (list:(List (List UInt8))) (i:Int):Nat->Int->Option ((Bool)⊕((List (List UInt8))×Int))
 |0,_=>none
 |fuel+1,k=>
  bif (decide (k<i)) then
   bif ((List.getD list (Int.toNat k) [])==(List.getD list (Int.toNat i) [])) then
    let q0:=((Go.V.inB i (List.length list))&&((Go.V.inB k (List.length list))&&true))
    bif q0 then
     some (.inl false)
    else
     none
   else
    let q0:=((Go.V.inB i (List.length list))&&((Go.V.inB k (List.length list))&&true))
    bif q0 then
     M.iI list i fuel (Go.IntKind.wrap Go.IntKind.i64 (k+(1:Int)))
    else
     none
  else
   some ((.inr ((list,i))))
end M
namespace M
noncomputable def jd :Nat->(List (List UInt8))->Int->Option ((Bool)⊕(Unit))
 |0,_,_=>none
 |fuel+1,list,i=>
  bif (decide (i<((List.length list):Int))) then
   let q0:=(M.uO (List.getD list (Int.toNat i) []))
   bif (!(Option.getD q0 Inhabited.default)) then
    let q1:=((Option.isSome q0)&&((Go.V.inB i (List.length list))&&true))
    bif q1 then
     some (.inl false)
    else
     none
   else
    match (M.iI list i Go.V.aG (0:Int)) with
    |none=>none
    |some y1=>
     (match y1 with
     | .inl a2=>
       let q3:=((Option.isSome q0)&&((Go.V.inB i (List.length list))&&true))
       bif q3 then
        some (.inl a2)
       else
        none
     | .inr b2=>
       let q3:=((Option.isSome q0)&&((Go.V.inB i (List.length list))&&true))
       bif q3 then
        M.jd fuel b2.1 (Go.IntKind.wrap Go.IntKind.i64 (b2.2+(1:Int)))
       else
        none)
  else
   some ((.inr (())))
end M
namespace M
noncomputable def uP (list:(List (List UInt8))):Option (Bool):=
 bif ((decide (((List.length list):Int)<(1:Int)))||(decide ((16:Int)<((List.length list):Int)))) then
  some false
 else
  match (M.jd Go.V.aG list (0:Int)) with
  |none=>none
  |some y0=>
   (match y0 with
   | .inl a1=>
     some a1
   | .inr b1=>
     some true)
end M
namespace M
noncomputable def iV :Nat->Int->M.ae->Option ((Bool)⊕(Unit))
 |0,_,_=>none
 |fuel+1,i,t=>
  bif (decide (i<((List.length (M.ae.Kids t)):Int))) then
   bif ((M.ae.Kind (List.getD (M.ae.Kids t) (Int.toNat i) M.ae.zero))==(1:Int)) then
    bif ((Go.V.inB i (List.length (M.ae.Kids t)))&&true) then
     some (.inl true)
    else
     none
   else
    bif ((Go.V.inB i (List.length (M.ae.Kids t)))&&true) then
     M.iV fuel (Go.IntKind.wrap Go.IntKind.i64 (i+(1:Int))) (M.ae.re t)
    else
     none
  else
   some ((.inr (())))
end M
namespace M
noncomputable def qU (t:M.ae):Option (Bool):=
 match (M.iV Go.V.aG (0:Int) (M.ae.re t)) with
 |none=>none
 |some y0=>
  (match y0 with
  | .inl a1=>
    some a1
  | .inr b1=>
    some false)
end M
namespace M
noncomputable def kU (bP:M.ae->Int->Int->Option (Bool)) (low:Int) (high:Int):Nat->Int->M.ae->Option ((Bool)⊕(Unit))
 |0,_,_=>none
 |fuel+1,i,t=>
  bif (decide (i<((List.length (M.ae.Kids t)):Int))) then
   bif (Option.getD (bP (M.ae.re (List.getD (M.ae.Kids t) (Int.toNat i) M.ae.zero)) low high) Inhabited.default) then
    let q0:=((Option.isSome (bP (M.ae.re (List.getD (M.ae.Kids t) (Int.toNat i) M.ae.zero)) low high))&&((Go.V.inB i (List.length (M.ae.Kids t)))&&true))
    bif q0 then
     some (.inl true)
    else
     none
   else
    let q0:=((Option.isSome (bP (M.ae.re (List.getD (M.ae.Kids t) (Int.toNat i) M.ae.zero)) low high))&&((Go.V.inB i (List.length (M.ae.Kids t)))&&true))
    bif q0 then
     M.kU bP low high fuel (Go.IntKind.wrap Go.IntKind.i64 (i+(1:Int))) (M.ae.re t)
    else
     none
  else
   some ((.inr (())))
end M
namespace M
noncomputable def A7 (bP:M.ae->Int->Int->Option (Bool)) (t:M.ae) (low:Int) (high:Int):Option (Bool):=
 bif ((decide (low<=(M.ae.Kind t)))&&(decide ((M.ae.Kind t)<=high))) then
  some true
 else
  match (M.kU bP low high Go.V.aG (0:Int) (M.ae.re t)) with
  |none=>none
  |some y0=>
   (match y0 with
   | .inl a1=>
     some a1
   | .inr b1=>
     some false)
noncomputable def lQ :Nat->M.ae->Int->Int->Option (Bool)
 |0=>fun _ _ _=>none
 |n+1=>A7 (lQ n)
noncomputable def sS :M.ae->Int->Int->Option (Bool):=lQ Go.V.aG
end M
namespace M
noncomputable def xG (t:M.ae):Option (Bool):=
 let q0:=(((M.ae.Kind t)==(20:Int))||((M.ae.Kind t)==(21:Int)))
 let q1:=(!(q0==(!((M.ae.Name t)==[]))))
 let q2:=(M.uO (M.ae.Name t))
 let q3:=((decide ((16:Int)<=(M.ae.Kind t)))&&(decide ((M.ae.Kind t)<=(19:Int))))
 let q4:=((q1||(q0&&(!(Option.getD q2 Inhabited.default))))||(!(q3==(decide ((0:Int)<((List.length (M.ae.aQ t)):Int))))))
 let q5:=(M.uP (M.ae.aQ t))
 bif (q4||(q3&&(!(Option.getD q5 Inhabited.default)))) then
  let q6:=(((Option.isSome q5)||(!((q4==false)&&(q3==true))))&&(((Option.isSome q2)||(!((q1==false)&&(q0==true))))&&true))
  bif q6 then
   some false
  else
   none
 else
  bif (bif ((M.ae.Kind t)==(12:Int)) then ((M.ae.Kind t)==(12:Int)) else ((M.ae.Kind t)==(13:Int))) then
   let q6:=(M.qU (M.ae.re t))
   let q7:=(!((((List.length (M.ae.Kids t)):Int)==(1:Int))==true))
   let q8:=(((Option.isSome q5)||(!((q4==false)&&(q3==true))))&&(((Option.isSome q2)||(!((q1==false)&&(q0==true))))&&true))
   let q9:=((q8||(!((M.ae.Kind t)==(12:Int))))&&(q8||((M.ae.Kind t)==(12:Int))))
   bif (((Option.isSome q6)||q7)&&q9) then
    some ((((List.length (M.ae.Kids t)):Int)==(1:Int))&&(!(Option.getD q6 Inhabited.default)))
   else
    none
  else
   bif (bif ((M.ae.Kind t)==(22:Int)) then ((M.ae.Kind t)==(22:Int)) else ((M.ae.Kind t)==(23:Int))) then
    let q6:=(M.sS (M.ae.re (List.getD (M.ae.Kids t) (Int.toNat (0:Int)) M.ae.zero)) (21:Int) (21:Int))
    let q7:=(!((((List.length (M.ae.Kids t)):Int)==(1:Int))==true))
    let q8:=(((Option.isSome q5)||(!((q4==false)&&(q3==true))))&&(((Option.isSome q2)||(!((q1==false)&&(q0==true))))&&true))
    let q9:=((q8||(!((M.ae.Kind t)==(12:Int))))&&(q8||((M.ae.Kind t)==(12:Int))))
    let q10:=((q9||(!((M.ae.Kind t)==(22:Int))))&&(q9||((M.ae.Kind t)==(22:Int))))
    bif (((Option.isSome q6)||q7)&&(((Go.V.inB (0:Int) (List.length (M.ae.Kids t)))||q7)&&q10)) then
     some ((((List.length (M.ae.Kids t)):Int)==(1:Int))&&(!(Option.getD q6 Inhabited.default)))
    else
     none
   else
    bif ((M.ae.Kind t)==(14:Int)) then
     let q6:=(((Option.isSome q5)||(!((q4==false)&&(q3==true))))&&(((Option.isSome q2)||(!((q1==false)&&(q0==true))))&&true))
     let q7:=((q6||(!((M.ae.Kind t)==(12:Int))))&&(q6||((M.ae.Kind t)==(12:Int))))
     let q8:=((q7||(!((M.ae.Kind t)==(22:Int))))&&(q7||((M.ae.Kind t)==(22:Int))))
     bif q8 then
      some (((List.length (M.ae.Kids t)):Int)==(2:Int))
     else
      none
    else
     bif ((M.ae.Kind t)==(15:Int)) then
      let q6:=(M.qU (M.ae.re t))
      let q7:=((decide ((1:Int)<=((List.length (M.ae.Kids t)):Int)))&&(decide (((List.length (M.ae.Kids t)):Int)<=(6:Int))))
      let q8:=(((Option.isSome q5)||(!((q4==false)&&(q3==true))))&&(((Option.isSome q2)||(!((q1==false)&&(q0==true))))&&true))
      let q9:=((q8||(!((M.ae.Kind t)==(12:Int))))&&(q8||((M.ae.Kind t)==(12:Int))))
      let q10:=((q9||(!((M.ae.Kind t)==(22:Int))))&&(q9||((M.ae.Kind t)==(22:Int))))
      bif (((Option.isSome q6)||(!(q7==true)))&&q10) then
       some (q7&&(!(Option.getD q6 Inhabited.default)))
      else
       none
     else
      bif ((M.ae.Kind t)==(16:Int)) then
       let q6:=(M.qU (M.ae.re t))
       let q7:=(((Option.isSome q5)||(!((q4==false)&&(q3==true))))&&(((Option.isSome q2)||(!((q1==false)&&(q0==true))))&&true))
       let q8:=((q7||(!((M.ae.Kind t)==(12:Int))))&&(q7||((M.ae.Kind t)==(12:Int))))
       let q9:=((q8||(!((M.ae.Kind t)==(22:Int))))&&(q8||((M.ae.Kind t)==(22:Int))))
       bif (((Option.isSome q6)||(!((((List.length (M.ae.Kids t)):Int)==((List.length (M.ae.aQ t)):Int))==true)))&&q9) then
        some ((((List.length (M.ae.Kids t)):Int)==((List.length (M.ae.aQ t)):Int))&&(!(Option.getD q6 Inhabited.default)))
       else
        none
      else
       bif ((M.ae.Kind t)==(17:Int)) then
        let q6:=(((Option.isSome q5)||(!((q4==false)&&(q3==true))))&&(((Option.isSome q2)||(!((q1==false)&&(q0==true))))&&true))
        let q7:=((q6||(!((M.ae.Kind t)==(12:Int))))&&(q6||((M.ae.Kind t)==(12:Int))))
        let q8:=((q7||(!((M.ae.Kind t)==(22:Int))))&&(q7||((M.ae.Kind t)==(22:Int))))
        bif q8 then
         some (((List.length (M.ae.Kids t)):Int)==((List.length (M.ae.aQ t)):Int))
        else
         none
       else
        let q6:=(((Option.isSome q5)||(!((q4==false)&&(q3==true))))&&(((Option.isSome q2)||(!((q1==false)&&(q0==true))))&&true))
        let q7:=((q6||(!((M.ae.Kind t)==(12:Int))))&&(q6||((M.ae.Kind t)==(12:Int))))
        let q8:=((q7||(!((M.ae.Kind t)==(22:Int))))&&(q7||((M.ae.Kind t)==(22:Int))))
        bif q8 then
         some (((decide ((1:Int)<=(M.ae.Kind t)))&&(decide ((M.ae.Kind t)<=(23:Int))))&&(((List.length (M.ae.Kids t)):Int)==(0:Int)))
        else
         none
end M
namespace M
noncomputable def iW (bz:M.ae->Option (Bool)):Nat->Int->M.ae->Option ((Bool)⊕(Unit))
 |0,_,_=>none
 |fuel+1,i,t=>
  bif (decide (i<((List.length (M.ae.Kids t)):Int))) then
   bif (!(Option.getD (bz (M.ae.re (List.getD (M.ae.Kids t) (Int.toNat i) M.ae.zero))) Inhabited.default)) then
    let q0:=((Option.isSome (bz (M.ae.re (List.getD (M.ae.Kids t) (Int.toNat i) M.ae.zero))))&&((Go.V.inB i (List.length (M.ae.Kids t)))&&true))
    bif q0 then
     some (.inl false)
    else
     none
   else
    let q0:=((Option.isSome (bz (M.ae.re (List.getD (M.ae.Kids t) (Int.toNat i) M.ae.zero))))&&((Go.V.inB i (List.length (M.ae.Kids t)))&&true))
    bif q0 then
     M.iW bz fuel (Go.IntKind.wrap Go.IntKind.i64 (i+(1:Int))) (M.ae.re t)
    else
     none
  else
   some ((.inr (())))
end M
namespace M
noncomputable def vX (bz:M.ae->Option (Bool)) (t:M.ae):Option (Bool):=
 let q0:=(M.xG (M.ae.re t))
 bif (!(Option.getD q0 Inhabited.default)) then
  bif ((Option.isSome q0)&&true) then
   some false
  else
   none
 else
  match (M.iW bz Go.V.aG (0:Int) (M.ae.re t)) with
  |none=>none
  |some y1=>
   (match y1 with
   | .inl a2=>
     bif ((Option.isSome q0)&&true) then
      some a2
     else
      none
   | .inr b2=>
     bif ((Option.isSome q0)&&true) then
      some true
     else
      none)
noncomputable def jG :Nat->M.ae->Option (Bool)
 |0=>fun _=>none
 |n+1=>vX (jG n)
noncomputable def FT :M.ae->Option (Bool):=jG Go.V.aG
end M
namespace M
noncomputable def uQ (dD:M.ae->Int->Option (Int)) (levels:Int) (t11:(List M.ae)) (t12:Int):Nat->Int->Int->Option (Int)
 |0,_,_=>none
 |fuel+1,depth,t13=>
  bif (decide (t13<t12)) then
   bif ((Option.isSome (dD (M.ae.re (List.getD t11 (Int.toNat t13) M.ae.zero)) (Go.IntKind.wrap Go.IntKind.i64 (levels-(1:Int)))))&&((Go.V.inB t13 (List.length t11))&&true)) then
    let q0:=(Option.getD (dD (M.ae.re (List.getD t11 (Int.toNat t13) M.ae.zero)) (Go.IntKind.wrap Go.IntKind.i64 (levels-(1:Int)))) Inhabited.default)
    M.uQ dD levels t11 t12 fuel (bif (decide (depth<q0)) then q0 else depth) (Go.IntKind.wrap Go.IntKind.i64 (t13+(1:Int)))
   else
    none
  else
   some (depth)
end M
namespace M
noncomputable def I9 (dD:M.ae->Int->Option (Int)) (t:M.ae) (levels:Int):Option (Int):=
 bif (levels==(0:Int)) then
  some (1:Int)
 else
  match (M.uQ dD levels (M.ae.Kids t) ((List.length (M.ae.Kids t)):Int) Go.V.aG (0:Int) (0:Int)) with
  |none=>none
  |some y0=>
   some (Go.IntKind.wrap Go.IntKind.i64 (y0+(1:Int)))
noncomputable def yT :Nat->M.ae->Int->Option (Int)
 |0=>fun _ _=>none
 |n+1=>I9 (yT n)
noncomputable def YV :M.ae->Int->Option (Int):=yT Go.V.aG
end M
namespace M
noncomputable def qV (dh:M.ae->Option (Int)) (t7:(List M.ae)) (t8:Int):Nat->Int->Int->Option (Int)
 |0,_,_=>none
 |fuel+1,many,t9=>
  bif (decide (t9<t8)) then
   bif ((Option.isSome (dh (M.ae.re (List.getD t7 (Int.toNat t9) M.ae.zero))))&&((Go.V.inB t9 (List.length t7))&&true)) then
    M.qV dh t7 t8 fuel (Go.IntKind.wrap Go.IntKind.i64 (many+(Option.getD (dh (M.ae.re (List.getD t7 (Int.toNat t9) M.ae.zero))) Inhabited.default))) (Go.IntKind.wrap Go.IntKind.i64 (t9+(1:Int)))
   else
    none
  else
   some (many)
end M
namespace M
noncomputable def Ez (dh:M.ae->Option (Int)) (t:M.ae):Option (Int):=
 match (M.qV dh (M.ae.Kids t) ((List.length (M.ae.Kids t)):Int) Go.V.aG (1:Int) (0:Int)) with
 |none=>none
 |some y0=>
  some y0
noncomputable def uT :Nat->M.ae->Option (Int)
 |0=>fun _=>none
 |n+1=>Ez (uT n)
noncomputable def Uk :M.ae->Option (Int):=uT Go.V.aG
end M
namespace M
noncomputable def rQ (az:M.ae->Option (Bool)) (kid:M.ae):Option (Bool):=
 bif ((Option.isSome (az (M.ae.re kid)))&&true) then
  some (!(Option.getD (az (M.ae.re kid)) Inhabited.default))
 else
  none
end M
namespace M
noncomputable def dJ (az:M.ae->Option (Bool)) (s:(List M.ae)) (t7:Int):Nat->Int->Option ((Int)⊕(Unit))
 |0,_=>none
 |fuel+1,t8=>
  bif (decide (t8<t7)) then
   let q0:=(M.rQ az (M.ae.re (List.getD s (Int.toNat t8) M.ae.zero)))
   bif (Option.getD q0 Inhabited.default) then
    let q1:=((Option.isSome q0)&&((Go.V.inB t8 (List.length s))&&true))
    bif q1 then
     some (.inl t8)
    else
     none
   else
    let q1:=((Option.isSome q0)&&((Go.V.inB t8 (List.length s))&&true))
    bif q1 then
     M.dJ az s t7 fuel (Go.IntKind.wrap Go.IntKind.i64 (t8+(1:Int)))
    else
     none
  else
   some ((.inr (())))
end M
namespace M
noncomputable def gm (az:M.ae->Option (Bool)) (s:(List M.ae)):Option (Int):=
 match (M.dJ az s ((List.length s):Int) Go.V.aG (0:Int)) with
 |none=>none
 |some y0=>
  (match y0 with
  | .inl a1=>
    some a1
  | .inr b1=>
    some (-(1:Int)))
end M
namespace M
noncomputable def dK (az:M.ae->Option (Bool)) (s:(List M.ae)):Option (Bool):=
 let q0:=(M.gm az s)
 bif ((Option.isSome q0)&&true) then
  some (decide ((0:Int)<=(Option.getD q0 Inhabited.default)))
 else
  none
end M
namespace M
def yV (n:Int) (low:Int) (high:Int):Option (Bool):=
 some ((decide (low<=n))&&(decide (n<=high)))
end M
namespace M
def sU (list:(List (List UInt8))):Option (Int):=
 some ((List.length list):Int)
end M
namespace M
noncomputable def pF (s:(List UInt8)) (t7:Int):Nat->Int->Option ((Bool)⊕((List UInt8)))
 |0,_=>none
 |fuel+1,t8=>
  bif (decide (t8<t7)) then
   bif ((decide ((97:Int)<=((UInt8.toNat (List.getD s (Int.toNat t8) (0:UInt8))):Int)))&&(decide (((UInt8.toNat (List.getD s (Int.toNat t8) (0:UInt8))):Int)<=(122:Int)))) then
    let q0:=(((Go.V.inB t8 (List.length s))||(!((decide ((48:Int)<=((UInt8.toNat (List.getD s (Int.toNat t8) (0:UInt8))):Int)))==true)))&&((Go.V.inB t8 (List.length s))&&(((Go.V.inB t8 (List.length s))||(!((decide ((97:Int)<=((UInt8.toNat (List.getD s (Int.toNat t8) (0:UInt8))):Int)))==true)))&&((Go.V.inB t8 (List.length s))&&true))))
    bif q0 then
     M.pF s t7 fuel (Go.IntKind.wrap Go.IntKind.i64 (t8+(1:Int)))
    else
     none
   else
    let q0:=(!((decide ((48:Int)<=((UInt8.toNat (List.getD s (Int.toNat t8) (0:UInt8))):Int)))&&(decide (((UInt8.toNat (List.getD s (Int.toNat t8) (0:UInt8))):Int)<=(57:Int)))))
    bif ((t8==(0:Int))||(q0&&(((UInt8.toNat (List.getD s (Int.toNat t8) (0:UInt8))):Int) !=(45:Int)))) then
     let q1:=(((Go.V.inB t8 (List.length s))||(!((decide ((48:Int)<=((UInt8.toNat (List.getD s (Int.toNat t8) (0:UInt8))):Int)))==true)))&&((Go.V.inB t8 (List.length s))&&(((Go.V.inB t8 (List.length s))||(!((decide ((97:Int)<=((UInt8.toNat (List.getD s (Int.toNat t8) (0:UInt8))):Int)))==true)))&&((Go.V.inB t8 (List.length s))&&true))))
     let q2:=(((Go.V.inB t8 (List.length s))||(!(((t8==(0:Int))==false)&&(q0==true))))&&q1)
     bif q2 then
      some (.inl false)
     else
      none
    else
     let q1:=(((UInt8.toNat (List.getD s (Int.toNat t8) (0:UInt8))):Int)==(45:Int))
     bif (q1&&(((UInt8.toNat (List.getD s (Int.toNat (Go.IntKind.wrap Go.IntKind.i64 (t8-(1:Int)))) (0:UInt8))):Int)==(45:Int))) then
      let q2:=(((Go.V.inB t8 (List.length s))||(!((decide ((48:Int)<=((UInt8.toNat (List.getD s (Int.toNat t8) (0:UInt8))):Int)))==true)))&&((Go.V.inB t8 (List.length s))&&(((Go.V.inB t8 (List.length s))||(!((decide ((97:Int)<=((UInt8.toNat (List.getD s (Int.toNat t8) (0:UInt8))):Int)))==true)))&&((Go.V.inB t8 (List.length s))&&true))))
      let q3:=(((Go.V.inB t8 (List.length s))||(!(((t8==(0:Int))==false)&&(q0==true))))&&q2)
      let q4:=(((Go.V.inB (Go.IntKind.wrap Go.IntKind.i64 (t8-(1:Int))) (List.length s))||(!(q1==true)))&&((Go.V.inB t8 (List.length s))&&q3))
      bif q4 then
       some (.inl false)
      else
       none
     else
      let q2:=(((Go.V.inB t8 (List.length s))||(!((decide ((48:Int)<=((UInt8.toNat (List.getD s (Int.toNat t8) (0:UInt8))):Int)))==true)))&&((Go.V.inB t8 (List.length s))&&(((Go.V.inB t8 (List.length s))||(!((decide ((97:Int)<=((UInt8.toNat (List.getD s (Int.toNat t8) (0:UInt8))):Int)))==true)))&&((Go.V.inB t8 (List.length s))&&true))))
      let q3:=(((Go.V.inB t8 (List.length s))||(!(((t8==(0:Int))==false)&&(q0==true))))&&q2)
      let q4:=(((Go.V.inB (Go.IntKind.wrap Go.IntKind.i64 (t8-(1:Int))) (List.length s))||(!(q1==true)))&&((Go.V.inB t8 (List.length s))&&q3))
      bif q4 then
       M.pF s t7 fuel (Go.IntKind.wrap Go.IntKind.i64 (t8+(1:Int)))
      else
       none
  else
   some ((.inr (s)))
end M
namespace M
noncomputable def yX (s:(List UInt8)):Option (Bool):=
 match (M.pF s ((List.length s):Int) Go.V.aG (0:Int)) with
 |none=>none
 |some y0=>
  (match y0 with
  | .inl a1=>
    some a1
  | .inr b1=>
    let q2:=((decide ((1:Int)<=((List.length b1):Int)))&&(decide (((List.length b1):Int)<=(12:Int))))
    bif (((Go.V.inB (Go.IntKind.wrap Go.IntKind.i64 (((List.length b1):Int)-(1:Int))) (List.length b1))||(!(q2==true)))&&true) then
     some (q2&&(((UInt8.toNat (List.getD b1 (Int.toNat (Go.IntKind.wrap Go.IntKind.i64 (((List.length b1):Int)-(1:Int)))) (0:UInt8))):Int) !=(45:Int)))
    else
     none)
end M
namespace M
noncomputable def qy (name:(List UInt8)):Option (Bool):=
 let q0:=(M.yX name)
 bif ((Option.isSome q0)&&true) then
  some (!(Option.getD q0 Inhabited.default))
 else
  none
end M
namespace M
noncomputable def di (s:(List (List UInt8))) (t7:Int):Nat->Int->Option ((Int)⊕(Unit))
 |0,_=>none
 |fuel+1,t8=>
  bif (decide (t8<t7)) then
   let q0:=(M.qy (List.getD s (Int.toNat t8) []))
   bif (Option.getD q0 Inhabited.default) then
    let q1:=((Option.isSome q0)&&((Go.V.inB t8 (List.length s))&&true))
    bif q1 then
     some (.inl t8)
    else
     none
   else
    let q1:=((Option.isSome q0)&&((Go.V.inB t8 (List.length s))&&true))
    bif q1 then
     M.di s t7 fuel (Go.IntKind.wrap Go.IntKind.i64 (t8+(1:Int)))
    else
     none
  else
   some ((.inr (())))
end M
namespace M
noncomputable def eX (s:(List (List UInt8))):Option (Int):=
 match (M.di s ((List.length s):Int) Go.V.aG (0:Int)) with
 |none=>none
 |some y0=>
  (match y0 with
  | .inl a1=>
    some a1
  | .inr b1=>
    some (-(1:Int)))
end M
namespace M
noncomputable def dI (s:(List (List UInt8))):Option (Bool):=
 let q0:=(M.eX s)
 bif ((Option.isSome q0)&&true) then
  some (decide ((0:Int)<=(Option.getD q0 Inhabited.default)))
 else
  none
end M
namespace M
noncomputable def xJ (labels:(List (List UInt8))):Option (Bool):=
 let q0:=(M.dI labels)
 let q1:=((decide ((1:Int)<=((List.length labels):Int)))&&(decide (((List.length labels):Int)<=(16:Int))))
 let q2:=(M.qX labels)
 let q3:=(q1&&(Option.getD q2 Inhabited.default))
 bif (((Option.isSome q0)||(!(q3==true)))&&(((Option.isSome q2)||(!(q1==true)))&&true)) then
  some (q3&&(!(Option.getD q0 Inhabited.default)))
 else
  none
end M
namespace M
noncomputable def yY (list:(List M.ae)):Option (Int):=
 some ((List.length list):Int)
end M
namespace M
noncomputable def Jd (t:M.ae):Option (Bool):=
 some ((M.ae.Kind t)==(1:Int))
end M
namespace M
noncomputable def dm (s:(List M.ae)) (t7:Int):Nat->Int->Option ((Int)⊕(Unit))
 |0,_=>none
 |fuel+1,t8=>
  bif (decide (t8<t7)) then
   bif ((M.ae.Kind (List.getD s (Int.toNat t8) M.ae.zero))==(1:Int)) then
    bif ((Go.V.inB t8 (List.length s))&&true) then
     some (.inl t8)
    else
     none
   else
    bif ((Go.V.inB t8 (List.length s))&&true) then
     M.dm s t7 fuel (Go.IntKind.wrap Go.IntKind.i64 (t8+(1:Int)))
    else
     none
  else
   some ((.inr (())))
end M
namespace M
noncomputable def fD (s:(List M.ae)):Option (Int):=
 match (M.dm s ((List.length s):Int) Go.V.aG (0:Int)) with
 |none=>none
 |some y0=>
  (match y0 with
  | .inl a1=>
    some a1
  | .inr b1=>
    some (-(1:Int)))
end M
namespace M
noncomputable def dN (s:(List M.ae)):Option (Bool):=
 let q0:=(M.fD s)
 bif ((Option.isSome q0)&&true) then
  some (decide ((0:Int)<=(Option.getD q0 Inhabited.default)))
 else
  none
end M
namespace M
noncomputable def wz (t:M.ae) (many:Int):Option (Bool):=
 let q0:=(M.dN (M.ae.Kids t))
 bif (((Option.isSome q0)||(!((((List.length (M.ae.Kids t)):Int)==many)==true)))&&true) then
  some ((((List.length (M.ae.Kids t)):Int)==many)&&(!(Option.getD q0 Inhabited.default)))
 else
  none
end M
namespace M
noncomputable def dR (s:(List Int)) (v:Int) (t7:Int):Nat->Int->Option ((Int)⊕(Unit))
 |0,_=>none
 |fuel+1,t8=>
  bif (decide (t8<t7)) then
   bif (v==(List.getD s (Int.toNat t8) (0:Int))) then
    bif ((Go.V.inB t8 (List.length s))&&true) then
     some (.inl t8)
    else
     none
   else
    bif ((Go.V.inB t8 (List.length s))&&true) then
     M.dR s v t7 fuel (Go.IntKind.wrap Go.IntKind.i64 (t8+(1:Int)))
    else
     none
  else
   some ((.inr (())))
end M
namespace M
noncomputable def ik (s:(List Int)) (v:Int):Option (Int):=
 match (M.dR s v ((List.length s):Int) Go.V.aG (0:Int)) with
 |none=>none
 |some y0=>
  (match y0 with
  | .inl a1=>
    some a1
  | .inr b1=>
    some (-(1:Int)))
end M
namespace M
noncomputable def eH (s:(List Int)) (v:Int):Option (Bool):=
 let q0:=(M.ik s v)
 bif ((Option.isSome q0)&&true) then
  some (decide ((0:Int)<=(Option.getD q0 Inhabited.default)))
 else
  none
end M
namespace M
noncomputable def rV (aA:M.ae->(List Int)->Option (Bool)) (kid:M.ae) (t1:(List Int)):Option (Bool):=
 bif ((Option.isSome (aA (M.ae.re kid) t1))&&true) then
  some (Option.getD (aA (M.ae.re kid) t1) Inhabited.default)
 else
  none
end M
namespace M
noncomputable def dn (aA:M.ae->(List Int)->Option (Bool)) (s:(List M.ae)) (f:(List Int)) (t7:Int):Nat->Int->Option ((Int)⊕(Unit))
 |0,_=>none
 |fuel+1,t8=>
  bif (decide (t8<t7)) then
   let q0:=(M.rV aA (M.ae.re (List.getD s (Int.toNat t8) M.ae.zero)) f)
   bif (Option.getD q0 Inhabited.default) then
    let q1:=((Option.isSome q0)&&((Go.V.inB t8 (List.length s))&&true))
    bif q1 then
     some (.inl t8)
    else
     none
   else
    let q1:=((Option.isSome q0)&&((Go.V.inB t8 (List.length s))&&true))
    bif q1 then
     M.dn aA s f t7 fuel (Go.IntKind.wrap Go.IntKind.i64 (t8+(1:Int)))
    else
     none
  else
   some ((.inr (())))
end M
namespace M
noncomputable def fE (aA:M.ae->(List Int)->Option (Bool)) (s:(List M.ae)) (f:(List Int)):Option (Int):=
 match (M.dn aA s f ((List.length s):Int) Go.V.aG (0:Int)) with
 |none=>none
 |some y0=>
  (match y0 with
  | .inl a1=>
    some a1
  | .inr b1=>
    some (-(1:Int)))
end M
namespace M
noncomputable def dO (aA:M.ae->(List Int)->Option (Bool)) (s:(List M.ae)) (f:(List Int)):Option (Bool):=
 let q0:=(M.fE aA s f)
 bif ((Option.isSome q0)&&true) then
  some (decide ((0:Int)<=(Option.getD q0 Inhabited.default)))
 else
  none
end M
namespace M
noncomputable def yZ (aA:M.ae->(List Int)->Option (Bool)) (t:M.ae) (kinds:(List Int)):Option (Bool):=
 let q0:=(M.dO aA (M.ae.Kids t) kinds)
 let q1:=(M.eH kinds (M.ae.Kind t))
 bif (((Option.isSome q0)||(!((Option.getD q1 Inhabited.default)==false)))&&((Option.isSome q1)&&true)) then
  some ((Option.getD q1 Inhabited.default)||(Option.getD q0 Inhabited.default))
 else
  none
noncomputable def kZ :Nat->M.ae->(List Int)->Option (Bool)
 |0=>fun _ _=>none
 |n+1=>yZ (kZ n)
noncomputable def qA :M.ae->(List Int)->Option (Bool):=kZ Go.V.aG
end M
namespace M
noncomputable def uV (az:M.ae->Option (Bool)) (t:M.ae):Option (Bool):=
 let q0:=(M.dK az (M.ae.Kids t))
 bif (Option.getD q0 Inhabited.default) then
  bif ((Option.isSome q0)&&true) then
   some false
  else
   none
 else
  let q1:=((decide ((16:Int)<=(M.ae.Kind t)))&&(decide ((M.ae.Kind t)<=(19:Int))))
  let q2:=(M.xJ (M.ae.aQ t))
  let q3:=((q1&&(!(Option.getD q2 Inhabited.default)))||((!q1)&&(decide ((0:Int)<((List.length (M.ae.aQ t)):Int)))))
  let q4:=(((M.ae.Kind t)==(20:Int))||((M.ae.Kind t)==(21:Int)))
  let q5:=(M.yX (M.ae.Name t))
  bif ((q3||(q4&&(!(Option.getD q5 Inhabited.default))))||((!q4)&&(!((M.ae.Name t)==[])))) then
   let q6:=(((Option.isSome q5)||(!((q3==false)&&(q4==true))))&&(((Option.isSome q2)||(!(q1==true)))&&((Option.isSome q0)&&true)))
   bif q6 then
    some false
   else
    none
  else
   bif (bif ((M.ae.Kind t)==(12:Int)) then ((M.ae.Kind t)==(12:Int)) else ((M.ae.Kind t)==(13:Int))) then
    let q6:=(M.wz (M.ae.re t) (1:Int))
    let q7:=(((Option.isSome q5)||(!((q3==false)&&(q4==true))))&&(((Option.isSome q2)||(!(q1==true)))&&((Option.isSome q0)&&true)))
    let q8:=((q7||(!((M.ae.Kind t)==(12:Int))))&&(q7||((M.ae.Kind t)==(12:Int))))
    bif ((Option.isSome q6)&&q8) then
     some (Option.getD q6 Inhabited.default)
    else
     none
   else
    bif ((M.ae.Kind t)==(14:Int)) then
     let q6:=(((Option.isSome q5)||(!((q3==false)&&(q4==true))))&&(((Option.isSome q2)||(!(q1==true)))&&((Option.isSome q0)&&true)))
     let q7:=((q6||(!((M.ae.Kind t)==(12:Int))))&&(q6||((M.ae.Kind t)==(12:Int))))
     bif q7 then
      some (((List.length (M.ae.Kids t)):Int)==(2:Int))
     else
      none
    else
     bif ((M.ae.Kind t)==(15:Int)) then
      let q6:=(M.wz (M.ae.re t) ((List.length (M.ae.Kids t)):Int))
      let q7:=((decide ((1:Int)<=((List.length (M.ae.Kids t)):Int)))&&(decide (((List.length (M.ae.Kids t)):Int)<=(6:Int))))
      let q8:=(((Option.isSome q5)||(!((q3==false)&&(q4==true))))&&(((Option.isSome q2)||(!(q1==true)))&&((Option.isSome q0)&&true)))
      let q9:=((q8||(!((M.ae.Kind t)==(12:Int))))&&(q8||((M.ae.Kind t)==(12:Int))))
      bif (((Option.isSome q6)||(!(q7==true)))&&q9) then
       some (q7&&(Option.getD q6 Inhabited.default))
      else
       none
     else
      bif ((M.ae.Kind t)==(16:Int)) then
       let q6:=(M.wz (M.ae.re t) ((List.length (M.ae.aQ t)):Int))
       let q7:=(((Option.isSome q5)||(!((q3==false)&&(q4==true))))&&(((Option.isSome q2)||(!(q1==true)))&&((Option.isSome q0)&&true)))
       let q8:=((q7||(!((M.ae.Kind t)==(12:Int))))&&(q7||((M.ae.Kind t)==(12:Int))))
       bif ((Option.isSome q6)&&q8) then
        some (Option.getD q6 Inhabited.default)
       else
        none
      else
       bif ((M.ae.Kind t)==(17:Int)) then
        let q6:=(((Option.isSome q5)||(!((q3==false)&&(q4==true))))&&(((Option.isSome q2)||(!(q1==true)))&&((Option.isSome q0)&&true)))
        let q7:=((q6||(!((M.ae.Kind t)==(12:Int))))&&(q6||((M.ae.Kind t)==(12:Int))))
        bif q7 then
         some (((List.length (M.ae.Kids t)):Int)==((List.length (M.ae.aQ t)):Int))
        else
         none
       else
        bif (bif ((M.ae.Kind t)==(22:Int)) then ((M.ae.Kind t)==(22:Int)) else ((M.ae.Kind t)==(23:Int))) then
         let q6:=(M.qA (M.ae.re (List.getD (M.ae.Kids t) (Int.toNat (0:Int)) M.ae.zero)) [(21:Int)])
         let q7:=(!((((List.length (M.ae.Kids t)):Int)==(1:Int))==true))
         let q8:=(((Option.isSome q5)||(!((q3==false)&&(q4==true))))&&(((Option.isSome q2)||(!(q1==true)))&&((Option.isSome q0)&&true)))
         let q9:=((q8||(!((M.ae.Kind t)==(12:Int))))&&(q8||((M.ae.Kind t)==(12:Int))))
         let q10:=((q9||(!((M.ae.Kind t)==(22:Int))))&&(q9||((M.ae.Kind t)==(22:Int))))
         bif (((Option.isSome q6)||q7)&&(((Go.V.inB (0:Int) (List.length (M.ae.Kids t)))||q7)&&q10)) then
          some ((((List.length (M.ae.Kids t)):Int)==(1:Int))&&(!(Option.getD q6 Inhabited.default)))
         else
          none
        else
         let q6:=(((Option.isSome q5)||(!((q3==false)&&(q4==true))))&&(((Option.isSome q2)||(!(q1==true)))&&((Option.isSome q0)&&true)))
         let q7:=((q6||(!((M.ae.Kind t)==(12:Int))))&&(q6||((M.ae.Kind t)==(12:Int))))
         let q8:=((q7||(!((M.ae.Kind t)==(22:Int))))&&(q7||((M.ae.Kind t)==(22:Int))))
         bif q8 then
          some (((decide ((1:Int)<=(M.ae.Kind t)))&&(decide ((M.ae.Kind t)<=(23:Int))))&&(((List.length (M.ae.Kids t)):Int)==(0:Int)))
         else
          none
noncomputable def nJ :Nat->M.ae->Option (Bool)
 |0=>fun _=>none
 |n+1=>uV (nJ n)
noncomputable def J7 :M.ae->Option (Bool):=nJ Go.V.aG
end M
namespace M
noncomputable def Dc (t:M.ae):Option (Bool):=
 let q0:=(M.FT (M.ae.re t))
 let q1:=(M.J5 (M.ae.re t) (1:Int))
 let q2:=((decide ((Option.getD q1 Inhabited.default).1<=(4:Int)))&&(decide ((Option.getD q1 Inhabited.default).2<=(24:Int))))
 bif (((Option.isSome q0)||(!(q2==true)))&&((Option.isSome q1)&&true)) then
  some (q2&&(Option.getD q0 Inhabited.default))
 else
  none
end M
namespace M
noncomputable def lU (aJ:M.ae->Option (Int×(List UInt8)×(List (List UInt8))×(List M.ae))) (t7:(List M.ae)) (t8:Int):Nat->Int->(List M.ae)->Option ((List M.ae))
 |0,_,_=>none
 |fuel+1,t9,out=>
  bif (decide (t9<t8)) then
   let q0:=(Option.getD (aJ (M.ae.re (List.getD t7 (Int.toNat t9) M.ae.zero))) Inhabited.default)
   let q1:=q0.2
   let q2:=q1.2
   let q3:=[(M.ae.mk q0.1 q1.1 q2.1 q2.2)]
   bif ((decide (((List.length out)+(List.length q3))<=1073741824))&&((Option.isSome (aJ (M.ae.re (List.getD t7 (Int.toNat t9) M.ae.zero))))&&((Go.V.inB t9 (List.length t7))&&true))) then
    M.lU aJ t7 t8 fuel (Go.IntKind.wrap Go.IntKind.i64 (t9+(1:Int))) (out++q3)
   else
    none
  else
   some (out)
end M
namespace M
noncomputable def uX (aJ:M.ae->Option (Int×(List UInt8)×(List (List UInt8))×(List M.ae))) (list:(List M.ae)):Option ((List M.ae)):=
 match (M.lU aJ list ((List.length list):Int) Go.V.aG (0:Int) []) with
 |none=>none
 |some y0=>
  some y0
end M
namespace M
noncomputable def wE (aJ:M.ae->Option (Int×(List UInt8)×(List (List UInt8))×(List M.ae))) (t:M.ae):Option (Int×(List UInt8)×(List (List UInt8))×(List M.ae)):=
 let q0:=(M.uX aJ (M.ae.Kids t))
 let q1:=(M.dL (M.ae.aQ t))
 bif ((Option.isSome q0)&&((Option.isSome q1)&&true)) then
  some ((M.ae.Kind t),(M.ae.Name t),(Option.getD q1 Inhabited.default),(Option.getD q0 Inhabited.default))
 else
  none
noncomputable def nK :Nat->M.ae->Option (Int×(List UInt8)×(List (List UInt8))×(List M.ae))
 |0=>fun _=>none
 |n+1=>wE (nK n)
noncomputable def FW :M.ae->Option (Int×(List UInt8)×(List (List UInt8))×(List M.ae)):=nK Go.V.aG
end M
namespace M
noncomputable def Aq (t:M.ae):Option (Bool):=
 let q0:=(M.sS (M.ae.re t) (20:Int) (23:Int))
 let q1:=(M.Dc (M.ae.re t))
 let q2:=((Option.getD q1 Inhabited.default)&&((M.ae.Kind t) !=(1:Int)))
 bif (((Option.isSome q0)||(!(q2==true)))&&((Option.isSome q1)&&true)) then
  some (q2&&(!(Option.getD q0 Inhabited.default)))
 else
  none
end M
namespace M
noncomputable def EH (t:M.ae):Option (Bool):=
 let q0:=(M.Dc (M.ae.re t))
 bif ((Option.isSome q0)&&true) then
  some (Option.getD q0 Inhabited.default)
 else
  none
end M
namespace M
noncomputable def xO (aj:M.af->M.ae->Option (Bool)) (kids:(List M.af)) (t:M.ae):Option (Bool):=
 bif ((M.ae.Kind t)==(1:Int)) then
  some (((List.length kids):Int)==(0:Int))
 else
  let q0:=(!((((List.length kids):Int)==(1:Int))==true))
  bif (((Option.isSome (aj (M.af.re (List.getD kids (Int.toNat (0:Int)) M.af.zero)) (M.ae.re t)))||q0)&&(((Go.V.inB (0:Int) (List.length kids))||q0)&&true)) then
   some ((((List.length kids):Int)==(1:Int))&&(Option.getD (aj (M.af.re (List.getD kids (Int.toNat (0:Int)) M.af.zero)) (M.ae.re t)) Inhabited.default))
  else
   none
end M
namespace M
noncomputable def iY (aj:M.af->M.ae->Option (Bool)) (kids:(List M.af)):Nat->Int->M.ae->Option ((Bool)⊕(Unit))
 |0,_,_=>none
 |fuel+1,i,t=>
  bif (decide (i<((List.length kids):Int))) then
   bif (!(Option.getD (aj (M.af.re (List.getD kids (Int.toNat i) M.af.zero)) (M.ae.re t)) Inhabited.default)) then
    let q0:=((Option.isSome (aj (M.af.re (List.getD kids (Int.toNat i) M.af.zero)) (M.ae.re t)))&&((Go.V.inB i (List.length kids))&&true))
    bif q0 then
     some (.inl false)
    else
     none
   else
    let q0:=((Option.isSome (aj (M.af.re (List.getD kids (Int.toNat i) M.af.zero)) (M.ae.re t)))&&((Go.V.inB i (List.length kids))&&true))
    bif q0 then
     M.iY aj kids fuel (Go.IntKind.wrap Go.IntKind.i64 (i+(1:Int))) (M.ae.re t)
    else
     none
  else
   some ((.inr (())))
end M
namespace M
noncomputable def uy (aj:M.af->M.ae->Option (Bool)) (kids:(List M.af)) (most:Int) (t:M.ae):Option (Bool):=
 bif (decide (most<((List.length kids):Int))) then
  some false
 else
  match (M.iY aj kids Go.V.aG (0:Int) (M.ae.re t)) with
  |none=>none
  |some y0=>
   (match y0 with
   | .inl a1=>
     some a1
   | .inr b1=>
     some true)
end M
namespace M
def kH (n:Int):Option (Bool):=
 some (((decide ((0:Int)<=n))&&(decide (n<=(55295:Int))))||((decide ((57344:Int)<=n))&&(decide (n<=(1114111:Int)))))
end M
namespace M
noncomputable def lg (s:(List UInt8)) (many:Int):Nat->Int->Int->Option ((List UInt8)×Int×Int)
 |0,_,_=>none
 |fuel+1,n,i=>
  bif (decide (i<many)) then
   bif ((Go.V.inB i (List.length s))&&true) then
    M.lg s many fuel (Go.V.wP Go.BinOp.or Go.IntKind.i64 (Go.V.Za Go.IntKind.i64 n (6:Int)) (Go.IntKind.wrap Go.IntKind.i64 (Go.V.wP Go.BinOp.and Go.IntKind.u8 ((UInt8.toNat (List.getD s (Int.toNat i) (0:UInt8))):Int) (63:Int)))) (Go.IntKind.wrap Go.IntKind.i64 (i+(1:Int)))
   else
    none
  else
   some ((s,many,n))
end M
namespace M
def rX (n:Int):Option ((List UInt8)):=
 bif (decide (n<(128:Int))) then
  bif (((Go.V.Gh (Go.IntKind.wrap Go.IntKind.u8 n))&&true)&&true) then
   some (List.map (fun a=>a) [(Go.V.Ae (Go.IntKind.wrap Go.IntKind.u8 n))])
  else
   none
 else
  bif (decide (n<(2048:Int))) then
   let q0:=(Go.IntKind.wrap Go.IntKind.u8 (Go.IntKind.wrap Go.IntKind.i64 ((192:Int)+(Go.V.OZ Go.IntKind.i64 n (6:Int)))))
   let q1:=(Go.IntKind.wrap Go.IntKind.u8 (Go.IntKind.wrap Go.IntKind.i64 ((128:Int)+(Go.V.wP Go.BinOp.and Go.IntKind.i64 n (63:Int)))))
   let q2:=((Go.V.Gh q1)&&true)
   bif (((Go.V.Gh q0)&&q2)&&true) then
    let q3:=[(Go.V.Ae q1)]
    some (List.map (fun a=>a) [(Go.V.Ae q0),(Go.V.Ae q1)])
   else
    none
  else
   bif (decide (n<(65536:Int))) then
    let q0:=(Go.IntKind.wrap Go.IntKind.u8 (Go.IntKind.wrap Go.IntKind.i64 ((224:Int)+(Go.V.OZ Go.IntKind.i64 n (12:Int)))))
    let q1:=(Go.IntKind.wrap Go.IntKind.u8 (Go.IntKind.wrap Go.IntKind.i64 ((128:Int)+(Go.V.wP Go.BinOp.and Go.IntKind.i64 (Go.V.OZ Go.IntKind.i64 n (6:Int)) (63:Int)))))
    let q2:=(Go.IntKind.wrap Go.IntKind.u8 (Go.IntKind.wrap Go.IntKind.i64 ((128:Int)+(Go.V.wP Go.BinOp.and Go.IntKind.i64 n (63:Int)))))
    let q3:=((Go.V.Gh q2)&&true)
    let q4:=((Go.V.Gh q1)&&q3)
    bif (((Go.V.Gh q0)&&q4)&&true) then
     let q5:=[(Go.V.Ae q2)]
     let q6:=[(Go.V.Ae q1),(Go.V.Ae q2)]
     some (List.map (fun a=>a) [(Go.V.Ae q0),(Go.V.Ae q1),(Go.V.Ae q2)])
    else
     none
   else
    let q0:=(Go.IntKind.wrap Go.IntKind.u8 (Go.IntKind.wrap Go.IntKind.i64 ((240:Int)+(Go.V.OZ Go.IntKind.i64 n (18:Int)))))
    let q1:=(Go.IntKind.wrap Go.IntKind.u8 (Go.IntKind.wrap Go.IntKind.i64 ((128:Int)+(Go.V.wP Go.BinOp.and Go.IntKind.i64 (Go.V.OZ Go.IntKind.i64 n (12:Int)) (63:Int)))))
    let q2:=(Go.IntKind.wrap Go.IntKind.u8 (Go.IntKind.wrap Go.IntKind.i64 ((128:Int)+(Go.V.wP Go.BinOp.and Go.IntKind.i64 (Go.V.OZ Go.IntKind.i64 n (6:Int)) (63:Int)))))
    let q3:=(Go.IntKind.wrap Go.IntKind.u8 (Go.IntKind.wrap Go.IntKind.i64 ((128:Int)+(Go.V.wP Go.BinOp.and Go.IntKind.i64 n (63:Int)))))
    let q4:=((Go.V.Gh q3)&&true)
    let q5:=((Go.V.Gh q2)&&q4)
    bif (((Go.V.Gh q0)&&((Go.V.Gh q1)&&q5))&&true) then
     let q6:=[(Go.V.Ae q3)]
     let q7:=[(Go.V.Ae q2),(Go.V.Ae q3)]
     some (List.map (fun a=>a) [(Go.V.Ae q0),(Go.V.Ae q1),(Go.V.Ae q2),(Go.V.Ae q3)])
    else
     none
end M
namespace M
noncomputable def xP (s:(List UInt8)):Option (Int×Int):=
 bif (s==[]) then
  some ((0:Int),(0:Int))
 else
  let q0:=(bif (decide ((240:Int)<=((UInt8.toNat (List.getD s (Int.toNat (0:Int)) (0:UInt8))):Int))) then (4:Int) else (bif (decide ((224:Int)<=((UInt8.toNat (List.getD s (Int.toNat (0:Int)) (0:UInt8))):Int))) then (3:Int) else (bif (decide ((192:Int)<=((UInt8.toNat (List.getD s (Int.toNat (0:Int)) (0:UInt8))):Int))) then (2:Int) else (1:Int))))
  bif (decide (((List.length s):Int)<q0)) then
   let q1:=((Go.V.inB (0:Int) (List.length s))&&((Go.V.inB (0:Int) (List.length s))&&((Go.V.inB (0:Int) (List.length s))&&true)))
   let q2:=((Go.V.inB (0:Int) (List.length s))&&q1)
   let q3:=((q1||(!(decide ((240:Int)<=((UInt8.toNat (List.getD s (Int.toNat (0:Int)) (0:UInt8))):Int)))))&&(((q2||(!(decide ((224:Int)<=((UInt8.toNat (List.getD s (Int.toNat (0:Int)) (0:UInt8))):Int)))))&&(((((Go.V.inB (0:Int) (List.length s))&&q2)||(!(decide ((192:Int)<=((UInt8.toNat (List.getD s (Int.toNat (0:Int)) (0:UInt8))):Int)))))&&(q2||(decide ((192:Int)<=((UInt8.toNat (List.getD s (Int.toNat (0:Int)) (0:UInt8))):Int)))))||(decide ((224:Int)<=((UInt8.toNat (List.getD s (Int.toNat (0:Int)) (0:UInt8))):Int)))))||(decide ((240:Int)<=((UInt8.toNat (List.getD s (Int.toNat (0:Int)) (0:UInt8))):Int)))))
   bif q3 then
    some ((0:Int),(0:Int))
   else
    none
  else
   let q1:=(Go.IntKind.wrap Go.IntKind.i64 ((UInt8.toNat (List.getD s (Int.toNat (0:Int)) (0:UInt8))):Int))
   match (M.lg s q0 Go.V.aG (bif (decide ((240:Int)<=((UInt8.toNat (List.getD s (Int.toNat (0:Int)) (0:UInt8))):Int))) then (Go.IntKind.wrap Go.IntKind.i64 (q1-(240:Int))) else (bif (decide ((224:Int)<=((UInt8.toNat (List.getD s (Int.toNat (0:Int)) (0:UInt8))):Int))) then (Go.IntKind.wrap Go.IntKind.i64 (q1-(224:Int))) else (bif (decide ((192:Int)<=((UInt8.toNat (List.getD s (Int.toNat (0:Int)) (0:UInt8))):Int))) then (Go.IntKind.wrap Go.IntKind.i64 (q1-(192:Int))) else q1))) (1:Int)) with
   |none=>none
   |some y2=>
    let q3:=(M.kH y2.2.2)
    let q4:=(!(Option.getD q3 Inhabited.default))
    let q5:=(M.rX y2.2.2)
    bif (q4||(!((Option.getD q5 Inhabited.default)==(List.drop (Int.toNat (0:Int)) (List.take (Int.toNat y2.2.1) y2.1))))) then
     let q6:=(!(q4==false))
     let q7:=((Go.V.inB (0:Int) (List.length s))&&((Go.V.inB (0:Int) (List.length s))&&((Go.V.inB (0:Int) (List.length s))&&true)))
     let q8:=((Go.V.inB (0:Int) (List.length s))&&q7)
     let q9:=((q7||(!(decide ((240:Int)<=((UInt8.toNat (List.getD s (Int.toNat (0:Int)) (0:UInt8))):Int)))))&&(((q8||(!(decide ((224:Int)<=((UInt8.toNat (List.getD s (Int.toNat (0:Int)) (0:UInt8))):Int)))))&&(((((Go.V.inB (0:Int) (List.length s))&&q8)||(!(decide ((192:Int)<=((UInt8.toNat (List.getD s (Int.toNat (0:Int)) (0:UInt8))):Int)))))&&(q8||(decide ((192:Int)<=((UInt8.toNat (List.getD s (Int.toNat (0:Int)) (0:UInt8))):Int)))))||(decide ((224:Int)<=((UInt8.toNat (List.getD s (Int.toNat (0:Int)) (0:UInt8))):Int)))))||(decide ((240:Int)<=((UInt8.toNat (List.getD s (Int.toNat (0:Int)) (0:UInt8))):Int)))))
     let q10:=(((Go.V.CO (0:Int) y2.2.1 (List.length y2.1))||q6)&&(((Option.isSome q5)||q6)&&((Option.isSome q3)&&q9)))
     bif q10 then
      some ((0:Int),(0:Int))
     else
      none
    else
     let q6:=(!(q4==false))
     let q7:=((Go.V.inB (0:Int) (List.length s))&&((Go.V.inB (0:Int) (List.length s))&&((Go.V.inB (0:Int) (List.length s))&&true)))
     let q8:=((Go.V.inB (0:Int) (List.length s))&&q7)
     let q9:=((q7||(!(decide ((240:Int)<=((UInt8.toNat (List.getD s (Int.toNat (0:Int)) (0:UInt8))):Int)))))&&(((q8||(!(decide ((224:Int)<=((UInt8.toNat (List.getD s (Int.toNat (0:Int)) (0:UInt8))):Int)))))&&(((((Go.V.inB (0:Int) (List.length s))&&q8)||(!(decide ((192:Int)<=((UInt8.toNat (List.getD s (Int.toNat (0:Int)) (0:UInt8))):Int)))))&&(q8||(decide ((192:Int)<=((UInt8.toNat (List.getD s (Int.toNat (0:Int)) (0:UInt8))):Int)))))||(decide ((224:Int)<=((UInt8.toNat (List.getD s (Int.toNat (0:Int)) (0:UInt8))):Int)))))||(decide ((240:Int)<=((UInt8.toNat (List.getD s (Int.toNat (0:Int)) (0:UInt8))):Int)))))
     let q10:=(((Go.V.CO (0:Int) y2.2.1 (List.length y2.1))||q6)&&(((Option.isSome q5)||q6)&&((Option.isSome q3)&&q9)))
     bif q10 then
      some (y2.2.2,y2.2.1)
     else
      none
end M
namespace M
noncomputable def lV :Nat->(List UInt8)->(List Int)->Option ((Bool×(List Int))⊕((List Int)))
 |0,_,_=>none
 |fuel+1,s,out=>
  bif (decide ((0:Int)<((List.length s):Int))) then
   let q0:=(M.xP s)
   bif ((Option.getD q0 Inhabited.default).2==(0:Int)) then
    bif ((Option.isSome q0)&&true) then
     some (.inl (false,[]))
    else
     none
   else
    let q1:=[(Option.getD q0 Inhabited.default).1]
    bif ((Go.V.CO (Option.getD q0 Inhabited.default).2 ((List.length s):Int) (List.length s))&&((decide (((List.length out)+(List.length q1))<=1073741824))&&((Option.isSome q0)&&true))) then
     M.lV fuel (List.drop (Int.toNat (Option.getD q0 Inhabited.default).2) (List.take (Int.toNat ((List.length s):Int)) s)) (out++q1)
    else
     none
  else
   some ((.inr (out)))
end M
namespace M
noncomputable def uZ (s:(List UInt8)):Option ((List Int)×Bool):=
 match (M.lV Go.V.aG s []) with
 |none=>none
 |some y0=>
  (match y0 with
  | .inl a1=>
    some (a1.2,a1.1)
  | .inr b1=>
    some (b1,true))
end M
namespace M
noncomputable def EK (s:(List UInt8)):Option (Bool):=
 bif (decide ((24:Int)<((List.length s):Int))) then
  some false
 else
  let q0:=(M.uZ s)
  bif ((Option.isSome q0)&&true) then
   some (Option.getD q0 Inhabited.default).2
  else
   none
end M
namespace M
noncomputable def lh (aj:M.af->M.ae->Option (Bool)) (kids:(List M.af)) (ts:(List M.ae)):Nat->Int->Option ((Bool)⊕(Unit))
 |0,_=>none
 |fuel+1,i=>
  bif (decide (i<((List.length kids):Int))) then
   bif (!(Option.getD (aj (M.af.re (List.getD kids (Int.toNat i) M.af.zero)) (M.ae.re (List.getD ts (Int.toNat i) M.ae.zero))) Inhabited.default)) then
    let q0:=((Option.isSome (aj (M.af.re (List.getD kids (Int.toNat i) M.af.zero)) (M.ae.re (List.getD ts (Int.toNat i) M.ae.zero))))&&((Go.V.inB i (List.length ts))&&((Go.V.inB i (List.length kids))&&true)))
    bif q0 then
     some (.inl false)
    else
     none
   else
    let q0:=((Option.isSome (aj (M.af.re (List.getD kids (Int.toNat i) M.af.zero)) (M.ae.re (List.getD ts (Int.toNat i) M.ae.zero))))&&((Go.V.inB i (List.length ts))&&((Go.V.inB i (List.length kids))&&true)))
    bif q0 then
     M.lh aj kids ts fuel (Go.IntKind.wrap Go.IntKind.i64 (i+(1:Int)))
    else
     none
  else
   some ((.inr (())))
end M
namespace M
noncomputable def EL (aj:M.af->M.ae->Option (Bool)) (kids:(List M.af)) (ts:(List M.ae)):Option (Bool):=
 bif (((List.length kids):Int) !=((List.length ts):Int)) then
  some false
 else
  match (M.lh aj kids ts Go.V.aG (0:Int)) with
  |none=>none
  |some y0=>
   (match y0 with
   | .inl a1=>
     some a1
   | .inr b1=>
     some true)
end M
namespace M
def Bo (kind:Int):Option (Int×Int×Bool):=
 bif (kind==(3:Int)) then
  some ((0:Int),(255:Int),true)
 else
  bif (kind==(4:Int)) then
   some ((-(128:Int)),(127:Int),true)
  else
   bif (kind==(5:Int)) then
    some ((0:Int),(65535:Int),true)
   else
    bif (kind==(6:Int)) then
     some ((-(32768:Int)),(32767:Int),true)
    else
     bif (kind==(7:Int)) then
      some ((0:Int),(4294967295:Int),true)
     else
      bif (kind==(8:Int)) then
       some ((-(2147483648:Int)),(2147483647:Int),true)
      else
       bif (kind==(9:Int)) then
        some ((-(9223372036854775808:Int)),(9223372036854775807:Int),true)
       else
        some ((0:Int),(0:Int),false)
end M
namespace M
noncomputable def nM (aj:M.af->M.ae->Option (Bool)) (v:M.af) (t:M.ae):Option (Bool):=
 bif (((M.af.Kind v) !=(M.ae.Kind t))||(((M.ae.Kind t) !=(11:Int))&&(!((M.af.Text v)==[])))) then
  some false
 else
  bif (bif ((M.ae.Kind t)==(2:Int)) then ((M.ae.Kind t)==(2:Int)) else ((M.ae.Kind t)==(14:Int))) then
   bif (!((decide ((0:Int)<=(M.af.Num v)))&&(decide ((M.af.Num v)<=(1:Int))))) then
    some false
   else
    let q0:=(((M.ae.Kind t)==(14:Int))||((M.ae.Kind t)==(17:Int)))
    bif q0 then
     let q1:=(M.xO aj (M.af.Kids v) (M.ae.re (List.getD (M.ae.Kids t) (Int.toNat (M.af.Num v)) M.ae.zero)))
     let q2:=(Option.isSome q1)
     bif (q2&&((Go.V.inB (M.af.Num v) (List.length (M.ae.Kids t)))&&true)) then
      let q3:=(Option.getD q1 Inhabited.default)
      some q3
     else
      none
    else
     some (((List.length (M.af.Kids v)):Int)==(0:Int))
  else
   bif ((M.ae.Kind t)==(13:Int)) then
    let q0:=(M.uy aj (M.af.Kids v) (1:Int) (M.ae.re (List.getD (M.ae.Kids t) (Int.toNat (0:Int)) M.ae.zero)))
    let q1:=(!(((M.af.Num v)==((List.length (M.af.Kids v)):Int))==true))
    bif (((Option.isSome q0)||q1)&&(((Go.V.inB (0:Int) (List.length (M.ae.Kids t)))||q1)&&true)) then
     some (((M.af.Num v)==((List.length (M.af.Kids v)):Int))&&(Option.getD q0 Inhabited.default))
    else
     none
   else
    bif ((M.ae.Kind t)==(10:Int)) then
     some ((Option.getD (M.kH (M.af.Num v)) Inhabited.default)&&(((List.length (M.af.Kids v)):Int)==(0:Int)))
    else
     bif ((M.ae.Kind t)==(11:Int)) then
      let q0:=(M.EK (M.af.Text v))
      bif ((Option.isSome q0)&&true) then
       some (((Option.getD q0 Inhabited.default)&&((M.af.Num v)==(0:Int)))&&(((List.length (M.af.Kids v)):Int)==(0:Int)))
      else
       none
     else
      bif ((M.ae.Kind t)==(12:Int)) then
       let q0:=(M.uy aj (M.af.Kids v) (8:Int) (M.ae.re (List.getD (M.ae.Kids t) (Int.toNat (0:Int)) M.ae.zero)))
       let q1:=(!(((M.af.Num v)==(0:Int))==true))
       bif (((Option.isSome q0)||q1)&&(((Go.V.inB (0:Int) (List.length (M.ae.Kids t)))||q1)&&true)) then
        some (((M.af.Num v)==(0:Int))&&(Option.getD q0 Inhabited.default))
       else
        none
      else
       bif (bif ((M.ae.Kind t)==(15:Int)) then ((M.ae.Kind t)==(15:Int)) else ((M.ae.Kind t)==(16:Int))) then
        let q0:=(M.EL aj (M.af.Kids v) (M.ae.Kids t))
        let q1:=(!(((M.af.Num v)==(0:Int))==true))
        bif (((Option.isSome q0)||q1)&&true) then
         some (((M.af.Num v)==(0:Int))&&(Option.getD q0 Inhabited.default))
        else
         none
       else
        let q0:=(bif ((M.ae.Kind t)==(17:Int)) then ((M.ae.Kind t)==(17:Int)) else ((M.ae.Kind t)==(18:Int)))
        let q1:=(bif ((M.ae.Kind t)==(20:Int)) then ((M.ae.Kind t)==(20:Int)) else (bif ((M.ae.Kind t)==(21:Int)) then ((M.ae.Kind t)==(21:Int)) else (bif ((M.ae.Kind t)==(22:Int)) then ((M.ae.Kind t)==(22:Int)) else ((M.ae.Kind t)==(23:Int)))))
        let q2:=(M.Bo (M.ae.Kind t))
        bif (!((decide ((bif q0 then (0:Int) else (bif ((M.ae.Kind t)==(19:Int)) then (0:Int) else (bif q1 then (0:Int) else (Option.getD q2 Inhabited.default).1)))<=(M.af.Num v)))&&(decide ((M.af.Num v)<=(bif q0 then (Go.IntKind.wrap Go.IntKind.i64 (((List.length (M.ae.aQ t)):Int)-(1:Int))) else (bif ((M.ae.Kind t)==(19:Int)) then (Go.IntKind.wrap Go.IntKind.i64 ((Go.V.Za Go.IntKind.i64 (1:Int) (Go.IntKind.wrap Go.IntKind.u64 ((List.length (M.ae.aQ t)):Int)))-(1:Int))) else (bif q1 then (2147483647:Int) else (Option.getD q2 Inhabited.default).2.1))))))) then
         let q3:=(((((Option.isSome q2)&&true)||q1)||((M.ae.Kind t)==(19:Int)))||q0)
         bif q3 then
          some false
         else
          none
        else
         let q3:=(((M.ae.Kind t)==(14:Int))||((M.ae.Kind t)==(17:Int)))
         bif q3 then
          let q4:=(M.xO aj (M.af.Kids v) (M.ae.re (List.getD (M.ae.Kids t) (Int.toNat (M.af.Num v)) M.ae.zero)))
          let q5:=(Option.isSome q4)
          let q6:=(((((Option.isSome q2)&&true)||q1)||((M.ae.Kind t)==(19:Int)))||q0)
          bif (q5&&((Go.V.inB (M.af.Num v) (List.length (M.ae.Kids t)))&&q6)) then
           let q7:=(Option.getD q4 Inhabited.default)
           some q7
          else
           none
         else
          let q4:=(((((Option.isSome q2)&&true)||q1)||((M.ae.Kind t)==(19:Int)))||q0)
          bif q4 then
           some (((List.length (M.af.Kids v)):Int)==(0:Int))
          else
           none
noncomputable def qY :Nat->M.af->M.ae->Option (Bool)
 |0=>fun _ _=>none
 |n+1=>nM (qY n)
noncomputable def J8 :M.af->M.ae->Option (Bool):=qY Go.V.aG
end M
namespace M
noncomputable def Qh (v:M.af) (t:M.ae):Option (Bool):=
 let q0:=(M.J8 (M.af.re v) (M.ae.re t))
 let q1:=(M.EH (M.ae.re t))
 bif (((Option.isSome q0)||(!((Option.getD q1 Inhabited.default)==true)))&&((Option.isSome q1)&&true)) then
  some ((Option.getD q1 Inhabited.default)&&(Option.getD q0 Inhabited.default))
 else
  none
end M
namespace M
noncomputable def jH (list:(List M.af)):Nat->Int->M.ae->Option ((Bool)⊕(Unit))
 |0,_,_=>none
 |fuel+1,i,t=>
  bif (decide (i<((List.length list):Int))) then
   let q0:=(M.Qh (M.af.re (List.getD list (Int.toNat i) M.af.zero)) (M.ae.re t))
   bif (!(Option.getD q0 Inhabited.default)) then
    let q1:=((Option.isSome q0)&&((Go.V.inB i (List.length list))&&true))
    bif q1 then
     some (.inl false)
    else
     none
   else
    let q1:=((Option.isSome q0)&&((Go.V.inB i (List.length list))&&true))
    bif q1 then
     M.jH list fuel (Go.IntKind.wrap Go.IntKind.i64 (i+(1:Int))) (M.ae.re t)
    else
     none
  else
   some ((.inr (())))
end M
namespace M
noncomputable def Ar (list:(List M.af)) (t:M.ae) (most:Int):Option (Bool):=
 bif (decide (most<((List.length list):Int))) then
  some false
 else
  match (M.jH list Go.V.aG (0:Int) (M.ae.re t)) with
  |none=>none
  |some y0=>
   (match y0 with
   | .inl a1=>
     some a1
   | .inr b1=>
     some true)
end M
namespace M
noncomputable def uA (s:M.ah):Option (Bool):=
 let q0:=(M.Aq (M.ae.re (M.ah.cu s)))
 let q1:=(((!(Option.getD q0 Inhabited.default))||(!((decide ((1:Int)<=(M.ah.Room s)))&&(decide ((M.ah.Room s)<=(6:Int))))))||((M.ah.fB s)&&((M.ah.Room s) !=(1:Int))))
 let q2:=(M.Ar (M.ah.Buffer s) (M.ae.re (M.ah.cu s)) (M.ah.Room s))
 bif (q1||(!(Option.getD q2 Inhabited.default))) then
  let q3:=(((Option.isSome q2)||(!(q1==false)))&&((Option.isSome q0)&&true))
  bif q3 then
   some false
  else
   none
 else
  bif (((decide ((M.ah.L9 s)<(0:Int)))||(!((decide ((M.ah.L9 s)<=(M.ah.Put s)))&&(decide ((M.ah.Put s)<=(1000000:Int))))))||((M.ah.fB s)&&(decide ((1:Int)<(M.ah.Put s))))) then
   let q3:=(((Option.isSome q2)||(!(q1==false)))&&((Option.isSome q0)&&true))
   bif q3 then
    some false
   else
    none
  else
   bif (((M.ah.Gone s)&&(decide ((0:Int)<((List.length (M.ah.Buffer s)):Int))))||((!(M.ah.Gone s))&&((Go.IntKind.wrap Go.IntKind.i64 ((M.ah.Put s)-(M.ah.L9 s))) !=((List.length (M.ah.Buffer s)):Int)))) then
    let q3:=(((Option.isSome q2)||(!(q1==false)))&&((Option.isSome q0)&&true))
    bif q3 then
     some false
    else
     none
   else
    let q3:=(((Option.isSome q2)||(!(q1==false)))&&((Option.isSome q0)&&true))
    bif q3 then
     some ((((!(M.ah.fB s))||(!(M.ah.Shut s)))||((M.ah.Put s)==(1:Int)))||(M.ah.Gone s))
    else
     none
end M
namespace M
noncomputable def pJ (bV:M.ae->Option (M.ae)) (t2:Int) (t22:(List UInt8)) (out:Int) (aeM:(List UInt8)) (o7:(List (List UInt8))) (o8:(List M.ae)) (o9:(List (List UInt8))):Nat->Int->M.ae->(List M.ae)->Option (Int×(List UInt8)×Int×(List UInt8)×(List (List UInt8))×(List M.ae)×(List (List UInt8))×(List M.ae))
 |0,_,_,_=>none
 |fuel+1,i,t,o10=>
  bif (decide (i<((List.length (M.ae.Kids t)):Int))) then
   let q0:=[(M.ae.re (Option.getD (bV (M.ae.re (List.getD (M.ae.Kids t) (Int.toNat i) M.ae.zero))) Inhabited.default))]
   bif ((decide (((List.length o10)+(List.length q0))<=1073741824))&&((Option.isSome (bV (M.ae.re (List.getD (M.ae.Kids t) (Int.toNat i) M.ae.zero))))&&((Go.V.inB i (List.length (M.ae.Kids t)))&&true))) then
    M.pJ bV t2 t22 out aeM o7 o8 o9 fuel (Go.IntKind.wrap Go.IntKind.i64 (i+(1:Int))) (M.ae.re t) (o10++q0)
   else
    none
  else
   some ((t2,t22,out,aeM,o7,o8,o9,o10))
end M
namespace M
noncomputable def Bv (bV:M.ae->Option (M.ae)) (t:M.ae):Option (M.ae):=
 match (M.pJ bV (0:Int) [] (M.ae.Kind t) (M.ae.Name t) [] [] ([]++(M.ae.aQ t)) Go.V.aG (0:Int) (M.ae.re t) []) with
 |none=>none
 |some y0=>
  bif ((decide ((0+(List.length (M.ae.aQ t)))<=1073741824))&&true) then
   let q1:=y0.2.2
   let q2:=q1.2
   let q3:=q2.2.2.2
   some (M.ae.mk q1.1 q2.1 q3.1 q3.2)
  else
   none
noncomputable def qZ :Nat->M.ae->Option (M.ae)
 |0=>fun _=>none
 |n+1=>Bv (qZ n)
noncomputable def OD :M.ae->Option (M.ae):=qZ Go.V.aG
end M
namespace M
noncomputable def jI (bF:M.af->Option (M.af)) (t2:Int) (t22:Int) (t23:(List UInt8)) (out:Int) (aeM:Int) (aiB:(List UInt8)) (o5:(List M.af)):Nat->Int->M.af->(List M.af)->Option (Int×Int×(List UInt8)×Int×Int×(List UInt8)×(List M.af)×(List M.af))
 |0,_,_,_=>none
 |fuel+1,i,v,o6=>
  bif (decide (i<((List.length (M.af.Kids v)):Int))) then
   let q0:=[(M.af.re (Option.getD (bF (M.af.re (List.getD (M.af.Kids v) (Int.toNat i) M.af.zero))) Inhabited.default))]
   bif ((decide (((List.length o6)+(List.length q0))<=1073741824))&&((Option.isSome (bF (M.af.re (List.getD (M.af.Kids v) (Int.toNat i) M.af.zero))))&&((Go.V.inB i (List.length (M.af.Kids v)))&&true))) then
    M.jI bF t2 t22 t23 out aeM aiB o5 fuel (Go.IntKind.wrap Go.IntKind.i64 (i+(1:Int))) (M.af.re v) (o6++q0)
   else
    none
  else
   some ((t2,t22,t23,out,aeM,aiB,o5,o6))
end M
namespace M
noncomputable def wG (bF:M.af->Option (M.af)) (v:M.af):Option (M.af):=
 match (M.jI bF (0:Int) (0:Int) [] (M.af.Kind v) (M.af.Num v) (M.af.Text v) [] Go.V.aG (0:Int) (M.af.re v) []) with
 |none=>none
 |some y0=>
  let q1:=y0.2.2.2
  let q2:=q1.2
  let q3:=q2.2
  some (M.af.mk q1.1 q2.1 q3.1 q3.2.2)
noncomputable def kN :Nat->M.af->Option (M.af)
 |0=>fun _=>none
 |n+1=>wG (kN n)
noncomputable def F5 :M.af->Option (M.af):=kN Go.V.aG
end M
namespace M
noncomputable def ER (t:M.ae):Option (Bool):=
 let q0:=(M.J7 (M.ae.re t))
 let q1:=(M.YV (M.ae.re t) (4:Int))
 let q2:=(M.Uk (M.ae.re t))
 let q3:=((decide ((Option.getD q1 Inhabited.default)<=(4:Int)))&&(decide ((Option.getD q2 Inhabited.default)<=(24:Int))))
 bif (((Option.isSome q0)||(!(q3==true)))&&(((Option.isSome q2)||(!((decide ((Option.getD q1 Inhabited.default)<=(4:Int)))==true)))&&((Option.isSome q1)&&true))) then
  some (q3&&(Option.getD q0 Inhabited.default))
 else
  none
end M
namespace M
noncomputable def rY (t:M.ae):Option (Bool):=
 let q0:=(M.qA (M.ae.re t) [(20:Int),(21:Int),(22:Int),(23:Int)])
 let q1:=(M.ER (M.ae.re t))
 let q2:=((Option.getD q1 Inhabited.default)&&(!((M.ae.Kind t)==(1:Int))))
 bif (((Option.isSome q0)||(!(q2==true)))&&((Option.isSome q1)&&true)) then
  some (q2&&(!(Option.getD q0 Inhabited.default)))
 else
  none
end M
namespace M
noncomputable def F8 (list:(List M.af)):Option (Int):=
 some ((List.length list):Int)
end M
namespace M
def xU (kind:Int):Option (Int×Int×Bool):=
 bif (kind==(3:Int)) then
  some ((0:Int),(255:Int),true)
 else
  bif (kind==(4:Int)) then
   some ((-(128:Int)),(127:Int),true)
  else
   bif (kind==(5:Int)) then
    some ((0:Int),(65535:Int),true)
   else
    bif (kind==(6:Int)) then
     some ((-(32768:Int)),(32767:Int),true)
    else
     bif (kind==(7:Int)) then
      some ((0:Int),(4294967295:Int),true)
     else
      bif (kind==(8:Int)) then
       some ((-(2147483648:Int)),(2147483647:Int),true)
      else
       bif (kind==(9:Int)) then
        some ((-(9223372036854775808:Int)),(9223372036854775807:Int),true)
       else
        some ((0:Int),(0:Int),false)
end M
namespace M
def OJ (n:Int):Option (Bool):=
 some (((decide ((0:Int)<=n))&&(decide (n<=(55295:Int))))||((decide ((57344:Int)<=n))&&(decide (n<=(1114111:Int)))))
end M
namespace M
noncomputable def J9 (v:M.af) (t:M.ae):Option (Bool):=
 bif (bif ((M.ae.Kind t)==(2:Int)) then ((M.ae.Kind t)==(2:Int)) else (bif ((M.ae.Kind t)==(13:Int)) then ((M.ae.Kind t)==(13:Int)) else ((M.ae.Kind t)==(14:Int)))) then
  some ((decide ((0:Int)<=(M.af.Num v)))&&(decide ((M.af.Num v)<=(1:Int))))
 else
  bif (bif ((M.ae.Kind t)==(3:Int)) then ((M.ae.Kind t)==(3:Int)) else (bif ((M.ae.Kind t)==(4:Int)) then ((M.ae.Kind t)==(4:Int)) else (bif ((M.ae.Kind t)==(5:Int)) then ((M.ae.Kind t)==(5:Int)) else (bif ((M.ae.Kind t)==(6:Int)) then ((M.ae.Kind t)==(6:Int)) else (bif ((M.ae.Kind t)==(7:Int)) then ((M.ae.Kind t)==(7:Int)) else (bif ((M.ae.Kind t)==(8:Int)) then ((M.ae.Kind t)==(8:Int)) else ((M.ae.Kind t)==(9:Int)))))))) then
   let q0:=(M.xU (M.ae.Kind t))
   bif ((Option.isSome q0)&&true) then
    some ((decide ((Option.getD q0 Inhabited.default).1<=(M.af.Num v)))&&(decide ((M.af.Num v)<=(Option.getD q0 Inhabited.default).2.1)))
   else
    none
  else
   bif ((M.ae.Kind t)==(10:Int)) then
    some (Option.getD (M.OJ (M.af.Num v)) Inhabited.default)
   else
    some ((decide ((0:Int)<=(M.af.Num v)))&&(decide ((M.af.Num v)<=(bif (bif ((M.ae.Kind t)==(17:Int)) then ((M.ae.Kind t)==(17:Int)) else ((M.ae.Kind t)==(18:Int))) then (Go.IntKind.wrap Go.IntKind.i64 (((List.length (M.ae.aQ t)):Int)-(1:Int))) else (bif ((M.ae.Kind t)==(19:Int)) then (Go.IntKind.wrap Go.IntKind.i64 ((Go.V.Za Go.IntKind.i64 (1:Int) ((List.length (M.ae.aQ t)):Int))-(1:Int))) else (bif (bif ((M.ae.Kind t)==(20:Int)) then ((M.ae.Kind t)==(20:Int)) else (bif ((M.ae.Kind t)==(21:Int)) then ((M.ae.Kind t)==(21:Int)) else (bif ((M.ae.Kind t)==(22:Int)) then ((M.ae.Kind t)==(22:Int)) else ((M.ae.Kind t)==(23:Int))))) then (2147483647:Int) else (0:Int)))))))
end M
namespace M
noncomputable def ES (s:(List UInt8)):Option (Bool):=
 let q0:=(M.dU s)
 bif (((Option.isSome q0)||(!((decide (((List.length s):Int)<=(24:Int)))==true)))&&true) then
  some ((decide (((List.length s):Int)<=(24:Int)))&&(Option.getD q0 Inhabited.default))
 else
  none
end M
namespace M
noncomputable def rf (t:M.ae) (num:Int):Option (M.ae×Bool):=
 bif ((M.ae.Kind t)==(13:Int)) then
  bif (num==(0:Int)) then
   some ((M.ae.mk (1:Int) [] [] []),true)
  else
   bif (!((decide ((0:Int)<=(Go.IntKind.wrap Go.IntKind.i64 (num-(1:Int)))))&&(decide ((Go.IntKind.wrap Go.IntKind.i64 (num-(1:Int)))<=(Go.IntKind.wrap Go.IntKind.i64 (((List.length (M.ae.Kids t)):Int)-(1:Int))))))) then
    some ((M.ae.mk (0:Int) [] [] []),false)
   else
    bif ((Go.V.inB (Go.IntKind.wrap Go.IntKind.i64 (num-(1:Int))) (List.length (M.ae.Kids t)))&&true) then
     some ((M.ae.re (List.getD (M.ae.Kids t) (Int.toNat (Go.IntKind.wrap Go.IntKind.i64 (num-(1:Int)))) M.ae.zero)),true)
    else
     none
 else
  bif (!((decide ((0:Int)<=num))&&(decide (num<=(Go.IntKind.wrap Go.IntKind.i64 (((List.length (M.ae.Kids t)):Int)-(1:Int))))))) then
   some ((M.ae.mk (0:Int) [] [] []),false)
  else
   bif ((Go.V.inB num (List.length (M.ae.Kids t)))&&true) then
    some ((M.ae.re (List.getD (M.ae.Kids t) (Int.toNat num) M.ae.zero)),true)
   else
    none
end M
namespace M
noncomputable def xW (v:M.af) (t:M.ae):Option ((List M.ae)×Bool):=
 bif ((M.ae.Kind t)==(12:Int)) then
  let q0:=(M.dZ (M.ae.Kids t) (bif (decide ((8:Int)<((List.length (M.af.Kids v)):Int))) then (8:Int) else ((List.length (M.af.Kids v)):Int)))
  bif ((Option.isSome q0)&&true) then
   some ((Option.getD q0 Inhabited.default),true)
  else
   none
 else
  bif (bif ((M.ae.Kind t)==(15:Int)) then ((M.ae.Kind t)==(15:Int)) else ((M.ae.Kind t)==(16:Int))) then
   some ((M.ae.Kids t),true)
  else
   bif (bif ((M.ae.Kind t)==(13:Int)) then ((M.ae.Kind t)==(13:Int)) else (bif ((M.ae.Kind t)==(14:Int)) then ((M.ae.Kind t)==(14:Int)) else ((M.ae.Kind t)==(17:Int)))) then
    let q0:=(M.rf (M.ae.re t) (M.af.Num v))
    bif ((M.ae.Kind (Option.getD q0 Inhabited.default).1)==(1:Int)) then
     bif ((Option.isSome q0)&&true) then
      some ([],(Option.getD q0 Inhabited.default).2)
     else
      none
    else
     bif ((Option.isSome q0)&&true) then
      some ([(M.ae.re (Option.getD q0 Inhabited.default).1)],(Option.getD q0 Inhabited.default).2)
     else
      none
   else
    some ([],true)
end M
namespace M
noncomputable def qE (dw:M.af->M.ae->Option (Bool)) (kids:(List M.ae)) (t53:(List M.af)) (t54:Int):Nat->Int->Option ((Bool)⊕(Unit))
 |0,_=>none
 |fuel+1,t55=>
  bif (decide (t55<t54)) then
   bif (!(Option.getD (dw (M.af.re (List.getD t53 (Int.toNat t55) M.af.zero)) (M.ae.re (List.getD kids (Int.toNat t55) M.ae.zero))) Inhabited.default)) then
    let q0:=((Option.isSome (dw (M.af.re (List.getD t53 (Int.toNat t55) M.af.zero)) (M.ae.re (List.getD kids (Int.toNat t55) M.ae.zero))))&&((Go.V.inB t55 (List.length kids))&&((Go.V.inB t55 (List.length t53))&&true)))
    bif q0 then
     some (.inl false)
    else
     none
   else
    let q0:=((Option.isSome (dw (M.af.re (List.getD t53 (Int.toNat t55) M.af.zero)) (M.ae.re (List.getD kids (Int.toNat t55) M.ae.zero))))&&((Go.V.inB t55 (List.length kids))&&((Go.V.inB t55 (List.length t53))&&true)))
    bif q0 then
     M.qE dw kids t53 t54 fuel (Go.IntKind.wrap Go.IntKind.i64 (t55+(1:Int)))
    else
     none
  else
   some ((.inr (())))
end M
namespace M
noncomputable def Jl (dw:M.af->M.ae->Option (Bool)) (v:M.af) (t:M.ae):Option (Bool):=
 let q0:=(M.J9 (M.af.re v) (M.ae.re t))
 let q1:=((((M.af.Kind v) !=(M.ae.Kind t))||(!(Option.getD q0 Inhabited.default)))||((!((M.af.Text v)==[]))&&((M.ae.Kind t) !=(11:Int))))
 let q2:=(M.ES (M.af.Text v))
 bif (q1||(!(Option.getD q2 Inhabited.default))) then
  let q3:=(((Option.isSome q2)||(!(q1==false)))&&(((Option.isSome q0)||(!(((M.af.Kind v) !=(M.ae.Kind t))==false)))&&true))
  bif q3 then
   some false
  else
   none
 else
  let q3:=(M.xW (M.af.re v) (M.ae.re t))
  let q4:=(Option.getD q3 Inhabited.default).1
  bif ((!(Option.getD q3 Inhabited.default).2)||(((List.length q4):Int) !=((List.length (M.af.Kids v)):Int))) then
   let q5:=(((Option.isSome q2)||(!(q1==false)))&&(((Option.isSome q0)||(!(((M.af.Kind v) !=(M.ae.Kind t))==false)))&&true))
   let q6:=((Option.isSome q3)&&q5)
   bif q6 then
    some false
   else
    none
  else
   match (M.qE dw q4 (M.af.Kids v) ((List.length (M.af.Kids v)):Int) Go.V.aG (0:Int)) with
   |none=>none
   |some y5=>
    (match y5 with
    | .inl a6=>
      let q7:=(((Option.isSome q2)||(!(q1==false)))&&(((Option.isSome q0)||(!(((M.af.Kind v) !=(M.ae.Kind t))==false)))&&true))
      let q8:=((Option.isSome q3)&&q7)
      bif q8 then
       some a6
      else
       none
    | .inr b6=>
      let q7:=(((Option.isSome q2)||(!(q1==false)))&&(((Option.isSome q0)||(!(((M.af.Kind v) !=(M.ae.Kind t))==false)))&&true))
      let q8:=((Option.isSome q3)&&q7)
      bif q8 then
       some true
      else
       none)
noncomputable def tq :Nat->M.af->M.ae->Option (Bool)
 |0=>fun _ _=>none
 |n+1=>Jl (tq n)
noncomputable def Y6 :M.af->M.ae->Option (Bool):=tq Go.V.aG
end M
namespace M
noncomputable def qF (v:M.af) (t1:M.ah):Option (Bool):=
 let q0:=(M.Y6 (M.af.re v) (M.ae.re (M.ah.cu t1)))
 bif ((Option.isSome q0)&&true) then
  some (!(Option.getD q0 Inhabited.default))
 else
  none
end M
namespace M
noncomputable def dA (s:(List M.af)) (f:M.ah) (t7:Int):Nat->Int->Option ((Int)⊕(Unit))
 |0,_=>none
 |fuel+1,t8=>
  bif (decide (t8<t7)) then
   let q0:=(M.qF (M.af.re (List.getD s (Int.toNat t8) M.af.zero)) f)
   bif (Option.getD q0 Inhabited.default) then
    let q1:=((Option.isSome q0)&&((Go.V.inB t8 (List.length s))&&true))
    bif q1 then
     some (.inl t8)
    else
     none
   else
    let q1:=((Option.isSome q0)&&((Go.V.inB t8 (List.length s))&&true))
    bif q1 then
     M.dA s f t7 fuel (Go.IntKind.wrap Go.IntKind.i64 (t8+(1:Int)))
    else
     none
  else
   some ((.inr (())))
end M
namespace M
noncomputable def fF (s:(List M.af)) (f:M.ah):Option (Int):=
 match (M.dA s f ((List.length s):Int) Go.V.aG (0:Int)) with
 |none=>none
 |some y0=>
  (match y0 with
  | .inl a1=>
    some a1
  | .inr b1=>
    some (-(1:Int)))
end M
namespace M
noncomputable def dP (s:(List M.af)) (f:M.ah):Option (Bool):=
 let q0:=(M.fF s f)
 bif ((Option.isSome q0)&&true) then
  some (decide ((0:Int)<=(Option.getD q0 Inhabited.default)))
 else
  none
end M
namespace M
noncomputable def EU (s:M.ah):Option (Int):=
 bif (M.ah.fB s) then
  some (1:Int)
 else
  some (1000000:Int)
end M
namespace M
noncomputable def uD (s:M.ah):Option (Bool):=
 let q0:=(M.rY (M.ae.re (M.ah.cu s)))
 bif ((((!(Option.getD q0 Inhabited.default))||(!((decide ((1:Int)<=(M.ah.Room s)))&&(decide ((M.ah.Room s)<=(6:Int))))))||((M.ah.fB s)&&((M.ah.Room s) !=(1:Int))))||(decide ((M.ah.Room s)<((List.length (M.ah.Buffer s)):Int)))) then
  bif ((Option.isSome q0)&&true) then
   some false
  else
   none
 else
  let q1:=(M.dP (M.ah.Buffer s) (M.ah.re s))
  let q2:=((Option.getD q1 Inhabited.default)||(decide ((M.ah.L9 s)<(0:Int))))
  let q3:=(M.EU (M.ah.re s))
  bif (q2||(!((decide ((M.ah.L9 s)<=(M.ah.Put s)))&&(decide ((M.ah.Put s)<=(Option.getD q3 Inhabited.default)))))) then
   let q4:=(((Option.isSome q3)||(!(q2==false)))&&((Option.isSome q1)&&((Option.isSome q0)&&true)))
   bif q4 then
    some false
   else
    none
  else
   bif (((M.ah.Gone s)&&(decide ((0:Int)<((List.length (M.ah.Buffer s)):Int))))||((!(M.ah.Gone s))&&((Go.IntKind.wrap Go.IntKind.i64 ((M.ah.Put s)-(M.ah.L9 s))) !=((List.length (M.ah.Buffer s)):Int)))) then
    let q4:=(((Option.isSome q3)||(!(q2==false)))&&((Option.isSome q1)&&((Option.isSome q0)&&true)))
    bif q4 then
     some false
    else
     none
   else
    let q4:=(((Option.isSome q3)||(!(q2==false)))&&((Option.isSome q1)&&((Option.isSome q0)&&true)))
    bif q4 then
     some ((((!(M.ah.fB s))||(!(M.ah.Shut s)))||((M.ah.Put s)==(1:Int)))||(M.ah.Gone s))
    else
     none
end M
namespace M
noncomputable def oq :Nat->Int->(List UInt8)->Option ((List UInt8))
 |0,_,_=>none
 |fuel+1,k,out=>
  bif (decide ((0:Int)<k)) then
   let q0:=(Go.IntKind.wrap Go.IntKind.u8 (Go.IntKind.wrap Go.IntKind.i64 ((48:Int)+(Int.tmod k (10:Int)))))
   let q1:=(List.map (fun a=>a) [(Go.V.Ae q0)])
   bif (((10:Int) !=(0:Int))&&((Go.V.adZ q1 out)&&(((Go.V.Gh q0)&&true)&&(((10:Int) !=(0:Int))&&true)))) then
    M.oq fuel (Go.IntKind.wrap Go.IntKind.i64 (Int.tdiv k (10:Int))) (q1++out)
   else
    none
  else
   some (out)
end M
namespace M
noncomputable def fK (k:Int):Option ((List UInt8)):=
 bif (decide (k<=(0:Int))) then
  some [(109:UInt8),(48:UInt8)]
 else
  match (M.oq Go.V.aG k []) with
  |none=>none
  |some y0=>
   bif ((Go.V.adZ [(109:UInt8)] y0)&&true) then
    some ([(109:UInt8)]++y0)
   else
    none
end M
namespace M
noncomputable def jB :Nat->Int->Int->(List (List UInt8))->Option (Int×(List (List UInt8)))
 |0,_,_,_=>none
 |fuel+1,k,i,a=>
  bif (decide (i<((List.length a):Int))) then
   let q0:=(M.fK k)
   bif ((Go.V.inB i (List.length a))&&(((Option.isSome q0)&&true)&&true)) then
    M.jB fuel (Go.IntKind.wrap Go.IntKind.i64 (k+(1:Int))) (Go.IntKind.wrap Go.IntKind.i64 (i+(1:Int))) (List.set a (Int.toNat i) (Option.getD q0 Inhabited.default))
   else
    none
  else
   some ((k,a))
end M
namespace M
noncomputable def lu (k:Int) (a:(List (List UInt8))):Option (Int×(List (List UInt8))):=
 match (M.jB Go.V.aG k (0:Int) a) with
 |none=>none
 |some y0=>
  some (y0.1,y0.2)
end M
namespace M
noncomputable def lY (bu:Int->(List M.ae)->Option (Int×(List M.ae))):Nat->Int->Int->(List M.ae)->Option (Int×(List M.ae))
 |0,_,_,_=>none
 |fuel+1,k,i,a=>
  bif (decide (i<((List.length a):Int))) then
   let q0:=(List.set a (Int.toNat i) (M.ae.mk k (M.ae.Name (List.getD a (Int.toNat i) M.ae.zero)) (M.ae.aQ (List.getD a (Int.toNat i) M.ae.zero)) (M.ae.Kids (List.getD a (Int.toNat i) M.ae.zero))))
   let q1:=(List.getD q0 (Int.toNat i) M.ae.zero)
   let q2:=(M.fK (Go.IntKind.wrap Go.IntKind.i64 (k+(1:Int))))
   let q3:=(List.set q0 (Int.toNat i) (M.ae.mk (M.ae.Kind q1) (Option.getD q2 Inhabited.default) (M.ae.aQ q1) (M.ae.Kids q1)))
   let q4:=(List.getD q3 (Int.toNat i) M.ae.zero)
   let q5:=(M.lu (Go.IntKind.wrap Go.IntKind.i64 ((Go.IntKind.wrap Go.IntKind.i64 (k+(1:Int)))+(1:Int))) (M.ae.aQ q4))
   let q6:=(Option.getD q5 Inhabited.default)
   let q7:=(List.set q3 (Int.toNat i) (M.ae.mk (M.ae.Kind q4) (M.ae.Name q4) q6.2 (M.ae.Kids q4)))
   let q8:=(List.getD q7 (Int.toNat i) M.ae.zero)
   bif (((Option.isSome (bu q6.1 (M.ae.Kids q8)))&&true)&&((Go.V.inB i (List.length q7))&&(((Option.isSome q5)&&true)&&((Go.V.inB i (List.length q3))&&((Go.V.inB i (List.length q0))&&(((Option.isSome q2)&&true)&&((Go.V.inB i (List.length a))&&true))))))) then
    let q9:=(Option.getD (bu q6.1 (M.ae.Kids q8)) Inhabited.default)
    M.lY bu fuel q9.1 (Go.IntKind.wrap Go.IntKind.i64 (i+(1:Int))) (List.set q7 (Int.toNat i) (M.ae.mk (M.ae.Kind q8) (M.ae.Name q8) (M.ae.aQ q8) q9.2))
   else
    none
  else
   some ((k,a))
end M
namespace M
noncomputable def tC (bu:Int->(List M.ae)->Option (Int×(List M.ae))) (k:Int) (a:(List M.ae)):Option (Int×(List M.ae)):=
 match (M.lY bu Go.V.aG k (0:Int) a) with
 |none=>none
 |some y0=>
  some (y0.1,y0.2)
noncomputable def ou :Nat->Int->(List M.ae)->Option (Int×(List M.ae))
 |0=>fun _ _=>none
 |n+1=>tC (ou n)
noncomputable def Dt :Int->(List M.ae)->Option (Int×(List M.ae)):=ou Go.V.aG
end M
namespace M
noncomputable def BQ (a:Int) (a2:(List UInt8)) (k:Int) (o0:(List (List UInt8))) (o1:(List M.ae)):Option (Int×(List (List UInt8))×(List M.ae)):=
 let q0:=(M.lu k o0)
 let q1:=(M.Dt (Option.getD q0 Inhabited.default).1 o1)
 bif (((Option.isSome q1)&&true)&&(((Option.isSome q0)&&true)&&true)) then
  let q2:=(Option.getD q1 Inhabited.default)
  some (q2.1,(Option.getD q0 Inhabited.default).2,q2.2)
 else
  none
end M
namespace M
noncomputable def kC (bg:Int->(List M.af)->Option (Int×(List M.af))):Nat->Int->Int->(List M.af)->Option (Int×(List M.af))
 |0,_,_,_=>none
 |fuel+1,k,i,a=>
  bif (decide (i<((List.length a):Int))) then
   let q0:=(Go.IntKind.wrap Go.IntKind.i64 ((Go.IntKind.wrap Go.IntKind.i64 (k+(1:Int)))+(1:Int)))
   let q1:=(List.set a (Int.toNat i) (M.af.mk k (M.af.Num (List.getD a (Int.toNat i) M.af.zero)) (M.af.Text (List.getD a (Int.toNat i) M.af.zero)) (M.af.Kids (List.getD a (Int.toNat i) M.af.zero))))
   let q2:=(List.getD q1 (Int.toNat i) M.af.zero)
   let q3:=(List.set q1 (Int.toNat i) (M.af.mk (M.af.Kind q2) (Go.IntKind.wrap Go.IntKind.i64 (k+(1:Int))) (M.af.Text q2) (M.af.Kids q2)))
   let q4:=(List.getD q3 (Int.toNat i) M.af.zero)
   let q5:=(M.fK q0)
   let q6:=(List.set q3 (Int.toNat i) (M.af.mk (M.af.Kind q4) (M.af.Num q4) (Option.getD q5 Inhabited.default) (M.af.Kids q4)))
   let q7:=(List.getD q6 (Int.toNat i) M.af.zero)
   bif (((Option.isSome (bg (Go.IntKind.wrap Go.IntKind.i64 (q0+(1:Int))) (M.af.Kids q7)))&&true)&&((Go.V.inB i (List.length q6))&&((Go.V.inB i (List.length q3))&&(((Option.isSome q5)&&true)&&((Go.V.inB i (List.length q1))&&((Go.V.inB i (List.length a))&&true)))))) then
    let q8:=(Option.getD (bg (Go.IntKind.wrap Go.IntKind.i64 (q0+(1:Int))) (M.af.Kids q7)) Inhabited.default)
    M.kC bg fuel q8.1 (Go.IntKind.wrap Go.IntKind.i64 (i+(1:Int))) (List.set q6 (Int.toNat i) (M.af.mk (M.af.Kind q7) (M.af.Num q7) (M.af.Text q7) q8.2))
   else
    none
  else
   some ((k,a))
end M
namespace M
noncomputable def ru (bg:Int->(List M.af)->Option (Int×(List M.af))) (k:Int) (a:(List M.af)):Option (Int×(List M.af)):=
 match (M.kC bg Go.V.aG k (0:Int) a) with
 |none=>none
 |some y0=>
  some (y0.1,y0.2)
noncomputable def lZ :Nat->Int->(List M.af)->Option (Int×(List M.af))
 |0=>fun _ _=>none
 |n+1=>ru (lZ n)
noncomputable def Ad :Int->(List M.af)->Option (Int×(List M.af)):=lZ Go.V.aG
end M
namespace M
noncomputable def jJ (a:Int) (a2:(List UInt8)) (a3:Int) (a4:Bool) (a5:Int) (a6:Int) (a7:Bool) (a8:Bool) (k:Int) (o0:(List (List UInt8))) (o1:(List M.ae)) (o2:(List M.af)):Option (Int×(List (List UInt8))×(List M.ae)×(List M.af)):=
 let q0:=(M.BQ a a2 k o0 o1)
 let q1:=(Option.getD q0 Inhabited.default)
 let q2:=(M.Ad q1.1 o2)
 bif (((Option.isSome q2)&&true)&&(((Option.isSome q0)&&true)&&true)) then
  let q3:=(Option.getD q2 Inhabited.default)
  let q4:=q1.2
  some (q3.1,q4.1,q4.2,q3.2)
 else
  none
end M
namespace M
noncomputable def jC (a:(List (List UInt8))):Nat->Int->Int->Option ((Int)⊕(Int))
 |0,_,_=>none
 |fuel+1,k,i=>
  bif (decide (i<((List.length a):Int))) then
   let q0:=(M.fK k)
   bif (!((List.getD a (Int.toNat i) [])==(Option.getD q0 Inhabited.default))) then
    let q1:=((Option.isSome q0)&&((Go.V.inB i (List.length a))&&true))
    bif q1 then
     some (.inl (-(1:Int)))
    else
     none
   else
    let q1:=((Option.isSome q0)&&((Go.V.inB i (List.length a))&&true))
    bif q1 then
     M.jC a fuel (Go.IntKind.wrap Go.IntKind.i64 (k+(1:Int))) (Go.IntKind.wrap Go.IntKind.i64 (i+(1:Int)))
    else
     none
  else
   some ((.inr (k)))
end M
namespace M
noncomputable def jK (a:(List (List UInt8))) (k:Int):Option (Int):=
 match (M.jC a Go.V.aG k (0:Int)) with
 |none=>none
 |some y0=>
  (match y0 with
  | .inl a1=>
    some a1
  | .inr b1=>
    some b1)
end M
namespace M
noncomputable def l7 (bn:(List M.ae)->Int->Option (Int)) (a:(List M.ae)):Nat->Int->Int->Option ((Int)⊕(Int))
 |0,_,_=>none
 |fuel+1,k,i=>
  bif (decide (i<((List.length a):Int))) then
   bif ((M.ae.Kind (List.getD a (Int.toNat i) M.ae.zero)) !=k) then
    bif ((Go.V.inB i (List.length a))&&true) then
     some (.inl (-(1:Int)))
    else
     none
   else
    let q0:=(M.fK (Go.IntKind.wrap Go.IntKind.i64 (k+(1:Int))))
    bif (!((M.ae.Name (List.getD a (Int.toNat i) M.ae.zero))==(Option.getD q0 Inhabited.default))) then
     let q1:=((Option.isSome q0)&&((Go.V.inB i (List.length a))&&((Go.V.inB i (List.length a))&&true)))
     bif q1 then
      some (.inl (-(1:Int)))
     else
      none
    else
     let q1:=(M.jK (M.ae.aQ (List.getD a (Int.toNat i) M.ae.zero)) (Go.IntKind.wrap Go.IntKind.i64 ((Go.IntKind.wrap Go.IntKind.i64 (k+(1:Int)))+(1:Int))))
     let q2:=(Option.getD q1 Inhabited.default)
     bif (decide (q2<(0:Int))) then
      let q3:=((Option.isSome q0)&&((Go.V.inB i (List.length a))&&((Go.V.inB i (List.length a))&&true)))
      let q4:=((Option.isSome q1)&&((Go.V.inB i (List.length a))&&q3))
      bif q4 then
       some (.inl (-(1:Int)))
      else
       none
     else
      let q3:=(Option.getD (bn (M.ae.Kids (List.getD a (Int.toNat i) M.ae.zero)) q2) Inhabited.default)
      bif (decide (q3<(0:Int))) then
       let q4:=((Option.isSome q0)&&((Go.V.inB i (List.length a))&&((Go.V.inB i (List.length a))&&true)))
       let q5:=((Option.isSome q1)&&((Go.V.inB i (List.length a))&&q4))
       let q6:=((Option.isSome (bn (M.ae.Kids (List.getD a (Int.toNat i) M.ae.zero)) q2))&&((Go.V.inB i (List.length a))&&q5))
       bif q6 then
        some (.inl (-(1:Int)))
       else
        none
      else
       let q4:=((Option.isSome q0)&&((Go.V.inB i (List.length a))&&((Go.V.inB i (List.length a))&&true)))
       let q5:=((Option.isSome q1)&&((Go.V.inB i (List.length a))&&q4))
       let q6:=((Option.isSome (bn (M.ae.Kids (List.getD a (Int.toNat i) M.ae.zero)) q2))&&((Go.V.inB i (List.length a))&&q5))
       bif q6 then
        M.l7 bn a fuel q3 (Go.IntKind.wrap Go.IntKind.i64 (i+(1:Int)))
       else
        none
  else
   some ((.inr (k)))
end M
namespace M
noncomputable def tH (bn:(List M.ae)->Int->Option (Int)) (a:(List M.ae)) (k:Int):Option (Int):=
 match (M.l7 bn a Go.V.aG k (0:Int)) with
 |none=>none
 |some y0=>
  (match y0 with
  | .inl a1=>
    some a1
  | .inr b1=>
    some b1)
noncomputable def oz :Nat->(List M.ae)->Int->Option (Int)
 |0=>fun _ _=>none
 |n+1=>tH (oz n)
noncomputable def zf :(List M.ae)->Int->Option (Int):=oz Go.V.aG
end M
namespace M
noncomputable def xZ (a:M.ae) (k:Int):Option (Int):=
 let q0:=(M.jK (M.ae.aQ a) k)
 bif (decide ((Option.getD q0 Inhabited.default)<(0:Int))) then
  bif ((Option.isSome q0)&&true) then
   some (-(1:Int))
  else
   none
 else
  let q1:=(M.zf (M.ae.Kids a) (Option.getD q0 Inhabited.default))
  let q2:=(Option.getD q1 Inhabited.default)
  bif (decide (q2<(0:Int))) then
   let q3:=((Option.isSome q1)&&((Option.isSome q0)&&true))
   bif q3 then
    some (-(1:Int))
   else
    none
  else
   let q3:=((Option.isSome q1)&&((Option.isSome q0)&&true))
   bif q3 then
    some q2
   else
    none
end M
namespace M
noncomputable def kD (aZ:(List M.af)->Int->Option (Int)) (a:(List M.af)):Nat->Int->Int->Option ((Int)⊕(Int))
 |0,_,_=>none
 |fuel+1,k,i=>
  bif (decide (i<((List.length a):Int))) then
   bif ((M.af.Kind (List.getD a (Int.toNat i) M.af.zero)) !=k) then
    bif ((Go.V.inB i (List.length a))&&true) then
     some (.inl (-(1:Int)))
    else
     none
   else
    bif ((M.af.Num (List.getD a (Int.toNat i) M.af.zero)) !=(Go.IntKind.wrap Go.IntKind.i64 (k+(1:Int)))) then
     let q0:=((Go.V.inB i (List.length a))&&((Go.V.inB i (List.length a))&&true))
     bif q0 then
      some (.inl (-(1:Int)))
     else
      none
    else
     let q0:=(Go.IntKind.wrap Go.IntKind.i64 ((Go.IntKind.wrap Go.IntKind.i64 (k+(1:Int)))+(1:Int)))
     let q1:=(M.fK q0)
     bif (!((M.af.Text (List.getD a (Int.toNat i) M.af.zero))==(Option.getD q1 Inhabited.default))) then
      let q2:=((Go.V.inB i (List.length a))&&((Go.V.inB i (List.length a))&&true))
      let q3:=((Option.isSome q1)&&((Go.V.inB i (List.length a))&&q2))
      bif q3 then
       some (.inl (-(1:Int)))
      else
       none
     else
      let q2:=(Option.getD (aZ (M.af.Kids (List.getD a (Int.toNat i) M.af.zero)) (Go.IntKind.wrap Go.IntKind.i64 (q0+(1:Int)))) Inhabited.default)
      bif (decide (q2<(0:Int))) then
       let q3:=((Go.V.inB i (List.length a))&&((Go.V.inB i (List.length a))&&true))
       let q4:=((Option.isSome q1)&&((Go.V.inB i (List.length a))&&q3))
       let q5:=((Option.isSome (aZ (M.af.Kids (List.getD a (Int.toNat i) M.af.zero)) (Go.IntKind.wrap Go.IntKind.i64 (q0+(1:Int)))))&&((Go.V.inB i (List.length a))&&q4))
       bif q5 then
        some (.inl (-(1:Int)))
       else
        none
      else
       let q3:=((Go.V.inB i (List.length a))&&((Go.V.inB i (List.length a))&&true))
       let q4:=((Option.isSome q1)&&((Go.V.inB i (List.length a))&&q3))
       let q5:=((Option.isSome (aZ (M.af.Kids (List.getD a (Int.toNat i) M.af.zero)) (Go.IntKind.wrap Go.IntKind.i64 (q0+(1:Int)))))&&((Go.V.inB i (List.length a))&&q4))
       bif q5 then
        M.kD aZ a fuel q2 (Go.IntKind.wrap Go.IntKind.i64 (i+(1:Int)))
       else
        none
  else
   some ((.inr (k)))
end M
namespace M
noncomputable def ry (aZ:(List M.af)->Int->Option (Int)) (a:(List M.af)) (k:Int):Option (Int):=
 match (M.kD aZ a Go.V.aG k (0:Int)) with
 |none=>none
 |some y0=>
  (match y0 with
  | .inl a1=>
    some a1
  | .inr b1=>
    some b1)
noncomputable def l9 :Nat->(List M.af)->Int->Option (Int)
 |0=>fun _ _=>none
 |n+1=>ry (l9 n)
noncomputable def wO :(List M.af)->Int->Option (Int):=l9 Go.V.aG
end M
namespace M
noncomputable def nN (a:M.ah) (k:Int):Option (Int):=
 let q0:=(M.xZ (M.ae.re (M.ah.cu a)) k)
 bif (decide ((Option.getD q0 Inhabited.default)<(0:Int))) then
  bif ((Option.isSome q0)&&true) then
   some (-(1:Int))
  else
   none
 else
  let q1:=(M.wO (M.ah.Buffer a) (Option.getD q0 Inhabited.default))
  let q2:=(Option.getD q1 Inhabited.default)
  bif (decide (q2<(0:Int))) then
   let q3:=((Option.isSome q1)&&((Option.isSome q0)&&true))
   bif q3 then
    some (-(1:Int))
   else
    none
  else
   let q3:=((Option.isSome q1)&&((Option.isSome q0)&&true))
   bif q3 then
    some q2
   else
    none
end M
namespace M
noncomputable def ajW (s:M.ah):Option (Int):=
 bif (M.ah.fB s) then
  some (1:Int)
 else
  some (1000000:Int)
end M
namespace M
def ahm (a:Int) (b:Int):Option (Int):=
 bif (decide (a<b)) then
  some a
 else
  some b
end M
namespace M
noncomputable def ajo (v:M.af) (t1:M.ah):Option (Bool):=
 let q0:=(M.Y6 (M.af.re v) (M.ae.re (M.ah.cu t1)))
 bif ((Option.isSome q0)&&true) then
  some (!(Option.getD q0 Inhabited.default))
 else
  none
end M
namespace M
noncomputable def aiF (s:(List M.af)) (f:M.ah) (t7:Int):Nat->Int->Option ((Int)⊕(Unit))
 |0,_=>none
 |fuel+1,t8=>
  bif (decide (t8<t7)) then
   let q0:=(M.ajo (M.af.re (List.getD s (Int.toNat t8) M.af.zero)) f)
   bif (Option.getD q0 Inhabited.default) then
    let q1:=((Option.isSome q0)&&((Go.V.inB t8 (List.length s))&&true))
    bif q1 then
     some (.inl t8)
    else
     none
   else
    let q1:=((Option.isSome q0)&&((Go.V.inB t8 (List.length s))&&true))
    bif q1 then
     M.aiF s f t7 fuel (Go.IntKind.wrap Go.IntKind.i64 (t8+(1:Int)))
    else
     none
  else
   some ((.inr (())))
end M
namespace M
noncomputable def aiH (s:(List M.af)) (f:M.ah):Option (Int):=
 match (M.aiF s f ((List.length s):Int) Go.V.aG (0:Int)) with
 |none=>none
 |some y0=>
  (match y0 with
  | .inl a1=>
    some a1
  | .inr b1=>
    some (-(1:Int)))
end M
namespace M
noncomputable def aiG (s:(List M.af)) (f:M.ah):Option (Bool):=
 let q0:=(M.aiH s f)
 bif ((Option.isSome q0)&&true) then
  some (decide ((0:Int)<=(Option.getD q0 Inhabited.default)))
 else
  none
end M
namespace M
noncomputable def Jp (a:(List M.aK)) (left:Int):Option (Int):=
 bif (decide ((Go.IntKind.wrap Go.IntKind.i64 (left-((List.length a):Int)))<(0:Int))) then
  some (-(1:Int))
 else
  some (Go.IntKind.wrap Go.IntKind.i64 (left-((List.length a):Int)))
end M
namespace M
noncomputable def Mc (a:M.aK):Option (M.aK):=
 some a
end M
namespace M
noncomputable def jX (a:(List M.aK)):Nat->Int->(List M.aK)->Option ((List M.aK))
 |0,_,_=>none
 |fuel+1,i,out=>
  bif (decide (i<((List.length a):Int))) then
   bif ((Go.V.inB i (List.length out))&&((Go.V.inB i (List.length a))&&true)) then
    M.jX a fuel (Go.IntKind.wrap Go.IntKind.i64 (i+(1:Int))) (List.set out (Int.toNat i) (List.getD a (Int.toNat i) M.aK.zero))
   else
    none
  else
   some (out)
end M
namespace M
noncomputable def Jq (a:(List M.aK)):Option ((List M.aK)):=
 match (M.jX a Go.V.aG (0:Int) (List.replicate (Int.toNat ((List.length a):Int)) (M.aK.mk false false (0:Int)))) with
 |none=>none
 |some y0=>
  bif (((decide (((List.length a):Int)<=((List.length a):Int)))&&(decide (((List.length a):Int)<=(1073741824:Int))))&&true) then
   some y0
  else
   none
end M
namespace M
noncomputable def D7 (a:M.aK) (b:M.aK):Option (Bool):=
 bif (!((M.aK.Write a)==(M.aK.Write b))) then
  some false
 else
  bif (!((M.aK.Close a)==(M.aK.Close b))) then
   some false
  else
   bif ((M.aK.aeH a) !=(M.aK.aeH b)) then
    some false
   else
    some true
end M
namespace M
noncomputable def nO (a:(List M.aK)) (b:(List M.aK)):Nat->Int->Option ((Bool)⊕(Unit))
 |0,_=>none
 |fuel+1,i=>
  bif (decide (i<((List.length a):Int))) then
   let q0:=(M.D7 (List.getD a (Int.toNat i) M.aK.zero) (List.getD b (Int.toNat i) M.aK.zero))
   bif (!(Option.getD q0 Inhabited.default)) then
    let q1:=((Option.isSome q0)&&((Go.V.inB i (List.length b))&&((Go.V.inB i (List.length a))&&true)))
    bif q1 then
     some (.inl false)
    else
     none
   else
    let q1:=((Option.isSome q0)&&((Go.V.inB i (List.length b))&&((Go.V.inB i (List.length a))&&true)))
    bif q1 then
     M.nO a b fuel (Go.IntKind.wrap Go.IntKind.i64 (i+(1:Int)))
    else
     none
  else
   some ((.inr (())))
end M
namespace M
noncomputable def Jr (a:(List M.aK)) (b:(List M.aK)):Option (Bool):=
 bif (((List.length a):Int) !=((List.length b):Int)) then
  some false
 else
  match (M.nO a b Go.V.aG (0:Int)) with
  |none=>none
  |some y0=>
   (match y0 with
   | .inl a1=>
     some a1
   | .inr b1=>
     some true)
end M
namespace M
noncomputable def nY (aN:M.af->Int->Option (Int)) (a:(List M.af)):Nat->Int->Int->Option ((Int)⊕(Int))
 |0,_,_=>none
 |fuel+1,left,i=>
  bif (decide (i<((List.length a):Int))) then
   let q0:=(Option.getD (aN (M.af.re (List.getD a (Int.toNat i) M.af.zero)) left) Inhabited.default)
   bif (decide (q0<(0:Int))) then
    let q1:=((Option.isSome (aN (M.af.re (List.getD a (Int.toNat i) M.af.zero)) left))&&((Go.V.inB i (List.length a))&&true))
    bif q1 then
     some (.inl (-(1:Int)))
    else
     none
   else
    let q1:=((Option.isSome (aN (M.af.re (List.getD a (Int.toNat i) M.af.zero)) left))&&((Go.V.inB i (List.length a))&&true))
    bif q1 then
     M.nY aN a fuel q0 (Go.IntKind.wrap Go.IntKind.i64 (i+(1:Int)))
    else
     none
  else
   some ((.inr (left)))
end M
namespace M
noncomputable def pR (aN:M.af->Int->Option (Int)) (a:(List M.af)) (left:Int):Option (Int):=
 bif (decide ((Go.IntKind.wrap Go.IntKind.i64 (left-((List.length a):Int)))<(0:Int))) then
  some (-(1:Int))
 else
  match (M.nY aN a Go.V.aG (Go.IntKind.wrap Go.IntKind.i64 (left-((List.length a):Int))) (0:Int)) with
  |none=>none
  |some y0=>
   (match y0 with
   | .inl a1=>
     some a1
   | .inr b1=>
     some b1)
end M
namespace M
noncomputable def yN (aN:M.af->Int->Option (Int)) (a:M.af) (left:Int):Option (Int):=
 bif (decide ((Go.IntKind.wrap Go.IntKind.i64 (left-((List.length (M.af.Text a)):Int)))<(0:Int))) then
  some (-(1:Int))
 else
  let q0:=(M.pR aN (M.af.Kids a) (Go.IntKind.wrap Go.IntKind.i64 (left-((List.length (M.af.Text a)):Int))))
  let q1:=(Option.getD q0 Inhabited.default)
  bif (decide (q1<(0:Int))) then
   let q2:=((Option.isSome q0)&&true)
   bif q2 then
    some (-(1:Int))
   else
    none
  else
   let q2:=((Option.isSome q0)&&true)
   bif q2 then
    some q1
   else
    none
noncomputable def qO :Nat->M.af->Int->Option (Int)
 |0=>fun _ _=>none
 |n+1=>yN (qO n)
noncomputable def Ak :M.af->Int->Option (Int):=qO Go.V.aG
end M
namespace M
noncomputable def kS (aP:M.af->Option (Int×Int×(List UInt8)×(List M.af))) (a:(List M.af)):Nat->Int->(List M.af)->Option ((List M.af))
 |0,_,_=>none
 |fuel+1,i,out=>
  bif (decide (i<((List.length a):Int))) then
   bif ((Go.V.inB i (List.length out))&&((Option.isSome (aP (M.af.re (List.getD a (Int.toNat i) M.af.zero))))&&((Go.V.inB i (List.length a))&&true))) then
    let q0:=(Option.getD (aP (M.af.re (List.getD a (Int.toNat i) M.af.zero))) Inhabited.default)
    let q1:=q0.2
    let q2:=q1.2
    M.kS aP a fuel (Go.IntKind.wrap Go.IntKind.i64 (i+(1:Int))) (List.set out (Int.toNat i) (M.af.mk q0.1 q1.1 q2.1 q2.2))
   else
    none
  else
   some (out)
end M
namespace M
noncomputable def pU (aP:M.af->Option (Int×Int×(List UInt8)×(List M.af))) (a:(List M.af)):Option ((List M.af)):=
 match (M.kS aP a Go.V.aG (0:Int) (List.replicate (Int.toNat ((List.length a):Int)) (M.af.mk (0:Int) (0:Int) [] []))) with
 |none=>none
 |some y0=>
  bif (((decide (((List.length a):Int)<=((List.length a):Int)))&&(decide (((List.length a):Int)<=(1073741824:Int))))&&true) then
   some y0
  else
   none
end M
namespace M
noncomputable def yO (aP:M.af->Option (Int×Int×(List UInt8)×(List M.af))) (a:M.af):Option (Int×Int×(List UInt8)×(List M.af)):=
 let q0:=(M.pU aP (M.af.Kids a))
 bif ((Option.isSome q0)&&true) then
  some ((M.af.Kind a),(M.af.Num a),(M.af.Text a),(Option.getD q0 Inhabited.default))
 else
  none
noncomputable def qP :Nat->M.af->Option (Int×Int×(List UInt8)×(List M.af))
 |0=>fun _=>none
 |n+1=>yO (qP n)
noncomputable def Am :M.af->Option (Int×Int×(List UInt8)×(List M.af)):=qP Go.V.aG
end M
namespace M
noncomputable def nZ (aO:M.af->M.af->Option (Bool)) (a:(List M.af)) (b:(List M.af)):Nat->Int->Option ((Bool)⊕(Unit))
 |0,_=>none
 |fuel+1,i=>
  bif (decide (i<((List.length a):Int))) then
   bif (!(Option.getD (aO (M.af.re (List.getD a (Int.toNat i) M.af.zero)) (M.af.re (List.getD b (Int.toNat i) M.af.zero))) Inhabited.default)) then
    let q0:=((Option.isSome (aO (M.af.re (List.getD a (Int.toNat i) M.af.zero)) (M.af.re (List.getD b (Int.toNat i) M.af.zero))))&&((Go.V.inB i (List.length b))&&((Go.V.inB i (List.length a))&&true)))
    bif q0 then
     some (.inl false)
    else
     none
   else
    let q0:=((Option.isSome (aO (M.af.re (List.getD a (Int.toNat i) M.af.zero)) (M.af.re (List.getD b (Int.toNat i) M.af.zero))))&&((Go.V.inB i (List.length b))&&((Go.V.inB i (List.length a))&&true)))
    bif q0 then
     M.nZ aO a b fuel (Go.IntKind.wrap Go.IntKind.i64 (i+(1:Int)))
    else
     none
  else
   some ((.inr (())))
end M
namespace M
noncomputable def pV (aO:M.af->M.af->Option (Bool)) (a:(List M.af)) (b:(List M.af)):Option (Bool):=
 bif (((List.length a):Int) !=((List.length b):Int)) then
  some false
 else
  match (M.nZ aO a b Go.V.aG (0:Int)) with
  |none=>none
  |some y0=>
   (match y0 with
   | .inl a1=>
     some a1
   | .inr b1=>
     some true)
end M
namespace M
noncomputable def yP (aO:M.af->M.af->Option (Bool)) (a:M.af) (b:M.af):Option (Bool):=
 bif ((M.af.Kind a) !=(M.af.Kind b)) then
  some false
 else
  bif ((M.af.Num a) !=(M.af.Num b)) then
   some false
  else
   bif (!((M.af.Text a)==(M.af.Text b))) then
    some false
   else
    let q0:=(M.pV aO (M.af.Kids a) (M.af.Kids b))
    bif (!(Option.getD q0 Inhabited.default)) then
     bif ((Option.isSome q0)&&true) then
      some false
     else
      none
    else
     bif ((Option.isSome q0)&&true) then
      some true
     else
      none
noncomputable def qQ :Nat->M.af->M.af->Option (Bool)
 |0=>fun _ _=>none
 |n+1=>yP (qQ n)
noncomputable def Ap :M.af->M.af->Option (Bool):=qQ Go.V.aG
end M
namespace M
noncomputable def ku (aF:M.af->Option (Int×Int×(List UInt8)×(List M.af))) (t7:(List M.af)) (t8:Int):Nat->Int->(List M.af)->Option ((List M.af))
 |0,_,_=>none
 |fuel+1,t9,out=>
  bif (decide (t9<t8)) then
   let q0:=(Option.getD (aF (M.af.re (List.getD t7 (Int.toNat t9) M.af.zero))) Inhabited.default)
   let q1:=q0.2
   let q2:=q1.2
   let q3:=[(M.af.mk q0.1 q1.1 q2.1 q2.2)]
   bif ((decide (((List.length out)+(List.length q3))<=1073741824))&&((Option.isSome (aF (M.af.re (List.getD t7 (Int.toNat t9) M.af.zero))))&&((Go.V.inB t9 (List.length t7))&&true))) then
    M.ku aF t7 t8 fuel (Go.IntKind.wrap Go.IntKind.i64 (t9+(1:Int))) (out++q3)
   else
    none
  else
   some (out)
end M
namespace M
noncomputable def kL (aF:M.af->Option (Int×Int×(List UInt8)×(List M.af))) (list:(List M.af)):Option ((List M.af)):=
 match (M.ku aF list ((List.length list):Int) Go.V.aG (0:Int) []) with
 |none=>none
 |some y0=>
  some y0
end M
namespace M
noncomputable def sZ (aF:M.af->Option (Int×Int×(List UInt8)×(List M.af))) (v:M.af):Option (Int×Int×(List UInt8)×(List M.af)):=
 let q0:=(M.kL aF (M.af.Kids v))
 bif ((Option.isSome q0)&&true) then
  some ((M.af.Kind v),(M.af.Num v),(M.af.Text v),(Option.getD q0 Inhabited.default))
 else
  none
noncomputable def oh :Nat->M.af->Option (Int×Int×(List UInt8)×(List M.af))
 |0=>fun _=>none
 |n+1=>sZ (oh n)
noncomputable def uY :M.af->Option (Int×Int×(List UInt8)×(List M.af)):=oh Go.V.aG
end M
namespace M
noncomputable def uu (a:M.ah) (left:Int):Option (Int):=
 let q0:=(M.IJ (M.ae.re (M.ah.cu a)) left)
 bif (decide ((Option.getD q0 Inhabited.default)<(0:Int))) then
  bif ((Option.isSome q0)&&true) then
   some (-(1:Int))
  else
   none
 else
  let q1:=(M.pR M.Ak (M.ah.Buffer a) (Option.getD q0 Inhabited.default))
  let q2:=(Option.getD q1 Inhabited.default)
  bif (decide (q2<(0:Int))) then
   let q3:=((Option.isSome q1)&&((Option.isSome q0)&&true))
   bif q3 then
    some (-(1:Int))
   else
    none
  else
   let q3:=((Option.isSome q1)&&((Option.isSome q0)&&true))
   bif q3 then
    some q2
   else
    none
end M
namespace M
noncomputable def uw (a:M.ah):Option (Int×(List UInt8)×Int×Bool×Int×Int×Bool×Bool×(List (List UInt8))×(List M.ae)×(List M.af)):=
 let q0:=(M.pU M.Am (M.ah.Buffer a))
 let q1:=(M.IM (M.ae.re (M.ah.cu a)))
 bif ((Option.isSome q0)&&((Option.isSome q1)&&true)) then
  let q2:=(Option.getD q1 Inhabited.default)
  let q3:=q2.2
  let q4:=q3.2
  some (q2.1,q3.1,(M.ah.Room a),(M.ah.fB a),(M.ah.Put a),(M.ah.L9 a),(M.ah.Shut a),(M.ah.Gone a),q4.1,q4.2,(Option.getD q0 Inhabited.default))
 else
  none
end M
namespace M
noncomputable def lW (list:(List M.af)):Nat->Int->(List M.af)->Option ((List M.af))
 |0,_,_=>none
 |fuel+1,i,out=>
  bif (decide (i<((List.length list):Int))) then
   let q0:=(M.F5 (M.af.re (List.getD list (Int.toNat i) M.af.zero)))
   let q1:=[(M.af.re (Option.getD q0 Inhabited.default))]
   bif ((decide (((List.length out)+(List.length q1))<=1073741824))&&((Option.isSome q0)&&((Go.V.inB i (List.length list))&&true))) then
    M.lW list fuel (Go.IntKind.wrap Go.IntKind.i64 (i+(1:Int))) (out++q1)
   else
    none
  else
   some (out)
end M
namespace M
noncomputable def ve (list:(List M.af)):Option ((List M.af)):=
 match (M.lW list Go.V.aG (0:Int) []) with
 |none=>none
 |some y0=>
  some y0
end M
namespace M
noncomputable def BA (s:M.ah):Option (M.ah):=
 let q0:=(M.ve (M.ah.Buffer s))
 let q1:=(M.OD (M.ae.re (M.ah.cu s)))
 bif ((Option.isSome q0)&&((Option.isSome q1)&&true)) then
  some (M.ah.mk (M.ae.re (Option.getD q1 Inhabited.default)) (M.ah.Room s) (M.ah.fB s) (Option.getD q0 Inhabited.default) (M.ah.Put s) (M.ah.L9 s) (M.ah.Shut s) (M.ah.Gone s))
 else
  none
end M
namespace M
noncomputable def ajU (s:M.ah) (list:(List M.af)):Option (M.ah×Int×Int):=
 let q0:=(M.ajW (M.ah.re s))
 bif ((decide ((8:Int)<((List.length list):Int)))||(decide ((Option.getD q0 Inhabited.default)<(Go.IntKind.wrap Go.IntKind.i64 ((M.ah.Put s)+((List.length list):Int)))))) then
  let q1:=(((Option.isSome q0)||(!((decide ((8:Int)<((List.length list):Int)))==false)))&&true)
  bif q1 then
   some ((M.ah.mk (M.ae.mk (0:Int) [] [] []) (0:Int) false [] (0:Int) (0:Int) false false),(0:Int),(4:Int))
  else
   none
 else
  bif (M.ah.Shut s) then
   let q1:=(((Option.isSome q0)||(!((decide ((8:Int)<((List.length list):Int)))==false)))&&true)
   bif q1 then
    some ((M.ah.mk (M.ae.mk (0:Int) [] [] []) (0:Int) false [] (0:Int) (0:Int) false false),(0:Int),(5:Int))
   else
    none
  else
   bif (M.ah.Gone s) then
    let q1:=(((Option.isSome q0)||(!((decide ((8:Int)<((List.length list):Int)))==false)))&&true)
    bif q1 then
     some ((M.ah.mk (M.ae.mk (0:Int) [] [] []) (0:Int) false [] (0:Int) (0:Int) false false),(0:Int),(17:Int))
    else
     none
   else
    let q1:=(M.ve (M.ah.Buffer s))
    let q2:=(M.ahm ((List.length list):Int) (Go.IntKind.wrap Go.IntKind.i64 ((M.ah.Room s)-((List.length (M.ah.Buffer s)):Int))))
    let q3:=(Option.getD q2 Inhabited.default)
    let q4:=(M.ve (List.drop (Int.toNat (0:Int)) (List.take (Int.toNat q3) list)))
    let q5:=(Option.getD q4 Inhabited.default)
    let q6:=(((Option.isSome q0)||(!((decide ((8:Int)<((List.length list):Int)))==false)))&&true)
    bif ((decide (((List.length (Option.getD q1 Inhabited.default))+(List.length q5))<=1073741824))&&((Option.isSome q4)&&((Go.V.CO (0:Int) q3 (List.length list))&&((Option.isSome q1)&&((Option.isSome q2)&&q6))))) then
     some ((M.ah.mk (M.ae.re (M.ah.cu s)) (M.ah.Room s) (M.ah.fB s) ((Option.getD q1 Inhabited.default)++q5) (Go.IntKind.wrap Go.IntKind.i64 ((M.ah.Put s)+q3)) (M.ah.L9 s) (M.ah.Shut s) (M.ah.Gone s)),q3,(0:Int))
    else
     none
end M
namespace M
noncomputable def ajE (s:M.ah) (list:(List M.af)):Option (M.ah×Int×Int):=
 let q0:=(M.uA (M.ah.re s))
 bif (!(Option.getD q0 Inhabited.default)) then
  bif ((Option.isSome q0)&&true) then
   some ((M.ah.mk (M.ae.mk (0:Int) [] [] []) (0:Int) false [] (0:Int) (0:Int) false false),(0:Int),(1:Int))
  else
   none
 else
  let q1:=(M.Ar list (M.ae.re (M.ah.cu s)) ((List.length list):Int))
  bif (!(Option.getD q1 Inhabited.default)) then
   let q2:=((Option.isSome q1)&&((Option.isSome q0)&&true))
   bif q2 then
    some ((M.ah.mk (M.ae.mk (0:Int) [] [] []) (0:Int) false [] (0:Int) (0:Int) false false),(0:Int),(7:Int))
   else
    none
  else
   let q2:=(M.BA (M.ah.re s))
   let q3:=(M.ajU (M.ah.re (Option.getD q2 Inhabited.default)) list)
   let q4:=((Option.isSome q1)&&((Option.isSome q0)&&true))
   bif ((Option.isSome q3)&&((Option.isSome q2)&&q4)) then
    let q5:=(Option.getD q3 Inhabited.default)
    let q6:=q5.2
    some ((M.ah.re q5.1),q6.1,q6.2)
   else
    none
end M
namespace M
noncomputable def qc (s:M.ah):Option (Int×(List UInt8)×Int×Bool×Int×Int×Bool×Bool×(List (List UInt8))×(List M.ae)×(List M.af)):=
 let q0:=(M.kL M.uY (M.ah.Buffer s))
 let q1:=(M.FW (M.ae.re (M.ah.cu s)))
 bif ((Option.isSome q0)&&((Option.isSome q1)&&true)) then
  let q2:=(Option.getD q1 Inhabited.default)
  let q3:=q2.2
  let q4:=q3.2
  some (q2.1,q3.1,(M.ah.Room s),(M.ah.fB s),(M.ah.Put s),(M.ah.L9 s),(M.ah.Shut s),(M.ah.Gone s),q4.1,q4.2,(Option.getD q0 Inhabited.default))
 else
  none
end M
namespace M
noncomputable def ajB (list:(List M.af)) (s:Int) (s2:(List UInt8)) (s3:Int) (s4:Bool) (s5:Int) (s6:Int) (s7:Bool) (s8:Bool) (o1:(List (List UInt8))) (o2:(List M.ae)) (o3:(List M.af)):Option (Int×Int×Int×(List UInt8)×Int×Bool×Int×Int×Bool×Bool×(List (List UInt8))×(List M.ae)×(List M.af)):=
 let q0:=(M.EU (M.ah.mk (M.ae.mk s s2 o1 o2) s3 s4 o3 s5 s6 s7 s8))
 bif ((decide ((8:Int)<((List.length list):Int)))||(decide ((Option.getD q0 Inhabited.default)<(Go.IntKind.wrap Go.IntKind.i64 (s5+((List.length list):Int)))))) then
  let q1:=(((Option.isSome q0)||(!((decide ((8:Int)<((List.length list):Int)))==false)))&&true)
  bif q1 then
   some ((0:Int),(4:Int),s,s2,s3,s4,s5,s6,s7,s8,o1,o2,o3)
  else
   none
 else
  bif s7 then
   let q1:=(((Option.isSome q0)||(!((decide ((8:Int)<((List.length list):Int)))==false)))&&true)
   bif q1 then
    some ((0:Int),(5:Int),s,s2,s3,s4,s5,s6,s7,s8,o1,o2,o3)
   else
    none
  else
   bif s8 then
    let q1:=(((Option.isSome q0)||(!((decide ((8:Int)<((List.length list):Int)))==false)))&&true)
    bif q1 then
     some ((0:Int),(17:Int),s,s2,s3,s4,s5,s6,s7,s8,o1,o2,o3)
    else
     none
   else
    let q1:=(bif (decide ((Go.IntKind.wrap Go.IntKind.i64 (s3-((List.length o3):Int)))<((List.length list):Int))) then (Go.IntKind.wrap Go.IntKind.i64 (s3-((List.length o3):Int))) else ((List.length list):Int))
    let q2:=(M.kL M.uY (List.drop (Int.toNat (0:Int)) (List.take (Int.toNat q1) list)))
    let q3:=(Option.getD q2 Inhabited.default)
    let q4:=(((Option.isSome q0)||(!((decide ((8:Int)<((List.length list):Int)))==false)))&&true)
    bif ((decide (((List.length o3)+(List.length q3))<=1073741824))&&((Option.isSome q2)&&((Go.V.CO (0:Int) q1 (List.length list))&&q4))) then
     some (q1,(0:Int),s,s2,s3,s4,(Go.IntKind.wrap Go.IntKind.i64 (s5+q1)),s6,s7,s8,o1,o2,(o3++q3))
    else
     none
end M
namespace M
noncomputable def ajF (s:M.ah) (list:(List M.af)):Option (Int×(List UInt8)×Int×Bool×Int×Int×Bool×Bool×Int×Int×(List (List UInt8))×(List M.ae)×(List M.af)):=
 let q0:=(M.uD (M.ah.re s))
 bif (!(Option.getD q0 Inhabited.default)) then
  bif ((Option.isSome q0)&&true) then
   some ((0:Int),[],(0:Int),false,(0:Int),(0:Int),false,false,(0:Int),(1:Int),[],[],[])
  else
   none
 else
  let q1:=(M.aiG list (M.ah.re s))
  bif (Option.getD q1 Inhabited.default) then
   bif ((Option.isSome q1)&&((Option.isSome q0)&&true)) then
    some ((0:Int),[],(0:Int),false,(0:Int),(0:Int),false,false,(0:Int),(7:Int),[],[],[])
   else
    none
  else
   let q2:=(M.qc (M.ah.re s))
   let q3:=(Option.getD q2 Inhabited.default)
   let q4:=q3.2
   let q5:=q4.2
   let q6:=q5.2
   let q7:=q6.2
   let q8:=q7.2
   let q9:=q8.2
   let q10:=q9.2
   let q11:=q10.2
   let q12:=q11.2
   let q13:=(M.ajB list q3.1 q4.1 q5.1 q6.1 q7.1 q8.1 q9.1 q10.1 q11.1 q12.1 q12.2)
   let q14:=(Option.getD q13 Inhabited.default)
   let Zb:=q14.2
   let q16:=Zb.1
   bif (q16 !=(0:Int)) then
    let q17:=((Option.isSome q13)&&((Option.isSome q2)&&((Option.isSome q1)&&((Option.isSome q0)&&true))))
    bif q17 then
     some ((0:Int),[],(0:Int),false,(0:Int),(0:Int),false,false,(0:Int),q16,[],[],[])
    else
     none
   else
    let q17:=((Option.isSome q13)&&((Option.isSome q2)&&((Option.isSome q1)&&((Option.isSome q0)&&true))))
    bif q17 then
     let q18:=Zb.2
     let q19:=q18.2
     let q20:=q19.2
     let q21:=q20.2
     let q22:=q21.2
     let q23:=q22.2
     let q24:=q23.2
     let q25:=q24.2
     let q26:=q25.2
     let q27:=q26.2
     some (q18.1,q19.1,q20.1,q21.1,q22.1,q23.1,q24.1,q25.1,q14.1,(0:Int),q26.1,q27.1,q27.2)
    else
     none
end M
namespace M
noncomputable def qf (a:M.ah) (b:M.ah):Option (Bool):=
 let q0:=(M.IU (M.ae.re (M.ah.cu a)) (M.ae.re (M.ah.cu b)))
 bif (!(Option.getD q0 Inhabited.default)) then
  bif ((Option.isSome q0)&&true) then
   some false
  else
   none
 else
  bif ((M.ah.Room a) !=(M.ah.Room b)) then
   bif ((Option.isSome q0)&&true) then
    some false
   else
    none
  else
   bif (!((M.ah.fB a)==(M.ah.fB b))) then
    bif ((Option.isSome q0)&&true) then
     some false
    else
     none
   else
    let q1:=(M.pV M.Ap (M.ah.Buffer a) (M.ah.Buffer b))
    bif (!(Option.getD q1 Inhabited.default)) then
     let q2:=((Option.isSome q1)&&((Option.isSome q0)&&true))
     bif q2 then
      some false
     else
      none
    else
     bif ((M.ah.Put a) !=(M.ah.Put b)) then
      let q2:=((Option.isSome q1)&&((Option.isSome q0)&&true))
      bif q2 then
       some false
      else
       none
     else
      bif ((M.ah.L9 a) !=(M.ah.L9 b)) then
       let q2:=((Option.isSome q1)&&((Option.isSome q0)&&true))
       bif q2 then
        some false
       else
        none
      else
       bif (!((M.ah.Shut a)==(M.ah.Shut b))) then
        let q2:=((Option.isSome q1)&&((Option.isSome q0)&&true))
        bif q2 then
         some false
        else
         none
       else
        bif (!((M.ah.Gone a)==(M.ah.Gone b))) then
         let q2:=((Option.isSome q1)&&((Option.isSome q0)&&true))
         bif q2 then
          some false
         else
          none
        else
         let q2:=((Option.isSome q1)&&((Option.isSome q0)&&true))
         bif q2 then
          some true
         else
          none
end M
namespace M
noncomputable def aiO (aS:M.ah) (alO:(List M.af)):Option (Bool):=
 let q0:=(M.uu (M.ah.re aS) (1048576:Int))
 bif (decide ((Option.getD q0 Inhabited.default)<(0:Int))) then
  bif ((Option.isSome q0)&&true) then
   some true
  else
   none
 else
  let q1:=(M.pR M.Ak alO (Option.getD q0 Inhabited.default))
  bif (decide ((Option.getD q1 Inhabited.default)<(0:Int))) then
   let q2:=((Option.isSome q1)&&((Option.isSome q0)&&true))
   bif q2 then
    some true
   else
    none
  else
   let q2:=(M.uw (M.ah.re aS))
   let q3:=(Option.getD q2 Inhabited.default)
   let q4:=q3.1
   let q5:=q3.2
   let q6:=q5.1
   let q7:=q5.2
   let q8:=q7.2
   let q9:=q8.2
   let q10:=q9.2
   let q11:=q10.2
   let q12:=q11.2
   let q13:=q12.2
   let q14:=q13.1
   let Zb:=q13.2
   let q16:=Zb.1
   let q17:=q7.1
   let q18:=q8.1
   let q19:=Zb.2
   let q20:=q9.1
   let q21:=q10.1
   let q22:=q11.1
   let q23:=q12.1
   let q24:=(M.pU M.Am alO)
   let q25:=(M.ajF (M.ah.mk (M.ae.mk q4 q6 q14 q16) q17 q18 q19 q20 q21 q22 q23) (Option.getD q24 Inhabited.default))
   let q26:=(Option.getD q25 Inhabited.default)
   let q27:=q26.1
   let q28:=q26.2
   let q29:=q28.1
   let q30:=q28.2
   let q31:=q30.2
   let q32:=q31.2
   let q33:=q32.2
   let q34:=q33.2
   let q35:=q34.2
   let q36:=q35.2
   let q37:=q36.2
   let q38:=q37.2
   let q39:=q38.1
   let q40:=q38.2
   let q41:=q40.1
   let q42:=q30.1
   let q43:=q31.1
   let q44:=q40.2
   let q45:=q32.1
   let XQ:=q33.1
   let q47:=q34.1
   let XR:=q35.1
   let q49:=(M.ajE (M.ah.mk (M.ae.mk q4 q6 q14 q16) q17 q18 q19 q20 q21 q22 q23) (Option.getD q24 Inhabited.default))
   let q50:=(Option.getD q49 Inhabited.default)
   let q51:=(M.qf (M.ah.mk (M.ae.mk q27 q29 q39 q41) q42 q43 q44 q45 XQ q47 XR) (M.ah.re q50.1))
   let Vh:=(!(Option.getD q51 Inhabited.default))
   let Gi:=q50.2
   let Qq:=(q36.1 !=Gi.1)
   let Ua:=(q37.1 !=Gi.2)
   let q56:=((Vh||Qq)||Ua)
   bif q56 then
    let q57:=(Option.isSome q51)
    let q58:=(Option.isSome q25)
    let Zc:=((Option.isSome q1)&&((Option.isSome q0)&&true))
    let q60:=(q57&&(q58&&((Option.isSome q24)&&((Option.isSome q2)&&((Option.isSome q49)&&((Option.isSome q24)&&((Option.isSome q2)&&Zc)))))))
    bif q60 then
     some false
    else
     none
   else
    let q57:=(M.qf (M.ah.mk (M.ae.mk q4 q6 q14 q16) q17 q18 q19 q20 q21 q22 q23) (M.ah.mk (M.ae.mk q4 q6 q14 q16) q17 q18 q19 q20 q21 q22 q23))
    bif (!(Option.getD q57 Inhabited.default)) then
     let q58:=(Option.isSome q51)
     let Zc:=(Option.isSome q25)
     let q60:=((Option.isSome q1)&&((Option.isSome q0)&&true))
     let q61:=(q58&&(Zc&&((Option.isSome q24)&&((Option.isSome q2)&&((Option.isSome q49)&&((Option.isSome q24)&&((Option.isSome q2)&&q60)))))))
     let Js:=((Option.isSome q57)&&((Option.isSome q2)&&q61))
     bif Js then
      some false
     else
      none
    else
     let q58:=(M.pV M.Ap (Option.getD q24 Inhabited.default) (Option.getD q24 Inhabited.default))
     bif (!(Option.getD q58 Inhabited.default)) then
      let Zc:=(Option.isSome q51)
      let q60:=(Option.isSome q25)
      let q61:=((Option.isSome q1)&&((Option.isSome q0)&&true))
      let Js:=(Zc&&(q60&&((Option.isSome q24)&&((Option.isSome q2)&&((Option.isSome q49)&&((Option.isSome q24)&&((Option.isSome q2)&&q61)))))))
      let Gj:=((Option.isSome q57)&&((Option.isSome q2)&&Js))
      let O0:=((Option.isSome q58)&&((Option.isSome q24)&&Gj))
      bif O0 then
       some false
      else
       none
     else
      let Zc:=(M.jJ q4 q6 q17 q18 q20 q21 q22 q23 (1:Int) q14 q16 q19)
      let q60:=Inhabited.default
      let q61:=(M.Ad (Option.getD Zc q60).1 (Option.getD q24 Inhabited.default))
      bif ((((decide ((Option.getD q61 Inhabited.default).1<(0:Int)))||Vh)||Qq)||Ua) then
       let Js:=(Option.isSome q51)
       let Gj:=(Option.isSome q25)
       let O0:=((Option.isSome q1)&&((Option.isSome q0)&&true))
       let Vj:=(Js&&(Gj&&((Option.isSome q24)&&((Option.isSome q2)&&((Option.isSome q49)&&((Option.isSome q24)&&((Option.isSome q2)&&O0)))))))
       let Vk:=((Option.isSome q57)&&((Option.isSome q2)&&Vj))
       let Vl:=((Option.isSome q58)&&((Option.isSome q24)&&Vk))
       let Zd:=((Js||(!((decide ((Option.getD q61 Inhabited.default).1<(0:Int)))==false)))&&((Option.isSome q61)&&((Option.isSome Zc)&&Vl)))
       bif Zd then
        some false
       else
        none
      else
       let Js:=(M.jJ q27 q29 q42 q43 q45 XQ q47 XR (1:Int) q39 q41 q44)
       let Gj:=(Option.getD Js q60)
       let O0:=Gj.2
       let Vj:=O0.2
       let Vk:=(M.nN (M.ah.mk (M.ae.mk q27 q29 O0.1 Vj.1) q42 q43 Vj.2 q45 XQ q47 XR) (1:Int))
       let Vl:=(Option.getD Vk Inhabited.default)
       bif (decide (Vl<(0:Int))) then
        let Zd:=(Option.isSome Vk)
        let q69:=(Option.isSome q51)
        let q70:=(Option.isSome q25)
        let q71:=((Option.isSome q1)&&((Option.isSome q0)&&true))
        let q72:=(q69&&(q70&&((Option.isSome q24)&&((Option.isSome q2)&&((Option.isSome q49)&&((Option.isSome q24)&&((Option.isSome q2)&&q71)))))))
        let q73:=((Option.isSome q57)&&((Option.isSome q2)&&q72))
        let q74:=((Option.isSome q58)&&((Option.isSome q24)&&q73))
        let q75:=((q69||(!((decide ((Option.getD q61 Inhabited.default).1<(0:Int)))==false)))&&((Option.isSome q61)&&((Option.isSome Zc)&&q74)))
        let q76:=(Zd&&((Option.isSome Js)&&q75))
        bif q76 then
         some false
        else
         none
       else
        let Zd:=(Vl !=Gj.1)
        bif Zd then
         let q69:=(Option.isSome Vk)
         let q70:=(Option.isSome q51)
         let q71:=(Option.isSome q25)
         let q72:=((Option.isSome q1)&&((Option.isSome q0)&&true))
         let q73:=(q70&&(q71&&((Option.isSome q24)&&((Option.isSome q2)&&((Option.isSome q49)&&((Option.isSome q24)&&((Option.isSome q2)&&q72)))))))
         let q74:=((Option.isSome q57)&&((Option.isSome q2)&&q73))
         let q75:=((Option.isSome q58)&&((Option.isSome q24)&&q74))
         let q76:=((q70||(!((decide ((Option.getD q61 Inhabited.default).1<(0:Int)))==false)))&&((Option.isSome q61)&&((Option.isSome Zc)&&q75)))
         let q77:=(q69&&((Option.isSome Js)&&q76))
         bif q77 then
          some false
         else
          none
        else
         bif q56 then
          let q69:=(Option.isSome q51)
          let q70:=(Option.isSome q25)
          let q71:=(Option.isSome Vk)
          let q72:=((Option.isSome q1)&&((Option.isSome q0)&&true))
          let q73:=(q69&&(q70&&((Option.isSome q24)&&((Option.isSome q2)&&((Option.isSome q49)&&((Option.isSome q24)&&((Option.isSome q2)&&q72)))))))
          let q74:=((Option.isSome q57)&&((Option.isSome q2)&&q73))
          let q75:=((Option.isSome q58)&&((Option.isSome q24)&&q74))
          let q76:=((q69||(!((decide ((Option.getD q61 Inhabited.default).1<(0:Int)))==false)))&&((Option.isSome q61)&&((Option.isSome Zc)&&q75)))
          let q77:=(q71&&((Option.isSome Js)&&q76))
          let q78:=(q69&&(q70&&((Option.isSome q24)&&((Option.isSome q2)&&q77))))
          bif q78 then
           some false
          else
           none
         else
          bif (decide (Vl<(0:Int))) then
           let q69:=(Option.isSome Vk)
           let q70:=(Option.isSome q51)
           let q71:=(Option.isSome q25)
           let q72:=((Option.isSome q1)&&((Option.isSome q0)&&true))
           let q73:=(q70&&(q71&&((Option.isSome q24)&&((Option.isSome q2)&&((Option.isSome q49)&&((Option.isSome q24)&&((Option.isSome q2)&&q72)))))))
           let q74:=((Option.isSome q57)&&((Option.isSome q2)&&q73))
           let q75:=((Option.isSome q58)&&((Option.isSome q24)&&q74))
           let q76:=((q70||(!((decide ((Option.getD q61 Inhabited.default).1<(0:Int)))==false)))&&((Option.isSome q61)&&((Option.isSome Zc)&&q75)))
           let q77:=(q69&&((Option.isSome Js)&&q76))
           let q78:=(q70&&(q71&&((Option.isSome q24)&&((Option.isSome q2)&&q77))))
           let q79:=(q69&&q78)
           bif q79 then
            some false
           else
            none
          else
           bif Zd then
            let q69:=(Option.isSome Vk)
            let q70:=(Option.isSome q51)
            let q71:=(Option.isSome q25)
            let q72:=((Option.isSome q1)&&((Option.isSome q0)&&true))
            let q73:=(q70&&(q71&&((Option.isSome q24)&&((Option.isSome q2)&&((Option.isSome q49)&&((Option.isSome q24)&&((Option.isSome q2)&&q72)))))))
            let q74:=((Option.isSome q57)&&((Option.isSome q2)&&q73))
            let q75:=((Option.isSome q58)&&((Option.isSome q24)&&q74))
            let q76:=((q70||(!((decide ((Option.getD q61 Inhabited.default).1<(0:Int)))==false)))&&((Option.isSome q61)&&((Option.isSome Zc)&&q75)))
            let q77:=(q69&&((Option.isSome Js)&&q76))
            let q78:=(q70&&(q71&&((Option.isSome q24)&&((Option.isSome q2)&&q77))))
            let q79:=(q69&&q78)
            bif q79 then
             some false
            else
             none
           else
            let q69:=(Option.isSome Vk)
            let q70:=(Option.isSome q51)
            let q71:=(Option.isSome q25)
            let q72:=((Option.isSome q1)&&((Option.isSome q0)&&true))
            let q73:=(q70&&(q71&&((Option.isSome q24)&&((Option.isSome q2)&&((Option.isSome q49)&&((Option.isSome q24)&&((Option.isSome q2)&&q72)))))))
            let q74:=((Option.isSome q57)&&((Option.isSome q2)&&q73))
            let q75:=((Option.isSome q58)&&((Option.isSome q24)&&q74))
            let q76:=((q70||(!((decide ((Option.getD q61 Inhabited.default).1<(0:Int)))==false)))&&((Option.isSome q61)&&((Option.isSome Zc)&&q75)))
            let q77:=(q69&&((Option.isSome Js)&&q76))
            let q78:=(q70&&(q71&&((Option.isSome q24)&&((Option.isSome q2)&&q77))))
            let q79:=(q69&&q78)
            bif q79 then
             some true
            else
             none
end M
