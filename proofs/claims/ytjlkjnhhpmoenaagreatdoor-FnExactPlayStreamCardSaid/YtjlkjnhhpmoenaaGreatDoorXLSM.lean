/-
  Part of the proof of the claim.
-/
import Derived.Test.YtjlkjnhhpmoenaaGreatDoorXQdata
import Derived.Test.YtjlkjnhhpmoenaaGreatDoorXQhand3
set_option linter.unusedVariables false
set_option maxRecDepth 100000
noncomputable section
namespace M
def mM (a:(List (List UInt8))):Nat->Int->Int->Option ((Int)⊕(Int))
 |0,_,_=>none
 |fuel+1,left,i=>
 bif (decide (i<((List.length a):Int))) then
 let q0:=(Go.IntKind.wrap Go.IntKind.i64 (left-((List.length (List.getD a (Int.toNat i) [])):Int)))
 bif (decide (q0<(0:Int))) then
 bif ((Go.V.inB i (List.length a))&&true) then
 some (.inl (-(1:Int)))
 else
 none
 else
 bif ((Go.V.inB i (List.length a))&&true) then
 M.mM a fuel q0 (Go.IntKind.wrap Go.IntKind.i64 (i+(1:Int)))
 else
 none
 else
 some ((.inr (left)))
def wU (a:(List (List UInt8))) (left:Int):Option (Int):=
 bif (decide ((Go.IntKind.wrap Go.IntKind.i64 (left-((List.length a):Int)))<(0:Int))) then
 some (-(1:Int))
 else
 match (M.mM a Go.V.aG (Go.IntKind.wrap Go.IntKind.i64 (left-((List.length a):Int))) (0:Int)) with
 |none=>none
 |some y0=>
 (match y0 with
 | .inl a1=>
 some a1
 | .inr b1=>
 some b1)
def qM (aV:M.ae->Int->Option (Int)) (a:(List M.ae)):Nat->Int->Int->Option ((Int)⊕(Int))
 |0,_,_=>none
 |fuel+1,left,i=>
 bif (decide (i<((List.length a):Int))) then
 let q0:=(Option.getD (aV (M.ae.re (List.getD a (Int.toNat i) M.ae.zero)) left) default)
 bif (decide (q0<(0:Int))) then
 let q1:=((Option.isSome (aV (M.ae.re (List.getD a (Int.toNat i) M.ae.zero)) left))&&((Go.V.inB i (List.length a))&&true))
 bif q1 then
 some (.inl (-(1:Int)))
 else
 none
 else
 let q1:=((Option.isSome (aV (M.ae.re (List.getD a (Int.toNat i) M.ae.zero)) left))&&((Go.V.inB i (List.length a))&&true))
 bif q1 then
 M.qM aV a fuel q0 (Go.IntKind.wrap Go.IntKind.i64 (i+(1:Int)))
 else
 none
 else
 some ((.inr (left)))
def C9 (aV:M.ae->Int->Option (Int)) (a:(List M.ae)) (left:Int):Option (Int):=
 bif (decide ((Go.IntKind.wrap Go.IntKind.i64 (left-((List.length a):Int)))<(0:Int))) then
 some (-(1:Int))
 else
 match (M.qM aV a Go.V.aG (Go.IntKind.wrap Go.IntKind.i64 (left-((List.length a):Int))) (0:Int)) with
 |none=>none
 |some y0=>
 (match y0 with
 | .inl a1=>
 some a1
 | .inr b1=>
 some b1)
def Dw (aV:M.ae->Int->Option (Int)) (a:M.ae) (left:Int):Option (Int):=
 bif (decide ((Go.IntKind.wrap Go.IntKind.i64 (left-((List.length (M.ae.Name a)):Int)))<(0:Int))) then
 some (-(1:Int))
 else
 let q0:=(M.wU (M.ae.aJ a) (Go.IntKind.wrap Go.IntKind.i64 (left-((List.length (M.ae.Name a)):Int))))
 let q1:=(Option.getD q0 default)
 bif (decide (q1<(0:Int))) then
 let q2:=((Option.isSome q0)&&true)
 bif q2 then
 some (-(1:Int))
 else
 none
 else
 let q2:=(M.C9 aV (M.ae.Kids a) q1)
 let q3:=(Option.getD q2 default)
 bif (decide (q3<(0:Int))) then
 let q4:=((Option.isSome q0)&&true)
 let q5:=((Option.isSome q2)&&q4)
 bif q5 then
 some (-(1:Int))
 else
 none
 else
 let q4:=((Option.isSome q0)&&true)
 let q5:=((Option.isSome q2)&&q4)
 bif q5 then
 some q3
 else
 none
def vZ : Nat->M.ae->Int->Option (Int)
 |0=>fun _ _=>none
 |n+1=>Dw (vZ n)
def Qq : M.ae->Int->Option (Int):=vZ Go.V.aG
def kG (a:(List (List UInt8))):Nat->Int->(List (List UInt8))->Option ((List (List UInt8)))
 |0,_,_=>none
 |fuel+1,i,out=>
 bif (decide (i<((List.length a):Int))) then
 bif ((Go.V.inB i (List.length out))&&((Go.V.inB i (List.length a))&&true)) then
 M.kG a fuel (Go.IntKind.wrap Go.IntKind.i64 (i+(1:Int))) (List.set out (Int.toNat i) (List.getD a (Int.toNat i) []))
 else
 none
 else
 some (out)
def wV (a:(List (List UInt8))):Option ((List (List UInt8))):=
 match (M.kG a Go.V.aG (0:Int) (List.replicate (Int.toNat ((List.length a):Int)) [])) with
 |none=>none
 |some y0=>
 bif (((decide (((List.length a):Int)<=((List.length a):Int)))&&(decide (((List.length a):Int)<=(1073741824:Int))))&&true) then
 some y0
 else
 none
def oG (aX:M.ae->Option (Int×(List UInt8)×(List (List UInt8))×(List M.ae))) (a:(List M.ae)):Nat->Int->(List M.ae)->Option ((List M.ae))
 |0,_,_=>none
 |fuel+1,i,out=>
 bif (decide (i<((List.length a):Int))) then
 bif ((Go.V.inB i (List.length out))&&((Option.isSome (aX (M.ae.re (List.getD a (Int.toNat i) M.ae.zero))))&&((Go.V.inB i (List.length a))&&true))) then
 let q0:=(Option.getD (aX (M.ae.re (List.getD a (Int.toNat i) M.ae.zero))) default)
 let q1:=q0.2
 let q2:=q1.2
 M.oG aX a fuel (Go.IntKind.wrap Go.IntKind.i64 (i+(1:Int))) (List.set out (Int.toNat i) (M.ae.mk q0.1 q1.1 q2.1 q2.2))
 else
 none
 else
 some (out)
def Dc (aX:M.ae->Option (Int×(List UInt8)×(List (List UInt8))×(List M.ae))) (a:(List M.ae)):Option ((List M.ae)):=
 match (M.oG aX a Go.V.aG (0:Int) (List.replicate (Int.toNat ((List.length a):Int)) (M.ae.mk (0:Int) [] [] []))) with
 |none=>none
 |some y0=>
 bif (((decide (((List.length a):Int)<=((List.length a):Int)))&&(decide (((List.length a):Int)<=(1073741824:Int))))&&true) then
 some y0
 else
 none
def Dy (aX:M.ae->Option (Int×(List UInt8)×(List (List UInt8))×(List M.ae))) (a:M.ae):Option (Int×(List UInt8)×(List (List UInt8))×(List M.ae)):=
 let q0:=(M.Dc aX (M.ae.Kids a))
 let q1:=(M.wV (M.ae.aJ a))
 bif ((Option.isSome q0)&&((Option.isSome q1)&&true)) then
 some ((M.ae.Kind a),(M.ae.Name a),(Option.getD q1 default),(Option.getD q0 default))
 else
 none
def wo : Nat->M.ae->Option (Int×(List UInt8)×(List (List UInt8))×(List M.ae))
 |0=>fun _=>none
 |n+1=>Dy (wo n)
def Qs : M.ae->Option (Int×(List UInt8)×(List (List UInt8))×(List M.ae)):=wo Go.V.aG
def mO (a:(List (List UInt8))) (b:(List (List UInt8))):Nat->Int->Option ((Bool)⊕(Unit))
 |0,_=>none
 |fuel+1,i=>
 bif (decide (i<((List.length a):Int))) then
 bif (!((List.getD a (Int.toNat i) [])==(List.getD b (Int.toNat i) []))) then
 let q0:=((Go.V.inB i (List.length b))&&((Go.V.inB i (List.length a))&&true))
 bif q0 then
 some (.inl false)
 else
 none
 else
 let q0:=((Go.V.inB i (List.length b))&&((Go.V.inB i (List.length a))&&true))
 bif q0 then
 M.mO a b fuel (Go.IntKind.wrap Go.IntKind.i64 (i+(1:Int)))
 else
 none
 else
 some ((.inr (())))
def wW (a:(List (List UInt8))) (b:(List (List UInt8))):Option (Bool):=
 bif (((List.length a):Int) !=((List.length b):Int)) then
 some false
 else
 match (M.mO a b Go.V.aG (0:Int)) with
 |none=>none
 |some y0=>
 (match y0 with
 | .inl a1=>
 some a1
 | .inr b1=>
 some true)
def qN (aW:M.ae->M.ae->Option (Bool)) (a:(List M.ae)) (b:(List M.ae)):Nat->Int->Option ((Bool)⊕(Unit))
 |0,_=>none
 |fuel+1,i=>
 bif (decide (i<((List.length a):Int))) then
 bif (!(Option.getD (aW (M.ae.re (List.getD a (Int.toNat i) M.ae.zero)) (M.ae.re (List.getD b (Int.toNat i) M.ae.zero))) default)) then
 let q0:=((Option.isSome (aW (M.ae.re (List.getD a (Int.toNat i) M.ae.zero)) (M.ae.re (List.getD b (Int.toNat i) M.ae.zero))))&&((Go.V.inB i (List.length b))&&((Go.V.inB i (List.length a))&&true)))
 bif q0 then
 some (.inl false)
 else
 none
 else
 let q0:=((Option.isSome (aW (M.ae.re (List.getD a (Int.toNat i) M.ae.zero)) (M.ae.re (List.getD b (Int.toNat i) M.ae.zero))))&&((Go.V.inB i (List.length b))&&((Go.V.inB i (List.length a))&&true)))
 bif q0 then
 M.qN aW a b fuel (Go.IntKind.wrap Go.IntKind.i64 (i+(1:Int)))
 else
 none
 else
 some ((.inr (())))
def Df (aW:M.ae->M.ae->Option (Bool)) (a:(List M.ae)) (b:(List M.ae)):Option (Bool):=
 bif (((List.length a):Int) !=((List.length b):Int)) then
 some false
 else
 match (M.qN aW a b Go.V.aG (0:Int)) with
 |none=>none
 |some y0=>
 (match y0 with
 | .inl a1=>
 some a1
 | .inr b1=>
 some true)
def DC (aW:M.ae->M.ae->Option (Bool)) (a:M.ae) (b:M.ae):Option (Bool):=
 bif ((M.ae.Kind a) !=(M.ae.Kind b)) then
 some false
 else
 bif (!((M.ae.Name a)==(M.ae.Name b))) then
 some false
 else
 let q0:=(M.wW (M.ae.aJ a) (M.ae.aJ b))
 bif (!(Option.getD q0 default)) then
 bif ((Option.isSome q0)&&true) then
 some false
 else
 none
 else
 let q1:=(M.Df aW (M.ae.Kids a) (M.ae.Kids b))
 bif (!(Option.getD q1 default)) then
 bif ((Option.isSome q1)&&((Option.isSome q0)&&true)) then
 some false
 else
 none
 else
 bif ((Option.isSome q1)&&((Option.isSome q0)&&true)) then
 some true
 else
 none
def wu : Nat->M.ae->M.ae->Option (Bool)
 |0=>fun _ _=>none
 |n+1=>DC (wu n)
def Qv : M.ae->M.ae->Option (Bool):=wu Go.V.aG
def rE (a:Int) (b:Int):Option (Int):=
 bif (decide (b<a)) then
 some a
 else
 some b
def oH (bM:M.ae->Int->Option (Int×Int)) (deep:Int):Nat->Int->Int->Int->M.ae->Option ((Int×Int)⊕(Int×Int))
 |0,_,_,_,_=>none
 |fuel+1,most,parts,i,t=>
 bif (decide (i<((List.length (M.ae.Kids t)):Int))) then
 let q0:=(Option.getD (bM (M.ae.re (List.getD (M.ae.Kids t) (Int.toNat i) M.ae.zero)) (Go.IntKind.wrap Go.IntKind.i64 (deep+(1:Int)))) default)
 let q1:=(Go.IntKind.wrap Go.IntKind.i64 (parts+q0.2))
 bif (decide ((24:Int)<q1)) then
 let q2:=(M.rE most q0.1)
 let q3:=((Option.isSome q2)&&((Option.isSome (bM (M.ae.re (List.getD (M.ae.Kids t) (Int.toNat i) M.ae.zero)) (Go.IntKind.wrap Go.IntKind.i64 (deep+(1:Int)))))&&((Go.V.inB i (List.length (M.ae.Kids t)))&&true)))
 bif q3 then
 some (.inl ((5:Int),(25:Int)))
 else
 none
 else
 let q2:=(M.rE most q0.1)
 let q3:=((Option.isSome q2)&&((Option.isSome (bM (M.ae.re (List.getD (M.ae.Kids t) (Int.toNat i) M.ae.zero)) (Go.IntKind.wrap Go.IntKind.i64 (deep+(1:Int)))))&&((Go.V.inB i (List.length (M.ae.Kids t)))&&true)))
 bif q3 then
 M.oH bM deep fuel (Option.getD q2 default) q1 (Go.IntKind.wrap Go.IntKind.i64 (i+(1:Int))) (M.ae.re t)
 else
 none
 else
 some ((.inr ((most,parts))))
def Aw (bM:M.ae->Int->Option (Int×Int)) (t:M.ae) (deep:Int):Option (Int×Int):=
 bif ((decide ((4:Int)<deep))||(decide ((24:Int)<((List.length (M.ae.Kids t)):Int)))) then
 some ((5:Int),(25:Int))
 else
 match (M.oH bM deep Go.V.aG (0:Int) (1:Int) (0:Int) (M.ae.re t)) with
 |none=>none
 |some y0=>
 (match y0 with
 | .inl a1=>
 some (a1.1,a1.2)
 | .inr b1=>
 some ((Go.IntKind.wrap Go.IntKind.i64 (b1.1+(1:Int))),b1.2))
def qF : Nat->M.ae->Int->Option (Int×Int)
 |0=>fun _ _=>none
 |n+1=>Aw (qF n)
def Na : M.ae->Int->Option (Int×Int):=qF Go.V.aG
def EU (n:Int) (low:Int) (high:Int):Option (Bool):=
 some ((decide (low<=n))&&(decide (n<=high)))
def qO (s:(List UInt8)):Nat->Int->Option ((Bool)⊕(Unit))
 |0,_=>none
 |fuel+1,i=>
 bif (decide (i<((List.length s):Int))) then
 let q0:=((((decide (((UInt8.toNat (List.getD s (Int.toNat i) (0:UInt8))):Int)<(97:Int)))||(decide ((122:Int)<((UInt8.toNat (List.getD s (Int.toNat i) (0:UInt8))):Int))))&&((decide (((UInt8.toNat (List.getD s (Int.toNat i) (0:UInt8))):Int)<(48:Int)))||(decide ((57:Int)<((UInt8.toNat (List.getD s (Int.toNat i) (0:UInt8))):Int)))))&&(((UInt8.toNat (List.getD s (Int.toNat i) (0:UInt8))):Int) !=(45:Int)))
 let q1:=(((UInt8.toNat (List.getD s (Int.toNat i) (0:UInt8))):Int)==(45:Int))
 bif (q0||(q1&&(((UInt8.toNat (List.getD s (Int.toNat (Go.IntKind.wrap Go.IntKind.i64 (i-(1:Int)))) (0:UInt8))):Int)==(45:Int)))) then
 let q2:=(((Go.V.inB (Go.IntKind.wrap Go.IntKind.i64 (i-(1:Int))) (List.length s))||(!((q0==false)&&(q1==true))))&&((Go.V.inB i (List.length s))&&true))
 bif q2 then
 some (.inl false)
 else
 none
 else
 let q2:=(((Go.V.inB (Go.IntKind.wrap Go.IntKind.i64 (i-(1:Int))) (List.length s))||(!((q0==false)&&(q1==true))))&&((Go.V.inB i (List.length s))&&true))
 bif q2 then
 M.qO s fuel (Go.IntKind.wrap Go.IntKind.i64 (i+(1:Int)))
 else
 none
 else
 some ((.inr (())))
def wX (s:(List UInt8)):Option (Bool):=
 let q0:=((decide (((List.length s):Int)<(1:Int)))||(decide ((12:Int)<((List.length s):Int))))
 let q1:=(q0||(decide (((UInt8.toNat (List.getD s (Int.toNat (0:Int)) (0:UInt8))):Int)<(97:Int))))
 let q2:=(q1||(decide ((122:Int)<((UInt8.toNat (List.getD s (Int.toNat (0:Int)) (0:UInt8))):Int))))
 bif (q2||(((UInt8.toNat (List.getD s (Int.toNat (Go.IntKind.wrap Go.IntKind.i64 (((List.length s):Int)-(1:Int)))) (0:UInt8))):Int)==(45:Int))) then
 let q3:=(((Go.V.inB (Go.IntKind.wrap Go.IntKind.i64 (((List.length s):Int)-(1:Int))) (List.length s))||(!(q2==false)))&&(((Go.V.inB (0:Int) (List.length s))||(!(q1==false)))&&(((Go.V.inB (0:Int) (List.length s))||(!(q0==false)))&&true)))
 bif q3 then
 some false
 else
 none
 else
 match (M.qO s Go.V.aG (0:Int)) with
 |none=>none
 |some y3=>
 (match y3 with
 | .inl a4=>
 let q5:=(((Go.V.inB (Go.IntKind.wrap Go.IntKind.i64 (((List.length s):Int)-(1:Int))) (List.length s))||(!(q2==false)))&&(((Go.V.inB (0:Int) (List.length s))||(!(q1==false)))&&(((Go.V.inB (0:Int) (List.length s))||(!(q0==false)))&&true)))
 bif q5 then
 some a4
 else
 none
 | .inr b4=>
 let q5:=(((Go.V.inB (Go.IntKind.wrap Go.IntKind.i64 (((List.length s):Int)-(1:Int))) (List.length s))||(!(q2==false)))&&(((Go.V.inB (0:Int) (List.length s))||(!(q1==false)))&&(((Go.V.inB (0:Int) (List.length s))||(!(q0==false)))&&true)))
 bif q5 then
 some true
 else
 none)
def iV (list:(List (List UInt8))) (i:Int):Nat->Int->Option ((Bool)⊕((List (List UInt8))×Int))
 |0,_=>none
 |fuel+1,k=>
 bif (decide (k<i)) then
 bif ((List.getD list (Int.toNat k) [])==(List.getD list (Int.toNat i) [])) then
 let q0:=((Go.V.inB i (List.length list))&&((Go.V.inB k (List.length list))&&true))
 bif q0 then
 some (.inl false)
 else
 none
 else
 let q0:=((Go.V.inB i (List.length list))&&((Go.V.inB k (List.length list))&&true))
 bif q0 then
 M.iV list i fuel (Go.IntKind.wrap Go.IntKind.i64 (k+(1:Int)))
 else
 none
 else
 some ((.inr ((list,i))))
def jr : Nat->(List (List UInt8))->Int->Option ((Bool)⊕(Unit))
 |0,_,_=>none
 |fuel+1,list,i=>
 bif (decide (i<((List.length list):Int))) then
 let q0:=(M.wX (List.getD list (Int.toNat i) []))
 bif (!(Option.getD q0 default)) then
 let q1:=((Option.isSome q0)&&((Go.V.inB i (List.length list))&&true))
 bif q1 then
 some (.inl false)
 else
 none
 else
 match (M.iV list i Go.V.aG (0:Int)) with
 |none=>none
 |some y1=>
 (match y1 with
 | .inl a2=>
 let q3:=((Option.isSome q0)&&((Go.V.inB i (List.length list))&&true))
 bif q3 then
 some (.inl a2)
 else
 none
 | .inr b2=>
 let q3:=((Option.isSome q0)&&((Go.V.inB i (List.length list))&&true))
 bif q3 then
 M.jr fuel b2.1 (Go.IntKind.wrap Go.IntKind.i64 (b2.2+(1:Int)))
 else
 none)
 else
 some ((.inr (())))
def wY (list:(List (List UInt8))):Option (Bool):=
 bif ((decide (((List.length list):Int)<(1:Int)))||(decide ((16:Int)<((List.length list):Int)))) then
 some false
 else
 match (M.jr Go.V.aG list (0:Int)) with
 |none=>none
 |some y0=>
 (match y0 with
 | .inl a1=>
 some a1
 | .inr b1=>
 some true)
def je : Nat->Int->M.ae->Option ((Bool)⊕(Unit))
 |0,_,_=>none
 |fuel+1,i,t=>
 bif (decide (i<((List.length (M.ae.Kids t)):Int))) then
 bif ((M.ae.Kind (List.getD (M.ae.Kids t) (Int.toNat i) M.ae.zero))==(1:Int)) then
 bif ((Go.V.inB i (List.length (M.ae.Kids t)))&&true) then
 some (.inl true)
 else
 none
 else
 bif ((Go.V.inB i (List.length (M.ae.Kids t)))&&true) then
 M.je fuel (Go.IntKind.wrap Go.IntKind.i64 (i+(1:Int))) (M.ae.re t)
 else
 none
 else
 some ((.inr (())))
def sU (t:M.ae):Option (Bool):=
 match (M.je Go.V.aG (0:Int) (M.ae.re t)) with
 |none=>none
 |some y0=>
 (match y0 with
 | .inl a1=>
 some a1
 | .inr b1=>
 some false)
def lJ (bU:M.ae->Int->Int->Option (Bool)) (low:Int) (high:Int):Nat->Int->M.ae->Option ((Bool)⊕(Unit))
 |0,_,_=>none
 |fuel+1,i,t=>
 bif (decide (i<((List.length (M.ae.Kids t)):Int))) then
 bif (Option.getD (bU (M.ae.re (List.getD (M.ae.Kids t) (Int.toNat i) M.ae.zero)) low high) default) then
 let q0:=((Option.isSome (bU (M.ae.re (List.getD (M.ae.Kids t) (Int.toNat i) M.ae.zero)) low high))&&((Go.V.inB i (List.length (M.ae.Kids t)))&&true))
 bif q0 then
 some (.inl true)
 else
 none
 else
 let q0:=((Option.isSome (bU (M.ae.re (List.getD (M.ae.Kids t) (Int.toNat i) M.ae.zero)) low high))&&((Go.V.inB i (List.length (M.ae.Kids t)))&&true))
 bif q0 then
 M.lJ bU low high fuel (Go.IntKind.wrap Go.IntKind.i64 (i+(1:Int))) (M.ae.re t)
 else
 none
 else
 some ((.inr (())))
def DJ (bU:M.ae->Int->Int->Option (Bool)) (t:M.ae) (low:Int) (high:Int):Option (Bool):=
 bif ((decide (low<=(M.ae.Kind t)))&&(decide ((M.ae.Kind t)<=high))) then
 some true
 else
 match (M.lJ bU low high Go.V.aG (0:Int) (M.ae.re t)) with
 |none=>none
 |some y0=>
 (match y0 with
 | .inl a1=>
 some a1
 | .inr b1=>
 some false)
def mP : Nat->M.ae->Int->Int->Option (Bool)
 |0=>fun _ _ _=>none
 |n+1=>DJ (mP n)
def ve : M.ae->Int->Int->Option (Bool):=mP Go.V.aG
def zg (t:M.ae):Option (Bool):=
 let q0:=(((M.ae.Kind t)==(20:Int))||((M.ae.Kind t)==(21:Int)))
 let q1:=(!(q0==(!((M.ae.Name t)==[]))))
 let q2:=(M.wX (M.ae.Name t))
 let q3:=((decide ((16:Int)<=(M.ae.Kind t)))&&(decide ((M.ae.Kind t)<=(19:Int))))
 let q4:=((q1||(q0&&(!(Option.getD q2 default))))||(!(q3==(decide ((0:Int)<((List.length (M.ae.aJ t)):Int))))))
 let q5:=(M.wY (M.ae.aJ t))
 bif (q4||(q3&&(!(Option.getD q5 default)))) then
 let q6:=(((Option.isSome q5)||(!((q4==false)&&(q3==true))))&&(((Option.isSome q2)||(!((q1==false)&&(q0==true))))&&true))
 bif q6 then
 some false
 else
 none
 else
 bif (bif ((M.ae.Kind t)==(12:Int)) then ((M.ae.Kind t)==(12:Int)) else ((M.ae.Kind t)==(13:Int))) then
 let q6:=(M.sU (M.ae.re t))
 let q7:=(!((((List.length (M.ae.Kids t)):Int)==(1:Int))==true))
 let q8:=(((Option.isSome q5)||(!((q4==false)&&(q3==true))))&&(((Option.isSome q2)||(!((q1==false)&&(q0==true))))&&true))
 let q9:=((q8||(!((M.ae.Kind t)==(12:Int))))&&(q8||((M.ae.Kind t)==(12:Int))))
 bif (((Option.isSome q6)||q7)&&q9) then
 some ((((List.length (M.ae.Kids t)):Int)==(1:Int))&&(!(Option.getD q6 default)))
 else
 none
 else
 bif (bif ((M.ae.Kind t)==(22:Int)) then ((M.ae.Kind t)==(22:Int)) else ((M.ae.Kind t)==(23:Int))) then
 let q6:=(M.ve (M.ae.re (List.getD (M.ae.Kids t) (Int.toNat (0:Int)) M.ae.zero)) (21:Int) (21:Int))
 let q7:=(!((((List.length (M.ae.Kids t)):Int)==(1:Int))==true))
 let q8:=(((Option.isSome q5)||(!((q4==false)&&(q3==true))))&&(((Option.isSome q2)||(!((q1==false)&&(q0==true))))&&true))
 let q9:=((q8||(!((M.ae.Kind t)==(12:Int))))&&(q8||((M.ae.Kind t)==(12:Int))))
 let q10:=((q9||(!((M.ae.Kind t)==(22:Int))))&&(q9||((M.ae.Kind t)==(22:Int))))
 bif (((Option.isSome q6)||q7)&&(((Go.V.inB (0:Int) (List.length (M.ae.Kids t)))||q7)&&q10)) then
 some ((((List.length (M.ae.Kids t)):Int)==(1:Int))&&(!(Option.getD q6 default)))
 else
 none
 else
 bif ((M.ae.Kind t)==(14:Int)) then
 let q6:=(((Option.isSome q5)||(!((q4==false)&&(q3==true))))&&(((Option.isSome q2)||(!((q1==false)&&(q0==true))))&&true))
 let q7:=((q6||(!((M.ae.Kind t)==(12:Int))))&&(q6||((M.ae.Kind t)==(12:Int))))
 let q8:=((q7||(!((M.ae.Kind t)==(22:Int))))&&(q7||((M.ae.Kind t)==(22:Int))))
 bif q8 then
 some (((List.length (M.ae.Kids t)):Int)==(2:Int))
 else
 none
 else
 bif ((M.ae.Kind t)==(15:Int)) then
 let q6:=(M.sU (M.ae.re t))
 let q7:=((decide ((1:Int)<=((List.length (M.ae.Kids t)):Int)))&&(decide (((List.length (M.ae.Kids t)):Int)<=(6:Int))))
 let q8:=(((Option.isSome q5)||(!((q4==false)&&(q3==true))))&&(((Option.isSome q2)||(!((q1==false)&&(q0==true))))&&true))
 let q9:=((q8||(!((M.ae.Kind t)==(12:Int))))&&(q8||((M.ae.Kind t)==(12:Int))))
 let q10:=((q9||(!((M.ae.Kind t)==(22:Int))))&&(q9||((M.ae.Kind t)==(22:Int))))
 bif (((Option.isSome q6)||(!(q7==true)))&&q10) then
 some (q7&&(!(Option.getD q6 default)))
 else
 none
 else
 bif ((M.ae.Kind t)==(16:Int)) then
 let q6:=(M.sU (M.ae.re t))
 let q7:=(((Option.isSome q5)||(!((q4==false)&&(q3==true))))&&(((Option.isSome q2)||(!((q1==false)&&(q0==true))))&&true))
 let q8:=((q7||(!((M.ae.Kind t)==(12:Int))))&&(q7||((M.ae.Kind t)==(12:Int))))
 let q9:=((q8||(!((M.ae.Kind t)==(22:Int))))&&(q8||((M.ae.Kind t)==(22:Int))))
 bif (((Option.isSome q6)||(!((((List.length (M.ae.Kids t)):Int)==((List.length (M.ae.aJ t)):Int))==true)))&&q9) then
 some ((((List.length (M.ae.Kids t)):Int)==((List.length (M.ae.aJ t)):Int))&&(!(Option.getD q6 default)))
 else
 none
 else
 bif ((M.ae.Kind t)==(17:Int)) then
 let q6:=(((Option.isSome q5)||(!((q4==false)&&(q3==true))))&&(((Option.isSome q2)||(!((q1==false)&&(q0==true))))&&true))
 let q7:=((q6||(!((M.ae.Kind t)==(12:Int))))&&(q6||((M.ae.Kind t)==(12:Int))))
 let q8:=((q7||(!((M.ae.Kind t)==(22:Int))))&&(q7||((M.ae.Kind t)==(22:Int))))
 bif q8 then
 some (((List.length (M.ae.Kids t)):Int)==((List.length (M.ae.aJ t)):Int))
 else
 none
 else
 let q6:=(((Option.isSome q5)||(!((q4==false)&&(q3==true))))&&(((Option.isSome q2)||(!((q1==false)&&(q0==true))))&&true))
 let q7:=((q6||(!((M.ae.Kind t)==(12:Int))))&&(q6||((M.ae.Kind t)==(12:Int))))
 let q8:=((q7||(!((M.ae.Kind t)==(22:Int))))&&(q7||((M.ae.Kind t)==(22:Int))))
 bif q8 then
 some (((decide ((1:Int)<=(M.ae.Kind t)))&&(decide ((M.ae.Kind t)<=(23:Int))))&&(((List.length (M.ae.Kids t)):Int)==(0:Int)))
 else
 none
def jf (bI:M.ae->Option (Bool)):Nat->Int->M.ae->Option ((Bool)⊕(Unit))
 |0,_,_=>none
 |fuel+1,i,t=>
 bif (decide (i<((List.length (M.ae.Kids t)):Int))) then
 bif (!(Option.getD (bI (M.ae.re (List.getD (M.ae.Kids t) (Int.toNat i) M.ae.zero))) default)) then
 let q0:=((Option.isSome (bI (M.ae.re (List.getD (M.ae.Kids t) (Int.toNat i) M.ae.zero))))&&((Go.V.inB i (List.length (M.ae.Kids t)))&&true))
 bif q0 then
 some (.inl false)
 else
 none
 else
 let q0:=((Option.isSome (bI (M.ae.re (List.getD (M.ae.Kids t) (Int.toNat i) M.ae.zero))))&&((Go.V.inB i (List.length (M.ae.Kids t)))&&true))
 bif q0 then
 M.jf bI fuel (Go.IntKind.wrap Go.IntKind.i64 (i+(1:Int))) (M.ae.re t)
 else
 none
 else
 some ((.inr (())))
def xN (bI:M.ae->Option (Bool)) (t:M.ae):Option (Bool):=
 let q0:=(M.zg (M.ae.re t))
 bif (!(Option.getD q0 default)) then
 bif ((Option.isSome q0)&&true) then
 some false
 else
 none
 else
 match (M.jf bI Go.V.aG (0:Int) (M.ae.re t)) with
 |none=>none
 |some y1=>
 (match y1 with
 | .inl a2=>
 bif ((Option.isSome q0)&&true) then
 some a2
 else
 none
 | .inr b2=>
 bif ((Option.isSome q0)&&true) then
 some true
 else
 none)
def kz : Nat->M.ae->Option (Bool)
 |0=>fun _=>none
 |n+1=>xN (kz n)
def IJ : M.ae->Option (Bool):=kz Go.V.aG
def wZ (dM:M.ae->Int->Option (Int)) (levels:Int) (t11:(List M.ae)) (t12:Int):Nat->Int->Int->Option (Int)
 |0,_,_=>none
 |fuel+1,depth,t13=>
 bif (decide (t13<t12)) then
 bif ((Option.isSome (dM (M.ae.re (List.getD t11 (Int.toNat t13) M.ae.zero)) (Go.IntKind.wrap Go.IntKind.i64 (levels-(1:Int)))))&&((Go.V.inB t13 (List.length t11))&&true)) then
 let q0:=(Option.getD (dM (M.ae.re (List.getD t11 (Int.toNat t13) M.ae.zero)) (Go.IntKind.wrap Go.IntKind.i64 (levels-(1:Int)))) default)
 M.wZ dM levels t11 t12 fuel (bif (decide (depth<q0)) then q0 else depth) (Go.IntKind.wrap Go.IntKind.i64 (t13+(1:Int)))
 else
 none
 else
 some (depth)
def La (dM:M.ae->Int->Option (Int)) (t:M.ae) (levels:Int):Option (Int):=
 bif (levels==(0:Int)) then
 some (1:Int)
 else
 match (M.wZ dM levels (M.ae.Kids t) ((List.length (M.ae.Kids t)):Int) Go.V.aG (0:Int) (0:Int)) with
 |none=>none
 |some y0=>
 some (Go.IntKind.wrap Go.IntKind.i64 (y0+(1:Int)))
def AA : Nat->M.ae->Int->Option (Int)
 |0=>fun _ _=>none
 |n+1=>La (AA n)
def abh : M.ae->Int->Option (Int):=AA Go.V.aG
def sV (dw:M.ae->Option (Int)) (t7:(List M.ae)) (t8:Int):Nat->Int->Int->Option (Int)
 |0,_,_=>none
 |fuel+1,many,t9=>
 bif (decide (t9<t8)) then
 bif ((Option.isSome (dw (M.ae.re (List.getD t7 (Int.toNat t9) M.ae.zero))))&&((Go.V.inB t9 (List.length t7))&&true)) then
 M.sV dw t7 t8 fuel (Go.IntKind.wrap Go.IntKind.i64 (many+(Option.getD (dw (M.ae.re (List.getD t7 (Int.toNat t9) M.ae.zero))) default))) (Go.IntKind.wrap Go.IntKind.i64 (t9+(1:Int)))
 else
 none
 else
 some (many)
def G9 (dw:M.ae->Option (Int)) (t:M.ae):Option (Int):=
 match (M.sV dw (M.ae.Kids t) ((List.length (M.ae.Kids t)):Int) Go.V.aG (1:Int) (0:Int)) with
 |none=>none
 |some y0=>
 some y0
def xg : Nat->M.ae->Option (Int)
 |0=>fun _=>none
 |n+1=>G9 (xg n)
def WN : M.ae->Option (Int):=xg Go.V.aG
def uz (aB:M.ae->Option (Bool)) (kid:M.ae):Option (Bool):=
 bif ((Option.isSome (aB (M.ae.re kid)))&&true) then
 some (!(Option.getD (aB (M.ae.re kid)) default))
 else
 none
def dP (aB:M.ae->Option (Bool)) (s:(List M.ae)) (t7:Int):Nat->Int->Option ((Int)⊕(Unit))
 |0,_=>none
 |fuel+1,t8=>
 bif (decide (t8<t7)) then
 let q0:=(M.uz aB (M.ae.re (List.getD s (Int.toNat t8) M.ae.zero)))
 bif (Option.getD q0 default) then
 let q1:=((Option.isSome q0)&&((Go.V.inB t8 (List.length s))&&true))
 bif q1 then
 some (.inl t8)
 else
 none
 else
 let q1:=((Option.isSome q0)&&((Go.V.inB t8 (List.length s))&&true))
 bif q1 then
 M.dP aB s t7 fuel (Go.IntKind.wrap Go.IntKind.i64 (t8+(1:Int)))
 else
 none
 else
 some ((.inr (())))
def gU (aB:M.ae->Option (Bool)) (s:(List M.ae)):Option (Int):=
 match (M.dP aB s ((List.length s):Int) Go.V.aG (0:Int)) with
 |none=>none
 |some y0=>
 (match y0 with
 | .inl a1=>
 some a1
 | .inr b1=>
 some (-(1:Int)))
def dQ (aB:M.ae->Option (Bool)) (s:(List M.ae)):Option (Bool):=
 let q0:=(M.gU aB s)
 bif ((Option.isSome q0)&&true) then
 some (decide ((0:Int)<=(Option.getD q0 default)))
 else
 none
def sW (n:Int) (low:Int) (high:Int):Option (Bool):=
 some ((decide (low<=n))&&(decide (n<=high)))
def vg (list:(List (List UInt8))):Option (Int):=
 some ((List.length list):Int)
def qH (s:(List UInt8)) (t7:Int):Nat->Int->Option ((Bool)⊕((List UInt8)))
 |0,_=>none
 |fuel+1,t8=>
 bif (decide (t8<t7)) then
 bif ((decide ((97:Int)<=((UInt8.toNat (List.getD s (Int.toNat t8) (0:UInt8))):Int)))&&(decide (((UInt8.toNat (List.getD s (Int.toNat t8) (0:UInt8))):Int)<=(122:Int)))) then
 let q0:=(((Go.V.inB t8 (List.length s))||(!((decide ((48:Int)<=((UInt8.toNat (List.getD s (Int.toNat t8) (0:UInt8))):Int)))==true)))&&((Go.V.inB t8 (List.length s))&&(((Go.V.inB t8 (List.length s))||(!((decide ((97:Int)<=((UInt8.toNat (List.getD s (Int.toNat t8) (0:UInt8))):Int)))==true)))&&((Go.V.inB t8 (List.length s))&&true))))
 bif q0 then
 M.qH s t7 fuel (Go.IntKind.wrap Go.IntKind.i64 (t8+(1:Int)))
 else
 none
 else
 let q0:=(!((decide ((48:Int)<=((UInt8.toNat (List.getD s (Int.toNat t8) (0:UInt8))):Int)))&&(decide (((UInt8.toNat (List.getD s (Int.toNat t8) (0:UInt8))):Int)<=(57:Int)))))
 bif ((t8==(0:Int))||(q0&&(((UInt8.toNat (List.getD s (Int.toNat t8) (0:UInt8))):Int) !=(45:Int)))) then
 let q1:=(((Go.V.inB t8 (List.length s))||(!((decide ((48:Int)<=((UInt8.toNat (List.getD s (Int.toNat t8) (0:UInt8))):Int)))==true)))&&((Go.V.inB t8 (List.length s))&&(((Go.V.inB t8 (List.length s))||(!((decide ((97:Int)<=((UInt8.toNat (List.getD s (Int.toNat t8) (0:UInt8))):Int)))==true)))&&((Go.V.inB t8 (List.length s))&&true))))
 let q2:=(((Go.V.inB t8 (List.length s))||(!(((t8==(0:Int))==false)&&(q0==true))))&&q1)
 bif q2 then
 some (.inl false)
 else
 none
 else
 let q1:=(((UInt8.toNat (List.getD s (Int.toNat t8) (0:UInt8))):Int)==(45:Int))
 bif (q1&&(((UInt8.toNat (List.getD s (Int.toNat (Go.IntKind.wrap Go.IntKind.i64 (t8-(1:Int)))) (0:UInt8))):Int)==(45:Int))) then
 let q2:=(((Go.V.inB t8 (List.length s))||(!((decide ((48:Int)<=((UInt8.toNat (List.getD s (Int.toNat t8) (0:UInt8))):Int)))==true)))&&((Go.V.inB t8 (List.length s))&&(((Go.V.inB t8 (List.length s))||(!((decide ((97:Int)<=((UInt8.toNat (List.getD s (Int.toNat t8) (0:UInt8))):Int)))==true)))&&((Go.V.inB t8 (List.length s))&&true))))
 let q3:=(((Go.V.inB t8 (List.length s))||(!(((t8==(0:Int))==false)&&(q0==true))))&&q2)
 let q4:=(((Go.V.inB (Go.IntKind.wrap Go.IntKind.i64 (t8-(1:Int))) (List.length s))||(!(q1==true)))&&((Go.V.inB t8 (List.length s))&&q3))
 bif q4 then
 some (.inl false)
 else
 none
 else
 let q2:=(((Go.V.inB t8 (List.length s))||(!((decide ((48:Int)<=((UInt8.toNat (List.getD s (Int.toNat t8) (0:UInt8))):Int)))==true)))&&((Go.V.inB t8 (List.length s))&&(((Go.V.inB t8 (List.length s))||(!((decide ((97:Int)<=((UInt8.toNat (List.getD s (Int.toNat t8) (0:UInt8))):Int)))==true)))&&((Go.V.inB t8 (List.length s))&&true))))
 let q3:=(((Go.V.inB t8 (List.length s))||(!(((t8==(0:Int))==false)&&(q0==true))))&&q2)
 let q4:=(((Go.V.inB (Go.IntKind.wrap Go.IntKind.i64 (t8-(1:Int))) (List.length s))||(!(q1==true)))&&((Go.V.inB t8 (List.length s))&&q3))
 bif q4 then
 M.qH s t7 fuel (Go.IntKind.wrap Go.IntKind.i64 (t8+(1:Int)))
 else
 none
 else
 some ((.inr (s)))
def AL (s:(List UInt8)):Option (Bool):=
 match (M.qH s ((List.length s):Int) Go.V.aG (0:Int)) with
 |none=>none
 |some y0=>
 (match y0 with
 | .inl a1=>
 some a1
 | .inr b1=>
 let q2:=((decide ((1:Int)<=((List.length b1):Int)))&&(decide (((List.length b1):Int)<=(12:Int))))
 bif (((Go.V.inB (Go.IntKind.wrap Go.IntKind.i64 (((List.length b1):Int)-(1:Int))) (List.length b1))||(!(q2==true)))&&true) then
 some (q2&&(((UInt8.toNat (List.getD b1 (Int.toNat (Go.IntKind.wrap Go.IntKind.i64 (((List.length b1):Int)-(1:Int)))) (0:UInt8))):Int) !=(45:Int)))
 else
 none)
def rO (name:(List UInt8)):Option (Bool):=
 let q0:=(M.AL name)
 bif ((Option.isSome q0)&&true) then
 some (!(Option.getD q0 default))
 else
 none
def dA (s:(List (List UInt8))) (t7:Int):Nat->Int->Option ((Int)⊕(Unit))
 |0,_=>none
 |fuel+1,t8=>
 bif (decide (t8<t7)) then
 let q0:=(M.rO (List.getD s (Int.toNat t8) []))
 bif (Option.getD q0 default) then
 let q1:=((Option.isSome q0)&&((Go.V.inB t8 (List.length s))&&true))
 bif q1 then
 some (.inl t8)
 else
 none
 else
 let q1:=((Option.isSome q0)&&((Go.V.inB t8 (List.length s))&&true))
 bif q1 then
 M.dA s t7 fuel (Go.IntKind.wrap Go.IntKind.i64 (t8+(1:Int)))
 else
 none
 else
 some ((.inr (())))
def fJ (s:(List (List UInt8))):Option (Int):=
 match (M.dA s ((List.length s):Int) Go.V.aG (0:Int)) with
 |none=>none
 |some y0=>
 (match y0 with
 | .inl a1=>
 some a1
 | .inr b1=>
 some (-(1:Int)))
def dO (s:(List (List UInt8))):Option (Bool):=
 let q0:=(M.fJ s)
 bif ((Option.isSome q0)&&true) then
 some (decide ((0:Int)<=(Option.getD q0 default)))
 else
 none
def zk (labels:(List (List UInt8))):Option (Bool):=
 let q0:=(M.dO labels)
 let q1:=((decide ((1:Int)<=((List.length labels):Int)))&&(decide (((List.length labels):Int)<=(16:Int))))
 let q2:=(M.tq labels)
 let q3:=(q1&&(Option.getD q2 default))
 bif (((Option.isSome q0)||(!(q3==true)))&&(((Option.isSome q2)||(!(q1==true)))&&true)) then
 some (q3&&(!(Option.getD q0 default)))
 else
 none
def AO (list:(List M.ae)):Option (Int):=
 some ((List.length list):Int)
def Lh (t:M.ae):Option (Bool):=
 some ((M.ae.Kind t)==(1:Int))
def dD (s:(List M.ae)) (t7:Int):Nat->Int->Option ((Int)⊕(Unit))
 |0,_=>none
 |fuel+1,t8=>
 bif (decide (t8<t7)) then
 bif ((M.ae.Kind (List.getD s (Int.toNat t8) M.ae.zero))==(1:Int)) then
 bif ((Go.V.inB t8 (List.length s))&&true) then
 some (.inl t8)
 else
 none
 else
 bif ((Go.V.inB t8 (List.length s))&&true) then
 M.dD s t7 fuel (Go.IntKind.wrap Go.IntKind.i64 (t8+(1:Int)))
 else
 none
 else
 some ((.inr (())))
def fQ (s:(List M.ae)):Option (Int):=
 match (M.dD s ((List.length s):Int) Go.V.aG (0:Int)) with
 |none=>none
 |some y0=>
 (match y0 with
 | .inl a1=>
 some a1
 | .inr b1=>
 some (-(1:Int)))
def dY (s:(List M.ae)):Option (Bool):=
 let q0:=(M.fQ s)
 bif ((Option.isSome q0)&&true) then
 some (decide ((0:Int)<=(Option.getD q0 default)))
 else
 none
def xU (t:M.ae) (many:Int):Option (Bool):=
 let q0:=(M.dY (M.ae.Kids t))
 bif (((Option.isSome q0)||(!((((List.length (M.ae.Kids t)):Int)==many)==true)))&&true) then
 some ((((List.length (M.ae.Kids t)):Int)==many)&&(!(Option.getD q0 default)))
 else
 none
def eu (s:(List Int)) (v:Int) (t7:Int):Nat->Int->Option ((Int)⊕(Unit))
 |0,_=>none
 |fuel+1,t8=>
 bif (decide (t8<t7)) then
 bif (v==(List.getD s (Int.toNat t8) (0:Int))) then
 bif ((Go.V.inB t8 (List.length s))&&true) then
 some (.inl t8)
 else
 none
 else
 bif ((Go.V.inB t8 (List.length s))&&true) then
 M.eu s v t7 fuel (Go.IntKind.wrap Go.IntKind.i64 (t8+(1:Int)))
 else
 none
 else
 some ((.inr (())))
def iF (s:(List Int)) (v:Int):Option (Int):=
 match (M.eu s v ((List.length s):Int) Go.V.aG (0:Int)) with
 |none=>none
 |some y0=>
 (match y0 with
 | .inl a1=>
 some a1
 | .inr b1=>
 some (-(1:Int)))
def fE (s:(List Int)) (v:Int):Option (Bool):=
 let q0:=(M.iF s v)
 bif ((Option.isSome q0)&&true) then
 some (decide ((0:Int)<=(Option.getD q0 default)))
 else
 none
def uB (aC:M.ae->(List Int)->Option (Bool)) (kid:M.ae) (t1:(List Int)):Option (Bool):=
 bif ((Option.isSome (aC (M.ae.re kid) t1))&&true) then
 some (Option.getD (aC (M.ae.re kid) t1) default)
 else
 none
def dE (aC:M.ae->(List Int)->Option (Bool)) (s:(List M.ae)) (f:(List Int)) (t7:Int):Nat->Int->Option ((Int)⊕(Unit))
 |0,_=>none
 |fuel+1,t8=>
 bif (decide (t8<t7)) then
 let q0:=(M.uB aC (M.ae.re (List.getD s (Int.toNat t8) M.ae.zero)) f)
 bif (Option.getD q0 default) then
 let q1:=((Option.isSome q0)&&((Go.V.inB t8 (List.length s))&&true))
 bif q1 then
 some (.inl t8)
 else
 none
 else
 let q1:=((Option.isSome q0)&&((Go.V.inB t8 (List.length s))&&true))
 bif q1 then
 M.dE aC s f t7 fuel (Go.IntKind.wrap Go.IntKind.i64 (t8+(1:Int)))
 else
 none
 else
 some ((.inr (())))
def fU (aC:M.ae->(List Int)->Option (Bool)) (s:(List M.ae)) (f:(List Int)):Option (Int):=
 match (M.dE aC s f ((List.length s):Int) Go.V.aG (0:Int)) with
 |none=>none
 |some y0=>
 (match y0 with
 | .inl a1=>
 some a1
 | .inr b1=>
 some (-(1:Int)))
def dZ (aC:M.ae->(List Int)->Option (Bool)) (s:(List M.ae)) (f:(List Int)):Option (Bool):=
 let q0:=(M.fU aC s f)
 bif ((Option.isSome q0)&&true) then
 some (decide ((0:Int)<=(Option.getD q0 default)))
 else
 none
def AP (aC:M.ae->(List Int)->Option (Bool)) (t:M.ae) (kinds:(List Int)):Option (Bool):=
 let q0:=(M.dZ aC (M.ae.Kids t) kinds)
 let q1:=(M.fE kinds (M.ae.Kind t))
 bif (((Option.isSome q0)||(!((Option.getD q1 default)==false)))&&((Option.isSome q1)&&true)) then
 some ((Option.getD q1 default)||(Option.getD q0 default))
 else
 none
def lQ : Nat->M.ae->(List Int)->Option (Bool)
 |0=>fun _ _=>none
 |n+1=>AP (lQ n)
def rP : M.ae->(List Int)->Option (Bool):=lQ Go.V.aG
def xh (aB:M.ae->Option (Bool)) (t:M.ae):Option (Bool):=
 let q0:=(M.dQ aB (M.ae.Kids t))
 bif (Option.getD q0 default) then
 bif ((Option.isSome q0)&&true) then
 some false
 else
 none
 else
 let q1:=((decide ((16:Int)<=(M.ae.Kind t)))&&(decide ((M.ae.Kind t)<=(19:Int))))
 let q2:=(M.zk (M.ae.aJ t))
 let q3:=((q1&&(!(Option.getD q2 default)))||((!q1)&&(decide ((0:Int)<((List.length (M.ae.aJ t)):Int)))))
 let q4:=(((M.ae.Kind t)==(20:Int))||((M.ae.Kind t)==(21:Int)))
 let q5:=(M.AL (M.ae.Name t))
 bif ((q3||(q4&&(!(Option.getD q5 default))))||((!q4)&&(!((M.ae.Name t)==[])))) then
 let q6:=(((Option.isSome q5)||(!((q3==false)&&(q4==true))))&&(((Option.isSome q2)||(!(q1==true)))&&((Option.isSome q0)&&true)))
 bif q6 then
 some false
 else
 none
 else
 bif (bif ((M.ae.Kind t)==(12:Int)) then ((M.ae.Kind t)==(12:Int)) else ((M.ae.Kind t)==(13:Int))) then
 let q6:=(M.xU (M.ae.re t) (1:Int))
 let q7:=(((Option.isSome q5)||(!((q3==false)&&(q4==true))))&&(((Option.isSome q2)||(!(q1==true)))&&((Option.isSome q0)&&true)))
 let q8:=((q7||(!((M.ae.Kind t)==(12:Int))))&&(q7||((M.ae.Kind t)==(12:Int))))
 bif ((Option.isSome q6)&&q8) then
 some (Option.getD q6 default)
 else
 none
 else
 bif ((M.ae.Kind t)==(14:Int)) then
 let q6:=(((Option.isSome q5)||(!((q3==false)&&(q4==true))))&&(((Option.isSome q2)||(!(q1==true)))&&((Option.isSome q0)&&true)))
 let q7:=((q6||(!((M.ae.Kind t)==(12:Int))))&&(q6||((M.ae.Kind t)==(12:Int))))
 bif q7 then
 some (((List.length (M.ae.Kids t)):Int)==(2:Int))
 else
 none
 else
 bif ((M.ae.Kind t)==(15:Int)) then
 let q6:=(M.xU (M.ae.re t) ((List.length (M.ae.Kids t)):Int))
 let q7:=((decide ((1:Int)<=((List.length (M.ae.Kids t)):Int)))&&(decide (((List.length (M.ae.Kids t)):Int)<=(6:Int))))
 let q8:=(((Option.isSome q5)||(!((q3==false)&&(q4==true))))&&(((Option.isSome q2)||(!(q1==true)))&&((Option.isSome q0)&&true)))
 let q9:=((q8||(!((M.ae.Kind t)==(12:Int))))&&(q8||((M.ae.Kind t)==(12:Int))))
 bif (((Option.isSome q6)||(!(q7==true)))&&q9) then
 some (q7&&(Option.getD q6 default))
 else
 none
 else
 bif ((M.ae.Kind t)==(16:Int)) then
 let q6:=(M.xU (M.ae.re t) ((List.length (M.ae.aJ t)):Int))
 let q7:=(((Option.isSome q5)||(!((q3==false)&&(q4==true))))&&(((Option.isSome q2)||(!(q1==true)))&&((Option.isSome q0)&&true)))
 let q8:=((q7||(!((M.ae.Kind t)==(12:Int))))&&(q7||((M.ae.Kind t)==(12:Int))))
 bif ((Option.isSome q6)&&q8) then
 some (Option.getD q6 default)
 else
 none
 else
 bif ((M.ae.Kind t)==(17:Int)) then
 let q6:=(((Option.isSome q5)||(!((q3==false)&&(q4==true))))&&(((Option.isSome q2)||(!(q1==true)))&&((Option.isSome q0)&&true)))
 let q7:=((q6||(!((M.ae.Kind t)==(12:Int))))&&(q6||((M.ae.Kind t)==(12:Int))))
 bif q7 then
 some (((List.length (M.ae.Kids t)):Int)==((List.length (M.ae.aJ t)):Int))
 else
 none
 else
 bif (bif ((M.ae.Kind t)==(22:Int)) then ((M.ae.Kind t)==(22:Int)) else ((M.ae.Kind t)==(23:Int))) then
 let q6:=(M.rP (M.ae.re (List.getD (M.ae.Kids t) (Int.toNat (0:Int)) M.ae.zero)) [(21:Int)])
 let q7:=(!((((List.length (M.ae.Kids t)):Int)==(1:Int))==true))
 let q8:=(((Option.isSome q5)||(!((q3==false)&&(q4==true))))&&(((Option.isSome q2)||(!(q1==true)))&&((Option.isSome q0)&&true)))
 let q9:=((q8||(!((M.ae.Kind t)==(12:Int))))&&(q8||((M.ae.Kind t)==(12:Int))))
 let q10:=((q9||(!((M.ae.Kind t)==(22:Int))))&&(q9||((M.ae.Kind t)==(22:Int))))
 bif (((Option.isSome q6)||q7)&&(((Go.V.inB (0:Int) (List.length (M.ae.Kids t)))||q7)&&q10)) then
 some ((((List.length (M.ae.Kids t)):Int)==(1:Int))&&(!(Option.getD q6 default)))
 else
 none
 else
 let q6:=(((Option.isSome q5)||(!((q3==false)&&(q4==true))))&&(((Option.isSome q2)||(!(q1==true)))&&((Option.isSome q0)&&true)))
 let q7:=((q6||(!((M.ae.Kind t)==(12:Int))))&&(q6||((M.ae.Kind t)==(12:Int))))
 let q8:=((q7||(!((M.ae.Kind t)==(22:Int))))&&(q7||((M.ae.Kind t)==(22:Int))))
 bif q8 then
 some (((decide ((1:Int)<=(M.ae.Kind t)))&&(decide ((M.ae.Kind t)<=(23:Int))))&&(((List.length (M.ae.Kids t)):Int)==(0:Int)))
 else
 none
def oM : Nat->M.ae->Option (Bool)
 |0=>fun _=>none
 |n+1=>xh (oM n)
def Nc : M.ae->Option (Bool):=oM Go.V.aG
def E8 (t:M.ae):Option (Bool):=
 let q0:=(M.IJ (M.ae.re t))
 let q1:=(M.Na (M.ae.re t) (1:Int))
 let q2:=((decide ((Option.getD q1 default).1<=(4:Int)))&&(decide ((Option.getD q1 default).2<=(24:Int))))
 bif (((Option.isSome q0)||(!(q2==true)))&&((Option.isSome q1)&&true)) then
 some (q2&&(Option.getD q0 default))
 else
 none
def mW (aK:M.ae->Option (Int×(List UInt8)×(List (List UInt8))×(List M.ae))) (t7:(List M.ae)) (t8:Int):Nat->Int->(List M.ae)->Option ((List M.ae))
 |0,_,_=>none
 |fuel+1,t9,out=>
 bif (decide (t9<t8)) then
 let q0:=(Option.getD (aK (M.ae.re (List.getD t7 (Int.toNat t9) M.ae.zero))) default)
 let q1:=q0.2
 let q2:=q1.2
 let q3:=[(M.ae.mk q0.1 q1.1 q2.1 q2.2)]
 bif ((decide (((List.length out)+(List.length q3))<=1073741824))&&((Option.isSome (aK (M.ae.re (List.getD t7 (Int.toNat t9) M.ae.zero))))&&((Go.V.inB t9 (List.length t7))&&true))) then
 M.mW aK t7 t8 fuel (Go.IntKind.wrap Go.IntKind.i64 (t9+(1:Int))) (out++q3)
 else
 none
 else
 some (out)
def xk (aK:M.ae->Option (Int×(List UInt8)×(List (List UInt8))×(List M.ae))) (list:(List M.ae)):Option ((List M.ae)):=
 match (M.mW aK list ((List.length list):Int) Go.V.aG (0:Int) []) with
 |none=>none
 |some y0=>
 some y0
def xY (aK:M.ae->Option (Int×(List UInt8)×(List (List UInt8))×(List M.ae))) (t:M.ae):Option (Int×(List UInt8)×(List (List UInt8))×(List M.ae)):=
 let q0:=(M.xk aK (M.ae.Kids t))
 let q1:=(M.dR (M.ae.aJ t))
 bif ((Option.isSome q0)&&((Option.isSome q1)&&true)) then
 some ((M.ae.Kind t),(M.ae.Name t),(Option.getD q1 default),(Option.getD q0 default))
 else
 none
def oN : Nat->M.ae->Option (Int×(List UInt8)×(List (List UInt8))×(List M.ae))
 |0=>fun _=>none
 |n+1=>xY (oN n)
def IM : M.ae->Option (Int×(List UInt8)×(List (List UInt8))×(List M.ae)):=oN Go.V.aG
def Dh (t:M.ae):Option (Bool):=
 let q0:=(M.ve (M.ae.re t) (20:Int) (23:Int))
 let q1:=(M.E8 (M.ae.re t))
 let q2:=((Option.getD q1 default)&&((M.ae.Kind t) !=(1:Int)))
 bif (((Option.isSome q0)||(!(q2==true)))&&((Option.isSome q1)&&true)) then
 some (q2&&(!(Option.getD q0 default)))
 else
 none
def Hm (t:M.ae):Option (Bool):=
 let q0:=(M.E8 (M.ae.re t))
 bif ((Option.isSome q0)&&true) then
 some (Option.getD q0 default)
 else
 none
def zq (ak:M.af->M.ae->Option (Bool)) (kids:(List M.af)) (t:M.ae):Option (Bool):=
 bif ((M.ae.Kind t)==(1:Int)) then
 some (((List.length kids):Int)==(0:Int))
 else
 let q0:=(!((((List.length kids):Int)==(1:Int))==true))
 bif (((Option.isSome (ak (M.af.re (List.getD kids (Int.toNat (0:Int)) M.af.zero)) (M.ae.re t)))||q0)&&(((Go.V.inB (0:Int) (List.length kids))||q0)&&true)) then
 some ((((List.length kids):Int)==(1:Int))&&(Option.getD (ak (M.af.re (List.getD kids (Int.toNat (0:Int)) M.af.zero)) (M.ae.re t)) default))
 else
 none
def jg (ak:M.af->M.ae->Option (Bool)) (kids:(List M.af)):Nat->Int->M.ae->Option ((Bool)⊕(Unit))
 |0,_,_=>none
 |fuel+1,i,t=>
 bif (decide (i<((List.length kids):Int))) then
 bif (!(Option.getD (ak (M.af.re (List.getD kids (Int.toNat i) M.af.zero)) (M.ae.re t)) default)) then
 let q0:=((Option.isSome (ak (M.af.re (List.getD kids (Int.toNat i) M.af.zero)) (M.ae.re t)))&&((Go.V.inB i (List.length kids))&&true))
 bif q0 then
 some (.inl false)
 else
 none
 else
 let q0:=((Option.isSome (ak (M.af.re (List.getD kids (Int.toNat i) M.af.zero)) (M.ae.re t)))&&((Go.V.inB i (List.length kids))&&true))
 bif q0 then
 M.jg ak kids fuel (Go.IntKind.wrap Go.IntKind.i64 (i+(1:Int))) (M.ae.re t)
 else
 none
 else
 some ((.inr (())))
def wG (ak:M.af->M.ae->Option (Bool)) (kids:(List M.af)) (most:Int) (t:M.ae):Option (Bool):=
 bif (decide (most<((List.length kids):Int))) then
 some false
 else
 match (M.jg ak kids Go.V.aG (0:Int) (M.ae.re t)) with
 |none=>none
 |some y0=>
 (match y0 with
 | .inl a1=>
 some a1
 | .inr b1=>
 some true)
def lu (n:Int):Option (Bool):=
 some (((decide ((0:Int)<=n))&&(decide (n<=(55295:Int))))||((decide ((57344:Int)<=n))&&(decide (n<=(1114111:Int)))))
def lS (s:(List UInt8)) (many:Int):Nat->Int->Int->Option ((List UInt8)×Int×Int)
 |0,_,_=>none
 |fuel+1,n,i=>
 bif (decide (i<many)) then
 bif ((Go.V.inB i (List.length s))&&true) then
 M.lS s many fuel (Go.V.yB Go.BinOp.or Go.IntKind.i64 (Go.V.abD Go.IntKind.i64 n (6:Int)) (Go.IntKind.wrap Go.IntKind.i64 (Go.V.yB Go.BinOp.and Go.IntKind.u8 ((UInt8.toNat (List.getD s (Int.toNat i) (0:UInt8))):Int) (63:Int)))) (Go.IntKind.wrap Go.IntKind.i64 (i+(1:Int)))
 else
 none
 else
 some ((s,many,n))
def uC (n:Int):Option ((List UInt8)):=
 bif (decide (n<(128:Int))) then
 bif (((Go.V.I8 (Go.IntKind.wrap Go.IntKind.u8 n))&&true)&&true) then
 some (List.map (fun a=>a) [(Go.V.CS (Go.IntKind.wrap Go.IntKind.u8 n))])
 else
 none
 else
 bif (decide (n<(2048:Int))) then
 let q0:=(Go.IntKind.wrap Go.IntKind.u8 (Go.IntKind.wrap Go.IntKind.i64 ((192:Int)+(Go.V.Rz Go.IntKind.i64 n (6:Int)))))
 let q1:=(Go.IntKind.wrap Go.IntKind.u8 (Go.IntKind.wrap Go.IntKind.i64 ((128:Int)+(Go.V.yB Go.BinOp.and Go.IntKind.i64 n (63:Int)))))
 let q2:=((Go.V.I8 q1)&&true)
 bif (((Go.V.I8 q0)&&q2)&&true) then
 let q3:=[(Go.V.CS q1)]
 some (List.map (fun a=>a) [(Go.V.CS q0),(Go.V.CS q1)])
 else
 none
 else
 bif (decide (n<(65536:Int))) then
 let q0:=(Go.IntKind.wrap Go.IntKind.u8 (Go.IntKind.wrap Go.IntKind.i64 ((224:Int)+(Go.V.Rz Go.IntKind.i64 n (12:Int)))))
 let q1:=(Go.IntKind.wrap Go.IntKind.u8 (Go.IntKind.wrap Go.IntKind.i64 ((128:Int)+(Go.V.yB Go.BinOp.and Go.IntKind.i64 (Go.V.Rz Go.IntKind.i64 n (6:Int)) (63:Int)))))
 let q2:=(Go.IntKind.wrap Go.IntKind.u8 (Go.IntKind.wrap Go.IntKind.i64 ((128:Int)+(Go.V.yB Go.BinOp.and Go.IntKind.i64 n (63:Int)))))
 let q3:=((Go.V.I8 q2)&&true)
 let q4:=((Go.V.I8 q1)&&q3)
 bif (((Go.V.I8 q0)&&q4)&&true) then
 let q5:=[(Go.V.CS q2)]
 let q6:=[(Go.V.CS q1),(Go.V.CS q2)]
 some (List.map (fun a=>a) [(Go.V.CS q0),(Go.V.CS q1),(Go.V.CS q2)])
 else
 none
 else
 let q0:=(Go.IntKind.wrap Go.IntKind.u8 (Go.IntKind.wrap Go.IntKind.i64 ((240:Int)+(Go.V.Rz Go.IntKind.i64 n (18:Int)))))
 let q1:=(Go.IntKind.wrap Go.IntKind.u8 (Go.IntKind.wrap Go.IntKind.i64 ((128:Int)+(Go.V.yB Go.BinOp.and Go.IntKind.i64 (Go.V.Rz Go.IntKind.i64 n (12:Int)) (63:Int)))))
 let q2:=(Go.IntKind.wrap Go.IntKind.u8 (Go.IntKind.wrap Go.IntKind.i64 ((128:Int)+(Go.V.yB Go.BinOp.and Go.IntKind.i64 (Go.V.Rz Go.IntKind.i64 n (6:Int)) (63:Int)))))
 let q3:=(Go.IntKind.wrap Go.IntKind.u8 (Go.IntKind.wrap Go.IntKind.i64 ((128:Int)+(Go.V.yB Go.BinOp.and Go.IntKind.i64 n (63:Int)))))
 let q4:=((Go.V.I8 q3)&&true)
 let q5:=((Go.V.I8 q2)&&q4)
 bif (((Go.V.I8 q0)&&((Go.V.I8 q1)&&q5))&&true) then
 let q6:=[(Go.V.CS q3)]
 let q7:=[(Go.V.CS q2),(Go.V.CS q3)]
 some (List.map (fun a=>a) [(Go.V.CS q0),(Go.V.CS q1),(Go.V.CS q2),(Go.V.CS q3)])
 else
 none
def zt (s:(List UInt8)):Option (Int×Int):=
 bif (s==[]) then
 some ((0:Int),(0:Int))
 else
 let q0:=(bif (decide ((240:Int)<=((UInt8.toNat (List.getD s (Int.toNat (0:Int)) (0:UInt8))):Int))) then (4:Int) else (bif (decide ((224:Int)<=((UInt8.toNat (List.getD s (Int.toNat (0:Int)) (0:UInt8))):Int))) then (3:Int) else (bif (decide ((192:Int)<=((UInt8.toNat (List.getD s (Int.toNat (0:Int)) (0:UInt8))):Int))) then (2:Int) else (1:Int))))
 bif (decide (((List.length s):Int)<q0)) then
 let q1:=((Go.V.inB (0:Int) (List.length s))&&((Go.V.inB (0:Int) (List.length s))&&((Go.V.inB (0:Int) (List.length s))&&true)))
 let q2:=((Go.V.inB (0:Int) (List.length s))&&q1)
 let q3:=((q1||(!(decide ((240:Int)<=((UInt8.toNat (List.getD s (Int.toNat (0:Int)) (0:UInt8))):Int)))))&&(((q2||(!(decide ((224:Int)<=((UInt8.toNat (List.getD s (Int.toNat (0:Int)) (0:UInt8))):Int)))))&&(((((Go.V.inB (0:Int) (List.length s))&&q2)||(!(decide ((192:Int)<=((UInt8.toNat (List.getD s (Int.toNat (0:Int)) (0:UInt8))):Int)))))&&(q2||(decide ((192:Int)<=((UInt8.toNat (List.getD s (Int.toNat (0:Int)) (0:UInt8))):Int)))))||(decide ((224:Int)<=((UInt8.toNat (List.getD s (Int.toNat (0:Int)) (0:UInt8))):Int)))))||(decide ((240:Int)<=((UInt8.toNat (List.getD s (Int.toNat (0:Int)) (0:UInt8))):Int)))))
 bif q3 then
 some ((0:Int),(0:Int))
 else
 none
 else
 let q1:=(Go.IntKind.wrap Go.IntKind.i64 ((UInt8.toNat (List.getD s (Int.toNat (0:Int)) (0:UInt8))):Int))
 match (M.lS s q0 Go.V.aG (bif (decide ((240:Int)<=((UInt8.toNat (List.getD s (Int.toNat (0:Int)) (0:UInt8))):Int))) then (Go.IntKind.wrap Go.IntKind.i64 (q1-(240:Int))) else (bif (decide ((224:Int)<=((UInt8.toNat (List.getD s (Int.toNat (0:Int)) (0:UInt8))):Int))) then (Go.IntKind.wrap Go.IntKind.i64 (q1-(224:Int))) else (bif (decide ((192:Int)<=((UInt8.toNat (List.getD s (Int.toNat (0:Int)) (0:UInt8))):Int))) then (Go.IntKind.wrap Go.IntKind.i64 (q1-(192:Int))) else q1))) (1:Int)) with
 |none=>none
 |some y2=>
 let q3:=(M.lu y2.2.2)
 let q4:=(!(Option.getD q3 default))
 let q5:=(M.uC y2.2.2)
 bif (q4||(!((Option.getD q5 default)==(List.drop (Int.toNat (0:Int)) (List.take (Int.toNat y2.2.1) y2.1))))) then
 let q6:=(!(q4==false))
 let q7:=((Go.V.inB (0:Int) (List.length s))&&((Go.V.inB (0:Int) (List.length s))&&((Go.V.inB (0:Int) (List.length s))&&true)))
 let q8:=((Go.V.inB (0:Int) (List.length s))&&q7)
 let q9:=((q7||(!(decide ((240:Int)<=((UInt8.toNat (List.getD s (Int.toNat (0:Int)) (0:UInt8))):Int)))))&&(((q8||(!(decide ((224:Int)<=((UInt8.toNat (List.getD s (Int.toNat (0:Int)) (0:UInt8))):Int)))))&&(((((Go.V.inB (0:Int) (List.length s))&&q8)||(!(decide ((192:Int)<=((UInt8.toNat (List.getD s (Int.toNat (0:Int)) (0:UInt8))):Int)))))&&(q8||(decide ((192:Int)<=((UInt8.toNat (List.getD s (Int.toNat (0:Int)) (0:UInt8))):Int)))))||(decide ((224:Int)<=((UInt8.toNat (List.getD s (Int.toNat (0:Int)) (0:UInt8))):Int)))))||(decide ((240:Int)<=((UInt8.toNat (List.getD s (Int.toNat (0:Int)) (0:UInt8))):Int)))))
 let q10:=(((Go.V.xH (0:Int) y2.2.1 (List.length y2.1))||q6)&&(((Option.isSome q5)||q6)&&((Option.isSome q3)&&q9)))
 bif q10 then
 some ((0:Int),(0:Int))
 else
 none
 else
 let q6:=(!(q4==false))
 let q7:=((Go.V.inB (0:Int) (List.length s))&&((Go.V.inB (0:Int) (List.length s))&&((Go.V.inB (0:Int) (List.length s))&&true)))
 let q8:=((Go.V.inB (0:Int) (List.length s))&&q7)
 let q9:=((q7||(!(decide ((240:Int)<=((UInt8.toNat (List.getD s (Int.toNat (0:Int)) (0:UInt8))):Int)))))&&(((q8||(!(decide ((224:Int)<=((UInt8.toNat (List.getD s (Int.toNat (0:Int)) (0:UInt8))):Int)))))&&(((((Go.V.inB (0:Int) (List.length s))&&q8)||(!(decide ((192:Int)<=((UInt8.toNat (List.getD s (Int.toNat (0:Int)) (0:UInt8))):Int)))))&&(q8||(decide ((192:Int)<=((UInt8.toNat (List.getD s (Int.toNat (0:Int)) (0:UInt8))):Int)))))||(decide ((224:Int)<=((UInt8.toNat (List.getD s (Int.toNat (0:Int)) (0:UInt8))):Int)))))||(decide ((240:Int)<=((UInt8.toNat (List.getD s (Int.toNat (0:Int)) (0:UInt8))):Int)))))
 let q10:=(((Go.V.xH (0:Int) y2.2.1 (List.length y2.1))||q6)&&(((Option.isSome q5)||q6)&&((Option.isSome q3)&&q9)))
 bif q10 then
 some (y2.2.2,y2.2.1)
 else
 none
def mX : Nat->(List UInt8)->(List Int)->Option ((Bool×(List Int))⊕((List Int)))
 |0,_,_=>none
 |fuel+1,s,out=>
 bif (decide ((0:Int)<((List.length s):Int))) then
 let q0:=(M.zt s)
 bif ((Option.getD q0 default).2==(0:Int)) then
 bif ((Option.isSome q0)&&true) then
 some (.inl (false,[]))
 else
 none
 else
 let q1:=[(Option.getD q0 default).1]
 bif ((Go.V.xH (Option.getD q0 default).2 ((List.length s):Int) (List.length s))&&((decide (((List.length out)+(List.length q1))<=1073741824))&&((Option.isSome q0)&&true))) then
 M.mX fuel (List.drop (Int.toNat (Option.getD q0 default).2) (List.take (Int.toNat ((List.length s):Int)) s)) (out++q1)
 else
 none
 else
 some ((.inr (out)))
def xm (s:(List UInt8)):Option ((List Int)×Bool):=
 match (M.mX Go.V.aG s []) with
 |none=>none
 |some y0=>
 (match y0 with
 | .inl a1=>
 some (a1.2,a1.1)
 | .inr b1=>
 some (b1,true))
def Ht (s:(List UInt8)):Option (Bool):=
 bif (decide ((24:Int)<((List.length s):Int))) then
 some false
 else
 let q0:=(M.xm s)
 bif ((Option.isSome q0)&&true) then
 some (Option.getD q0 default).2
 else
 none
def lT (ak:M.af->M.ae->Option (Bool)) (kids:(List M.af)) (ts:(List M.ae)):Nat->Int->Option ((Bool)⊕(Unit))
 |0,_=>none
 |fuel+1,i=>
 bif (decide (i<((List.length kids):Int))) then
 bif (!(Option.getD (ak (M.af.re (List.getD kids (Int.toNat i) M.af.zero)) (M.ae.re (List.getD ts (Int.toNat i) M.ae.zero))) default)) then
 let q0:=((Option.isSome (ak (M.af.re (List.getD kids (Int.toNat i) M.af.zero)) (M.ae.re (List.getD ts (Int.toNat i) M.ae.zero))))&&((Go.V.inB i (List.length ts))&&((Go.V.inB i (List.length kids))&&true)))
 bif q0 then
 some (.inl false)
 else
 none
 else
 let q0:=((Option.isSome (ak (M.af.re (List.getD kids (Int.toNat i) M.af.zero)) (M.ae.re (List.getD ts (Int.toNat i) M.ae.zero))))&&((Go.V.inB i (List.length ts))&&((Go.V.inB i (List.length kids))&&true)))
 bif q0 then
 M.lT ak kids ts fuel (Go.IntKind.wrap Go.IntKind.i64 (i+(1:Int)))
 else
 none
 else
 some ((.inr (())))
def Hu (ak:M.af->M.ae->Option (Bool)) (kids:(List M.af)) (ts:(List M.ae)):Option (Bool):=
 bif (((List.length kids):Int) !=((List.length ts):Int)) then
 some false
 else
 match (M.lT ak kids ts Go.V.aG (0:Int)) with
 |none=>none
 |some y0=>
 (match y0 with
 | .inl a1=>
 some a1
 | .inr b1=>
 some true)
def DY (kind:Int):Option (Int×Int×Bool):=
 bif (kind==(3:Int)) then
 some ((0:Int),(255:Int),true)
 else
 bif (kind==(4:Int)) then
 some ((-(128:Int)),(127:Int),true)
 else
 bif (kind==(5:Int)) then
 some ((0:Int),(65535:Int),true)
 else
 bif (kind==(6:Int)) then
 some ((-(32768:Int)),(32767:Int),true)
 else
 bif (kind==(7:Int)) then
 some ((0:Int),(4294967295:Int),true)
 else
 bif (kind==(8:Int)) then
 some ((-(2147483648:Int)),(2147483647:Int),true)
 else
 bif (kind==(9:Int)) then
 some ((-(9223372036854775808:Int)),(9223372036854775807:Int),true)
 else
 some ((0:Int),(0:Int),false)
def oO (ak:M.af->M.ae->Option (Bool)) (v:M.af) (t:M.ae):Option (Bool):=
 bif (((M.af.Kind v) !=(M.ae.Kind t))||(((M.ae.Kind t) !=(11:Int))&&(!((M.af.Text v)==[])))) then
 some false
 else
 bif (bif ((M.ae.Kind t)==(2:Int)) then ((M.ae.Kind t)==(2:Int)) else ((M.ae.Kind t)==(14:Int))) then
 bif (!((decide ((0:Int)<=(M.af.Num v)))&&(decide ((M.af.Num v)<=(1:Int))))) then
 some false
 else
 let q0:=(((M.ae.Kind t)==(14:Int))||((M.ae.Kind t)==(17:Int)))
 bif q0 then
 let q1:=(M.zq ak (M.af.Kids v) (M.ae.re (List.getD (M.ae.Kids t) (Int.toNat (M.af.Num v)) M.ae.zero)))
 let q2:=(Option.isSome q1)
 bif (q2&&((Go.V.inB (M.af.Num v) (List.length (M.ae.Kids t)))&&true)) then
 let q3:=(Option.getD q1 default)
 some q3
 else
 none
 else
 some (((List.length (M.af.Kids v)):Int)==(0:Int))
 else
 bif ((M.ae.Kind t)==(13:Int)) then
 let q0:=(M.wG ak (M.af.Kids v) (1:Int) (M.ae.re (List.getD (M.ae.Kids t) (Int.toNat (0:Int)) M.ae.zero)))
 let q1:=(!(((M.af.Num v)==((List.length (M.af.Kids v)):Int))==true))
 bif (((Option.isSome q0)||q1)&&(((Go.V.inB (0:Int) (List.length (M.ae.Kids t)))||q1)&&true)) then
 some (((M.af.Num v)==((List.length (M.af.Kids v)):Int))&&(Option.getD q0 default))
 else
 none
 else
 bif ((M.ae.Kind t)==(10:Int)) then
 some ((Option.getD (M.lu (M.af.Num v)) default)&&(((List.length (M.af.Kids v)):Int)==(0:Int)))
 else
 bif ((M.ae.Kind t)==(11:Int)) then
 let q0:=(M.Ht (M.af.Text v))
 bif ((Option.isSome q0)&&true) then
 some (((Option.getD q0 default)&&((M.af.Num v)==(0:Int)))&&(((List.length (M.af.Kids v)):Int)==(0:Int)))
 else
 none
 else
 bif ((M.ae.Kind t)==(12:Int)) then
 let q0:=(M.wG ak (M.af.Kids v) (8:Int) (M.ae.re (List.getD (M.ae.Kids t) (Int.toNat (0:Int)) M.ae.zero)))
 let q1:=(!(((M.af.Num v)==(0:Int))==true))
 bif (((Option.isSome q0)||q1)&&(((Go.V.inB (0:Int) (List.length (M.ae.Kids t)))||q1)&&true)) then
 some (((M.af.Num v)==(0:Int))&&(Option.getD q0 default))
 else
 none
 else
 bif (bif ((M.ae.Kind t)==(15:Int)) then ((M.ae.Kind t)==(15:Int)) else ((M.ae.Kind t)==(16:Int))) then
 let q0:=(M.Hu ak (M.af.Kids v) (M.ae.Kids t))
 let q1:=(!(((M.af.Num v)==(0:Int))==true))
 bif (((Option.isSome q0)||q1)&&true) then
 some (((M.af.Num v)==(0:Int))&&(Option.getD q0 default))
 else
 none
 else
 let q0:=(bif ((M.ae.Kind t)==(17:Int)) then ((M.ae.Kind t)==(17:Int)) else ((M.ae.Kind t)==(18:Int)))
 let q1:=(bif ((M.ae.Kind t)==(20:Int)) then ((M.ae.Kind t)==(20:Int)) else (bif ((M.ae.Kind t)==(21:Int)) then ((M.ae.Kind t)==(21:Int)) else (bif ((M.ae.Kind t)==(22:Int)) then ((M.ae.Kind t)==(22:Int)) else ((M.ae.Kind t)==(23:Int)))))
 let q2:=(M.DY (M.ae.Kind t))
 bif (!((decide ((bif q0 then (0:Int) else (bif ((M.ae.Kind t)==(19:Int)) then (0:Int) else (bif q1 then (0:Int) else (Option.getD q2 default).1)))<=(M.af.Num v)))&&(decide ((M.af.Num v)<=(bif q0 then (Go.IntKind.wrap Go.IntKind.i64 (((List.length (M.ae.aJ t)):Int)-(1:Int))) else (bif ((M.ae.Kind t)==(19:Int)) then (Go.IntKind.wrap Go.IntKind.i64 ((Go.V.abD Go.IntKind.i64 (1:Int) (Go.IntKind.wrap Go.IntKind.u64 ((List.length (M.ae.aJ t)):Int)))-(1:Int))) else (bif q1 then (2147483647:Int) else (Option.getD q2 default).2.1))))))) then
 let q3:=(((((Option.isSome q2)&&true)||q1)||((M.ae.Kind t)==(19:Int)))||q0)
 bif q3 then
 some false
 else
 none
 else
 let q3:=(((M.ae.Kind t)==(14:Int))||((M.ae.Kind t)==(17:Int)))
 bif q3 then
 let q4:=(M.zq ak (M.af.Kids v) (M.ae.re (List.getD (M.ae.Kids t) (Int.toNat (M.af.Num v)) M.ae.zero)))
 let q5:=(Option.isSome q4)
 let q6:=(((((Option.isSome q2)&&true)||q1)||((M.ae.Kind t)==(19:Int)))||q0)
 bif (q5&&((Go.V.inB (M.af.Num v) (List.length (M.ae.Kids t)))&&q6)) then
 let q7:=(Option.getD q4 default)
 some q7
 else
 none
 else
 let q4:=(((((Option.isSome q2)&&true)||q1)||((M.ae.Kind t)==(19:Int)))||q0)
 bif q4 then
 some (((List.length (M.af.Kids v)):Int)==(0:Int))
 else
 none
def tu : Nat->M.af->M.ae->Option (Bool)
 |0=>fun _ _=>none
 |n+1=>oO (tu n)
def Nh : M.af->M.ae->Option (Bool):=tu Go.V.aG
def Tz (v:M.af) (t:M.ae):Option (Bool):=
 let q0:=(M.Nh (M.af.re v) (M.ae.re t))
 let q1:=(M.Hm (M.ae.re t))
 bif (((Option.isSome q0)||(!((Option.getD q1 default)==true)))&&((Option.isSome q1)&&true)) then
 some ((Option.getD q1 default)&&(Option.getD q0 default))
 else
 none
def kC (list:(List M.af)):Nat->Int->M.ae->Option ((Bool)⊕(Unit))
 |0,_,_=>none
 |fuel+1,i,t=>
 bif (decide (i<((List.length list):Int))) then
 let q0:=(M.Tz (M.af.re (List.getD list (Int.toNat i) M.af.zero)) (M.ae.re t))
 bif (!(Option.getD q0 default)) then
 let q1:=((Option.isSome q0)&&((Go.V.inB i (List.length list))&&true))
 bif q1 then
 some (.inl false)
 else
 none
 else
 let q1:=((Option.isSome q0)&&((Go.V.inB i (List.length list))&&true))
 bif q1 then
 M.kC list fuel (Go.IntKind.wrap Go.IntKind.i64 (i+(1:Int))) (M.ae.re t)
 else
 none
 else
 some ((.inr (())))
def Di (list:(List M.af)) (t:M.ae) (most:Int):Option (Bool):=
 bif (decide (most<((List.length list):Int))) then
 some false
 else
 match (M.kC list Go.V.aG (0:Int) (M.ae.re t)) with
 |none=>none
 |some y0=>
 (match y0 with
 | .inl a1=>
 some a1
 | .inr b1=>
 some true)
def zu (s:M.ah):Option (Bool):=
 let q0:=(M.Dh (M.ae.re (M.ah.aQ s)))
 let q1:=(((!(Option.getD q0 default))||(!((decide ((1:Int)<=(M.ah.Room s)))&&(decide ((M.ah.Room s)<=(6:Int))))))||((M.ah.dn s)&&((M.ah.Room s) !=(1:Int))))
 let q2:=(M.Di (M.ah.Buffer s) (M.ae.re (M.ah.aQ s)) (M.ah.Room s))
 bif (q1||(!(Option.getD q2 default))) then
 let q3:=(((Option.isSome q2)||(!(q1==false)))&&((Option.isSome q0)&&true))
 bif q3 then
 some false
 else
 none
 else
 bif (((decide ((M.ah.BG s)<(0:Int)))||(!((decide ((M.ah.BG s)<=(M.ah.Put s)))&&(decide ((M.ah.Put s)<=(1000000:Int))))))||((M.ah.dn s)&&(decide ((1:Int)<(M.ah.Put s))))) then
 let q3:=(((Option.isSome q2)||(!(q1==false)))&&((Option.isSome q0)&&true))
 bif q3 then
 some false
 else
 none
 else
 bif (((M.ah.Gone s)&&(decide ((0:Int)<((List.length (M.ah.Buffer s)):Int))))||((!(M.ah.Gone s))&&((Go.IntKind.wrap Go.IntKind.i64 ((M.ah.Put s)-(M.ah.BG s))) !=((List.length (M.ah.Buffer s)):Int)))) then
 let q3:=(((Option.isSome q2)||(!(q1==false)))&&((Option.isSome q0)&&true))
 bif q3 then
 some false
 else
 none
 else
 let q3:=(((Option.isSome q2)||(!(q1==false)))&&((Option.isSome q0)&&true))
 bif q3 then
 some ((((!(M.ah.dn s))||(!(M.ah.Shut s)))||((M.ah.Put s)==(1:Int)))||(M.ah.Gone s))
 else
 none
def qK (cu:M.ae->Option (M.ae)) (t2:Int) (t22:(List UInt8)) (out:Int) (XN:(List UInt8)) (o7:(List (List UInt8))) (o8:(List M.ae)) (o9:(List (List UInt8))):Nat->Int->M.ae->(List M.ae)->Option (Int×(List UInt8)×Int×(List UInt8)×(List (List UInt8))×(List M.ae)×(List (List UInt8))×(List M.ae))
 |0,_,_,_=>none
 |fuel+1,i,t,o10=>
 bif (decide (i<((List.length (M.ae.Kids t)):Int))) then
 let q0:=[(M.ae.re (Option.getD (cu (M.ae.re (List.getD (M.ae.Kids t) (Int.toNat i) M.ae.zero))) default))]
 bif ((decide (((List.length o10)+(List.length q0))<=1073741824))&&((Option.isSome (cu (M.ae.re (List.getD (M.ae.Kids t) (Int.toNat i) M.ae.zero))))&&((Go.V.inB i (List.length (M.ae.Kids t)))&&true))) then
 M.qK cu t2 t22 out XN o7 o8 o9 fuel (Go.IntKind.wrap Go.IntKind.i64 (i+(1:Int))) (M.ae.re t) (o10++q0)
 else
 none
 else
 some ((t2,t22,out,XN,o7,o8,o9,o10))
def D5 (cu:M.ae->Option (M.ae)) (t:M.ae):Option (M.ae):=
 match (M.qK cu (0:Int) [] (M.ae.Kind t) (M.ae.Name t) [] [] ([]++(M.ae.aJ t)) Go.V.aG (0:Int) (M.ae.re t) []) with
 |none=>none
 |some y0=>
 bif ((decide ((0+(List.length (M.ae.aJ t)))<=1073741824))&&true) then
 let q1:=y0.2.2
 let q2:=q1.2
 let q3:=q2.2.2.2
 some (M.ae.mk q1.1 q2.1 q3.1 q3.2)
 else
 none
def tC : Nat->M.ae->Option (M.ae)
 |0=>fun _=>none
 |n+1=>D5 (tC n)
def QQ : M.ae->Option (M.ae):=tC Go.V.aG
def kD (bJ:M.af->Option (M.af)) (t2:Int) (t22:Int) (t23:(List UInt8)) (out:Int) (XN:Int) (acP:(List UInt8)) (o5:(List M.af)):Nat->Int->M.af->(List M.af)->Option (Int×Int×(List UInt8)×Int×Int×(List UInt8)×(List M.af)×(List M.af))
 |0,_,_,_=>none
 |fuel+1,i,v,o6=>
 bif (decide (i<((List.length (M.af.Kids v)):Int))) then
 let q0:=[(M.af.re (Option.getD (bJ (M.af.re (List.getD (M.af.Kids v) (Int.toNat i) M.af.zero))) default))]
 bif ((decide (((List.length o6)+(List.length q0))<=1073741824))&&((Option.isSome (bJ (M.af.re (List.getD (M.af.Kids v) (Int.toNat i) M.af.zero))))&&((Go.V.inB i (List.length (M.af.Kids v)))&&true))) then
 M.kD bJ t2 t22 t23 out XN acP o5 fuel (Go.IntKind.wrap Go.IntKind.i64 (i+(1:Int))) (M.af.re v) (o6++q0)
 else
 none
 else
 some ((t2,t22,t23,out,XN,acP,o5,o6))
def x8 (bJ:M.af->Option (M.af)) (v:M.af):Option (M.af):=
 match (M.kD bJ (0:Int) (0:Int) [] (M.af.Kind v) (M.af.Num v) (M.af.Text v) [] Go.V.aG (0:Int) (M.af.re v) []) with
 |none=>none
 |some y0=>
 let q1:=y0.2.2.2
 let q2:=q1.2
 let q3:=q2.2
 some (M.af.mk q1.1 q2.1 q3.1 q3.2.2)
def lG : Nat->M.af->Option (M.af)
 |0=>fun _=>none
 |n+1=>x8 (lG n)
def IV : M.af->Option (M.af):=lG Go.V.aG
def zx (s:M.ah):Option (M.ah×Int):=
 bif (M.ah.Gone s) then
 some ((M.ah.mk (M.ae.mk (0:Int) [] [] []) (0:Int) false [] (0:Int) (0:Int) false false),(5:Int))
 else
 some ((M.ah.mk (M.ae.re (M.ah.aQ s)) (M.ah.Room s) (M.ah.dn s) [] (M.ah.Put s) (M.ah.BG s) (M.ah.Shut s) true),(0:Int))
def Hy (t:M.ae):Option (Bool):=
 let q0:=(M.Nc (M.ae.re t))
 let q1:=(M.abh (M.ae.re t) (4:Int))
 let q2:=(M.WN (M.ae.re t))
 let q3:=((decide ((Option.getD q1 default)<=(4:Int)))&&(decide ((Option.getD q2 default)<=(24:Int))))
 bif (((Option.isSome q0)||(!(q3==true)))&&(((Option.isSome q2)||(!((decide ((Option.getD q1 default)<=(4:Int)))==true)))&&((Option.isSome q1)&&true))) then
 some (q3&&(Option.getD q0 default))
 else
 none
def uD (t:M.ae):Option (Bool):=
 let q0:=(M.rP (M.ae.re t) [(20:Int),(21:Int),(22:Int),(23:Int)])
 let q1:=(M.Hy (M.ae.re t))
 let q2:=((Option.getD q1 default)&&(!((M.ae.Kind t)==(1:Int))))
 bif (((Option.isSome q0)||(!(q2==true)))&&((Option.isSome q1)&&true)) then
 some (q2&&(!(Option.getD q0 default)))
 else
 none
def x9 (list:(List M.af)):Option (Int):=
 some ((List.length list):Int)
def zA (kind:Int):Option (Int×Int×Bool):=
 bif (kind==(3:Int)) then
 some ((0:Int),(255:Int),true)
 else
 bif (kind==(4:Int)) then
 some ((-(128:Int)),(127:Int),true)
 else
 bif (kind==(5:Int)) then
 some ((0:Int),(65535:Int),true)
 else
 bif (kind==(6:Int)) then
 some ((-(32768:Int)),(32767:Int),true)
 else
 bif (kind==(7:Int)) then
 some ((0:Int),(4294967295:Int),true)
 else
 bif (kind==(8:Int)) then
 some ((-(2147483648:Int)),(2147483647:Int),true)
 else
 bif (kind==(9:Int)) then
 some ((-(9223372036854775808:Int)),(9223372036854775807:Int),true)
 else
 some ((0:Int),(0:Int),false)
def QU (n:Int):Option (Bool):=
 some (((decide ((0:Int)<=n))&&(decide (n<=(55295:Int))))||((decide ((57344:Int)<=n))&&(decide (n<=(1114111:Int)))))
def Nj (v:M.af) (t:M.ae):Option (Bool):=
 bif (bif ((M.ae.Kind t)==(2:Int)) then ((M.ae.Kind t)==(2:Int)) else (bif ((M.ae.Kind t)==(13:Int)) then ((M.ae.Kind t)==(13:Int)) else ((M.ae.Kind t)==(14:Int)))) then
 some ((decide ((0:Int)<=(M.af.Num v)))&&(decide ((M.af.Num v)<=(1:Int))))
 else
 bif (bif ((M.ae.Kind t)==(3:Int)) then ((M.ae.Kind t)==(3:Int)) else (bif ((M.ae.Kind t)==(4:Int)) then ((M.ae.Kind t)==(4:Int)) else (bif ((M.ae.Kind t)==(5:Int)) then ((M.ae.Kind t)==(5:Int)) else (bif ((M.ae.Kind t)==(6:Int)) then ((M.ae.Kind t)==(6:Int)) else (bif ((M.ae.Kind t)==(7:Int)) then ((M.ae.Kind t)==(7:Int)) else (bif ((M.ae.Kind t)==(8:Int)) then ((M.ae.Kind t)==(8:Int)) else ((M.ae.Kind t)==(9:Int)))))))) then
 let q0:=(M.zA (M.ae.Kind t))
 bif ((Option.isSome q0)&&true) then
 some ((decide ((Option.getD q0 default).1<=(M.af.Num v)))&&(decide ((M.af.Num v)<=(Option.getD q0 default).2.1)))
 else
 none
 else
 bif ((M.ae.Kind t)==(10:Int)) then
 some (Option.getD (M.QU (M.af.Num v)) default)
 else
 some ((decide ((0:Int)<=(M.af.Num v)))&&(decide ((M.af.Num v)<=(bif (bif ((M.ae.Kind t)==(17:Int)) then ((M.ae.Kind t)==(17:Int)) else ((M.ae.Kind t)==(18:Int))) then (Go.IntKind.wrap Go.IntKind.i64 (((List.length (M.ae.aJ t)):Int)-(1:Int))) else (bif ((M.ae.Kind t)==(19:Int)) then (Go.IntKind.wrap Go.IntKind.i64 ((Go.V.abD Go.IntKind.i64 (1:Int) ((List.length (M.ae.aJ t)):Int))-(1:Int))) else (bif (bif ((M.ae.Kind t)==(20:Int)) then ((M.ae.Kind t)==(20:Int)) else (bif ((M.ae.Kind t)==(21:Int)) then ((M.ae.Kind t)==(21:Int)) else (bif ((M.ae.Kind t)==(22:Int)) then ((M.ae.Kind t)==(22:Int)) else ((M.ae.Kind t)==(23:Int))))) then (2147483647:Int) else (0:Int)))))))
def Hz (s:(List UInt8)):Option (Bool):=
 let q0:=(M.eG s)
 bif (((Option.isSome q0)||(!((decide (((List.length s):Int)<=(24:Int)))==true)))&&true) then
 some ((decide (((List.length s):Int)<=(24:Int)))&&(Option.getD q0 default))
 else
 none
def tH (t:M.ae) (num:Int):Option (M.ae×Bool):=
 bif ((M.ae.Kind t)==(13:Int)) then
 bif (num==(0:Int)) then
 some ((M.ae.mk (1:Int) [] [] []),true)
 else
 bif (!((decide ((0:Int)<=(Go.IntKind.wrap Go.IntKind.i64 (num-(1:Int)))))&&(decide ((Go.IntKind.wrap Go.IntKind.i64 (num-(1:Int)))<=(Go.IntKind.wrap Go.IntKind.i64 (((List.length (M.ae.Kids t)):Int)-(1:Int))))))) then
 some ((M.ae.mk (0:Int) [] [] []),false)
 else
 bif ((Go.V.inB (Go.IntKind.wrap Go.IntKind.i64 (num-(1:Int))) (List.length (M.ae.Kids t)))&&true) then
 some ((M.ae.re (List.getD (M.ae.Kids t) (Int.toNat (Go.IntKind.wrap Go.IntKind.i64 (num-(1:Int)))) M.ae.zero)),true)
 else
 none
 else
 bif (!((decide ((0:Int)<=num))&&(decide (num<=(Go.IntKind.wrap Go.IntKind.i64 (((List.length (M.ae.Kids t)):Int)-(1:Int))))))) then
 some ((M.ae.mk (0:Int) [] [] []),false)
 else
 bif ((Go.V.inB num (List.length (M.ae.Kids t)))&&true) then
 some ((M.ae.re (List.getD (M.ae.Kids t) (Int.toNat num) M.ae.zero)),true)
 else
 none
def zB (v:M.af) (t:M.ae):Option ((List M.ae)×Bool):=
 bif ((M.ae.Kind t)==(12:Int)) then
 let q0:=(M.eQ (M.ae.Kids t) (bif (decide ((8:Int)<((List.length (M.af.Kids v)):Int))) then (8:Int) else ((List.length (M.af.Kids v)):Int)))
 bif ((Option.isSome q0)&&true) then
 some ((Option.getD q0 default),true)
 else
 none
 else
 bif (bif ((M.ae.Kind t)==(15:Int)) then ((M.ae.Kind t)==(15:Int)) else ((M.ae.Kind t)==(16:Int))) then
 some ((M.ae.Kids t),true)
 else
 bif (bif ((M.ae.Kind t)==(13:Int)) then ((M.ae.Kind t)==(13:Int)) else (bif ((M.ae.Kind t)==(14:Int)) then ((M.ae.Kind t)==(14:Int)) else ((M.ae.Kind t)==(17:Int)))) then
 let q0:=(M.tH (M.ae.re t) (M.af.Num v))
 bif ((M.ae.Kind (Option.getD q0 default).1)==(1:Int)) then
 bif ((Option.isSome q0)&&true) then
 some ([],(Option.getD q0 default).2)
 else
 none
 else
 bif ((Option.isSome q0)&&true) then
 some ([(M.ae.re (Option.getD q0 default).1)],(Option.getD q0 default).2)
 else
 none
 else
 some ([],true)
def rU (dF:M.af->M.ae->Option (Bool)) (kids:(List M.ae)) (t53:(List M.af)) (t54:Int):Nat->Int->Option ((Bool)⊕(Unit))
 |0,_=>none
 |fuel+1,t55=>
 bif (decide (t55<t54)) then
 bif (!(Option.getD (dF (M.af.re (List.getD t53 (Int.toNat t55) M.af.zero)) (M.ae.re (List.getD kids (Int.toNat t55) M.ae.zero))) default)) then
 let q0:=((Option.isSome (dF (M.af.re (List.getD t53 (Int.toNat t55) M.af.zero)) (M.ae.re (List.getD kids (Int.toNat t55) M.ae.zero))))&&((Go.V.inB t55 (List.length kids))&&((Go.V.inB t55 (List.length t53))&&true)))
 bif q0 then
 some (.inl false)
 else
 none
 else
 let q0:=((Option.isSome (dF (M.af.re (List.getD t53 (Int.toNat t55) M.af.zero)) (M.ae.re (List.getD kids (Int.toNat t55) M.ae.zero))))&&((Go.V.inB t55 (List.length kids))&&((Go.V.inB t55 (List.length t53))&&true)))
 bif q0 then
 M.rU dF kids t53 t54 fuel (Go.IntKind.wrap Go.IntKind.i64 (t55+(1:Int)))
 else
 none
 else
 some ((.inr (())))
def Lt (dF:M.af->M.ae->Option (Bool)) (v:M.af) (t:M.ae):Option (Bool):=
 let q0:=(M.Nj (M.af.re v) (M.ae.re t))
 let q1:=((((M.af.Kind v) !=(M.ae.Kind t))||(!(Option.getD q0 default)))||((!((M.af.Text v)==[]))&&((M.ae.Kind t) !=(11:Int))))
 let q2:=(M.Hz (M.af.Text v))
 bif (q1||(!(Option.getD q2 default))) then
 let q3:=(((Option.isSome q2)||(!(q1==false)))&&(((Option.isSome q0)||(!(((M.af.Kind v) !=(M.ae.Kind t))==false)))&&true))
 bif q3 then
 some false
 else
 none
 else
 let q3:=(M.zB (M.af.re v) (M.ae.re t))
 let q4:=(Option.getD q3 default).1
 bif ((!(Option.getD q3 default).2)||(((List.length q4):Int) !=((List.length (M.af.Kids v)):Int))) then
 let q5:=(((Option.isSome q2)||(!(q1==false)))&&(((Option.isSome q0)||(!(((M.af.Kind v) !=(M.ae.Kind t))==false)))&&true))
 let q6:=((Option.isSome q3)&&q5)
 bif q6 then
 some false
 else
 none
 else
 match (M.rU dF q4 (M.af.Kids v) ((List.length (M.af.Kids v)):Int) Go.V.aG (0:Int)) with
 |none=>none
 |some y5=>
 (match y5 with
 | .inl a6=>
 let q7:=(((Option.isSome q2)||(!(q1==false)))&&(((Option.isSome q0)||(!(((M.af.Kind v) !=(M.ae.Kind t))==false)))&&true))
 let q8:=((Option.isSome q3)&&q7)
 bif q8 then
 some a6
 else
 none
 | .inr b6=>
 let q7:=(((Option.isSome q2)||(!(q1==false)))&&(((Option.isSome q0)||(!(((M.af.Kind v) !=(M.ae.Kind t))==false)))&&true))
 let q8:=((Option.isSome q3)&&q7)
 bif q8 then
 some true
 else
 none)
def vC : Nat->M.af->M.ae->Option (Bool)
 |0=>fun _ _=>none
 |n+1=>Lt (vC n)
def abu : M.af->M.ae->Option (Bool):=vC Go.V.aG
def rV (v:M.af) (t1:M.ah):Option (Bool):=
 let q0:=(M.abu (M.af.re v) (M.ae.re (M.ah.aQ t1)))
 bif ((Option.isSome q0)&&true) then
 some (!(Option.getD q0 default))
 else
 none
def dG (s:(List M.af)) (f:M.ah) (t7:Int):Nat->Int->Option ((Int)⊕(Unit))
 |0,_=>none
 |fuel+1,t8=>
 bif (decide (t8<t7)) then
 let q0:=(M.rV (M.af.re (List.getD s (Int.toNat t8) M.af.zero)) f)
 bif (Option.getD q0 default) then
 let q1:=((Option.isSome q0)&&((Go.V.inB t8 (List.length s))&&true))
 bif q1 then
 some (.inl t8)
 else
 none
 else
 let q1:=((Option.isSome q0)&&((Go.V.inB t8 (List.length s))&&true))
 bif q1 then
 M.dG s f t7 fuel (Go.IntKind.wrap Go.IntKind.i64 (t8+(1:Int)))
 else
 none
 else
 some ((.inr (())))
def fV (s:(List M.af)) (f:M.ah):Option (Int):=
 match (M.dG s f ((List.length s):Int) Go.V.aG (0:Int)) with
 |none=>none
 |some y0=>
 (match y0 with
 | .inl a1=>
 some a1
 | .inr b1=>
 some (-(1:Int)))
def ed (s:(List M.af)) (f:M.ah):Option (Bool):=
 let q0:=(M.fV s f)
 bif ((Option.isSome q0)&&true) then
 some (decide ((0:Int)<=(Option.getD q0 default)))
 else
 none
def vG (s:M.ah):Option (Int):=
 bif (M.ah.dn s) then
 some (1:Int)
 else
 some (1000000:Int)
def zC (s:M.ah):Option (Bool):=
 let q0:=(M.uD (M.ae.re (M.ah.aQ s)))
 bif ((((!(Option.getD q0 default))||(!((decide ((1:Int)<=(M.ah.Room s)))&&(decide ((M.ah.Room s)<=(6:Int))))))||((M.ah.dn s)&&((M.ah.Room s) !=(1:Int))))||(decide ((M.ah.Room s)<((List.length (M.ah.Buffer s)):Int)))) then
 bif ((Option.isSome q0)&&true) then
 some false
 else
 none
 else
 let q1:=(M.ed (M.ah.Buffer s) (M.ah.re s))
 let q2:=((Option.getD q1 default)||(decide ((M.ah.BG s)<(0:Int))))
 let q3:=(M.vG (M.ah.re s))
 bif (q2||(!((decide ((M.ah.BG s)<=(M.ah.Put s)))&&(decide ((M.ah.Put s)<=(Option.getD q3 default)))))) then
 let q4:=(((Option.isSome q3)||(!(q2==false)))&&((Option.isSome q1)&&((Option.isSome q0)&&true)))
 bif q4 then
 some false
 else
 none
 else
 bif (((M.ah.Gone s)&&(decide ((0:Int)<((List.length (M.ah.Buffer s)):Int))))||((!(M.ah.Gone s))&&((Go.IntKind.wrap Go.IntKind.i64 ((M.ah.Put s)-(M.ah.BG s))) !=((List.length (M.ah.Buffer s)):Int)))) then
 let q4:=(((Option.isSome q3)||(!(q2==false)))&&((Option.isSome q1)&&((Option.isSome q0)&&true)))
 bif q4 then
 some false
 else
 none
 else
 let q4:=(((Option.isSome q3)||(!(q2==false)))&&((Option.isSome q1)&&((Option.isSome q0)&&true)))
 bif q4 then
 some ((((!(M.ah.dn s))||(!(M.ah.Shut s)))||((M.ah.Put s)==(1:Int)))||(M.ah.Gone s))
 else
 none
def mi (s:Int) (s2:(List UInt8)) (s3:Int) (s4:Bool) (s5:Int) (s6:Int) (s7:Bool) (s8:Bool) (o1:(List (List UInt8))) (o2:(List M.ae)) (o3:(List M.af)):Option (Int×Int×(List UInt8)×Int×Bool×Int×Int×Bool×Bool×(List (List UInt8))×(List M.ae)×(List M.af)):=
 bif s8 then
 some ((5:Int),s,s2,s3,s4,s5,s6,s7,s8,o1,o2,o3)
 else
 some ((0:Int),s,s2,s3,s4,s5,s6,s7,true,o1,o2,[])
def pg : Nat->Int->(List UInt8)->Option ((List UInt8))
 |0,_,_=>none
 |fuel+1,k,out=>
 bif (decide ((0:Int)<k)) then
 let q0:=(Go.IntKind.wrap Go.IntKind.u8 (Go.IntKind.wrap Go.IntKind.i64 ((48:Int)+(Int.tmod k (10:Int)))))
 let q1:=(List.map (fun a=>a) [(Go.V.CS q0)])
 bif (((10:Int) !=(0:Int))&&((Go.V.agn q1 out)&&(((Go.V.I8 q0)&&true)&&(((10:Int) !=(0:Int))&&true)))) then
 M.pg fuel (Go.IntKind.wrap Go.IntKind.i64 (Int.tdiv k (10:Int))) (q1++out)
 else
 none
 else
 some (out)
def gz (k:Int):Option ((List UInt8)):=
 bif (decide (k<=(0:Int))) then
 some [(109:UInt8),(48:UInt8)]
 else
 match (M.pg Go.V.aG k []) with
 |none=>none
 |some y0=>
 bif ((Go.V.agn [(109:UInt8)] y0)&&true) then
 some ([(109:UInt8)]++y0)
 else
 none
def jV : Nat->Int->Int->(List (List UInt8))->Option (Int×(List (List UInt8)))
 |0,_,_,_=>none
 |fuel+1,k,i,a=>
 bif (decide (i<((List.length a):Int))) then
 let q0:=(M.gz k)
 bif ((Go.V.inB i (List.length a))&&(((Option.isSome q0)&&true)&&true)) then
 M.jV fuel (Go.IntKind.wrap Go.IntKind.i64 (k+(1:Int))) (Go.IntKind.wrap Go.IntKind.i64 (i+(1:Int))) (List.set a (Int.toNat i) (Option.getD q0 default))
 else
 none
 else
 some ((k,a))
def lV (k:Int) (a:(List (List UInt8))):Option (Int×(List (List UInt8))):=
 match (M.jV Go.V.aG k (0:Int) a) with
 |none=>none
 |some y0=>
 some (y0.1,y0.2)
def mZ (bG:Int->(List M.ae)->Option (Int×(List M.ae))):Nat->Int->Int->(List M.ae)->Option (Int×(List M.ae))
 |0,_,_,_=>none
 |fuel+1,k,i,a=>
 bif (decide (i<((List.length a):Int))) then
 let q0:=(List.set a (Int.toNat i) (M.ae.mk k (M.ae.Name (List.getD a (Int.toNat i) M.ae.zero)) (M.ae.aJ (List.getD a (Int.toNat i) M.ae.zero)) (M.ae.Kids (List.getD a (Int.toNat i) M.ae.zero))))
 let q1:=(List.getD q0 (Int.toNat i) M.ae.zero)
 let q2:=(M.gz (Go.IntKind.wrap Go.IntKind.i64 (k+(1:Int))))
 let q3:=(List.set q0 (Int.toNat i) (M.ae.mk (M.ae.Kind q1) (Option.getD q2 default) (M.ae.aJ q1) (M.ae.Kids q1)))
 let q4:=(List.getD q3 (Int.toNat i) M.ae.zero)
 let q5:=(M.lV (Go.IntKind.wrap Go.IntKind.i64 ((Go.IntKind.wrap Go.IntKind.i64 (k+(1:Int)))+(1:Int))) (M.ae.aJ q4))
 let q6:=(Option.getD q5 default)
 let q7:=(List.set q3 (Int.toNat i) (M.ae.mk (M.ae.Kind q4) (M.ae.Name q4) q6.2 (M.ae.Kids q4)))
 let q8:=(List.getD q7 (Int.toNat i) M.ae.zero)
 bif (((Option.isSome (bG q6.1 (M.ae.Kids q8)))&&true)&&((Go.V.inB i (List.length q7))&&(((Option.isSome q5)&&true)&&((Go.V.inB i (List.length q3))&&((Go.V.inB i (List.length q0))&&(((Option.isSome q2)&&true)&&((Go.V.inB i (List.length a))&&true))))))) then
 let q9:=(Option.getD (bG q6.1 (M.ae.Kids q8)) default)
 M.mZ bG fuel q9.1 (Go.IntKind.wrap Go.IntKind.i64 (i+(1:Int))) (List.set q7 (Int.toNat i) (M.ae.mk (M.ae.Kind q8) (M.ae.Name q8) (M.ae.aJ q8) q9.2))
 else
 none
 else
 some ((k,a))
def vH (bG:Int->(List M.ae)->Option (Int×(List M.ae))) (k:Int) (a:(List M.ae)):Option (Int×(List M.ae)):=
 match (M.mZ bG Go.V.aG k (0:Int) a) with
 |none=>none
 |some y0=>
 some (y0.1,y0.2)
def pq : Nat->Int->(List M.ae)->Option (Int×(List M.ae))
 |0=>fun _ _=>none
 |n+1=>vH (pq n)
def Fj : Int->(List M.ae)->Option (Int×(List M.ae)):=pq Go.V.aG
def Eg (a:Int) (a2:(List UInt8)) (k:Int) (o0:(List (List UInt8))) (o1:(List M.ae)):Option (Int×(List (List UInt8))×(List M.ae)):=
 let q0:=(M.lV k o0)
 let q1:=(M.Fj (Option.getD q0 default).1 o1)
 bif (((Option.isSome q1)&&true)&&(((Option.isSome q0)&&true)&&true)) then
 let q2:=(Option.getD q1 default)
 some (q2.1,(Option.getD q0 default).2,q2.2)
 else
 none
def kV (bu:Int->(List M.af)->Option (Int×(List M.af))):Nat->Int->Int->(List M.af)->Option (Int×(List M.af))
 |0,_,_,_=>none
 |fuel+1,k,i,a=>
 bif (decide (i<((List.length a):Int))) then
 let q0:=(Go.IntKind.wrap Go.IntKind.i64 ((Go.IntKind.wrap Go.IntKind.i64 (k+(1:Int)))+(1:Int)))
 let q1:=(List.set a (Int.toNat i) (M.af.mk k (M.af.Num (List.getD a (Int.toNat i) M.af.zero)) (M.af.Text (List.getD a (Int.toNat i) M.af.zero)) (M.af.Kids (List.getD a (Int.toNat i) M.af.zero))))
 let q2:=(List.getD q1 (Int.toNat i) M.af.zero)
 let q3:=(List.set q1 (Int.toNat i) (M.af.mk (M.af.Kind q2) (Go.IntKind.wrap Go.IntKind.i64 (k+(1:Int))) (M.af.Text q2) (M.af.Kids q2)))
 let q4:=(List.getD q3 (Int.toNat i) M.af.zero)
 let q5:=(M.gz q0)
 let q6:=(List.set q3 (Int.toNat i) (M.af.mk (M.af.Kind q4) (M.af.Num q4) (Option.getD q5 default) (M.af.Kids q4)))
 let q7:=(List.getD q6 (Int.toNat i) M.af.zero)
 bif (((Option.isSome (bu (Go.IntKind.wrap Go.IntKind.i64 (q0+(1:Int))) (M.af.Kids q7)))&&true)&&((Go.V.inB i (List.length q6))&&((Go.V.inB i (List.length q3))&&(((Option.isSome q5)&&true)&&((Go.V.inB i (List.length q1))&&((Go.V.inB i (List.length a))&&true)))))) then
 let q8:=(Option.getD (bu (Go.IntKind.wrap Go.IntKind.i64 (q0+(1:Int))) (M.af.Kids q7)) default)
 M.kV bu fuel q8.1 (Go.IntKind.wrap Go.IntKind.i64 (i+(1:Int))) (List.set q6 (Int.toNat i) (M.af.mk (M.af.Kind q7) (M.af.Num q7) (M.af.Text q7) q8.2))
 else
 none
 else
 some ((k,a))
def tK (bu:Int->(List M.af)->Option (Int×(List M.af))) (k:Int) (a:(List M.af)):Option (Int×(List M.af)):=
 match (M.kV bu Go.V.aG k (0:Int) a) with
 |none=>none
 |some y0=>
 some (y0.1,y0.2)
def ng : Nat->Int->(List M.af)->Option (Int×(List M.af))
 |0=>fun _ _=>none
 |n+1=>tK (ng n)
def qR : Int->(List M.af)->Option (Int×(List M.af)):=ng Go.V.aG
def oP (a:Int) (a2:(List UInt8)) (a3:Int) (a4:Bool) (a5:Int) (a6:Int) (a7:Bool) (a8:Bool) (k:Int) (o0:(List (List UInt8))) (o1:(List M.ae)) (o2:(List M.af)):Option (Int×(List (List UInt8))×(List M.ae)×(List M.af)):=
 let q0:=(M.Eg a a2 k o0 o1)
 let q1:=(Option.getD q0 default)
 let q2:=(M.qR q1.1 o2)
 bif (((Option.isSome q2)&&true)&&(((Option.isSome q0)&&true)&&true)) then
 let q3:=(Option.getD q2 default)
 let q4:=q1.2
 some (q3.1,q4.1,q4.2,q3.2)
 else
 none
def jW (a:(List (List UInt8))):Nat->Int->Int->Option ((Int)⊕(Int))
 |0,_,_=>none
 |fuel+1,k,i=>
 bif (decide (i<((List.length a):Int))) then
 let q0:=(M.gz k)
 bif (!((List.getD a (Int.toNat i) [])==(Option.getD q0 default))) then
 let q1:=((Option.isSome q0)&&((Go.V.inB i (List.length a))&&true))
 bif q1 then
 some (.inl (-(1:Int)))
 else
 none
 else
 let q1:=((Option.isSome q0)&&((Go.V.inB i (List.length a))&&true))
 bif q1 then
 M.jW a fuel (Go.IntKind.wrap Go.IntKind.i64 (k+(1:Int))) (Go.IntKind.wrap Go.IntKind.i64 (i+(1:Int)))
 else
 none
 else
 some ((.inr (k)))
def kE (a:(List (List UInt8))) (k:Int):Option (Int):=
 match (M.jW a Go.V.aG k (0:Int)) with
 |none=>none
 |some y0=>
 (match y0 with
 | .inl a1=>
 some a1
 | .inr b1=>
 some b1)
def ni (bD:(List M.ae)->Int->Option (Int)) (a:(List M.ae)):Nat->Int->Int->Option ((Int)⊕(Int))
 |0,_,_=>none
 |fuel+1,k,i=>
 bif (decide (i<((List.length a):Int))) then
 bif ((M.ae.Kind (List.getD a (Int.toNat i) M.ae.zero)) !=k) then
 bif ((Go.V.inB i (List.length a))&&true) then
 some (.inl (-(1:Int)))
 else
 none
 else
 let q0:=(M.gz (Go.IntKind.wrap Go.IntKind.i64 (k+(1:Int))))
 bif (!((M.ae.Name (List.getD a (Int.toNat i) M.ae.zero))==(Option.getD q0 default))) then
 let q1:=((Option.isSome q0)&&((Go.V.inB i (List.length a))&&((Go.V.inB i (List.length a))&&true)))
 bif q1 then
 some (.inl (-(1:Int)))
 else
 none
 else
 let q1:=(M.kE (M.ae.aJ (List.getD a (Int.toNat i) M.ae.zero)) (Go.IntKind.wrap Go.IntKind.i64 ((Go.IntKind.wrap Go.IntKind.i64 (k+(1:Int)))+(1:Int))))
 let q2:=(Option.getD q1 default)
 bif (decide (q2<(0:Int))) then
 let q3:=((Option.isSome q0)&&((Go.V.inB i (List.length a))&&((Go.V.inB i (List.length a))&&true)))
 let q4:=((Option.isSome q1)&&((Go.V.inB i (List.length a))&&q3))
 bif q4 then
 some (.inl (-(1:Int)))
 else
 none
 else
 let q3:=(Option.getD (bD (M.ae.Kids (List.getD a (Int.toNat i) M.ae.zero)) q2) default)
 bif (decide (q3<(0:Int))) then
 let q4:=((Option.isSome q0)&&((Go.V.inB i (List.length a))&&((Go.V.inB i (List.length a))&&true)))
 let q5:=((Option.isSome q1)&&((Go.V.inB i (List.length a))&&q4))
 let q6:=((Option.isSome (bD (M.ae.Kids (List.getD a (Int.toNat i) M.ae.zero)) q2))&&((Go.V.inB i (List.length a))&&q5))
 bif q6 then
 some (.inl (-(1:Int)))
 else
 none
 else
 let q4:=((Option.isSome q0)&&((Go.V.inB i (List.length a))&&((Go.V.inB i (List.length a))&&true)))
 let q5:=((Option.isSome q1)&&((Go.V.inB i (List.length a))&&q4))
 let q6:=((Option.isSome (bD (M.ae.Kids (List.getD a (Int.toNat i) M.ae.zero)) q2))&&((Go.V.inB i (List.length a))&&q5))
 bif q6 then
 M.ni bD a fuel q3 (Go.IntKind.wrap Go.IntKind.i64 (i+(1:Int)))
 else
 none
 else
 some ((.inr (k)))
def vI (bD:(List M.ae)->Int->Option (Int)) (a:(List M.ae)) (k:Int):Option (Int):=
 match (M.ni bD a Go.V.aG k (0:Int)) with
 |none=>none
 |some y0=>
 (match y0 with
 | .inl a1=>
 some a1
 | .inr b1=>
 some b1)
def pz : Nat->(List M.ae)->Int->Option (Int)
 |0=>fun _ _=>none
 |n+1=>vI (pz n)
def AY : (List M.ae)->Int->Option (Int):=pz Go.V.aG
def zF (a:M.ae) (k:Int):Option (Int):=
 let q0:=(M.kE (M.ae.aJ a) k)
 bif (decide ((Option.getD q0 default)<(0:Int))) then
 bif ((Option.isSome q0)&&true) then
 some (-(1:Int))
 else
 none
 else
 let q1:=(M.AY (M.ae.Kids a) (Option.getD q0 default))
 let q2:=(Option.getD q1 default)
 bif (decide (q2<(0:Int))) then
 let q3:=((Option.isSome q1)&&((Option.isSome q0)&&true))
 bif q3 then
 some (-(1:Int))
 else
 none
 else
 let q3:=((Option.isSome q1)&&((Option.isSome q0)&&true))
 bif q3 then
 some q2
 else
 none
def kW (aZ:(List M.af)->Int->Option (Int)) (a:(List M.af)):Nat->Int->Int->Option ((Int)⊕(Int))
 |0,_,_=>none
 |fuel+1,k,i=>
 bif (decide (i<((List.length a):Int))) then
 bif ((M.af.Kind (List.getD a (Int.toNat i) M.af.zero)) !=k) then
 bif ((Go.V.inB i (List.length a))&&true) then
 some (.inl (-(1:Int)))
 else
 none
 else
 bif ((M.af.Num (List.getD a (Int.toNat i) M.af.zero)) !=(Go.IntKind.wrap Go.IntKind.i64 (k+(1:Int)))) then
 let q0:=((Go.V.inB i (List.length a))&&((Go.V.inB i (List.length a))&&true))
 bif q0 then
 some (.inl (-(1:Int)))
 else
 none
 else
 let q0:=(Go.IntKind.wrap Go.IntKind.i64 ((Go.IntKind.wrap Go.IntKind.i64 (k+(1:Int)))+(1:Int)))
 let q1:=(M.gz q0)
 bif (!((M.af.Text (List.getD a (Int.toNat i) M.af.zero))==(Option.getD q1 default))) then
 let q2:=((Go.V.inB i (List.length a))&&((Go.V.inB i (List.length a))&&true))
 let q3:=((Option.isSome q1)&&((Go.V.inB i (List.length a))&&q2))
 bif q3 then
 some (.inl (-(1:Int)))
 else
 none
 else
 let q2:=(Option.getD (aZ (M.af.Kids (List.getD a (Int.toNat i) M.af.zero)) (Go.IntKind.wrap Go.IntKind.i64 (q0+(1:Int)))) default)
 bif (decide (q2<(0:Int))) then
 let q3:=((Go.V.inB i (List.length a))&&((Go.V.inB i (List.length a))&&true))
 let q4:=((Option.isSome q1)&&((Go.V.inB i (List.length a))&&q3))
 let q5:=((Option.isSome (aZ (M.af.Kids (List.getD a (Int.toNat i) M.af.zero)) (Go.IntKind.wrap Go.IntKind.i64 (q0+(1:Int)))))&&((Go.V.inB i (List.length a))&&q4))
 bif q5 then
 some (.inl (-(1:Int)))
 else
 none
 else
 let q3:=((Go.V.inB i (List.length a))&&((Go.V.inB i (List.length a))&&true))
 let q4:=((Option.isSome q1)&&((Go.V.inB i (List.length a))&&q3))
 let q5:=((Option.isSome (aZ (M.af.Kids (List.getD a (Int.toNat i) M.af.zero)) (Go.IntKind.wrap Go.IntKind.i64 (q0+(1:Int)))))&&((Go.V.inB i (List.length a))&&q4))
 bif q5 then
 M.kW aZ a fuel q2 (Go.IntKind.wrap Go.IntKind.i64 (i+(1:Int)))
 else
 none
 else
 some ((.inr (k)))
def tN (aZ:(List M.af)->Int->Option (Int)) (a:(List M.af)) (k:Int):Option (Int):=
 match (M.kW aZ a Go.V.aG k (0:Int)) with
 |none=>none
 |some y0=>
 (match y0 with
 | .inl a1=>
 some a1
 | .inr b1=>
 some b1)
def ny : Nat->(List M.af)->Int->Option (Int)
 |0=>fun _ _=>none
 |n+1=>tN (ny n)
def qU : (List M.af)->Int->Option (Int):=ny Go.V.aG
def qV (a:M.ah) (k:Int):Option (Int):=
 let q0:=(M.zF (M.ae.re (M.ah.aQ a)) k)
 bif (decide ((Option.getD q0 default)<(0:Int))) then
 bif ((Option.isSome q0)&&true) then
 some (-(1:Int))
 else
 none
 else
 let q1:=(M.qU (M.ah.Buffer a) (Option.getD q0 default))
 let q2:=(Option.getD q1 default)
 bif (decide (q2<(0:Int))) then
 let q3:=((Option.isSome q1)&&((Option.isSome q0)&&true))
 bif q3 then
 some (-(1:Int))
 else
 none
 else
 let q3:=((Option.isSome q1)&&((Option.isSome q0)&&true))
 bif q3 then
 some q2
 else
 none
def Dj (s:M.ah):Option (M.ah×Int):=
 bif (M.ah.Shut s) then
 some ((M.ah.mk (M.ae.mk (0:Int) [] [] []) (0:Int) false [] (0:Int) (0:Int) false false),(5:Int))
 else
 bif (((M.ah.dn s)&&(!(M.ah.Gone s)))&&((M.ah.Put s)==(0:Int))) then
 some ((M.ah.mk (M.ae.mk (0:Int) [] [] []) (0:Int) false [] (0:Int) (0:Int) false false),(3:Int))
 else
 some ((M.ah.mk (M.ae.re (M.ah.aQ s)) (M.ah.Room s) (M.ah.dn s) (M.ah.Buffer s) (M.ah.Put s) (M.ah.BG s) true (M.ah.Gone s)),(0:Int))
def ou (s:Int) (s2:(List UInt8)) (s3:Int) (s4:Bool) (s5:Int) (s6:Int) (s7:Bool) (s8:Bool) (o1:(List (List UInt8))) (o2:(List M.ae)) (o3:(List M.af)):Option (Int×Int×(List UInt8)×Int×Bool×Int×Int×Bool×Bool×(List (List UInt8))×(List M.ae)×(List M.af)):=
 bif s7 then
 some ((5:Int),s,s2,s3,s4,s5,s6,s7,s8,o1,o2,o3)
 else
 bif ((s4&&(s5==(0:Int)))&&(!s8)) then
 some ((3:Int),s,s2,s3,s4,s5,s6,s7,s8,o1,o2,o3)
 else
 some ((0:Int),s,s2,s3,s4,s5,s6,true,s8,o1,o2,o3)
def Dk (s:M.ah):Option (Int):=
 bif (M.ah.dn s) then
 some (1:Int)
 else
 some (1000000:Int)
def vJ (a:Int) (b:Int):Option (Int):=
 bif (decide (a<b)) then
 some a
 else
 some b
def qi (a:(List M.ai)) (left:Int):Option (Int):=
 bif (decide ((Go.IntKind.wrap Go.IntKind.i64 (left-((List.length a):Int)))<(0:Int))) then
 some (-(1:Int))
 else
 some (Go.IntKind.wrap Go.IntKind.i64 (left-((List.length a):Int)))
def vK (a:M.ai):Option (M.ai):=
 some a
def iC (a:(List M.ai)):Nat->Int->(List M.ai)->Option ((List M.ai))
 |0,_,_=>none
 |fuel+1,i,out=>
 bif (decide (i<((List.length a):Int))) then
 bif ((Go.V.inB i (List.length out))&&((Go.V.inB i (List.length a))&&true)) then
 M.iC a fuel (Go.IntKind.wrap Go.IntKind.i64 (i+(1:Int))) (List.set out (Int.toNat i) (List.getD a (Int.toNat i) M.ai.zero))
 else
 none
 else
 some (out)
def qj (a:(List M.ai)):Option ((List M.ai)):=
 match (M.iC a Go.V.aG (0:Int) (List.replicate (Int.toNat ((List.length a):Int)) (M.ai.mk false false (0:Int)))) with
 |none=>none
 |some y0=>
 bif (((decide (((List.length a):Int)<=((List.length a):Int)))&&(decide (((List.length a):Int)<=(1073741824:Int))))&&true) then
 some y0
 else
 none
def kX (first:Int) (many:Int):Nat->Int->(List M.af)->Option ((List M.af))
 |0,_,_=>none
 |fuel+1,k,out=>
 bif (decide (k<many)) then
 let q0:=[(M.af.mk (9:Int) (Go.IntKind.wrap Go.IntKind.i64 (first+k)) [] [])]
 bif ((decide (((List.length out)+(List.length q0))<=1073741824))&&true) then
 M.kX first many fuel (Go.IntKind.wrap Go.IntKind.i64 (k+(1:Int))) (out++q0)
 else
 none
 else
 some (out)
def uH (first:Int) (many:Int):Option ((List M.af)):=
 match (M.kX first many Go.V.aG (0:Int) []) with
 |none=>none
 |some y0=>
 some y0
def rG (a:M.ai):Option (Bool):=
 some ((!((decide ((0:Int)<=(M.ai.nD a)))&&(decide ((M.ai.nD a)<=(8:Int)))))||((M.ai.Close a)&&((M.ai.nD a) !=(0:Int))))
def bQ (s:(List M.ai)) (t7:Int):Nat->Int->Option ((Int)⊕(Unit))
 |0,_=>none
 |fuel+1,t8=>
 bif (decide (t8<t7)) then
 let q0:=(M.rG (List.getD s (Int.toNat t8) M.ai.zero))
 bif (Option.getD q0 default) then
 let q1:=((Option.isSome q0)&&((Go.V.inB t8 (List.length s))&&true))
 bif q1 then
 some (.inl t8)
 else
 none
 else
 let q1:=((Option.isSome q0)&&((Go.V.inB t8 (List.length s))&&true))
 bif q1 then
 M.bQ s t7 fuel (Go.IntKind.wrap Go.IntKind.i64 (t8+(1:Int)))
 else
 none
 else
 some ((.inr (())))
def dX (s:(List M.ai)):Option (Int):=
 match (M.bQ s ((List.length s):Int) Go.V.aG (0:Int)) with
 |none=>none
 |some y0=>
 (match y0 with
 | .inl a1=>
 some a1
 | .inr b1=>
 some (-(1:Int)))
def dm (s:(List M.ai)):Option (Bool):=
 let q0:=(M.dX s)
 bif ((Option.isSome q0)&&true) then
 some (decide ((0:Int)<=(Option.getD q0 default)))
 else
 none
def rX (a:M.ai) (b:M.ai):Option (Bool):=
 bif (!((M.ai.Write a)==(M.ai.Write b))) then
 some false
 else
 bif (!((M.ai.Close a)==(M.ai.Close b))) then
 some false
 else
 bif ((M.ai.nD a) !=(M.ai.nD b)) then
 some false
 else
 some true
def jE (a:(List M.ai)) (b:(List M.ai)):Nat->Int->Option ((Bool)⊕(Unit))
 |0,_=>none
 |fuel+1,i=>
 bif (decide (i<((List.length a):Int))) then
 let q0:=(M.rX (List.getD a (Int.toNat i) M.ai.zero) (List.getD b (Int.toNat i) M.ai.zero))
 bif (!(Option.getD q0 default)) then
 let q1:=((Option.isSome q0)&&((Go.V.inB i (List.length b))&&((Go.V.inB i (List.length a))&&true)))
 bif q1 then
 some (.inl false)
 else
 none
 else
 let q1:=((Option.isSome q0)&&((Go.V.inB i (List.length b))&&((Go.V.inB i (List.length a))&&true)))
 bif q1 then
 M.jE a b fuel (Go.IntKind.wrap Go.IntKind.i64 (i+(1:Int)))
 else
 none
 else
 some ((.inr (())))
def qm (a:(List M.ai)) (b:(List M.ai)):Option (Bool):=
 bif (((List.length a):Int) !=((List.length b):Int)) then
 some false
 else
 match (M.jE a b Go.V.aG (0:Int)) with
 |none=>none
 |some y0=>
 (match y0 with
 | .inl a1=>
 some a1
 | .inr b1=>
 some true)
def iw : Nat->Int->Int->(List M.ai)->Option (Int×(List M.ai))
 |0,_,_,_=>none
 |fuel+1,k,i,a=>
 bif (decide (i<((List.length a):Int))) then
 let q0:=(List.set a (Int.toNat i) (M.ai.mk ((Int.tmod k (3:Int))==(0:Int)) (M.ai.Close (List.getD a (Int.toNat i) M.ai.zero)) (M.ai.nD (List.getD a (Int.toNat i) M.ai.zero))))
 let q1:=(List.getD q0 (Int.toNat i) M.ai.zero)
 let q2:=(List.set q0 (Int.toNat i) (M.ai.mk (M.ai.Write q1) ((Int.tmod (Go.IntKind.wrap Go.IntKind.i64 (k+(1:Int))) (3:Int))==(0:Int)) (M.ai.nD q1)))
 bif ((Go.V.inB i (List.length q2))&&((Go.V.inB i (List.length q0))&&(((3:Int) !=(0:Int))&&((Go.V.inB i (List.length a))&&(((3:Int) !=(0:Int))&&true))))) then
 let q3:=(Go.IntKind.wrap Go.IntKind.i64 ((Go.IntKind.wrap Go.IntKind.i64 (k+(1:Int)))+(1:Int)))
 let q4:=(List.getD q2 (Int.toNat i) M.ai.zero)
 M.iw fuel (Go.IntKind.wrap Go.IntKind.i64 (q3+(1:Int))) (Go.IntKind.wrap Go.IntKind.i64 (i+(1:Int))) (List.set q2 (Int.toNat i) (M.ai.mk (M.ai.Write q4) (M.ai.Close q4) q3))
 else
 none
 else
 some ((k,a))
def mF (k:Int) (a:(List M.ai)):Option (Int×(List M.ai)):=
 match (M.iw Go.V.aG k (0:Int) a) with
 |none=>none
 |some y0=>
 some (y0.1,y0.2)
def pF (aN:M.af->Int->Option (Int)) (a:(List M.af)):Nat->Int->Int->Option ((Int)⊕(Int))
 |0,_,_=>none
 |fuel+1,left,i=>
 bif (decide (i<((List.length a):Int))) then
 let q0:=(Option.getD (aN (M.af.re (List.getD a (Int.toNat i) M.af.zero)) left) default)
 bif (decide (q0<(0:Int))) then
 let q1:=((Option.isSome (aN (M.af.re (List.getD a (Int.toNat i) M.af.zero)) left))&&((Go.V.inB i (List.length a))&&true))
 bif q1 then
 some (.inl (-(1:Int)))
 else
 none
 else
 let q1:=((Option.isSome (aN (M.af.re (List.getD a (Int.toNat i) M.af.zero)) left))&&((Go.V.inB i (List.length a))&&true))
 bif q1 then
 M.pF aN a fuel q0 (Go.IntKind.wrap Go.IntKind.i64 (i+(1:Int)))
 else
 none
 else
 some ((.inr (left)))
def qY (aN:M.af->Int->Option (Int)) (a:(List M.af)) (left:Int):Option (Int):=
 bif (decide ((Go.IntKind.wrap Go.IntKind.i64 (left-((List.length a):Int)))<(0:Int))) then
 some (-(1:Int))
 else
 match (M.pF aN a Go.V.aG (Go.IntKind.wrap Go.IntKind.i64 (left-((List.length a):Int))) (0:Int)) with
 |none=>none
 |some y0=>
 (match y0 with
 | .inl a1=>
 some a1
 | .inr b1=>
 some b1)
def AZ (aN:M.af->Int->Option (Int)) (a:M.af) (left:Int):Option (Int):=
 bif (decide ((Go.IntKind.wrap Go.IntKind.i64 (left-((List.length (M.af.Text a)):Int)))<(0:Int))) then
 some (-(1:Int))
 else
 let q0:=(M.qY aN (M.af.Kids a) (Go.IntKind.wrap Go.IntKind.i64 (left-((List.length (M.af.Text a)):Int))))
 let q1:=(Option.getD q0 default)
 bif (decide (q1<(0:Int))) then
 let q2:=((Option.isSome q0)&&true)
 bif q2 then
 some (-(1:Int))
 else
 none
 else
 let q2:=((Option.isSome q0)&&true)
 bif q2 then
 some q1
 else
 none
def tX : Nat->M.af->Int->Option (Int)
 |0=>fun _ _=>none
 |n+1=>AZ (tX n)
def Dl : M.af->Int->Option (Int):=tX Go.V.aG
def lW (aP:M.af->Option (Int×Int×(List UInt8)×(List M.af))) (a:(List M.af)):Nat->Int->(List M.af)->Option ((List M.af))
 |0,_,_=>none
 |fuel+1,i,out=>
 bif (decide (i<((List.length a):Int))) then
 bif ((Go.V.inB i (List.length out))&&((Option.isSome (aP (M.af.re (List.getD a (Int.toNat i) M.af.zero))))&&((Go.V.inB i (List.length a))&&true))) then
 let q0:=(Option.getD (aP (M.af.re (List.getD a (Int.toNat i) M.af.zero))) default)
 let q1:=q0.2
 let q2:=q1.2
 M.lW aP a fuel (Go.IntKind.wrap Go.IntKind.i64 (i+(1:Int))) (List.set out (Int.toNat i) (M.af.mk q0.1 q1.1 q2.1 q2.2))
 else
 none
 else
 some (out)
def qZ (aP:M.af->Option (Int×Int×(List UInt8)×(List M.af))) (a:(List M.af)):Option ((List M.af)):=
 match (M.lW aP a Go.V.aG (0:Int) (List.replicate (Int.toNat ((List.length a):Int)) (M.af.mk (0:Int) (0:Int) [] []))) with
 |none=>none
 |some y0=>
 bif (((decide (((List.length a):Int)<=((List.length a):Int)))&&(decide (((List.length a):Int)<=(1073741824:Int))))&&true) then
 some y0
 else
 none
def A7 (aP:M.af->Option (Int×Int×(List UInt8)×(List M.af))) (a:M.af):Option (Int×Int×(List UInt8)×(List M.af)):=
 let q0:=(M.qZ aP (M.af.Kids a))
 bif ((Option.isSome q0)&&true) then
 some ((M.af.Kind a),(M.af.Num a),(M.af.Text a),(Option.getD q0 default))
 else
 none
def tY : Nat->M.af->Option (Int×Int×(List UInt8)×(List M.af))
 |0=>fun _=>none
 |n+1=>A7 (tY n)
def Dn : M.af->Option (Int×Int×(List UInt8)×(List M.af)):=tY Go.V.aG
def zI (a:M.ah) (left:Int):Option (Int):=
 let q0:=(M.Qq (M.ae.re (M.ah.aQ a)) left)
 bif (decide ((Option.getD q0 default)<(0:Int))) then
 bif ((Option.isSome q0)&&true) then
 some (-(1:Int))
 else
 none
 else
 let q1:=(M.qY M.Dl (M.ah.Buffer a) (Option.getD q0 default))
 let q2:=(Option.getD q1 default)
 bif (decide (q2<(0:Int))) then
 let q3:=((Option.isSome q1)&&((Option.isSome q0)&&true))
 bif q3 then
 some (-(1:Int))
 else
 none
 else
 let q3:=((Option.isSome q1)&&((Option.isSome q0)&&true))
 bif q3 then
 some q2
 else
 none
def zJ (a:M.ah):Option (Int×(List UInt8)×Int×Bool×Int×Int×Bool×Bool×(List (List UInt8))×(List M.ae)×(List M.af)):=
 let q0:=(M.qZ M.Dn (M.ah.Buffer a))
 let q1:=(M.Qs (M.ae.re (M.ah.aQ a)))
 bif ((Option.isSome q0)&&((Option.isSome q1)&&true)) then
 let q2:=(Option.getD q1 default)
 let q3:=q2.2
 let q4:=q3.2
 some (q2.1,q3.1,(M.ah.Room a),(M.ah.dn a),(M.ah.Put a),(M.ah.BG a),(M.ah.Shut a),(M.ah.Gone a),q4.1,q4.2,(Option.getD q0 default))
 else
 none
def nz (list:(List M.af)):Nat->Int->(List M.af)->Option ((List M.af))
 |0,_,_=>none
 |fuel+1,i,out=>
 bif (decide (i<((List.length list):Int))) then
 let q0:=(M.IV (M.af.re (List.getD list (Int.toNat i) M.af.zero)))
 let q1:=[(M.af.re (Option.getD q0 default))]
 bif ((decide (((List.length out)+(List.length q1))<=1073741824))&&((Option.isSome q0)&&((Go.V.inB i (List.length list))&&true))) then
 M.nz list fuel (Go.IntKind.wrap Go.IntKind.i64 (i+(1:Int))) (out++q1)
 else
 none
 else
 some (out)
def jL (list:(List M.af)):Option ((List M.af)):=
 match (M.nz list Go.V.aG (0:Int) []) with
 |none=>none
 |some y0=>
 some y0
def Ew (s:M.ah):Option (M.ah):=
 let q0:=(M.jL (M.ah.Buffer s))
 let q1:=(M.QQ (M.ae.re (M.ah.aQ s)))
 bif ((Option.isSome q0)&&((Option.isSome q1)&&true)) then
 some (M.ah.mk (M.ae.re (Option.getD q1 default)) (M.ah.Room s) (M.ah.dn s) (Option.getD q0 default) (M.ah.Put s) (M.ah.BG s) (M.ah.Shut s) (M.ah.Gone s))
 else
 none
def zK (s:M.ah) (list:(List M.af)):Option (M.ah×Int×Int):=
 let q0:=(M.Dk (M.ah.re s))
 bif ((decide ((8:Int)<((List.length list):Int)))||(decide ((Option.getD q0 default)<(Go.IntKind.wrap Go.IntKind.i64 ((M.ah.Put s)+((List.length list):Int)))))) then
 let q1:=(((Option.isSome q0)||(!((decide ((8:Int)<((List.length list):Int)))==false)))&&true)
 bif q1 then
 some ((M.ah.mk (M.ae.mk (0:Int) [] [] []) (0:Int) false [] (0:Int) (0:Int) false false),(0:Int),(4:Int))
 else
 none
 else
 bif (M.ah.Shut s) then
 let q1:=(((Option.isSome q0)||(!((decide ((8:Int)<((List.length list):Int)))==false)))&&true)
 bif q1 then
 some ((M.ah.mk (M.ae.mk (0:Int) [] [] []) (0:Int) false [] (0:Int) (0:Int) false false),(0:Int),(5:Int))
 else
 none
 else
 bif (M.ah.Gone s) then
 let q1:=(((Option.isSome q0)||(!((decide ((8:Int)<((List.length list):Int)))==false)))&&true)
 bif q1 then
 some ((M.ah.mk (M.ae.mk (0:Int) [] [] []) (0:Int) false [] (0:Int) (0:Int) false false),(0:Int),(17:Int))
 else
 none
 else
 let q1:=(M.jL (M.ah.Buffer s))
 let q2:=(M.vJ ((List.length list):Int) (Go.IntKind.wrap Go.IntKind.i64 ((M.ah.Room s)-((List.length (M.ah.Buffer s)):Int))))
 let q3:=(Option.getD q2 default)
 let q4:=(M.jL (List.drop (Int.toNat (0:Int)) (List.take (Int.toNat q3) list)))
 let q5:=(Option.getD q4 default)
 let q6:=(((Option.isSome q0)||(!((decide ((8:Int)<((List.length list):Int)))==false)))&&true)
 bif ((decide (((List.length (Option.getD q1 default))+(List.length q5))<=1073741824))&&((Option.isSome q4)&&((Go.V.xH (0:Int) q3 (List.length list))&&((Option.isSome q1)&&((Option.isSome q2)&&q6))))) then
 some ((M.ah.mk (M.ae.re (M.ah.aQ s)) (M.ah.Room s) (M.ah.dn s) ((Option.getD q1 default)++q5) (Go.IntKind.wrap Go.IntKind.i64 ((M.ah.Put s)+q3)) (M.ah.BG s) (M.ah.Shut s) (M.ah.Gone s)),q3,(0:Int))
 else
 none
end M
namespace M
def pG (aO:M.af->M.af->Option (Bool)) (a:(List M.af)) (b:(List M.af)):Nat->Int->Option ((Bool)⊕(Unit))
 |0,_=>none
 |fuel+1,i=>
 bif (decide (i<((List.length a):Int))) then
 bif (!(Option.getD (aO (M.af.re (List.getD a (Int.toNat i) M.af.zero)) (M.af.re (List.getD b (Int.toNat i) M.af.zero))) default)) then
 let q0:=((Option.isSome (aO (M.af.re (List.getD a (Int.toNat i) M.af.zero)) (M.af.re (List.getD b (Int.toNat i) M.af.zero))))&&((Go.V.inB i (List.length b))&&((Go.V.inB i (List.length a))&&true)))
 bif q0 then
 some (.inl false)
 else
 none
 else
 let q0:=((Option.isSome (aO (M.af.re (List.getD a (Int.toNat i) M.af.zero)) (M.af.re (List.getD b (Int.toNat i) M.af.zero))))&&((Go.V.inB i (List.length b))&&((Go.V.inB i (List.length a))&&true)))
 bif q0 then
 M.pG aO a b fuel (Go.IntKind.wrap Go.IntKind.i64 (i+(1:Int)))
 else
 none
 else
 some ((.inr (())))
def nC (aO:M.af->M.af->Option (Bool)) (a:(List M.af)) (b:(List M.af)):Option (Bool):=
 bif (((List.length a):Int) !=((List.length b):Int)) then
 some false
 else
 match (M.pG aO a b Go.V.aG (0:Int)) with
 |none=>none
 |some y0=>
 (match y0 with
 | .inl a1=>
 some a1
 | .inr b1=>
 some true)
def A8 (aO:M.af->M.af->Option (Bool)) (a:M.af) (b:M.af):Option (Bool):=
 bif ((M.af.Kind a) !=(M.af.Kind b)) then
 some false
 else
 bif ((M.af.Num a) !=(M.af.Num b)) then
 some false
 else
 bif (!((M.af.Text a)==(M.af.Text b))) then
 some false
 else
 let q0:=(M.nC aO (M.af.Kids a) (M.af.Kids b))
 bif (!(Option.getD q0 default)) then
 bif ((Option.isSome q0)&&true) then
 some false
 else
 none
 else
 bif ((Option.isSome q0)&&true) then
 some true
 else
 none
def uf : Nat->M.af->M.af->Option (Bool)
 |0=>fun _ _=>none
 |n+1=>A8 (uf n)
def uI : M.af->M.af->Option (Bool):=uf Go.V.aG
def kY (aI:M.af->Option (Int×Int×(List UInt8)×(List M.af))) (t7:(List M.af)) (t8:Int):Nat->Int->(List M.af)->Option ((List M.af))
 |0,_,_=>none
 |fuel+1,t9,out=>
 bif (decide (t9<t8)) then
 let q0:=(Option.getD (aI (M.af.re (List.getD t7 (Int.toNat t9) M.af.zero))) default)
 let q1:=q0.2
 let q2:=q1.2
 let q3:=[(M.af.mk q0.1 q1.1 q2.1 q2.2)]
 bif ((decide (((List.length out)+(List.length q3))<=1073741824))&&((Option.isSome (aI (M.af.re (List.getD t7 (Int.toNat t9) M.af.zero))))&&((Go.V.inB t9 (List.length t7))&&true))) then
 M.kY aI t7 t8 fuel (Go.IntKind.wrap Go.IntKind.i64 (t9+(1:Int))) (out++q3)
 else
 none
 else
 some (out)
def ik (aI:M.af->Option (Int×Int×(List UInt8)×(List M.af))) (list:(List M.af)):Option ((List M.af)):=
 match (M.kY aI list ((List.length list):Int) Go.V.aG (0:Int) []) with
 |none=>none
 |some y0=>
 some y0
def vM (aI:M.af->Option (Int×Int×(List UInt8)×(List M.af))) (v:M.af):Option (Int×Int×(List UInt8)×(List M.af)):=
 let q0:=(M.ik aI (M.af.Kids v))
 bif ((Option.isSome q0)&&true) then
 some ((M.af.Kind v),(M.af.Num v),(M.af.Text v),(Option.getD q0 default))
 else
 none
def pI : Nat->M.af->Option (Int×Int×(List UInt8)×(List M.af))
 |0=>fun _=>none
 |n+1=>vM (pI n)
def jM : M.af->Option (Int×Int×(List UInt8)×(List M.af)):=pI Go.V.aG
def gZ (first:Int) (list:(List M.ai)) (t6:Int) (t62:(List UInt8)) (t63:Int) (t64:Bool) (t65:Int) (t66:Int) (t67:Bool) (t68:Bool) (o5:(List (List UInt8))) (o6:(List M.ae)) (o7:(List M.af)):Nat->Int->M.ah->Option ((Int×Int×(List UInt8)×Int×Bool×Int×Int×Bool×Bool×(List M.af)×(List (List UInt8))×(List M.ae)×(List M.af))⊕(Int×(List M.ai)×M.ah×Int×(List UInt8)×Int×Bool×Int×Int×Bool×Bool×(List (List UInt8))×(List M.ae)×(List M.af)))
 |0,_,_=>none
 |fuel+1,i,s=>
 bif (decide (i<((List.length list):Int))) then
 let q0:=(!((decide ((0:Int)<=(M.ai.nD (List.getD list (Int.toNat i) M.ai.zero))))&&(decide ((M.ai.nD (List.getD list (Int.toNat i) M.ai.zero))<=(8:Int)))))
 bif (q0||((M.ai.Close (List.getD list (Int.toNat i) M.ai.zero))&&((M.ai.nD (List.getD list (Int.toNat i) M.ai.zero)) !=(0:Int)))) then
 let q1:=(q0==false)
 let q2:=(((Go.V.inB i (List.length list))||(!(q1&&((M.ai.Close (List.getD list (Int.toNat i) M.ai.zero))==true))))&&(((Go.V.inB i (List.length list))||(!q1))&&((Go.V.inB i (List.length list))&&true)))
 bif q2 then
 some (.inl ((1:Int),(0:Int),[],(0:Int),false,(0:Int),(0:Int),false,false,[],[],[],[]))
 else
 none
 else
 let q1:=(q0==false)
 let q2:=(((Go.V.inB i (List.length list))||(!(q1&&((M.ai.Close (List.getD list (Int.toNat i) M.ai.zero))==true))))&&(((Go.V.inB i (List.length list))||(!q1))&&((Go.V.inB i (List.length list))&&true)))
 bif q2 then
 M.gZ first list t6 t62 t63 t64 t65 t66 t67 t68 o5 o6 o7 fuel (Go.IntKind.wrap Go.IntKind.i64 (i+(1:Int))) (M.ah.re s)
 else
 none
 else
 some ((.inr ((first,list,(M.ah.re s),t6,t62,t63,t64,t65,t66,t67,t68,o5,o6,o7))))
def Dp (s:M.ah) (most:Int):Option (M.ah×(List M.af)×Int):=
 bif (M.ah.Gone s) then
 some ((M.ah.mk (M.ae.mk (0:Int) [] [] []) (0:Int) false [] (0:Int) (0:Int) false false),[],(5:Int))
 else
 bif ((((List.length (M.ah.Buffer s)):Int)==(0:Int))&&(M.ah.Shut s)) then
 some ((M.ah.mk (M.ae.mk (0:Int) [] [] []) (0:Int) false [] (0:Int) (0:Int) false false),[],(3:Int))
 else
 let q0:=(M.vJ most ((List.length (M.ah.Buffer s)):Int))
 let q1:=(Option.getD q0 default)
 let q2:=(Int.toNat q1)
 let q3:=(M.jL (List.drop q2 (List.take (Int.toNat ((List.length (M.ah.Buffer s)):Int)) (M.ah.Buffer s))))
 let q4:=(M.jL (List.drop (Int.toNat (0:Int)) (List.take q2 (M.ah.Buffer s))))
 bif ((Option.isSome q3)&&((Go.V.xH q1 ((List.length (M.ah.Buffer s)):Int) (List.length (M.ah.Buffer s)))&&((Option.isSome q4)&&((Go.V.xH (0:Int) q1 (List.length (M.ah.Buffer s)))&&((Option.isSome q0)&&true))))) then
 some ((M.ah.mk (M.ae.re (M.ah.aQ s)) (M.ah.Room s) (M.ah.dn s) (Option.getD q3 default) (M.ah.Put s) (Go.IntKind.wrap Go.IntKind.i64 ((M.ah.BG s)+q1)) (M.ah.Shut s) (M.ah.Gone s)),(Option.getD q4 default),(0:Int))
 else
 none
def dC (list:(List M.ai)) (t6:Int) (t62:(List UInt8)) (t63:Int) (t64:Bool) (t65:Int) (t66:Int) (t67:Bool) (t68:Bool) (o7:(List (List UInt8))) (o8:(List M.ae)) (o9:(List M.af)):Nat->Int->Int->M.ah->(List M.af)->Option (Int×(List UInt8)×Int×Bool×Int×Int×Bool×Bool×M.ah×(List M.af)×(List (List UInt8))×(List M.ae)×(List M.af))
 |0,_,_,_,_=>none
 |fuel+1,first,i,x,got=>
 bif (decide (i<((List.length list):Int))) then
 bif ((M.ai.Write (List.getD list (Int.toNat i) M.ai.zero))&&(M.ai.Close (List.getD list (Int.toNat i) M.ai.zero))) then
 let q0:=(M.Dj (M.ah.re x))
 bif ((Option.getD q0 default).2==(0:Int)) then
 let q1:=((Option.isSome q0)&&((Go.V.inB i (List.length list))&&true))
 bif q1 then
 M.dC list t6 t62 t63 t64 t65 t66 t67 t68 o7 o8 o9 fuel first (Go.IntKind.wrap Go.IntKind.i64 (i+(1:Int))) (M.ah.re (Option.getD q0 default).1) got
 else
 none
 else
 let q1:=((Option.isSome q0)&&((Go.V.inB i (List.length list))&&true))
 bif q1 then
 M.dC list t6 t62 t63 t64 t65 t66 t67 t68 o7 o8 o9 fuel first (Go.IntKind.wrap Go.IntKind.i64 (i+(1:Int))) (M.ah.re x) got
 else
 none
 else
 bif (M.ai.Close (List.getD list (Int.toNat i) M.ai.zero)) then
 let q0:=(M.zx (M.ah.re x))
 bif ((Option.getD q0 default).2==(0:Int)) then
 let q1:=((Option.isSome q0)&&((Go.V.inB i (List.length list))&&true))
 bif q1 then
 M.dC list t6 t62 t63 t64 t65 t66 t67 t68 o7 o8 o9 fuel first (Go.IntKind.wrap Go.IntKind.i64 (i+(1:Int))) (M.ah.re (Option.getD q0 default).1) got
 else
 none
 else
 let q1:=((Option.isSome q0)&&((Go.V.inB i (List.length list))&&true))
 bif q1 then
 M.dC list t6 t62 t63 t64 t65 t66 t67 t68 o7 o8 o9 fuel first (Go.IntKind.wrap Go.IntKind.i64 (i+(1:Int))) (M.ah.re x) got
 else
 none
 else
 bif (M.ai.Write (List.getD list (Int.toNat i) M.ai.zero)) then
 let q0:=(M.uH first (M.ai.nD (List.getD list (Int.toNat i) M.ai.zero)))
 let q1:=(M.zK (M.ah.re x) (Option.getD q0 default))
 let q2:=(Option.getD q1 default)
 let q3:=q2.2
 bif (q3.2==(0:Int)) then
 let q4:=((Option.isSome q1)&&((Option.isSome q0)&&((Go.V.inB i (List.length list))&&true)))
 bif q4 then
 let q5:=(Go.IntKind.wrap Go.IntKind.i64 (first+q3.1))
 M.dC list t6 t62 t63 t64 t65 t66 t67 t68 o7 o8 o9 fuel q5 (Go.IntKind.wrap Go.IntKind.i64 (i+(1:Int))) (M.ah.re q2.1) got
 else
 none
 else
 let q4:=((Option.isSome q1)&&((Option.isSome q0)&&((Go.V.inB i (List.length list))&&true)))
 bif q4 then
 let q5:=(Go.IntKind.wrap Go.IntKind.i64 (first+q3.1))
 M.dC list t6 t62 t63 t64 t65 t66 t67 t68 o7 o8 o9 fuel q5 (Go.IntKind.wrap Go.IntKind.i64 (i+(1:Int))) (M.ah.re x) got
 else
 none
 else
 let q0:=(M.rE (M.ai.nD (List.getD list (Int.toNat i) M.ai.zero)) (1:Int))
 let q1:=(M.Dp (M.ah.re x) (Option.getD q0 default))
 let q2:=(Option.getD q1 default)
 let q3:=q2.2
 bif (q3.2==(0:Int)) then
 let q4:=q3.1
 let q5:=((decide (((List.length got)+(List.length q4))<=1073741824))&&((Option.isSome q1)&&((Option.isSome q0)&&((Go.V.inB i (List.length list))&&true))))
 bif q5 then
 let q6:=(got++q4)
 M.dC list t6 t62 t63 t64 t65 t66 t67 t68 o7 o8 o9 fuel first (Go.IntKind.wrap Go.IntKind.i64 (i+(1:Int))) (M.ah.re q2.1) q6
 else
 none
 else
 let q4:=q3.1
 let q5:=((decide (((List.length got)+(List.length q4))<=1073741824))&&((Option.isSome q1)&&((Option.isSome q0)&&((Go.V.inB i (List.length list))&&true))))
 bif q5 then
 let q6:=(got++q4)
 M.dC list t6 t62 t63 t64 t65 t66 t67 t68 o7 o8 o9 fuel first (Go.IntKind.wrap Go.IntKind.i64 (i+(1:Int))) (M.ah.re x) q6
 else
 none
 else
 some ((t6,t62,t63,t64,t65,t66,t67,t68,(M.ah.re x),got,o7,o8,o9))
def uJ (s:M.ah) (first:Int) (list:(List M.ai)):Option (M.ah×(List M.af)×Int):=
 let q0:=(M.zu (M.ah.re s))
 bif (!(Option.getD q0 default)) then
 bif ((Option.isSome q0)&&true) then
 some ((M.ah.mk (M.ae.mk (0:Int) [] [] []) (0:Int) false [] (0:Int) (0:Int) false false),[],(1:Int))
 else
 none
 else
 bif ((M.ae.Kind (M.ah.aQ s)) !=(9:Int)) then
 bif ((Option.isSome q0)&&true) then
 some ((M.ah.mk (M.ae.mk (0:Int) [] [] []) (0:Int) false [] (0:Int) (0:Int) false false),[],(7:Int))
 else
 none
 else
 bif (!((decide ((-(1000000:Int))<=first))&&(decide (first<=(1000000:Int))))) then
 bif ((Option.isSome q0)&&true) then
 some ((M.ah.mk (M.ae.mk (0:Int) [] [] []) (0:Int) false [] (0:Int) (0:Int) false false),[],(2:Int))
 else
 none
 else
 bif (decide ((60:Int)<((List.length list):Int))) then
 bif ((Option.isSome q0)&&true) then
 some ((M.ah.mk (M.ae.mk (0:Int) [] [] []) (0:Int) false [] (0:Int) (0:Int) false false),[],(4:Int))
 else
 none
 else
 match (M.gZ first list (0:Int) [] (0:Int) false (0:Int) (0:Int) false false [] [] [] Go.V.aG (0:Int) (M.ah.re s)) with
 |none=>none
 |some y1=>
 (match y1 with
 | .inl a2=>
 bif ((Option.isSome q0)&&true) then
 let q3:=a2.2
 let q4:=q3.2
 let q5:=q4.2
 let q6:=q5.2
 let q7:=q6.2
 let q8:=q7.2
 let q9:=q8.2
 let q10:=q9.2
 let q11:=q10.2
 let q12:=q11.2
 let q13:=q12.2
 some ((M.ah.mk (M.ae.mk q3.1 q4.1 q12.1 q13.1) q5.1 q6.1 q13.2 q7.1 q8.1 q9.1 q10.1),q11.1,a2.1)
 else
 none
 | .inr b2=>
 let q3:=b2.2
 let q4:=q3.2
 let q5:=q4.2
 let q6:=q5.2
 let q7:=q6.2
 let q8:=q7.2
 let q9:=q8.2
 let q10:=q9.2
 let q11:=q10.2
 let q12:=q11.2
 let q13:=q12.2
 let q14:=q13.2
 let q15:=(M.Ew (M.ah.re q4.1))
 match (M.dC q3.1 q5.1 q6.1 q7.1 q8.1 q9.1 q10.1 q11.1 q12.1 q13.1 q14.1 q14.2 Go.V.aG b2.1 (0:Int) (M.ah.re (Option.getD q15 default)) []) with
 |none=>none
 |some y16=>
 let q17:=y16.2.2.2.2.2.2.2.2
 let q18:=(M.Ew (M.ah.re q17.1))
 bif ((Option.isSome q18)&&((Option.isSome q15)&&((Option.isSome q0)&&true))) then
 some ((M.ah.re (Option.getD q18 default)),q17.2.1,(0:Int))
 else
 none)
def rf (s:M.ah):Option (Int×(List UInt8)×Int×Bool×Int×Int×Bool×Bool×(List (List UInt8))×(List M.ae)×(List M.af)):=
 let q0:=(M.ik M.jM (M.ah.Buffer s))
 let q1:=(M.IM (M.ae.re (M.ah.aQ s)))
 bif ((Option.isSome q0)&&((Option.isSome q1)&&true)) then
 let q2:=(Option.getD q1 default)
 let q3:=q2.2
 let q4:=q3.2
 some (q2.1,q3.1,(M.ah.Room s),(M.ah.dn s),(M.ah.Put s),(M.ah.BG s),(M.ah.Shut s),(M.ah.Gone s),q4.1,q4.2,(Option.getD q0 default))
 else
 none
def ael (n:Int):Option (Int×Int×(List UInt8)×(List M.af)):=
 some ((9:Int),n,[],[])
def jX (first:Int) (t8:Int):Nat->Int->(List M.af)->Option ((List M.af))
 |0,_,_=>none
 |fuel+1,t9,list=>
 bif (decide (t9<t8)) then
 let q0:=[(M.af.mk (9:Int) (Go.IntKind.wrap Go.IntKind.i64 (first+t9)) [] [])]
 bif ((decide (((List.length list)+(List.length q0))<=1073741824))&&true) then
 M.jX first t8 fuel (Go.IntKind.wrap Go.IntKind.i64 (t9+(1:Int))) (list++q0)
 else
 none
 else
 some (list)
def rY (first:Int) (many:Int):Option ((List M.af)):=
 match (M.jX first many Go.V.aG (0:Int) []) with
 |none=>none
 |some y0=>
 some y0
def qo (list:(List M.af)) (s:Int) (s2:(List UInt8)) (s3:Int) (s4:Bool) (s5:Int) (s6:Int) (s7:Bool) (s8:Bool) (o1:(List (List UInt8))) (o2:(List M.ae)) (o3:(List M.af)):Option (Int×Int×Int×(List UInt8)×Int×Bool×Int×Int×Bool×Bool×(List (List UInt8))×(List M.ae)×(List M.af)):=
 let q0:=(M.vG (M.ah.mk (M.ae.mk s s2 o1 o2) s3 s4 o3 s5 s6 s7 s8))
 bif ((decide ((8:Int)<((List.length list):Int)))||(decide ((Option.getD q0 default)<(Go.IntKind.wrap Go.IntKind.i64 (s5+((List.length list):Int)))))) then
 let q1:=(((Option.isSome q0)||(!((decide ((8:Int)<((List.length list):Int)))==false)))&&true)
 bif q1 then
 some ((0:Int),(4:Int),s,s2,s3,s4,s5,s6,s7,s8,o1,o2,o3)
 else
 none
 else
 bif s7 then
 let q1:=(((Option.isSome q0)||(!((decide ((8:Int)<((List.length list):Int)))==false)))&&true)
 bif q1 then
 some ((0:Int),(5:Int),s,s2,s3,s4,s5,s6,s7,s8,o1,o2,o3)
 else
 none
 else
 bif s8 then
 let q1:=(((Option.isSome q0)||(!((decide ((8:Int)<((List.length list):Int)))==false)))&&true)
 bif q1 then
 some ((0:Int),(17:Int),s,s2,s3,s4,s5,s6,s7,s8,o1,o2,o3)
 else
 none
 else
 let q1:=(bif (decide ((Go.IntKind.wrap Go.IntKind.i64 (s3-((List.length o3):Int)))<((List.length list):Int))) then (Go.IntKind.wrap Go.IntKind.i64 (s3-((List.length o3):Int))) else ((List.length list):Int))
 let q2:=(M.ik M.jM (List.drop (Int.toNat (0:Int)) (List.take (Int.toNat q1) list)))
 let q3:=(Option.getD q2 default)
 let q4:=(((Option.isSome q0)||(!((decide ((8:Int)<((List.length list):Int)))==false)))&&true)
 bif ((decide (((List.length o3)+(List.length q3))<=1073741824))&&((Option.isSome q2)&&((Go.V.xH (0:Int) q1 (List.length list))&&q4))) then
 some (q1,(0:Int),s,s2,s3,s4,(Go.IntKind.wrap Go.IntKind.i64 (s5+q1)),s6,s7,s8,o1,o2,(o3++q3))
 else
 none
def rZ (most:Int) (s:Int) (s2:(List UInt8)) (s3:Int) (s4:Bool) (s5:Int) (s6:Int) (s7:Bool) (s8:Bool) (o1:(List (List UInt8))) (o2:(List M.ae)) (o3:(List M.af)):Option (Int×Int×(List UInt8)×Int×Bool×Int×Int×Bool×Bool×(List M.af)×(List (List UInt8))×(List M.ae)×(List M.af)):=
 bif (!((decide ((1:Int)<=most))&&(decide (most<=(8:Int))))) then
 some ((2:Int),s,s2,s3,s4,s5,s6,s7,s8,[],o1,o2,o3)
 else
 bif s8 then
 some ((5:Int),s,s2,s3,s4,s5,s6,s7,s8,[],o1,o2,o3)
 else
 bif ((((List.length o3):Int)==(0:Int))&&s7) then
 some ((3:Int),s,s2,s3,s4,s5,s6,s7,s8,[],o1,o2,o3)
 else
 let q0:=(bif (decide (((List.length o3):Int)<most)) then ((List.length o3):Int) else most)
 let q1:=(Int.toNat q0)
 let q2:=(M.ik M.jM (List.drop (Int.toNat (0:Int)) (List.take q1 o3)))
 bif ((Go.V.xH q0 ((List.length o3):Int) (List.length o3))&&((Option.isSome q2)&&((Go.V.xH (0:Int) q0 (List.length o3))&&true))) then
 some ((0:Int),s,s2,s3,s4,s5,(Go.IntKind.wrap Go.IntKind.i64 (s6+q0)),s7,s8,(Option.getD q2 default),o1,o2,(List.drop q1 o3))
 else
 none
def fB (t45:(List M.ai)) (t46:Int) (t6:Int) (t62:(List UInt8)) (t63:Int) (t64:Bool) (t65:Int) (t66:Int) (t67:Bool) (t68:Bool) (o10:(List (List UInt8))) (o11:(List M.ae)) (o12:(List M.af)):Nat->Int->Int->Int->(List UInt8)->Int->Bool->Int->Int->Bool->Bool->(List M.af)->(List (List UInt8))->(List M.ae)->(List M.af)->Option (Int×(List UInt8)×Int×Bool×Int×Int×Bool×Bool×Int×(List UInt8)×Int×Bool×Int×Int×Bool×Bool×(List M.af)×(List (List UInt8))×(List M.ae)×(List M.af)×(List (List UInt8))×(List M.ae)×(List M.af))
 |0,_,_,_,_,_,_,_,_,_,_,_,_,_,_=>none
 |fuel+1,first,t47,out,XN,acP,ahe,ahf,out6,ahg,ahh,values,o13,o14,o15=>
 bif (decide (t47<t46)) then
 bif ((M.ai.Write (List.getD t45 (Int.toNat t47) M.ai.zero))&&(M.ai.Close (List.getD t45 (Int.toNat t47) M.ai.zero))) then
 let q0:=(M.ou out XN acP ahe ahf out6 ahg ahh o13 o14 o15)
 bif ((Option.isSome q0)&&((Go.V.inB t47 (List.length t45))&&true)) then
 let q1:=default
 let q2:=(Option.getD q0 q1).2
 let q3:=q2.2
 let q4:=q3.2
 let q5:=q4.2
 let q6:=q5.2
 let q7:=q6.2
 let q8:=q7.2
 let q9:=q8.2
 let q10:=q9.2
 let q11:=q10.2
 M.fB t45 t46 t6 t62 t63 t64 t65 t66 t67 t68 o10 o11 o12 fuel first (Go.IntKind.wrap Go.IntKind.i64 (t47+(1:Int))) q2.1 q3.1 q4.1 q5.1 q6.1 q7.1 q8.1 q9.1 values q10.1 q11.1 q11.2
 else
 none
 else
 bif (M.ai.Close (List.getD t45 (Int.toNat t47) M.ai.zero)) then
 let q0:=(M.mi out XN acP ahe ahf out6 ahg ahh o13 o14 o15)
 bif ((Option.isSome q0)&&((Go.V.inB t47 (List.length t45))&&true)) then
 let q1:=default
 let q2:=(Option.getD q0 q1).2
 let q3:=q2.2
 let q4:=q3.2
 let q5:=q4.2
 let q6:=q5.2
 let q7:=q6.2
 let q8:=q7.2
 let q9:=q8.2
 let q10:=q9.2
 let q11:=q10.2
 M.fB t45 t46 t6 t62 t63 t64 t65 t66 t67 t68 o10 o11 o12 fuel first (Go.IntKind.wrap Go.IntKind.i64 (t47+(1:Int))) q2.1 q3.1 q4.1 q5.1 q6.1 q7.1 q8.1 q9.1 values q10.1 q11.1 q11.2
 else
 none
 else
 bif (M.ai.Write (List.getD t45 (Int.toNat t47) M.ai.zero)) then
 let q0:=(M.rY first (M.ai.nD (List.getD t45 (Int.toNat t47) M.ai.zero)))
 let q1:=(M.qo (Option.getD q0 default) out XN acP ahe ahf out6 ahg ahh o13 o14 o15)
 bif ((Option.isSome q1)&&((Option.isSome q0)&&((Go.V.inB t47 (List.length t45))&&true))) then
 let q2:=(Option.getD q1 default)
 let q3:=q2.2.2
 let q4:=q3.2
 let q5:=q4.2
 let q6:=q5.2
 let q7:=q6.2
 let q8:=q7.2
 let q9:=q8.2
 let q10:=q9.2
 let q11:=q10.2
 let q12:=q11.2
 M.fB t45 t46 t6 t62 t63 t64 t65 t66 t67 t68 o10 o11 o12 fuel (Go.IntKind.wrap Go.IntKind.i64 (first+q2.1)) (Go.IntKind.wrap Go.IntKind.i64 (t47+(1:Int))) q3.1 q4.1 q5.1 q6.1 q7.1 q8.1 q9.1 q10.1 values q11.1 q12.1 q12.2
 else
 none
 else
 let q0:=(M.rZ (bif (decide ((1:Int)<(M.ai.nD (List.getD t45 (Int.toNat t47) M.ai.zero)))) then (M.ai.nD (List.getD t45 (Int.toNat t47) M.ai.zero)) else (1:Int)) out XN acP ahe ahf out6 ahg ahh o13 o14 o15)
 let q1:=(Option.getD q0 default).2
 let q2:=q1.2
 let q3:=q2.2
 let q4:=q3.2
 let q5:=q4.2
 let q6:=q5.2
 let q7:=q6.2
 let q8:=q7.2
 let q9:=q8.2
 let q10:=q9.1
 bif ((decide (((List.length values)+(List.length q10))<=1073741824))&&((Option.isSome q0)&&((Go.V.inB t47 (List.length t45))&&true))) then
 let q11:=q9.2
 let q12:=q11.2
 M.fB t45 t46 t6 t62 t63 t64 t65 t66 t67 t68 o10 o11 o12 fuel first (Go.IntKind.wrap Go.IntKind.i64 (t47+(1:Int))) q1.1 q2.1 q3.1 q4.1 q5.1 q6.1 q7.1 q8.1 (values++q10) q11.1 q12.1 q12.2
 else
 none
 else
 some ((t6,t62,t63,t64,t65,t66,t67,t68,out,XN,acP,ahe,ahf,out6,ahg,ahh,values,o10,o11,o12,o13,o14,o15))
def uM (s:M.ah) (first:Int) (list:(List M.ai)):Option (Int×(List UInt8)×Int×Bool×Int×Int×Bool×Bool×Int×(List (List UInt8))×(List M.ae)×(List M.af)×(List M.af)):=
 let q0:=(M.zC (M.ah.re s))
 bif (!(Option.getD q0 default)) then
 bif ((Option.isSome q0)&&true) then
 some ((0:Int),[],(0:Int),false,(0:Int),(0:Int),false,false,(1:Int),[],[],[],[])
 else
 none
 else
 bif ((M.ae.Kind (M.ah.aQ s)) !=(9:Int)) then
 bif ((Option.isSome q0)&&true) then
 some ((0:Int),[],(0:Int),false,(0:Int),(0:Int),false,false,(7:Int),[],[],[],[])
 else
 none
 else
 bif (!((decide ((-(1000000:Int))<=first))&&(decide (first<=(1000000:Int))))) then
 bif ((Option.isSome q0)&&true) then
 some ((0:Int),[],(0:Int),false,(0:Int),(0:Int),false,false,(2:Int),[],[],[],[])
 else
 none
 else
 bif (decide ((60:Int)<((List.length list):Int))) then
 bif ((Option.isSome q0)&&true) then
 some ((0:Int),[],(0:Int),false,(0:Int),(0:Int),false,false,(4:Int),[],[],[],[])
 else
 none
 else
 let q1:=(M.dm list)
 bif (Option.getD q1 default) then
 bif ((Option.isSome q1)&&((Option.isSome q0)&&true)) then
 some ((0:Int),[],(0:Int),false,(0:Int),(0:Int),false,false,(1:Int),[],[],[],[])
 else
 none
 else
 let q2:=(M.rf (M.ah.re s))
 let q3:=default
 let q4:=(Option.getD q2 q3)
 let q5:=q4.2
 let q6:=q5.2
 let q7:=q6.2
 let q8:=q7.2
 let q9:=q8.2
 let q10:=q9.2
 let q11:=q10.2
 let q12:=q11.2
 let q13:=q12.2
 match (M.fB list ((List.length list):Int) (0:Int) [] (0:Int) false (0:Int) (0:Int) false false [] [] [] Go.V.aG first (0:Int) q4.1 q5.1 q6.1 q7.1 q8.1 q9.1 q10.1 q11.1 [] q12.1 q13.1 q13.2) with
 |none=>none
 |some y14=>
 let q15:=y14.2.2.2.2.2.2.2.2
 let q16:=q15.2
 let q17:=q16.2
 let q18:=q17.2
 let q19:=q18.2
 let q20:=q19.2
 let q21:=q20.2
 let q22:=q21.2
 let q23:=q22.2
 let q24:=q23.2.2.2.2
 let q25:=q24.2
 let q26:=(M.rf (M.ah.mk (M.ae.mk q15.1 q16.1 q24.1 q25.1) q17.1 q18.1 q25.2 q19.1 q20.1 q21.1 q22.1))
 bif ((Option.isSome q26)&&((Option.isSome q2)&&((Option.isSome q1)&&((Option.isSome q0)&&true)))) then
 let q27:=(Option.getD q26 q3)
 let q28:=q27.2
 let q29:=q28.2
 let q30:=q29.2
 let q31:=q30.2
 let q32:=q31.2
 let q33:=q32.2
 let q34:=q33.2
 let q35:=q34.2
 let q36:=q35.2
 some (q27.1,q28.1,q29.1,q30.1,q31.1,q32.1,q33.1,q34.1,(0:Int),q35.1,q36.1,q36.2,q23.1)
 else
 none
def wO (a:M.ah) (b:M.ah):Option (Bool):=
 let q0:=(M.Qv (M.ae.re (M.ah.aQ a)) (M.ae.re (M.ah.aQ b)))
 bif (!(Option.getD q0 default)) then
 bif ((Option.isSome q0)&&true) then
 some false
 else
 none
 else
 bif ((M.ah.Room a) !=(M.ah.Room b)) then
 bif ((Option.isSome q0)&&true) then
 some false
 else
 none
 else
 bif (!((M.ah.dn a)==(M.ah.dn b))) then
 bif ((Option.isSome q0)&&true) then
 some false
 else
 none
 else
 let q1:=(M.nC M.uI (M.ah.Buffer a) (M.ah.Buffer b))
 bif (!(Option.getD q1 default)) then
 let q2:=((Option.isSome q1)&&((Option.isSome q0)&&true))
 bif q2 then
 some false
 else
 none
 else
 bif ((M.ah.Put a) !=(M.ah.Put b)) then
 let q2:=((Option.isSome q1)&&((Option.isSome q0)&&true))
 bif q2 then
 some false
 else
 none
 else
 bif ((M.ah.BG a) !=(M.ah.BG b)) then
 let q2:=((Option.isSome q1)&&((Option.isSome q0)&&true))
 bif q2 then
 some false
 else
 none
 else
 bif (!((M.ah.Shut a)==(M.ah.Shut b))) then
 let q2:=((Option.isSome q1)&&((Option.isSome q0)&&true))
 bif q2 then
 some false
 else
 none
 else
 bif (!((M.ah.Gone a)==(M.ah.Gone b))) then
 let q2:=((Option.isSome q1)&&((Option.isSome q0)&&true))
 bif q2 then
 some false
 else
 none
 else
 let q2:=((Option.isSome q1)&&((Option.isSome q0)&&true))
 bif q2 then
 some true
 else
 none
def jH (aS:M.ah) (ahi:Int) (ajR:(List M.ai)):Option (Bool):=
 let q0:=(M.zI (M.ah.re aS) (1048576:Int))
 bif (decide ((Option.getD q0 default)<(0:Int))) then
 bif ((Option.isSome q0)&&true) then
 some true
 else
 none
 else
 let q1:=(M.qi ajR (Option.getD q0 default))
 bif (decide ((Option.getD q1 default)<(0:Int))) then
 let q2:=((Option.isSome q1)&&((Option.isSome q0)&&true))
 bif q2 then
 some true
 else
 none
 else
 let q2:=(M.zJ (M.ah.re aS))
 let q3:=(Option.getD q2 default)
 let q4:=q3.1
 let q5:=q3.2
 let q6:=q5.1
 let q7:=q5.2
 let q8:=q7.2
 let q9:=q8.2
 let q10:=q9.2
 let q11:=q10.2
 let q12:=q11.2
 let q13:=q12.2
 let q14:=q13.1
 let q15:=q13.2
 let q16:=q15.1
 let q17:=q7.1
 let q18:=q8.1
 let q19:=q15.2
 let q20:=q9.1
 let q21:=q10.1
 let q22:=q11.1
 let q23:=q12.1
 let q24:=(M.qj ajR)
 let q25:=(M.uM (M.ah.mk (M.ae.mk q4 q6 q14 q16) q17 q18 q19 q20 q21 q22 q23) ahi (Option.getD q24 default))
 let q26:=(Option.getD q25 default)
 let q27:=q26.1
 let q28:=q26.2
 let q29:=q28.1
 let q30:=q28.2
 let q31:=q30.2
 let q32:=q31.2
 let q33:=q32.2
 let q34:=q33.2
 let q35:=q34.2
 let q36:=q35.2
 let q37:=q36.2
 let q38:=q37.1
 let q39:=q37.2
 let q40:=q39.1
 let q41:=q30.1
 let q42:=q31.1
 let q43:=q39.2
 let q44:=q43.1
 let q45:=q32.1
 let q46:=q33.1
 let q47:=q34.1
 let q48:=q35.1
 let q49:=(M.uJ (M.ah.mk (M.ae.mk q4 q6 q14 q16) q17 q18 q19 q20 q21 q22 q23) ahi (Option.getD q24 default))
 let q50:=(Option.getD q49 default)
 let q51:=(M.wO (M.ah.mk (M.ae.mk q27 q29 q38 q40) q41 q42 q44 q45 q46 q47 q48) (M.ah.re q50.1))
 let q52:=(!(Option.getD q51 default))
 let q53:=q43.2
 let q54:=q50.2
 let q55:=(M.nC M.uI q53 q54.1)
 let q56:=(!(Option.getD q55 default))
 let q57:=(q36.1 !=q54.2)
 let q58:=((q52||q56)||q57)
 bif q58 then
 let q59:=(Option.isSome q55)
 let q60:=(q59||(!(q52==false)))
 let q61:=(Option.isSome q51)
 let q62:=(Option.isSome q25)
 let WA:=((Option.isSome q1)&&((Option.isSome q0)&&true))
 let q64:=(q60&&(q61&&(q62&&((Option.isSome q24)&&((Option.isSome q2)&&((Option.isSome q49)&&((Option.isSome q24)&&((Option.isSome q2)&&WA))))))))
 bif q64 then
 some false
 else
 none
 else
 let q59:=(M.wO (M.ah.mk (M.ae.mk q4 q6 q14 q16) q17 q18 q19 q20 q21 q22 q23) (M.ah.mk (M.ae.mk q4 q6 q14 q16) q17 q18 q19 q20 q21 q22 q23))
 bif (!(Option.getD q59 default)) then
 let q60:=(Option.isSome q55)
 let q61:=(q60||(!(q52==false)))
 let q62:=(Option.isSome q51)
 let WA:=(Option.isSome q25)
 let q64:=((Option.isSome q1)&&((Option.isSome q0)&&true))
 let q65:=(q61&&(q62&&(WA&&((Option.isSome q24)&&((Option.isSome q2)&&((Option.isSome q49)&&((Option.isSome q24)&&((Option.isSome q2)&&q64))))))))
 let q66:=((Option.isSome q59)&&((Option.isSome q2)&&q65))
 bif q66 then
 some false
 else
 none
 else
 let q60:=(M.qm (Option.getD q24 default) (Option.getD q24 default))
 bif (!(Option.getD q60 default)) then
 let q61:=(Option.isSome q55)
 let q62:=(q61||(!(q52==false)))
 let WA:=(Option.isSome q51)
 let q64:=(Option.isSome q25)
 let q65:=((Option.isSome q1)&&((Option.isSome q0)&&true))
 let q66:=(q62&&(WA&&(q64&&((Option.isSome q24)&&((Option.isSome q2)&&((Option.isSome q49)&&((Option.isSome q24)&&((Option.isSome q2)&&q65))))))))
 let q67:=((Option.isSome q59)&&((Option.isSome q2)&&q66))
 let q68:=((Option.isSome q60)&&((Option.isSome q24)&&q67))
 bif q68 then
 some false
 else
 none
 else
 let q61:=(M.oP q4 q6 q17 q18 q20 q21 q22 q23 (1:Int) q14 q16 q19)
 let q62:=default
 let WA:=(M.mF (Option.getD q61 q62).1 (Option.getD q24 default))
 let q64:=((decide ((Option.getD WA default).1<(0:Int)))||q52)
 bif ((q64||q56)||q57) then
 let q65:=(Option.isSome q55)
 let q66:=(Option.isSome q51)
 let q67:=(q65||(!(q52==false)))
 let q68:=(Option.isSome q25)
 let q69:=((Option.isSome q1)&&((Option.isSome q0)&&true))
 let q70:=(q67&&(q66&&(q68&&((Option.isSome q24)&&((Option.isSome q2)&&((Option.isSome q49)&&((Option.isSome q24)&&((Option.isSome q2)&&q69))))))))
 let q71:=((Option.isSome q59)&&((Option.isSome q2)&&q70))
 let q72:=((Option.isSome q60)&&((Option.isSome q24)&&q71))
 let q73:=((q65||(!(q64==false)))&&((q66||(!((decide ((Option.getD WA default).1<(0:Int)))==false)))&&((Option.isSome WA)&&((Option.isSome q61)&&q72))))
 bif q73 then
 some false
 else
 none
 else
 let q65:=(M.oP q27 q29 q41 q42 q45 q46 q47 q48 (1:Int) q38 q40 q44)
 let q66:=(Option.getD q65 q62)
 let q67:=q66.2
 let q68:=q67.2
 let q69:=(M.qV (M.ah.mk (M.ae.mk q27 q29 q67.1 q68.1) q41 q42 q68.2 q45 q46 q47 q48) (1:Int))
 let q70:=(Option.getD q69 default)
 bif (decide (q70<(0:Int))) then
 let q71:=(Option.isSome q69)
 let q72:=(M.qR q66.1 q53)
 let q73:=(Option.isSome q55)
 let q74:=(Option.isSome q51)
 let q75:=(q73||(!(q52==false)))
 let q76:=(Option.isSome q25)
 let q77:=((Option.isSome q1)&&((Option.isSome q0)&&true))
 let XO:=(q75&&(q74&&(q76&&((Option.isSome q24)&&((Option.isSome q2)&&((Option.isSome q49)&&((Option.isSome q24)&&((Option.isSome q2)&&q77))))))))
 let Zb:=((Option.isSome q59)&&((Option.isSome q2)&&XO))
 let Zc:=((Option.isSome q60)&&((Option.isSome q24)&&Zb))
 let q81:=((q73||(!(q64==false)))&&((q74||(!((decide ((Option.getD WA default).1<(0:Int)))==false)))&&((Option.isSome WA)&&((Option.isSome q61)&&Zc))))
 let q82:=(q71&&((Option.isSome q72)&&((Option.isSome q65)&&q81)))
 bif q82 then
 some false
 else
 none
 else
 let q71:=(M.qR q66.1 q53)
 let q72:=(Option.getD q71 default)
 let q73:=(M.qU q72.2 q70)
 let q74:=(Option.getD q73 default)
 bif (decide (q74<(0:Int))) then
 let q75:=(Option.isSome q73)
 let q76:=(Option.isSome q69)
 let q77:=(Option.isSome q55)
 let XO:=(Option.isSome q51)
 let Zb:=(q77||(!(q52==false)))
 let Zc:=(Option.isSome q25)
 let q81:=((Option.isSome q1)&&((Option.isSome q0)&&true))
 let q82:=(Zb&&(XO&&(Zc&&((Option.isSome q24)&&((Option.isSome q2)&&((Option.isSome q49)&&((Option.isSome q24)&&((Option.isSome q2)&&q81))))))))
 let q83:=((Option.isSome q59)&&((Option.isSome q2)&&q82))
 let q84:=((Option.isSome q60)&&((Option.isSome q24)&&q83))
 let q85:=((q77||(!(q64==false)))&&((XO||(!((decide ((Option.getD WA default).1<(0:Int)))==false)))&&((Option.isSome WA)&&((Option.isSome q61)&&q84))))
 let q86:=(q76&&((Option.isSome q71)&&((Option.isSome q65)&&q85)))
 let q87:=(q75&&q86)
 bif q87 then
 some false
 else
 none
 else
 let q75:=(q74 !=q72.1)
 bif q75 then
 let q76:=(Option.isSome q73)
 let q77:=(Option.isSome q69)
 let XO:=(Option.isSome q55)
 let Zb:=(Option.isSome q51)
 let Zc:=(XO||(!(q52==false)))
 let q81:=(Option.isSome q25)
 let q82:=((Option.isSome q1)&&((Option.isSome q0)&&true))
 let q83:=(Zc&&(Zb&&(q81&&((Option.isSome q24)&&((Option.isSome q2)&&((Option.isSome q49)&&((Option.isSome q24)&&((Option.isSome q2)&&q82))))))))
 let q84:=((Option.isSome q59)&&((Option.isSome q2)&&q83))
 let q85:=((Option.isSome q60)&&((Option.isSome q24)&&q84))
 let q86:=((XO||(!(q64==false)))&&((Zb||(!((decide ((Option.getD WA default).1<(0:Int)))==false)))&&((Option.isSome WA)&&((Option.isSome q61)&&q85))))
 let q87:=(q77&&((Option.isSome q71)&&((Option.isSome q65)&&q86)))
 let q88:=(q76&&q87)
 bif q88 then
 some false
 else
 none
 else
 bif q58 then
 let q76:=(Option.isSome q55)
 let q77:=(q76||(!(q52==false)))
 let XO:=(Option.isSome q51)
 let Zb:=(Option.isSome q25)
 let Zc:=(Option.isSome q73)
 let q81:=(Option.isSome q69)
 let q82:=((Option.isSome q1)&&((Option.isSome q0)&&true))
 let q83:=(q77&&(XO&&(Zb&&((Option.isSome q24)&&((Option.isSome q2)&&((Option.isSome q49)&&((Option.isSome q24)&&((Option.isSome q2)&&q82))))))))
 let q84:=((Option.isSome q59)&&((Option.isSome q2)&&q83))
 let q85:=((Option.isSome q60)&&((Option.isSome q24)&&q84))
 let q86:=((q76||(!(q64==false)))&&((XO||(!((decide ((Option.getD WA default).1<(0:Int)))==false)))&&((Option.isSome WA)&&((Option.isSome q61)&&q85))))
 let q87:=(q81&&((Option.isSome q71)&&((Option.isSome q65)&&q86)))
 let q88:=(Zc&&q87)
 let q89:=(q77&&(XO&&(Zb&&((Option.isSome q24)&&((Option.isSome q2)&&q88)))))
 bif q89 then
 some false
 else
 none
 else
 bif (decide (q70<(0:Int))) then
 let q76:=(Option.isSome q69)
 let q77:=(Option.isSome q55)
 let XO:=(q77||(!(q52==false)))
 let Zb:=(Option.isSome q51)
 let Zc:=(Option.isSome q25)
 let q81:=(Option.isSome q73)
 let q82:=((Option.isSome q1)&&((Option.isSome q0)&&true))
 let q83:=(XO&&(Zb&&(Zc&&((Option.isSome q24)&&((Option.isSome q2)&&((Option.isSome q49)&&((Option.isSome q24)&&((Option.isSome q2)&&q82))))))))
 let q84:=((Option.isSome q59)&&((Option.isSome q2)&&q83))
 let q85:=((Option.isSome q60)&&((Option.isSome q24)&&q84))
 let q86:=((q77||(!(q64==false)))&&((Zb||(!((decide ((Option.getD WA default).1<(0:Int)))==false)))&&((Option.isSome WA)&&((Option.isSome q61)&&q85))))
 let q87:=(q76&&((Option.isSome q71)&&((Option.isSome q65)&&q86)))
 let q88:=(q81&&q87)
 let q89:=(XO&&(Zb&&(Zc&&((Option.isSome q24)&&((Option.isSome q2)&&q88)))))
 let q90:=(q76&&q89)
 bif q90 then
 some false
 else
 none
 else
 bif (decide (q74<(0:Int))) then
 let q76:=(Option.isSome q73)
 let q77:=(Option.isSome q69)
 let XO:=(Option.isSome q55)
 let Zb:=(XO||(!(q52==false)))
 let Zc:=(Option.isSome q51)
 let q81:=(Option.isSome q25)
 let q82:=((Option.isSome q1)&&((Option.isSome q0)&&true))
 let q83:=(Zb&&(Zc&&(q81&&((Option.isSome q24)&&((Option.isSome q2)&&((Option.isSome q49)&&((Option.isSome q24)&&((Option.isSome q2)&&q82))))))))
 let q84:=((Option.isSome q59)&&((Option.isSome q2)&&q83))
 let q85:=((Option.isSome q60)&&((Option.isSome q24)&&q84))
 let q86:=((XO||(!(q64==false)))&&((Zc||(!((decide ((Option.getD WA default).1<(0:Int)))==false)))&&((Option.isSome WA)&&((Option.isSome q61)&&q85))))
 let q87:=(q77&&((Option.isSome q71)&&((Option.isSome q65)&&q86)))
 let q88:=(q76&&q87)
 let q89:=(Zb&&(Zc&&(q81&&((Option.isSome q24)&&((Option.isSome q2)&&q88)))))
 let q90:=(q77&&q89)
 let q91:=(q76&&q90)
 bif q91 then
 some false
 else
 none
 else
 bif q75 then
 let q76:=(Option.isSome q73)
 let q77:=(Option.isSome q69)
 let XO:=(Option.isSome q55)
 let Zb:=(XO||(!(q52==false)))
 let Zc:=(Option.isSome q51)
 let q81:=(Option.isSome q25)
 let q82:=((Option.isSome q1)&&((Option.isSome q0)&&true))
 let q83:=(Zb&&(Zc&&(q81&&((Option.isSome q24)&&((Option.isSome q2)&&((Option.isSome q49)&&((Option.isSome q24)&&((Option.isSome q2)&&q82))))))))
 let q84:=((Option.isSome q59)&&((Option.isSome q2)&&q83))
 let q85:=((Option.isSome q60)&&((Option.isSome q24)&&q84))
 let q86:=((XO||(!(q64==false)))&&((Zc||(!((decide ((Option.getD WA default).1<(0:Int)))==false)))&&((Option.isSome WA)&&((Option.isSome q61)&&q85))))
 let q87:=(q77&&((Option.isSome q71)&&((Option.isSome q65)&&q86)))
 let q88:=(q76&&q87)
 let q89:=(Zb&&(Zc&&(q81&&((Option.isSome q24)&&((Option.isSome q2)&&q88)))))
 let q90:=(q77&&q89)
 let q91:=(q76&&q90)
 bif q91 then
 some false
 else
 none
 else
 let q76:=(Option.isSome q73)
 let q77:=(Option.isSome q69)
 let XO:=(Option.isSome q55)
 let Zb:=(XO||(!(q52==false)))
 let Zc:=(Option.isSome q51)
 let q81:=(Option.isSome q25)
 let q82:=((Option.isSome q1)&&((Option.isSome q0)&&true))
 let q83:=(Zb&&(Zc&&(q81&&((Option.isSome q24)&&((Option.isSome q2)&&((Option.isSome q49)&&((Option.isSome q24)&&((Option.isSome q2)&&q82))))))))
 let q84:=((Option.isSome q59)&&((Option.isSome q2)&&q83))
 let q85:=((Option.isSome q60)&&((Option.isSome q24)&&q84))
 let q86:=((XO||(!(q64==false)))&&((Zc||(!((decide ((Option.getD WA default).1<(0:Int)))==false)))&&((Option.isSome WA)&&((Option.isSome q61)&&q85))))
 let q87:=(q77&&((Option.isSome q71)&&((Option.isSome q65)&&q86)))
 let q88:=(q76&&q87)
 let q89:=(Zb&&(Zc&&(q81&&((Option.isSome q24)&&((Option.isSome q2)&&q88)))))
 let q90:=(q77&&q89)
 let q91:=(q76&&q90)
 bif q91 then
 some true
 else
 none
end M
