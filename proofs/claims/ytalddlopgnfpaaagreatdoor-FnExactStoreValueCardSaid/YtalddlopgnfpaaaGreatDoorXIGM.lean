/-
  Part of the proof of the claim.
-/
import Derived.Test.YtalddlopgnfpaaaGreatDoorXIdata
import Derived.Test.YtalddlopgnfpaaaGreatDoorXIhandA
set_option linter.unusedVariables false
set_option maxRecDepth 100000
noncomputable section
namespace M
def qV(cO:M.ae->M.ae->Option (Bool))(a:(List M.ae))(b:(List M.ae)):Nat->Int->Option ((Bool)⊕(Unit))
 |0,_=>none
 |fuel+1,i=>
 bif(decide (i<((List.length a):Int)))then
 bif(!(Option.getD (cO (M.ae.re (List.getD a (Int.toNat i) M.ae.zero)) (M.ae.re (List.getD b (Int.toNat i) M.ae.zero))) default))then
 let q0:=((Option.isSome (cO (M.ae.re (List.getD a (Int.toNat i) M.ae.zero)) (M.ae.re (List.getD b (Int.toNat i) M.ae.zero))))&&((Go.V.inB i (List.length b))&&((Go.V.inB i (List.length a))&&true)))
 bif q0 then
 some (.inl false)
 else
 none
 else
 let q0:=((Option.isSome (cO (M.ae.re (List.getD a (Int.toNat i) M.ae.zero)) (M.ae.re (List.getD b (Int.toNat i) M.ae.zero))))&&((Go.V.inB i (List.length b))&&((Go.V.inB i (List.length a))&&true)))
 bif q0 then
 M.qV cO a b fuel (Go.IntKind.wrap Go.IntKind.i64 (i+(1:Int)))
 else
 none
 else
 some ((.inr (())))
def tg(cO:M.ae->M.ae->Option (Bool))(a:(List M.ae))(b:(List M.ae)):Option (Bool):=
 bif(((List.length a):Int) !=((List.length b):Int))then
 some false
 else
 match(M.qV cO a b Go.V.ai (0:Int))with
 |none=>none
 |some y0=>
 (match y0 with
 |.inl a1=>
 some a1
 |.inr b1=>
 some true)
def wy(cO:M.ae->M.ae->Option (Bool))(a:M.ae)(b:M.ae):Option (Bool):=
 bif((M.ae.Kind a) !=(M.ae.Kind b))then
 some false
 else
 bif((M.ae.Num a) !=(M.ae.Num b))then
 some false
 else
 bif(!((M.ae.Text a)==(M.ae.Text b)))then
 some false
 else
 let q0:=(M.tg cO (M.ae.Kids a) (M.ae.Kids b))
 bif(!(Option.getD q0 default))then
 bif((Option.isSome q0)&&true)then
 some false
 else
 none
 else
 bif((Option.isSome q0)&&true)then
 some true
 else
 none
def qW:Nat->M.ae->M.ae->Option (Bool)
 |0=>fun _ _=>none
 |n+1=>wy (qW n)
def yR:M.ae->M.ae->Option (Bool):=qW Go.V.ai
def qX(a:(List (List UInt8))):Nat->Int->Int->Option ((Int)⊕(Int))
 |0,_,_=>none
 |fuel+1,left,i=>
 bif(decide (i<((List.length a):Int)))then
 let q0:=(Go.IntKind.wrap Go.IntKind.i64 (left-((List.length (List.getD a (Int.toNat i) [])):Int)))
 bif(decide (q0<(0:Int)))then
 bif((Go.V.inB i (List.length a))&&true)then
 some (.inl (-(1:Int)))
 else
 none
 else
 bif((Go.V.inB i (List.length a))&&true)then
 M.qX a fuel q0 (Go.IntKind.wrap Go.IntKind.i64 (i+(1:Int)))
 else
 none
 else
 some ((.inr (left)))
def ti(a:(List (List UInt8)))(left:Int):Option (Int):=
 bif(decide ((Go.IntKind.wrap Go.IntKind.i64 (left-((List.length a):Int)))<(0:Int)))then
 some (-(1:Int))
 else
 match(M.qX a Go.V.ai (Go.IntKind.wrap Go.IntKind.i64 (left-((List.length a):Int))) (0:Int))with
 |none=>none
 |some y0=>
 (match y0 with
 |.inl a1=>
 some a1
 |.inr b1=>
 some b1)
def qY(cP:M.aa->Int->Option (Int))(a:(List M.aa)):Nat->Int->Int->Option ((Int)⊕(Int))
 |0,_,_=>none
 |fuel+1,left,i=>
 bif(decide (i<((List.length a):Int)))then
 let q0:=(Option.getD (cP (M.aa.re (List.getD a (Int.toNat i) M.aa.zero)) left) default)
 bif(decide (q0<(0:Int)))then
 let q1:=((Option.isSome (cP (M.aa.re (List.getD a (Int.toNat i) M.aa.zero)) left))&&((Go.V.inB i (List.length a))&&true))
 bif q1 then
 some (.inl (-(1:Int)))
 else
 none
 else
 let q1:=((Option.isSome (cP (M.aa.re (List.getD a (Int.toNat i) M.aa.zero)) left))&&((Go.V.inB i (List.length a))&&true))
 bif q1 then
 M.qY cP a fuel q0 (Go.IntKind.wrap Go.IntKind.i64 (i+(1:Int)))
 else
 none
 else
 some ((.inr (left)))
def tj(cP:M.aa->Int->Option (Int))(a:(List M.aa))(left:Int):Option (Int):=
 bif(decide ((Go.IntKind.wrap Go.IntKind.i64 (left-((List.length a):Int)))<(0:Int)))then
 some (-(1:Int))
 else
 match(M.qY cP a Go.V.ai (Go.IntKind.wrap Go.IntKind.i64 (left-((List.length a):Int))) (0:Int))with
 |none=>none
 |some y0=>
 (match y0 with
 |.inl a1=>
 some a1
 |.inr b1=>
 some b1)
def wz(cP:M.aa->Int->Option (Int))(a:M.aa)(left:Int):Option (Int):=
 bif(decide ((Go.IntKind.wrap Go.IntKind.i64 (left-((List.length (M.aa.Name a)):Int)))<(0:Int)))then
 some (-(1:Int))
 else
 let q0:=(M.ti (M.aa.bm a) (Go.IntKind.wrap Go.IntKind.i64 (left-((List.length (M.aa.Name a)):Int))))
 let q1:=(Option.getD q0 default)
 bif(decide (q1<(0:Int)))then
 let q2:=((Option.isSome q0)&&true)
 bif q2 then
 some (-(1:Int))
 else
 none
 else
 let q2:=(M.tj cP (M.aa.Kids a) q1)
 let q3:=(Option.getD q2 default)
 bif(decide (q3<(0:Int)))then
 let q4:=((Option.isSome q0)&&true)
 let q5:=((Option.isSome q2)&&q4)
 bif q5 then
 some (-(1:Int))
 else
 none
 else
 let q4:=((Option.isSome q0)&&true)
 let q5:=((Option.isSome q2)&&q4)
 bif q5 then
 some q3
 else
 none
def qZ:Nat->M.aa->Int->Option (Int)
 |0=>fun _ _=>none
 |n+1=>wz (qZ n)
def yU:M.aa->Int->Option (Int):=qZ Go.V.ai
def pq(a:(List (List UInt8))):Nat->Int->(List (List UInt8))->Option ((List (List UInt8)))
 |0,_,_=>none
 |fuel+1,i,out=>
 bif(decide (i<((List.length a):Int)))then
 bif((Go.V.inB i (List.length out))&&((Go.V.inB i (List.length a))&&true))then
 M.pq a fuel (Go.IntKind.wrap Go.IntKind.i64 (i+(1:Int))) (List.set out (Int.toNat i) (List.getD a (Int.toNat i) []))
 else
 none
 else
 some (out)
def tn(a:(List (List UInt8))):Option ((List (List UInt8))):=
 match(M.pq a Go.V.ai (0:Int) (List.replicate (Int.toNat ((List.length a):Int)) []))with
 |none=>none
 |some y0=>
 bif(((decide (((List.length a):Int)<=((List.length a):Int)))&&(decide (((List.length a):Int)<=(1073741824:Int))))&&true)then
 some y0
 else
 none
def pr(cV:M.aa->Option (Int×(List UInt8)×(List (List UInt8))×(List M.aa)))(a:(List M.aa)):Nat->Int->(List M.aa)->Option ((List M.aa))
 |0,_,_=>none
 |fuel+1,i,out=>
 bif(decide (i<((List.length a):Int)))then
 bif((Go.V.inB i (List.length out))&&((Option.isSome (cV (M.aa.re (List.getD a (Int.toNat i) M.aa.zero))))&&((Go.V.inB i (List.length a))&&true)))then
 let q0:=(Option.getD (cV (M.aa.re (List.getD a (Int.toNat i) M.aa.zero))) default)
 let q1:=q0.2
 let q2:=q1.2
 M.pr cV a fuel (Go.IntKind.wrap Go.IntKind.i64 (i+(1:Int))) (List.set out (Int.toNat i) (M.aa.mk q0.1 q1.1 q2.1 q2.2))
 else
 none
 else
 some (out)
def tp(cV:M.aa->Option (Int×(List UInt8)×(List (List UInt8))×(List M.aa)))(a:(List M.aa)):Option ((List M.aa)):=
 match(M.pr cV a Go.V.ai (0:Int) (List.replicate (Int.toNat ((List.length a):Int)) (M.aa.mk (0:Int) [] [] [])))with
 |none=>none
 |some y0=>
 bif(((decide (((List.length a):Int)<=((List.length a):Int)))&&(decide (((List.length a):Int)<=(1073741824:Int))))&&true)then
 some y0
 else
 none
def wA(cV:M.aa->Option (Int×(List UInt8)×(List (List UInt8))×(List M.aa)))(a:M.aa):Option (Int×(List UInt8)×(List (List UInt8))×(List M.aa)):=
 let q0:=(M.tp cV (M.aa.Kids a))
 let q1:=(M.tn (M.aa.bm a))
 bif((Option.isSome q0)&&((Option.isSome q1)&&true))then
 some ((M.aa.Kind a),(M.aa.Name a),(Option.getD q1 default),(Option.getD q0 default))
 else
 none
def rf:Nat->M.aa->Option (Int×(List UInt8)×(List (List UInt8))×(List M.aa))
 |0=>fun _=>none
 |n+1=>wA (rf n)
def yX:M.aa->Option (Int×(List UInt8)×(List (List UInt8))×(List M.aa)):=rf Go.V.ai
def rh(a:(List (List UInt8)))(b:(List (List UInt8))):Nat->Int->Option ((Bool)⊕(Unit))
 |0,_=>none
 |fuel+1,i=>
 bif(decide (i<((List.length a):Int)))then
 bif(!((List.getD a (Int.toNat i) [])==(List.getD b (Int.toNat i) [])))then
 let q0:=((Go.V.inB i (List.length b))&&((Go.V.inB i (List.length a))&&true))
 bif q0 then
 some (.inl false)
 else
 none
 else
 let q0:=((Go.V.inB i (List.length b))&&((Go.V.inB i (List.length a))&&true))
 bif q0 then
 M.rh a b fuel (Go.IntKind.wrap Go.IntKind.i64 (i+(1:Int)))
 else
 none
 else
 some ((.inr (())))
def tq(a:(List (List UInt8)))(b:(List (List UInt8))):Option (Bool):=
 bif(((List.length a):Int) !=((List.length b):Int))then
 some false
 else
 match(M.rh a b Go.V.ai (0:Int))with
 |none=>none
 |some y0=>
 (match y0 with
 |.inl a1=>
 some a1
 |.inr b1=>
 some true)
def ri(cQ:M.aa->M.aa->Option (Bool))(a:(List M.aa))(b:(List M.aa)):Nat->Int->Option ((Bool)⊕(Unit))
 |0,_=>none
 |fuel+1,i=>
 bif(decide (i<((List.length a):Int)))then
 bif(!(Option.getD (cQ (M.aa.re (List.getD a (Int.toNat i) M.aa.zero)) (M.aa.re (List.getD b (Int.toNat i) M.aa.zero))) default))then
 let q0:=((Option.isSome (cQ (M.aa.re (List.getD a (Int.toNat i) M.aa.zero)) (M.aa.re (List.getD b (Int.toNat i) M.aa.zero))))&&((Go.V.inB i (List.length b))&&((Go.V.inB i (List.length a))&&true)))
 bif q0 then
 some (.inl false)
 else
 none
 else
 let q0:=((Option.isSome (cQ (M.aa.re (List.getD a (Int.toNat i) M.aa.zero)) (M.aa.re (List.getD b (Int.toNat i) M.aa.zero))))&&((Go.V.inB i (List.length b))&&((Go.V.inB i (List.length a))&&true)))
 bif q0 then
 M.ri cQ a b fuel (Go.IntKind.wrap Go.IntKind.i64 (i+(1:Int)))
 else
 none
 else
 some ((.inr (())))
def tr(cQ:M.aa->M.aa->Option (Bool))(a:(List M.aa))(b:(List M.aa)):Option (Bool):=
 bif(((List.length a):Int) !=((List.length b):Int))then
 some false
 else
 match(M.ri cQ a b Go.V.ai (0:Int))with
 |none=>none
 |some y0=>
 (match y0 with
 |.inl a1=>
 some a1
 |.inr b1=>
 some true)
def wB(cQ:M.aa->M.aa->Option (Bool))(a:M.aa)(b:M.aa):Option (Bool):=
 bif((M.aa.Kind a) !=(M.aa.Kind b))then
 some false
 else
 bif(!((M.aa.Name a)==(M.aa.Name b)))then
 some false
 else
 let q0:=(M.tq (M.aa.bm a) (M.aa.bm b))
 bif(!(Option.getD q0 default))then
 bif((Option.isSome q0)&&true)then
 some false
 else
 none
 else
 let q1:=(M.tr cQ (M.aa.Kids a) (M.aa.Kids b))
 bif(!(Option.getD q1 default))then
 bif((Option.isSome q1)&&((Option.isSome q0)&&true))then
 some false
 else
 none
 else
 bif((Option.isSome q1)&&((Option.isSome q0)&&true))then
 some true
 else
 none
def rj:Nat->M.aa->M.aa->Option (Bool)
 |0=>fun _ _=>none
 |n+1=>wB (rj n)
def y4:M.aa->M.aa->Option (Bool):=rj Go.V.ai
def jc(a:Int)(b:Int):Option (Int):=
 bif(decide (b<a))then
 some a
 else
 some b
def pt(dZ:M.aa->Int->Option (Int×Int))(deep:Int):Nat->Int->Int->Int->M.aa->Option ((Int×Int)⊕(Int×Int))
 |0,_,_,_,_=>none
 |fuel+1,most,parts,i,t=>
 bif(decide (i<((List.length (M.aa.Kids t)):Int)))then
 let q0:=(Option.getD (dZ (M.aa.re (List.getD (M.aa.Kids t) (Int.toNat i) M.aa.zero)) (Go.IntKind.wrap Go.IntKind.i64 (deep+(1:Int)))) default)
 let q1:=(Go.IntKind.wrap Go.IntKind.i64 (parts+q0.2))
 bif(decide ((24:Int)<q1))then
 let q2:=(M.jc most q0.1)
 let q3:=((Option.isSome q2)&&((Option.isSome (dZ (M.aa.re (List.getD (M.aa.Kids t) (Int.toNat i) M.aa.zero)) (Go.IntKind.wrap Go.IntKind.i64 (deep+(1:Int)))))&&((Go.V.inB i (List.length (M.aa.Kids t)))&&true)))
 bif q3 then
 some (.inl ((5:Int),(25:Int)))
 else
 none
 else
 let q2:=(M.jc most q0.1)
 let q3:=((Option.isSome q2)&&((Option.isSome (dZ (M.aa.re (List.getD (M.aa.Kids t) (Int.toNat i) M.aa.zero)) (Go.IntKind.wrap Go.IntKind.i64 (deep+(1:Int)))))&&((Go.V.inB i (List.length (M.aa.Kids t)))&&true)))
 bif q3 then
 M.pt dZ deep fuel (Option.getD q2 default) q1 (Go.IntKind.wrap Go.IntKind.i64 (i+(1:Int))) (M.aa.re t)
 else
 none
 else
 some ((.inr ((most,parts))))
def wE(dZ:M.aa->Int->Option (Int×Int))(t:M.aa)(deep:Int):Option (Int×Int):=
 bif((decide ((4:Int)<deep))||(decide ((24:Int)<((List.length (M.aa.Kids t)):Int))))then
 some ((5:Int),(25:Int))
 else
 match(M.pt dZ deep Go.V.ai (0:Int) (1:Int) (0:Int) (M.aa.re t))with
 |none=>none
 |some y0=>
 (match y0 with
 |.inl a1=>
 some (a1.1,a1.2)
 |.inr b1=>
 some ((Go.IntKind.wrap Go.IntKind.i64 (b1.1+(1:Int))),b1.2))
def pv:Nat->M.aa->Int->Option (Int×Int)
 |0=>fun _ _=>none
 |n+1=>wE (pv n)
def y9:M.aa->Int->Option (Int×Int):=pv Go.V.ai
def px(n:Int)(low:Int)(high:Int):Option (Bool):=
 some ((decide (low<=n))&&(decide (n<=high)))
def rk(s:(List UInt8)):Nat->Int->Option ((Bool)⊕(Unit))
 |0,_=>none
 |fuel+1,i=>
 bif(decide (i<((List.length s):Int)))then
 let q0:=((((decide (((UInt8.toNat (List.getD s (Int.toNat i) (0:UInt8))):Int)<(97:Int)))||(decide ((122:Int)<((UInt8.toNat (List.getD s (Int.toNat i) (0:UInt8))):Int))))&&((decide (((UInt8.toNat (List.getD s (Int.toNat i) (0:UInt8))):Int)<(48:Int)))||(decide ((57:Int)<((UInt8.toNat (List.getD s (Int.toNat i) (0:UInt8))):Int)))))&&(((UInt8.toNat (List.getD s (Int.toNat i) (0:UInt8))):Int) !=(45:Int)))
 let q1:=(((UInt8.toNat (List.getD s (Int.toNat i) (0:UInt8))):Int)==(45:Int))
 bif(q0||(q1&&(((UInt8.toNat (List.getD s (Int.toNat (Go.IntKind.wrap Go.IntKind.i64 (i-(1:Int)))) (0:UInt8))):Int)==(45:Int))))then
 let q2:=(((Go.V.inB (Go.IntKind.wrap Go.IntKind.i64 (i-(1:Int))) (List.length s))||(!((q0==false)&&(q1==true))))&&((Go.V.inB i (List.length s))&&true))
 bif q2 then
 some (.inl false)
 else
 none
 else
 let q2:=(((Go.V.inB (Go.IntKind.wrap Go.IntKind.i64 (i-(1:Int))) (List.length s))||(!((q0==false)&&(q1==true))))&&((Go.V.inB i (List.length s))&&true))
 bif q2 then
 M.rk s fuel (Go.IntKind.wrap Go.IntKind.i64 (i+(1:Int)))
 else
 none
 else
 some ((.inr (())))
def py(s:(List UInt8)):Option (Bool):=
 let q0:=((decide (((List.length s):Int)<(1:Int)))||(decide ((12:Int)<((List.length s):Int))))
 let q1:=(q0||(decide (((UInt8.toNat (List.getD s (Int.toNat (0:Int)) (0:UInt8))):Int)<(97:Int))))
 let q2:=(q1||(decide ((122:Int)<((UInt8.toNat (List.getD s (Int.toNat (0:Int)) (0:UInt8))):Int))))
 bif(q2||(((UInt8.toNat (List.getD s (Int.toNat (Go.IntKind.wrap Go.IntKind.i64 (((List.length s):Int)-(1:Int)))) (0:UInt8))):Int)==(45:Int)))then
 let q3:=(((Go.V.inB (Go.IntKind.wrap Go.IntKind.i64 (((List.length s):Int)-(1:Int))) (List.length s))||(!(q2==false)))&&(((Go.V.inB (0:Int) (List.length s))||(!(q1==false)))&&(((Go.V.inB (0:Int) (List.length s))||(!(q0==false)))&&true)))
 bif q3 then
 some false
 else
 none
 else
 match(M.rk s Go.V.ai (0:Int))with
 |none=>none
 |some y3=>
 (match y3 with
 |.inl a4=>
 let q5:=(((Go.V.inB (Go.IntKind.wrap Go.IntKind.i64 (((List.length s):Int)-(1:Int))) (List.length s))||(!(q2==false)))&&(((Go.V.inB (0:Int) (List.length s))||(!(q1==false)))&&(((Go.V.inB (0:Int) (List.length s))||(!(q0==false)))&&true)))
 bif q5 then
 some a4
 else
 none
 |.inr b4=>
 let q5:=(((Go.V.inB (Go.IntKind.wrap Go.IntKind.i64 (((List.length s):Int)-(1:Int))) (List.length s))||(!(q2==false)))&&(((Go.V.inB (0:Int) (List.length s))||(!(q1==false)))&&(((Go.V.inB (0:Int) (List.length s))||(!(q0==false)))&&true)))
 bif q5 then
 some true
 else
 none)
def pz(list:(List (List UInt8)))(i:Int):Nat->Int->Option ((Bool)⊕((List (List UInt8))×Int))
 |0,_=>none
 |fuel+1,k=>
 bif(decide (k<i))then
 bif((List.getD list (Int.toNat k) [])==(List.getD list (Int.toNat i) []))then
 let q0:=((Go.V.inB i (List.length list))&&((Go.V.inB k (List.length list))&&true))
 bif q0 then
 some (.inl false)
 else
 none
 else
 let q0:=((Go.V.inB i (List.length list))&&((Go.V.inB k (List.length list))&&true))
 bif q0 then
 M.pz list i fuel (Go.IntKind.wrap Go.IntKind.i64 (k+(1:Int)))
 else
 none
 else
 some ((.inr ((list,i))))
def nF:Nat->(List (List UInt8))->Int->Option ((Bool)⊕(Unit))
 |0,_,_=>none
 |fuel+1,list,i=>
 bif(decide (i<((List.length list):Int)))then
 let q0:=(M.py (List.getD list (Int.toNat i) []))
 bif(!(Option.getD q0 default))then
 let q1:=((Option.isSome q0)&&((Go.V.inB i (List.length list))&&true))
 bif q1 then
 some (.inl false)
 else
 none
 else
 match(M.pz list i Go.V.ai (0:Int))with
 |none=>none
 |some y1=>
 (match y1 with
 |.inl a2=>
 let q3:=((Option.isSome q0)&&((Go.V.inB i (List.length list))&&true))
 bif q3 then
 some (.inl a2)
 else
 none
 |.inr b2=>
 let q3:=((Option.isSome q0)&&((Go.V.inB i (List.length list))&&true))
 bif q3 then
 M.nF fuel b2.1 (Go.IntKind.wrap Go.IntKind.i64 (b2.2+(1:Int)))
 else
 none)
 else
 some ((.inr (())))
def tA(list:(List (List UInt8))):Option (Bool):=
 bif((decide (((List.length list):Int)<(1:Int)))||(decide ((16:Int)<((List.length list):Int))))then
 some false
 else
 match(M.nF Go.V.ai list (0:Int))with
 |none=>none
 |some y0=>
 (match y0 with
 |.inl a1=>
 some a1
 |.inr b1=>
 some true)
def l9:Nat->Int->M.aa->Option ((Bool)⊕(Unit))
 |0,_,_=>none
 |fuel+1,i,t=>
 bif(decide (i<((List.length (M.aa.Kids t)):Int)))then
 bif((M.aa.Kind (List.getD (M.aa.Kids t) (Int.toNat i) M.aa.zero))==(1:Int))then
 bif((Go.V.inB i (List.length (M.aa.Kids t)))&&true)then
 some (.inl true)
 else
 none
 else
 bif((Go.V.inB i (List.length (M.aa.Kids t)))&&true)then
 M.l9 fuel (Go.IntKind.wrap Go.IntKind.i64 (i+(1:Int))) (M.aa.re t)
 else
 none
 else
 some ((.inr (())))
def pA(t:M.aa):Option (Bool):=
 match(M.l9 Go.V.ai (0:Int) (M.aa.re t))with
 |none=>none
 |some y0=>
 (match y0 with
 |.inl a1=>
 some a1
 |.inr b1=>
 some false)
def ma(d6:M.aa->Int->Int->Option (Bool))(low:Int)(high:Int):Nat->Int->M.aa->Option ((Bool)⊕(Unit))
 |0,_,_=>none
 |fuel+1,i,t=>
 bif(decide (i<((List.length (M.aa.Kids t)):Int)))then
 bif(Option.getD (d6 (M.aa.re (List.getD (M.aa.Kids t) (Int.toNat i) M.aa.zero)) low high) default)then
 let q0:=((Option.isSome (d6 (M.aa.re (List.getD (M.aa.Kids t) (Int.toNat i) M.aa.zero)) low high))&&((Go.V.inB i (List.length (M.aa.Kids t)))&&true))
 bif q0 then
 some (.inl true)
 else
 none
 else
 let q0:=((Option.isSome (d6 (M.aa.re (List.getD (M.aa.Kids t) (Int.toNat i) M.aa.zero)) low high))&&((Go.V.inB i (List.length (M.aa.Kids t)))&&true))
 bif q0 then
 M.ma d6 low high fuel (Go.IntKind.wrap Go.IntKind.i64 (i+(1:Int))) (M.aa.re t)
 else
 none
 else
 some ((.inr (())))
def wF(d6:M.aa->Int->Int->Option (Bool))(t:M.aa)(low:Int)(high:Int):Option (Bool):=
 bif((decide (low<=(M.aa.Kind t)))&&(decide ((M.aa.Kind t)<=high)))then
 some true
 else
 match(M.ma d6 low high Go.V.ai (0:Int) (M.aa.re t))with
 |none=>none
 |some y0=>
 (match y0 with
 |.inl a1=>
 some a1
 |.inr b1=>
 some false)
def k7:Nat->M.aa->Int->Int->Option (Bool)
 |0=>fun _ _ _=>none
 |n+1=>wF (k7 n)
def pB:M.aa->Int->Int->Option (Bool):=k7 Go.V.ai
def tC(t:M.aa):Option (Bool):=
 let q0:=(((M.aa.Kind t)==(20:Int))||((M.aa.Kind t)==(21:Int)))
 let q1:=(!(q0==(!((M.aa.Name t)==[]))))
 let q2:=(M.py (M.aa.Name t))
 let q3:=((decide ((16:Int)<=(M.aa.Kind t)))&&(decide ((M.aa.Kind t)<=(19:Int))))
 let q4:=((q1||(q0&&(!(Option.getD q2 default))))||(!(q3==(decide ((0:Int)<((List.length (M.aa.bm t)):Int))))))
 let q5:=(M.tA (M.aa.bm t))
 bif(q4||(q3&&(!(Option.getD q5 default))))then
 let q6:=(((Option.isSome q5)||(!((q4==false)&&(q3==true))))&&(((Option.isSome q2)||(!((q1==false)&&(q0==true))))&&true))
 bif q6 then
 some false
 else
 none
 else
 bif(bif((M.aa.Kind t)==(12:Int))then((M.aa.Kind t)==(12:Int))else((M.aa.Kind t)==(13:Int)))then
 let q6:=(M.pA (M.aa.re t))
 let q7:=(!((((List.length (M.aa.Kids t)):Int)==(1:Int))==true))
 let q8:=(((Option.isSome q5)||(!((q4==false)&&(q3==true))))&&(((Option.isSome q2)||(!((q1==false)&&(q0==true))))&&true))
 let q9:=((q8||(!((M.aa.Kind t)==(12:Int))))&&(q8||((M.aa.Kind t)==(12:Int))))
 bif(((Option.isSome q6)||q7)&&q9)then
 some ((((List.length (M.aa.Kids t)):Int)==(1:Int))&&(!(Option.getD q6 default)))
 else
 none
 else
 bif(bif((M.aa.Kind t)==(22:Int))then((M.aa.Kind t)==(22:Int))else((M.aa.Kind t)==(23:Int)))then
 let q6:=(M.pB (M.aa.re (List.getD (M.aa.Kids t) (Int.toNat (0:Int)) M.aa.zero)) (21:Int) (21:Int))
 let q7:=(!((((List.length (M.aa.Kids t)):Int)==(1:Int))==true))
 let q8:=(((Option.isSome q5)||(!((q4==false)&&(q3==true))))&&(((Option.isSome q2)||(!((q1==false)&&(q0==true))))&&true))
 let q9:=((q8||(!((M.aa.Kind t)==(12:Int))))&&(q8||((M.aa.Kind t)==(12:Int))))
 let q10:=((q9||(!((M.aa.Kind t)==(22:Int))))&&(q9||((M.aa.Kind t)==(22:Int))))
 bif(((Option.isSome q6)||q7)&&(((Go.V.inB (0:Int) (List.length (M.aa.Kids t)))||q7)&&q10))then
 some ((((List.length (M.aa.Kids t)):Int)==(1:Int))&&(!(Option.getD q6 default)))
 else
 none
 else
 bif((M.aa.Kind t)==(14:Int))then
 let q6:=(((Option.isSome q5)||(!((q4==false)&&(q3==true))))&&(((Option.isSome q2)||(!((q1==false)&&(q0==true))))&&true))
 let q7:=((q6||(!((M.aa.Kind t)==(12:Int))))&&(q6||((M.aa.Kind t)==(12:Int))))
 let q8:=((q7||(!((M.aa.Kind t)==(22:Int))))&&(q7||((M.aa.Kind t)==(22:Int))))
 bif q8 then
 some (((List.length (M.aa.Kids t)):Int)==(2:Int))
 else
 none
 else
 bif((M.aa.Kind t)==(15:Int))then
 let q6:=(M.pA (M.aa.re t))
 let q7:=((decide ((1:Int)<=((List.length (M.aa.Kids t)):Int)))&&(decide (((List.length (M.aa.Kids t)):Int)<=(6:Int))))
 let q8:=(((Option.isSome q5)||(!((q4==false)&&(q3==true))))&&(((Option.isSome q2)||(!((q1==false)&&(q0==true))))&&true))
 let q9:=((q8||(!((M.aa.Kind t)==(12:Int))))&&(q8||((M.aa.Kind t)==(12:Int))))
 let q10:=((q9||(!((M.aa.Kind t)==(22:Int))))&&(q9||((M.aa.Kind t)==(22:Int))))
 bif(((Option.isSome q6)||(!(q7==true)))&&q10)then
 some (q7&&(!(Option.getD q6 default)))
 else
 none
 else
 bif((M.aa.Kind t)==(16:Int))then
 let q6:=(M.pA (M.aa.re t))
 let q7:=(((Option.isSome q5)||(!((q4==false)&&(q3==true))))&&(((Option.isSome q2)||(!((q1==false)&&(q0==true))))&&true))
 let q8:=((q7||(!((M.aa.Kind t)==(12:Int))))&&(q7||((M.aa.Kind t)==(12:Int))))
 let q9:=((q8||(!((M.aa.Kind t)==(22:Int))))&&(q8||((M.aa.Kind t)==(22:Int))))
 bif(((Option.isSome q6)||(!((((List.length (M.aa.Kids t)):Int)==((List.length (M.aa.bm t)):Int))==true)))&&q9)then
 some ((((List.length (M.aa.Kids t)):Int)==((List.length (M.aa.bm t)):Int))&&(!(Option.getD q6 default)))
 else
 none
 else
 bif((M.aa.Kind t)==(17:Int))then
 let q6:=(((Option.isSome q5)||(!((q4==false)&&(q3==true))))&&(((Option.isSome q2)||(!((q1==false)&&(q0==true))))&&true))
 let q7:=((q6||(!((M.aa.Kind t)==(12:Int))))&&(q6||((M.aa.Kind t)==(12:Int))))
 let q8:=((q7||(!((M.aa.Kind t)==(22:Int))))&&(q7||((M.aa.Kind t)==(22:Int))))
 bif q8 then
 some (((List.length (M.aa.Kids t)):Int)==((List.length (M.aa.bm t)):Int))
 else
 none
 else
 let q6:=(((Option.isSome q5)||(!((q4==false)&&(q3==true))))&&(((Option.isSome q2)||(!((q1==false)&&(q0==true))))&&true))
 let q7:=((q6||(!((M.aa.Kind t)==(12:Int))))&&(q6||((M.aa.Kind t)==(12:Int))))
 let q8:=((q7||(!((M.aa.Kind t)==(22:Int))))&&(q7||((M.aa.Kind t)==(22:Int))))
 bif q8 then
 some (((decide ((1:Int)<=(M.aa.Kind t)))&&(decide ((M.aa.Kind t)<=(23:Int))))&&(((List.length (M.aa.Kids t)):Int)==(0:Int)))
 else
 none
def mb(ec:M.aa->Option (Bool)):Nat->Int->M.aa->Option ((Bool)⊕(Unit))
 |0,_,_=>none
 |fuel+1,i,t=>
 bif(decide (i<((List.length (M.aa.Kids t)):Int)))then
 bif(!(Option.getD (ec (M.aa.re (List.getD (M.aa.Kids t) (Int.toNat i) M.aa.zero))) default))then
 let q0:=((Option.isSome (ec (M.aa.re (List.getD (M.aa.Kids t) (Int.toNat i) M.aa.zero))))&&((Go.V.inB i (List.length (M.aa.Kids t)))&&true))
 bif q0 then
 some (.inl false)
 else
 none
 else
 let q0:=((Option.isSome (ec (M.aa.re (List.getD (M.aa.Kids t) (Int.toNat i) M.aa.zero))))&&((Go.V.inB i (List.length (M.aa.Kids t)))&&true))
 bif q0 then
 M.mb ec fuel (Go.IntKind.wrap Go.IntKind.i64 (i+(1:Int))) (M.aa.re t)
 else
 none
 else
 some ((.inr (())))
def wG(ec:M.aa->Option (Bool))(t:M.aa):Option (Bool):=
 let q0:=(M.tC (M.aa.re t))
 bif(!(Option.getD q0 default))then
 bif((Option.isSome q0)&&true)then
 some false
 else
 none
 else
 match(M.mb ec Go.V.ai (0:Int) (M.aa.re t))with
 |none=>none
 |some y1=>
 (match y1 with
 |.inl a2=>
 bif((Option.isSome q0)&&true)then
 some a2
 else
 none
 |.inr b2=>
 bif((Option.isSome q0)&&true)then
 some true
 else
 none)
def mc:Nat->M.aa->Option (Bool)
 |0=>fun _=>none
 |n+1=>wG (mc n)
def zf:M.aa->Option (Bool):=mc Go.V.ai
def pC(ek:M.aa->Int->Option (Int))(levels:Int)(t11:(List M.aa))(t12:Int):Nat->Int->Int->Option (Int)
 |0,_,_=>none
 |fuel+1,depth,t13=>
 bif(decide (t13<t12))then
 bif((Option.isSome (ek (M.aa.re (List.getD t11 (Int.toNat t13) M.aa.zero)) (Go.IntKind.wrap Go.IntKind.i64 (levels-(1:Int)))))&&((Go.V.inB t13 (List.length t11))&&true))then
 let q0:=(Option.getD (ek (M.aa.re (List.getD t11 (Int.toNat t13) M.aa.zero)) (Go.IntKind.wrap Go.IntKind.i64 (levels-(1:Int)))) default)
 M.pC ek levels t11 t12 fuel (bif(decide (depth<q0))then q0 else depth) (Go.IntKind.wrap Go.IntKind.i64 (t13+(1:Int)))
 else
 none
 else
 some (depth)
def wH(ek:M.aa->Int->Option (Int))(t:M.aa)(levels:Int):Option (Int):=
 bif(levels==(0:Int))then
 some (1:Int)
 else
 match(M.pC ek levels (M.aa.Kids t) ((List.length (M.aa.Kids t)):Int) Go.V.ai (0:Int) (0:Int))with
 |none=>none
 |some y0=>
 some (Go.IntKind.wrap Go.IntKind.i64 (y0+(1:Int)))
def pD:Nat->M.aa->Int->Option (Int)
 |0=>fun _ _=>none
 |n+1=>wH (pD n)
def zh:M.aa->Int->Option (Int):=pD Go.V.ai
def pE(en:M.aa->Option (Int))(t7:(List M.aa))(t8:Int):Nat->Int->Int->Option (Int)
 |0,_,_=>none
 |fuel+1,many,t9=>
 bif(decide (t9<t8))then
 bif((Option.isSome (en (M.aa.re (List.getD t7 (Int.toNat t9) M.aa.zero))))&&((Go.V.inB t9 (List.length t7))&&true))then
 M.pE en t7 t8 fuel (Go.IntKind.wrap Go.IntKind.i64 (many+(Option.getD (en (M.aa.re (List.getD t7 (Int.toNat t9) M.aa.zero))) default))) (Go.IntKind.wrap Go.IntKind.i64 (t9+(1:Int)))
 else
 none
 else
 some (many)
def wI(en:M.aa->Option (Int))(t:M.aa):Option (Int):=
 match(M.pE en (M.aa.Kids t) ((List.length (M.aa.Kids t)):Int) Go.V.ai (1:Int) (0:Int))with
 |none=>none
 |some y0=>
 some y0
def pF:Nat->M.aa->Option (Int)
 |0=>fun _=>none
 |n+1=>wI (pF n)
def zj:M.aa->Option (Int):=pF Go.V.ai
def tI(bM:M.aa->Option (Bool))(kid:M.aa):Option (Bool):=
 bif((Option.isSome (bM (M.aa.re kid)))&&true)then
 some (!(Option.getD (bM (M.aa.re kid)) default))
 else
 none
def rl(bM:M.aa->Option (Bool))(s:(List M.aa))(t7:Int):Nat->Int->Option ((Int)⊕(Unit))
 |0,_=>none
 |fuel+1,t8=>
 bif(decide (t8<t7))then
 let q0:=(M.tI bM (M.aa.re (List.getD s (Int.toNat t8) M.aa.zero)))
 bif(Option.getD q0 default)then
 let q1:=((Option.isSome q0)&&((Go.V.inB t8 (List.length s))&&true))
 bif q1 then
 some (.inl t8)
 else
 none
 else
 let q1:=((Option.isSome q0)&&((Go.V.inB t8 (List.length s))&&true))
 bif q1 then
 M.rl bM s t7 fuel (Go.IntKind.wrap Go.IntKind.i64 (t8+(1:Int)))
 else
 none
 else
 some ((.inr (())))
def wJ(bM:M.aa->Option (Bool))(s:(List M.aa)):Option (Int):=
 match(M.rl bM s ((List.length s):Int) Go.V.ai (0:Int))with
 |none=>none
 |some y0=>
 (match y0 with
 |.inl a1=>
 some a1
 |.inr b1=>
 some (-(1:Int)))
def rm(bM:M.aa->Option (Bool))(s:(List M.aa)):Option (Bool):=
 let q0:=(M.wJ bM s)
 bif((Option.isSome q0)&&true)then
 some (decide ((0:Int)<=(Option.getD q0 default)))
 else
 none
def pH(n:Int)(low:Int)(high:Int):Option (Bool):=
 some ((decide (low<=n))&&(decide (n<=high)))
def tL(list:(List (List UInt8))):Option (Int):=
 some ((List.length list):Int)
def pI(s:(List UInt8))(t7:Int):Nat->Int->Option ((Bool)⊕((List UInt8)))
 |0,_=>none
 |fuel+1,t8=>
 bif(decide (t8<t7))then
 bif((decide ((97:Int)<=((UInt8.toNat (List.getD s (Int.toNat t8) (0:UInt8))):Int)))&&(decide (((UInt8.toNat (List.getD s (Int.toNat t8) (0:UInt8))):Int)<=(122:Int))))then
 let q0:=(((Go.V.inB t8 (List.length s))||(!((decide ((48:Int)<=((UInt8.toNat (List.getD s (Int.toNat t8) (0:UInt8))):Int)))==true)))&&((Go.V.inB t8 (List.length s))&&(((Go.V.inB t8 (List.length s))||(!((decide ((97:Int)<=((UInt8.toNat (List.getD s (Int.toNat t8) (0:UInt8))):Int)))==true)))&&((Go.V.inB t8 (List.length s))&&true))))
 bif q0 then
 M.pI s t7 fuel (Go.IntKind.wrap Go.IntKind.i64 (t8+(1:Int)))
 else
 none
 else
 let q0:=(!((decide ((48:Int)<=((UInt8.toNat (List.getD s (Int.toNat t8) (0:UInt8))):Int)))&&(decide (((UInt8.toNat (List.getD s (Int.toNat t8) (0:UInt8))):Int)<=(57:Int)))))
 bif((t8==(0:Int))||(q0&&(((UInt8.toNat (List.getD s (Int.toNat t8) (0:UInt8))):Int) !=(45:Int))))then
 let q1:=(((Go.V.inB t8 (List.length s))||(!((decide ((48:Int)<=((UInt8.toNat (List.getD s (Int.toNat t8) (0:UInt8))):Int)))==true)))&&((Go.V.inB t8 (List.length s))&&(((Go.V.inB t8 (List.length s))||(!((decide ((97:Int)<=((UInt8.toNat (List.getD s (Int.toNat t8) (0:UInt8))):Int)))==true)))&&((Go.V.inB t8 (List.length s))&&true))))
 let q2:=(((Go.V.inB t8 (List.length s))||(!(((t8==(0:Int))==false)&&(q0==true))))&&q1)
 bif q2 then
 some (.inl false)
 else
 none
 else
 let q1:=(((UInt8.toNat (List.getD s (Int.toNat t8) (0:UInt8))):Int)==(45:Int))
 bif(q1&&(((UInt8.toNat (List.getD s (Int.toNat (Go.IntKind.wrap Go.IntKind.i64 (t8-(1:Int)))) (0:UInt8))):Int)==(45:Int)))then
 let q2:=(((Go.V.inB t8 (List.length s))||(!((decide ((48:Int)<=((UInt8.toNat (List.getD s (Int.toNat t8) (0:UInt8))):Int)))==true)))&&((Go.V.inB t8 (List.length s))&&(((Go.V.inB t8 (List.length s))||(!((decide ((97:Int)<=((UInt8.toNat (List.getD s (Int.toNat t8) (0:UInt8))):Int)))==true)))&&((Go.V.inB t8 (List.length s))&&true))))
 let q3:=(((Go.V.inB t8 (List.length s))||(!(((t8==(0:Int))==false)&&(q0==true))))&&q2)
 let q4:=(((Go.V.inB (Go.IntKind.wrap Go.IntKind.i64 (t8-(1:Int))) (List.length s))||(!(q1==true)))&&((Go.V.inB t8 (List.length s))&&q3))
 bif q4 then
 some (.inl false)
 else
 none
 else
 let q2:=(((Go.V.inB t8 (List.length s))||(!((decide ((48:Int)<=((UInt8.toNat (List.getD s (Int.toNat t8) (0:UInt8))):Int)))==true)))&&((Go.V.inB t8 (List.length s))&&(((Go.V.inB t8 (List.length s))||(!((decide ((97:Int)<=((UInt8.toNat (List.getD s (Int.toNat t8) (0:UInt8))):Int)))==true)))&&((Go.V.inB t8 (List.length s))&&true))))
 let q3:=(((Go.V.inB t8 (List.length s))||(!(((t8==(0:Int))==false)&&(q0==true))))&&q2)
 let q4:=(((Go.V.inB (Go.IntKind.wrap Go.IntKind.i64 (t8-(1:Int))) (List.length s))||(!(q1==true)))&&((Go.V.inB t8 (List.length s))&&q3))
 bif q4 then
 M.pI s t7 fuel (Go.IntKind.wrap Go.IntKind.i64 (t8+(1:Int)))
 else
 none
 else
 some ((.inr (s)))
def pJ(s:(List UInt8)):Option (Bool):=
 match(M.pI s ((List.length s):Int) Go.V.ai (0:Int))with
 |none=>none
 |some y0=>
 (match y0 with
 |.inl a1=>
 some a1
 |.inr b1=>
 let q2:=((decide ((1:Int)<=((List.length b1):Int)))&&(decide (((List.length b1):Int)<=(12:Int))))
 bif(((Go.V.inB (Go.IntKind.wrap Go.IntKind.i64 (((List.length b1):Int)-(1:Int))) (List.length b1))||(!(q2==true)))&&true)then
 some (q2&&(((UInt8.toNat (List.getD b1 (Int.toNat (Go.IntKind.wrap Go.IntKind.i64 (((List.length b1):Int)-(1:Int)))) (0:UInt8))):Int) !=(45:Int)))
 else
 none)
def tM(name:(List UInt8)):Option (Bool):=
 let q0:=(M.pJ name)
 bif((Option.isSome q0)&&true)then
 some (!(Option.getD q0 default))
 else
 none
def rn(s:(List (List UInt8)))(t7:Int):Nat->Int->Option ((Int)⊕(Unit))
 |0,_=>none
 |fuel+1,t8=>
 bif(decide (t8<t7))then
 let q0:=(M.tM (List.getD s (Int.toNat t8) []))
 bif(Option.getD q0 default)then
 let q1:=((Option.isSome q0)&&((Go.V.inB t8 (List.length s))&&true))
 bif q1 then
 some (.inl t8)
 else
 none
 else
 let q1:=((Option.isSome q0)&&((Go.V.inB t8 (List.length s))&&true))
 bif q1 then
 M.rn s t7 fuel (Go.IntKind.wrap Go.IntKind.i64 (t8+(1:Int)))
 else
 none
 else
 some ((.inr (())))
def wK(s:(List (List UInt8))):Option (Int):=
 match(M.rn s ((List.length s):Int) Go.V.ai (0:Int))with
 |none=>none
 |some y0=>
 (match y0 with
 |.inl a1=>
 some a1
 |.inr b1=>
 some (-(1:Int)))
def tN(s:(List (List UInt8))):Option (Bool):=
 let q0:=(M.wK s)
 bif((Option.isSome q0)&&true)then
 some (decide ((0:Int)<=(Option.getD q0 default)))
 else
 none
def tO(labels:(List (List UInt8))):Option (Bool):=
 let q0:=(M.tN labels)
 let q1:=((decide ((1:Int)<=((List.length labels):Int)))&&(decide (((List.length labels):Int)<=(16:Int))))
 let q2:=(M.pK labels)
 let q3:=(q1&&(Option.getD q2 default))
 bif(((Option.isSome q0)||(!(q3==true)))&&(((Option.isSome q2)||(!(q1==true)))&&true))then
 some (q3&&(!(Option.getD q0 default)))
 else
 none
def wM(list:(List M.aa)):Option (Int):=
 some ((List.length list):Int)
def zq(t:M.aa):Option (Bool):=
 some ((M.aa.Kind t)==(1:Int))
def rq(s:(List M.aa))(t7:Int):Nat->Int->Option ((Int)⊕(Unit))
 |0,_=>none
 |fuel+1,t8=>
 bif(decide (t8<t7))then
 bif((M.aa.Kind (List.getD s (Int.toNat t8) M.aa.zero))==(1:Int))then
 bif((Go.V.inB t8 (List.length s))&&true)then
 some (.inl t8)
 else
 none
 else
 bif((Go.V.inB t8 (List.length s))&&true)then
 M.rq s t7 fuel (Go.IntKind.wrap Go.IntKind.i64 (t8+(1:Int)))
 else
 none
 else
 some ((.inr (())))
def wN(s:(List M.aa)):Option (Int):=
 match(M.rq s ((List.length s):Int) Go.V.ai (0:Int))with
 |none=>none
 |some y0=>
 (match y0 with
 |.inl a1=>
 some a1
 |.inr b1=>
 some (-(1:Int)))
def tP(s:(List M.aa)):Option (Bool):=
 let q0:=(M.wN s)
 bif((Option.isSome q0)&&true)then
 some (decide ((0:Int)<=(Option.getD q0 default)))
 else
 none
def nK(t:M.aa)(many:Int):Option (Bool):=
 let q0:=(M.tP (M.aa.Kids t))
 bif(((Option.isSome q0)||(!((((List.length (M.aa.Kids t)):Int)==many)==true)))&&true)then
 some ((((List.length (M.aa.Kids t)):Int)==many)&&(!(Option.getD q0 default)))
 else
 none
def ru(s:(List Int))(v:Int)(t7:Int):Nat->Int->Option ((Int)⊕(Unit))
 |0,_=>none
 |fuel+1,t8=>
 bif(decide (t8<t7))then
 bif(v==(List.getD s (Int.toNat t8) (0:Int)))then
 bif((Go.V.inB t8 (List.length s))&&true)then
 some (.inl t8)
 else
 none
 else
 bif((Go.V.inB t8 (List.length s))&&true)then
 M.ru s v t7 fuel (Go.IntKind.wrap Go.IntKind.i64 (t8+(1:Int)))
 else
 none
 else
 some ((.inr (())))
def wO(s:(List Int))(v:Int):Option (Int):=
 match(M.ru s v ((List.length s):Int) Go.V.ai (0:Int))with
 |none=>none
 |some y0=>
 (match y0 with
 |.inl a1=>
 some a1
 |.inr b1=>
 some (-(1:Int)))
def tQ(s:(List Int))(v:Int):Option (Bool):=
 let q0:=(M.wO s v)
 bif((Option.isSome q0)&&true)then
 some (decide ((0:Int)<=(Option.getD q0 default)))
 else
 none
def tR(bN:M.aa->(List Int)->Option (Bool))(kid:M.aa)(t1:(List Int)):Option (Bool):=
 bif((Option.isSome (bN (M.aa.re kid) t1))&&true)then
 some (Option.getD (bN (M.aa.re kid) t1) default)
 else
 none
def rx(bN:M.aa->(List Int)->Option (Bool))(s:(List M.aa))(f:(List Int))(t7:Int):Nat->Int->Option ((Int)⊕(Unit))
 |0,_=>none
 |fuel+1,t8=>
 bif(decide (t8<t7))then
 let q0:=(M.tR bN (M.aa.re (List.getD s (Int.toNat t8) M.aa.zero)) f)
 bif(Option.getD q0 default)then
 let q1:=((Option.isSome q0)&&((Go.V.inB t8 (List.length s))&&true))
 bif q1 then
 some (.inl t8)
 else
 none
 else
 let q1:=((Option.isSome q0)&&((Go.V.inB t8 (List.length s))&&true))
 bif q1 then
 M.rx bN s f t7 fuel (Go.IntKind.wrap Go.IntKind.i64 (t8+(1:Int)))
 else
 none
 else
 some ((.inr (())))
def wP(bN:M.aa->(List Int)->Option (Bool))(s:(List M.aa))(f:(List Int)):Option (Int):=
 match(M.rx bN s f ((List.length s):Int) Go.V.ai (0:Int))with
 |none=>none
 |some y0=>
 (match y0 with
 |.inl a1=>
 some a1
 |.inr b1=>
 some (-(1:Int)))
def tU(bN:M.aa->(List Int)->Option (Bool))(s:(List M.aa))(f:(List Int)):Option (Bool):=
 let q0:=(M.wP bN s f)
 bif((Option.isSome q0)&&true)then
 some (decide ((0:Int)<=(Option.getD q0 default)))
 else
 none
def wQ(bN:M.aa->(List Int)->Option (Bool))(t:M.aa)(kinds:(List Int)):Option (Bool):=
 let q0:=(M.tU bN (M.aa.Kids t) kinds)
 let q1:=(M.tQ kinds (M.aa.Kind t))
 bif(((Option.isSome q0)||(!((Option.getD q1 default)==false)))&&((Option.isSome q1)&&true))then
 some ((Option.getD q1 default)||(Option.getD q0 default))
 else
 none
def md:Nat->M.aa->(List Int)->Option (Bool)
 |0=>fun _ _=>none
 |n+1=>wQ (md n)
def pL:M.aa->(List Int)->Option (Bool):=md Go.V.ai
def tV(bM:M.aa->Option (Bool))(t:M.aa):Option (Bool):=
 let q0:=(M.rm bM (M.aa.Kids t))
 bif(Option.getD q0 default)then
 bif((Option.isSome q0)&&true)then
 some false
 else
 none
 else
 let q1:=((decide ((16:Int)<=(M.aa.Kind t)))&&(decide ((M.aa.Kind t)<=(19:Int))))
 let q2:=(M.tO (M.aa.bm t))
 let q3:=((q1&&(!(Option.getD q2 default)))||((!q1)&&(decide ((0:Int)<((List.length (M.aa.bm t)):Int)))))
 let q4:=(((M.aa.Kind t)==(20:Int))||((M.aa.Kind t)==(21:Int)))
 let q5:=(M.pJ (M.aa.Name t))
 bif((q3||(q4&&(!(Option.getD q5 default))))||((!q4)&&(!((M.aa.Name t)==[]))))then
 let q6:=(((Option.isSome q5)||(!((q3==false)&&(q4==true))))&&(((Option.isSome q2)||(!(q1==true)))&&((Option.isSome q0)&&true)))
 bif q6 then
 some false
 else
 none
 else
 bif(bif((M.aa.Kind t)==(12:Int))then((M.aa.Kind t)==(12:Int))else((M.aa.Kind t)==(13:Int)))then
 let q6:=(M.nK (M.aa.re t) (1:Int))
 let q7:=(((Option.isSome q5)||(!((q3==false)&&(q4==true))))&&(((Option.isSome q2)||(!(q1==true)))&&((Option.isSome q0)&&true)))
 let q8:=((q7||(!((M.aa.Kind t)==(12:Int))))&&(q7||((M.aa.Kind t)==(12:Int))))
 bif((Option.isSome q6)&&q8)then
 some (Option.getD q6 default)
 else
 none
 else
 bif((M.aa.Kind t)==(14:Int))then
 let q6:=(((Option.isSome q5)||(!((q3==false)&&(q4==true))))&&(((Option.isSome q2)||(!(q1==true)))&&((Option.isSome q0)&&true)))
 let q7:=((q6||(!((M.aa.Kind t)==(12:Int))))&&(q6||((M.aa.Kind t)==(12:Int))))
 bif q7 then
 some (((List.length (M.aa.Kids t)):Int)==(2:Int))
 else
 none
 else
 bif((M.aa.Kind t)==(15:Int))then
 let q6:=(M.nK (M.aa.re t) ((List.length (M.aa.Kids t)):Int))
 let q7:=((decide ((1:Int)<=((List.length (M.aa.Kids t)):Int)))&&(decide (((List.length (M.aa.Kids t)):Int)<=(6:Int))))
 let q8:=(((Option.isSome q5)||(!((q3==false)&&(q4==true))))&&(((Option.isSome q2)||(!(q1==true)))&&((Option.isSome q0)&&true)))
 let q9:=((q8||(!((M.aa.Kind t)==(12:Int))))&&(q8||((M.aa.Kind t)==(12:Int))))
 bif(((Option.isSome q6)||(!(q7==true)))&&q9)then
 some (q7&&(Option.getD q6 default))
 else
 none
 else
 bif((M.aa.Kind t)==(16:Int))then
 let q6:=(M.nK (M.aa.re t) ((List.length (M.aa.bm t)):Int))
 let q7:=(((Option.isSome q5)||(!((q3==false)&&(q4==true))))&&(((Option.isSome q2)||(!(q1==true)))&&((Option.isSome q0)&&true)))
 let q8:=((q7||(!((M.aa.Kind t)==(12:Int))))&&(q7||((M.aa.Kind t)==(12:Int))))
 bif((Option.isSome q6)&&q8)then
 some (Option.getD q6 default)
 else
 none
 else
 bif((M.aa.Kind t)==(17:Int))then
 let q6:=(((Option.isSome q5)||(!((q3==false)&&(q4==true))))&&(((Option.isSome q2)||(!(q1==true)))&&((Option.isSome q0)&&true)))
 let q7:=((q6||(!((M.aa.Kind t)==(12:Int))))&&(q6||((M.aa.Kind t)==(12:Int))))
 bif q7 then
 some (((List.length (M.aa.Kids t)):Int)==((List.length (M.aa.bm t)):Int))
 else
 none
 else
 bif(bif((M.aa.Kind t)==(22:Int))then((M.aa.Kind t)==(22:Int))else((M.aa.Kind t)==(23:Int)))then
 let q6:=(M.pL (M.aa.re (List.getD (M.aa.Kids t) (Int.toNat (0:Int)) M.aa.zero)) [(21:Int)])
 let q7:=(!((((List.length (M.aa.Kids t)):Int)==(1:Int))==true))
 let q8:=(((Option.isSome q5)||(!((q3==false)&&(q4==true))))&&(((Option.isSome q2)||(!(q1==true)))&&((Option.isSome q0)&&true)))
 let q9:=((q8||(!((M.aa.Kind t)==(12:Int))))&&(q8||((M.aa.Kind t)==(12:Int))))
 let q10:=((q9||(!((M.aa.Kind t)==(22:Int))))&&(q9||((M.aa.Kind t)==(22:Int))))
 bif(((Option.isSome q6)||q7)&&(((Go.V.inB (0:Int) (List.length (M.aa.Kids t)))||q7)&&q10))then
 some ((((List.length (M.aa.Kids t)):Int)==(1:Int))&&(!(Option.getD q6 default)))
 else
 none
 else
 let q6:=(((Option.isSome q5)||(!((q3==false)&&(q4==true))))&&(((Option.isSome q2)||(!(q1==true)))&&((Option.isSome q0)&&true)))
 let q7:=((q6||(!((M.aa.Kind t)==(12:Int))))&&(q6||((M.aa.Kind t)==(12:Int))))
 let q8:=((q7||(!((M.aa.Kind t)==(22:Int))))&&(q7||((M.aa.Kind t)==(22:Int))))
 bif q8 then
 some (((decide ((1:Int)<=(M.aa.Kind t)))&&(decide ((M.aa.Kind t)<=(23:Int))))&&(((List.length (M.aa.Kids t)):Int)==(0:Int)))
 else
 none
def nL:Nat->M.aa->Option (Bool)
 |0=>fun _=>none
 |n+1=>tV (nL n)
def zw:M.aa->Option (Bool):=nL Go.V.ai
def tW(t:M.aa):Option (Bool):=
 let q0:=(M.zf (M.aa.re t))
 let q1:=(M.y9 (M.aa.re t) (1:Int))
 let q2:=((decide ((Option.getD q1 default).1<=(4:Int)))&&(decide ((Option.getD q1 default).2<=(24:Int))))
 bif(((Option.isSome q0)||(!(q2==true)))&&((Option.isSome q1)&&true))then
 some (q2&&(Option.getD q0 default))
 else
 none
def tX(t:M.aa):Option (Bool):=
 let q0:=(M.tW (M.aa.re t))
 bif((Option.isSome q0)&&true)then
 some (Option.getD q0 default)
 else
 none
def ry(bp:M.ae->M.aa->Option (Bool))(kids:(List M.ae))(t:M.aa):Option (Bool):=
 bif((M.aa.Kind t)==(1:Int))then
 some (((List.length kids):Int)==(0:Int))
 else
 let q0:=(!((((List.length kids):Int)==(1:Int))==true))
 bif(((Option.isSome (bp (M.ae.re (List.getD kids (Int.toNat (0:Int)) M.ae.zero)) (M.aa.re t)))||q0)&&(((Go.V.inB (0:Int) (List.length kids))||q0)&&true))then
 some ((((List.length kids):Int)==(1:Int))&&(Option.getD (bp (M.ae.re (List.getD kids (Int.toNat (0:Int)) M.ae.zero)) (M.aa.re t)) default))
 else
 none
def me(bp:M.ae->M.aa->Option (Bool))(kids:(List M.ae)):Nat->Int->M.aa->Option ((Bool)⊕(Unit))
 |0,_,_=>none
 |fuel+1,i,t=>
 bif(decide (i<((List.length kids):Int)))then
 bif(!(Option.getD (bp (M.ae.re (List.getD kids (Int.toNat i) M.ae.zero)) (M.aa.re t)) default))then
 let q0:=((Option.isSome (bp (M.ae.re (List.getD kids (Int.toNat i) M.ae.zero)) (M.aa.re t)))&&((Go.V.inB i (List.length kids))&&true))
 bif q0 then
 some (.inl false)
 else
 none
 else
 let q0:=((Option.isSome (bp (M.ae.re (List.getD kids (Int.toNat i) M.ae.zero)) (M.aa.re t)))&&((Go.V.inB i (List.length kids))&&true))
 bif q0 then
 M.me bp kids fuel (Go.IntKind.wrap Go.IntKind.i64 (i+(1:Int))) (M.aa.re t)
 else
 none
 else
 some ((.inr (())))
def rz(bp:M.ae->M.aa->Option (Bool))(kids:(List M.ae))(most:Int)(t:M.aa):Option (Bool):=
 bif(decide (most<((List.length kids):Int)))then
 some false
 else
 match(M.me bp kids Go.V.ai (0:Int) (M.aa.re t))with
 |none=>none
 |some y0=>
 (match y0 with
 |.inl a1=>
 some a1
 |.inr b1=>
 some true)
def iN(n:Int):Option (Bool):=
 some (((decide ((0:Int)<=n))&&(decide (n<=(55295:Int))))||((decide ((57344:Int)<=n))&&(decide (n<=(1114111:Int)))))
def pM(s:(List UInt8))(many:Int):Nat->Int->Int->Option ((List UInt8)×Int×Int)
 |0,_,_=>none
 |fuel+1,n,i=>
 bif(decide (i<many))then
 bif((Go.V.inB i (List.length s))&&true)then
 M.pM s many fuel (Go.V.dR Go.BinOp.or Go.IntKind.i64 (Go.V.oo Go.IntKind.i64 n (6:Int)) (Go.IntKind.wrap Go.IntKind.i64 (Go.V.dR Go.BinOp.and Go.IntKind.u8 ((UInt8.toNat (List.getD s (Int.toNat i) (0:UInt8))):Int) (63:Int)))) (Go.IntKind.wrap Go.IntKind.i64 (i+(1:Int)))
 else
 none
 else
 some ((s,many,n))
def nM(n:Int):Option ((List UInt8)):=
 bif(decide (n<(128:Int)))then
 bif(((Go.V.eS (Go.IntKind.wrap Go.IntKind.u8 n))&&true)&&true)then
 some (List.map (fun a=>a) [(Go.V.dO (Go.IntKind.wrap Go.IntKind.u8 n))])
 else
 none
 else
 bif(decide (n<(2048:Int)))then
 let q0:=(Go.IntKind.wrap Go.IntKind.u8 (Go.IntKind.wrap Go.IntKind.i64 ((192:Int)+(Go.V.ft Go.IntKind.i64 n (6:Int)))))
 let q1:=(Go.IntKind.wrap Go.IntKind.u8 (Go.IntKind.wrap Go.IntKind.i64 ((128:Int)+(Go.V.dR Go.BinOp.and Go.IntKind.i64 n (63:Int)))))
 let q2:=((Go.V.eS q1)&&true)
 bif(((Go.V.eS q0)&&q2)&&true)then
 let q3:=[(Go.V.dO q1)]
 some (List.map (fun a=>a) [(Go.V.dO q0),(Go.V.dO q1)])
 else
 none
 else
 bif(decide (n<(65536:Int)))then
 let q0:=(Go.IntKind.wrap Go.IntKind.u8 (Go.IntKind.wrap Go.IntKind.i64 ((224:Int)+(Go.V.ft Go.IntKind.i64 n (12:Int)))))
 let q1:=(Go.IntKind.wrap Go.IntKind.u8 (Go.IntKind.wrap Go.IntKind.i64 ((128:Int)+(Go.V.dR Go.BinOp.and Go.IntKind.i64 (Go.V.ft Go.IntKind.i64 n (6:Int)) (63:Int)))))
 let q2:=(Go.IntKind.wrap Go.IntKind.u8 (Go.IntKind.wrap Go.IntKind.i64 ((128:Int)+(Go.V.dR Go.BinOp.and Go.IntKind.i64 n (63:Int)))))
 let q3:=((Go.V.eS q2)&&true)
 let q4:=((Go.V.eS q1)&&q3)
 bif(((Go.V.eS q0)&&q4)&&true)then
 let q5:=[(Go.V.dO q2)]
 let q6:=[(Go.V.dO q1),(Go.V.dO q2)]
 some (List.map (fun a=>a) [(Go.V.dO q0),(Go.V.dO q1),(Go.V.dO q2)])
 else
 none
 else
 let q0:=(Go.IntKind.wrap Go.IntKind.u8 (Go.IntKind.wrap Go.IntKind.i64 ((240:Int)+(Go.V.ft Go.IntKind.i64 n (18:Int)))))
 let q1:=(Go.IntKind.wrap Go.IntKind.u8 (Go.IntKind.wrap Go.IntKind.i64 ((128:Int)+(Go.V.dR Go.BinOp.and Go.IntKind.i64 (Go.V.ft Go.IntKind.i64 n (12:Int)) (63:Int)))))
 let q2:=(Go.IntKind.wrap Go.IntKind.u8 (Go.IntKind.wrap Go.IntKind.i64 ((128:Int)+(Go.V.dR Go.BinOp.and Go.IntKind.i64 (Go.V.ft Go.IntKind.i64 n (6:Int)) (63:Int)))))
 let q3:=(Go.IntKind.wrap Go.IntKind.u8 (Go.IntKind.wrap Go.IntKind.i64 ((128:Int)+(Go.V.dR Go.BinOp.and Go.IntKind.i64 n (63:Int)))))
 let q4:=((Go.V.eS q3)&&true)
 let q5:=((Go.V.eS q2)&&q4)
 bif(((Go.V.eS q0)&&((Go.V.eS q1)&&q5))&&true)then
 let q6:=[(Go.V.dO q3)]
 let q7:=[(Go.V.dO q2),(Go.V.dO q3)]
 some (List.map (fun a=>a) [(Go.V.dO q0),(Go.V.dO q1),(Go.V.dO q2),(Go.V.dO q3)])
 else
 none
def tY(s:(List UInt8)):Option (Int×Int):=
 bif(s==[])then
 some ((0:Int),(0:Int))
 else
 let q0:=(bif(decide ((240:Int)<=((UInt8.toNat (List.getD s (Int.toNat (0:Int)) (0:UInt8))):Int)))then(4:Int)else(bif(decide ((224:Int)<=((UInt8.toNat (List.getD s (Int.toNat (0:Int)) (0:UInt8))):Int)))then(3:Int)else(bif(decide ((192:Int)<=((UInt8.toNat (List.getD s (Int.toNat (0:Int)) (0:UInt8))):Int)))then(2:Int)else(1:Int))))
 bif(decide (((List.length s):Int)<q0))then
 let q1:=((Go.V.inB (0:Int) (List.length s))&&((Go.V.inB (0:Int) (List.length s))&&((Go.V.inB (0:Int) (List.length s))&&true)))
 let q2:=((Go.V.inB (0:Int) (List.length s))&&q1)
 let q3:=((q1||(!(decide ((240:Int)<=((UInt8.toNat (List.getD s (Int.toNat (0:Int)) (0:UInt8))):Int)))))&&(((q2||(!(decide ((224:Int)<=((UInt8.toNat (List.getD s (Int.toNat (0:Int)) (0:UInt8))):Int)))))&&(((((Go.V.inB (0:Int) (List.length s))&&q2)||(!(decide ((192:Int)<=((UInt8.toNat (List.getD s (Int.toNat (0:Int)) (0:UInt8))):Int)))))&&(q2||(decide ((192:Int)<=((UInt8.toNat (List.getD s (Int.toNat (0:Int)) (0:UInt8))):Int)))))||(decide ((224:Int)<=((UInt8.toNat (List.getD s (Int.toNat (0:Int)) (0:UInt8))):Int)))))||(decide ((240:Int)<=((UInt8.toNat (List.getD s (Int.toNat (0:Int)) (0:UInt8))):Int)))))
 bif q3 then
 some ((0:Int),(0:Int))
 else
 none
 else
 let q1:=(Go.IntKind.wrap Go.IntKind.i64 ((UInt8.toNat (List.getD s (Int.toNat (0:Int)) (0:UInt8))):Int))
 match(M.pM s q0 Go.V.ai (bif(decide ((240:Int)<=((UInt8.toNat (List.getD s (Int.toNat (0:Int)) (0:UInt8))):Int)))then(Go.IntKind.wrap Go.IntKind.i64 (q1-(240:Int)))else(bif(decide ((224:Int)<=((UInt8.toNat (List.getD s (Int.toNat (0:Int)) (0:UInt8))):Int)))then(Go.IntKind.wrap Go.IntKind.i64 (q1-(224:Int)))else(bif(decide ((192:Int)<=((UInt8.toNat (List.getD s (Int.toNat (0:Int)) (0:UInt8))):Int)))then(Go.IntKind.wrap Go.IntKind.i64 (q1-(192:Int)))else q1))) (1:Int))with
 |none=>none
 |some y2=>
 let q3:=(M.iN y2.2.2)
 let q4:=(!(Option.getD q3 default))
 let q5:=(M.nM y2.2.2)
 bif(q4||(!((Option.getD q5 default)==(List.drop (Int.toNat (0:Int)) (List.take (Int.toNat y2.2.1) y2.1)))))then
 let q6:=(!(q4==false))
 let q7:=((Go.V.inB (0:Int) (List.length s))&&((Go.V.inB (0:Int) (List.length s))&&((Go.V.inB (0:Int) (List.length s))&&true)))
 let q8:=((Go.V.inB (0:Int) (List.length s))&&q7)
 let q9:=((q7||(!(decide ((240:Int)<=((UInt8.toNat (List.getD s (Int.toNat (0:Int)) (0:UInt8))):Int)))))&&(((q8||(!(decide ((224:Int)<=((UInt8.toNat (List.getD s (Int.toNat (0:Int)) (0:UInt8))):Int)))))&&(((((Go.V.inB (0:Int) (List.length s))&&q8)||(!(decide ((192:Int)<=((UInt8.toNat (List.getD s (Int.toNat (0:Int)) (0:UInt8))):Int)))))&&(q8||(decide ((192:Int)<=((UInt8.toNat (List.getD s (Int.toNat (0:Int)) (0:UInt8))):Int)))))||(decide ((224:Int)<=((UInt8.toNat (List.getD s (Int.toNat (0:Int)) (0:UInt8))):Int)))))||(decide ((240:Int)<=((UInt8.toNat (List.getD s (Int.toNat (0:Int)) (0:UInt8))):Int)))))
 let q10:=(((Go.V.bF (0:Int) y2.2.1 (List.length y2.1))||q6)&&(((Option.isSome q5)||q6)&&((Option.isSome q3)&&q9)))
 bif q10 then
 some ((0:Int),(0:Int))
 else
 none
 else
 let q6:=(!(q4==false))
 let q7:=((Go.V.inB (0:Int) (List.length s))&&((Go.V.inB (0:Int) (List.length s))&&((Go.V.inB (0:Int) (List.length s))&&true)))
 let q8:=((Go.V.inB (0:Int) (List.length s))&&q7)
 let q9:=((q7||(!(decide ((240:Int)<=((UInt8.toNat (List.getD s (Int.toNat (0:Int)) (0:UInt8))):Int)))))&&(((q8||(!(decide ((224:Int)<=((UInt8.toNat (List.getD s (Int.toNat (0:Int)) (0:UInt8))):Int)))))&&(((((Go.V.inB (0:Int) (List.length s))&&q8)||(!(decide ((192:Int)<=((UInt8.toNat (List.getD s (Int.toNat (0:Int)) (0:UInt8))):Int)))))&&(q8||(decide ((192:Int)<=((UInt8.toNat (List.getD s (Int.toNat (0:Int)) (0:UInt8))):Int)))))||(decide ((224:Int)<=((UInt8.toNat (List.getD s (Int.toNat (0:Int)) (0:UInt8))):Int)))))||(decide ((240:Int)<=((UInt8.toNat (List.getD s (Int.toNat (0:Int)) (0:UInt8))):Int)))))
 let q10:=(((Go.V.bF (0:Int) y2.2.1 (List.length y2.1))||q6)&&(((Option.isSome q5)||q6)&&((Option.isSome q3)&&q9)))
 bif q10 then
 some (y2.2.2,y2.2.1)
 else
 none
def nN:Nat->(List UInt8)->(List Int)->Option ((Bool×(List Int))⊕((List Int)))
 |0,_,_=>none
 |fuel+1,s,out=>
 bif(decide ((0:Int)<((List.length s):Int)))then
 let q0:=(M.tY s)
 bif((Option.getD q0 default).2==(0:Int))then
 bif((Option.isSome q0)&&true)then
 some (.inl (false,[]))
 else
 none
 else
 let q1:=[(Option.getD q0 default).1]
 bif((Go.V.bF (Option.getD q0 default).2 ((List.length s):Int) (List.length s))&&((decide (((List.length out)+(List.length q1))<=1073741824))&&((Option.isSome q0)&&true)))then
 M.nN fuel (List.drop (Int.toNat (Option.getD q0 default).2) (List.take (Int.toNat ((List.length s):Int)) s)) (out++q1)
 else
 none
 else
 some ((.inr (out)))
def mf(s:(List UInt8)):Option ((List Int)×Bool):=
 match(M.nN Go.V.ai s [])with
 |none=>none
 |some y0=>
 (match y0 with
 |.inl a1=>
 some (a1.2,a1.1)
 |.inr b1=>
 some (b1,true))
def tZ(s:(List UInt8)):Option (Bool):=
 bif(decide ((24:Int)<((List.length s):Int)))then
 some false
 else
 let q0:=(M.mf s)
 bif((Option.isSome q0)&&true)then
 some (Option.getD q0 default).2
 else
 none
def mg(bp:M.ae->M.aa->Option (Bool))(kids:(List M.ae))(ts:(List M.aa)):Nat->Int->Option ((Bool)⊕(Unit))
 |0,_=>none
 |fuel+1,i=>
 bif(decide (i<((List.length kids):Int)))then
 bif(!(Option.getD (bp (M.ae.re (List.getD kids (Int.toNat i) M.ae.zero)) (M.aa.re (List.getD ts (Int.toNat i) M.aa.zero))) default))then
 let q0:=((Option.isSome (bp (M.ae.re (List.getD kids (Int.toNat i) M.ae.zero)) (M.aa.re (List.getD ts (Int.toNat i) M.aa.zero))))&&((Go.V.inB i (List.length ts))&&((Go.V.inB i (List.length kids))&&true)))
 bif q0 then
 some (.inl false)
 else
 none
 else
 let q0:=((Option.isSome (bp (M.ae.re (List.getD kids (Int.toNat i) M.ae.zero)) (M.aa.re (List.getD ts (Int.toNat i) M.aa.zero))))&&((Go.V.inB i (List.length ts))&&((Go.V.inB i (List.length kids))&&true)))
 bif q0 then
 M.mg bp kids ts fuel (Go.IntKind.wrap Go.IntKind.i64 (i+(1:Int)))
 else
 none
 else
 some ((.inr (())))
def ua(bp:M.ae->M.aa->Option (Bool))(kids:(List M.ae))(ts:(List M.aa)):Option (Bool):=
 bif(((List.length kids):Int) !=((List.length ts):Int))then
 some false
 else
 match(M.mg bp kids ts Go.V.ai (0:Int))with
 |none=>none
 |some y0=>
 (match y0 with
 |.inl a1=>
 some a1
 |.inr b1=>
 some true)
def wR(kind:Int):Option (Int×Int×Bool):=
 bif(kind==(3:Int))then
 some ((0:Int),(255:Int),true)
 else
 bif(kind==(4:Int))then
 some ((-(128:Int)),(127:Int),true)
 else
 bif(kind==(5:Int))then
 some ((0:Int),(65535:Int),true)
 else
 bif(kind==(6:Int))then
 some ((-(32768:Int)),(32767:Int),true)
 else
 bif(kind==(7:Int))then
 some ((0:Int),(4294967295:Int),true)
 else
 bif(kind==(8:Int))then
 some ((-(2147483648:Int)),(2147483647:Int),true)
 else
 bif(kind==(9:Int))then
 some ((-(9223372036854775808:Int)),(9223372036854775807:Int),true)
 else
 some ((0:Int),(0:Int),false)
def nO(bp:M.ae->M.aa->Option (Bool))(v:M.ae)(t:M.aa):Option (Bool):=
 bif(((M.ae.Kind v) !=(M.aa.Kind t))||(((M.aa.Kind t) !=(11:Int))&&(!((M.ae.Text v)==[]))))then
 some false
 else
 bif(bif((M.aa.Kind t)==(2:Int))then((M.aa.Kind t)==(2:Int))else((M.aa.Kind t)==(14:Int)))then
 bif(!((decide ((0:Int)<=(M.ae.Num v)))&&(decide ((M.ae.Num v)<=(1:Int)))))then
 some false
 else
 let q0:=(((M.aa.Kind t)==(14:Int))||((M.aa.Kind t)==(17:Int)))
 bif q0 then
 let q1:=(M.ry bp (M.ae.Kids v) (M.aa.re (List.getD (M.aa.Kids t) (Int.toNat (M.ae.Num v)) M.aa.zero)))
 let q2:=(Option.isSome q1)
 bif(q2&&((Go.V.inB (M.ae.Num v) (List.length (M.aa.Kids t)))&&true))then
 let q3:=(Option.getD q1 default)
 some q3
 else
 none
 else
 some (((List.length (M.ae.Kids v)):Int)==(0:Int))
 else
 bif((M.aa.Kind t)==(13:Int))then
 let q0:=(M.rz bp (M.ae.Kids v) (1:Int) (M.aa.re (List.getD (M.aa.Kids t) (Int.toNat (0:Int)) M.aa.zero)))
 let q1:=(!(((M.ae.Num v)==((List.length (M.ae.Kids v)):Int))==true))
 bif(((Option.isSome q0)||q1)&&(((Go.V.inB (0:Int) (List.length (M.aa.Kids t)))||q1)&&true))then
 some (((M.ae.Num v)==((List.length (M.ae.Kids v)):Int))&&(Option.getD q0 default))
 else
 none
 else
 bif((M.aa.Kind t)==(10:Int))then
 some ((Option.getD (M.iN (M.ae.Num v)) default)&&(((List.length (M.ae.Kids v)):Int)==(0:Int)))
 else
 bif((M.aa.Kind t)==(11:Int))then
 let q0:=(M.tZ (M.ae.Text v))
 bif((Option.isSome q0)&&true)then
 some (((Option.getD q0 default)&&((M.ae.Num v)==(0:Int)))&&(((List.length (M.ae.Kids v)):Int)==(0:Int)))
 else
 none
 else
 bif((M.aa.Kind t)==(12:Int))then
 let q0:=(M.rz bp (M.ae.Kids v) (8:Int) (M.aa.re (List.getD (M.aa.Kids t) (Int.toNat (0:Int)) M.aa.zero)))
 let q1:=(!(((M.ae.Num v)==(0:Int))==true))
 bif(((Option.isSome q0)||q1)&&(((Go.V.inB (0:Int) (List.length (M.aa.Kids t)))||q1)&&true))then
 some (((M.ae.Num v)==(0:Int))&&(Option.getD q0 default))
 else
 none
 else
 bif(bif((M.aa.Kind t)==(15:Int))then((M.aa.Kind t)==(15:Int))else((M.aa.Kind t)==(16:Int)))then
 let q0:=(M.ua bp (M.ae.Kids v) (M.aa.Kids t))
 let q1:=(!(((M.ae.Num v)==(0:Int))==true))
 bif(((Option.isSome q0)||q1)&&true)then
 some (((M.ae.Num v)==(0:Int))&&(Option.getD q0 default))
 else
 none
 else
 let q0:=(bif((M.aa.Kind t)==(17:Int))then((M.aa.Kind t)==(17:Int))else((M.aa.Kind t)==(18:Int)))
 let q1:=(bif((M.aa.Kind t)==(20:Int))then((M.aa.Kind t)==(20:Int))else(bif((M.aa.Kind t)==(21:Int))then((M.aa.Kind t)==(21:Int))else(bif((M.aa.Kind t)==(22:Int))then((M.aa.Kind t)==(22:Int))else((M.aa.Kind t)==(23:Int)))))
 let q2:=(M.wR (M.aa.Kind t))
 bif(!((decide ((bif q0 then(0:Int)else(bif((M.aa.Kind t)==(19:Int))then(0:Int)else(bif q1 then(0:Int)else(Option.getD q2 default).1)))<=(M.ae.Num v)))&&(decide ((M.ae.Num v)<=(bif q0 then(Go.IntKind.wrap Go.IntKind.i64 (((List.length (M.aa.bm t)):Int)-(1:Int)))else(bif((M.aa.Kind t)==(19:Int))then(Go.IntKind.wrap Go.IntKind.i64 ((Go.V.oo Go.IntKind.i64 (1:Int) (Go.IntKind.wrap Go.IntKind.u64 ((List.length (M.aa.bm t)):Int)))-(1:Int)))else(bif q1 then(2147483647:Int)else(Option.getD q2 default).2.1)))))))then
 let q3:=(((((Option.isSome q2)&&true)||q1)||((M.aa.Kind t)==(19:Int)))||q0)
 bif q3 then
 some false
 else
 none
 else
 let q3:=(((M.aa.Kind t)==(14:Int))||((M.aa.Kind t)==(17:Int)))
 bif q3 then
 let q4:=(M.ry bp (M.ae.Kids v) (M.aa.re (List.getD (M.aa.Kids t) (Int.toNat (M.ae.Num v)) M.aa.zero)))
 let q5:=(Option.isSome q4)
 let q6:=(((((Option.isSome q2)&&true)||q1)||((M.aa.Kind t)==(19:Int)))||q0)
 bif(q5&&((Go.V.inB (M.ae.Num v) (List.length (M.aa.Kids t)))&&q6))then
 let q7:=(Option.getD q4 default)
 some q7
 else
 none
 else
 let q4:=(((((Option.isSome q2)&&true)||q1)||((M.aa.Kind t)==(19:Int)))||q0)
 bif q4 then
 some (((List.length (M.ae.Kids v)):Int)==(0:Int))
 else
 none
def rA:Nat->M.ae->M.aa->Option (Bool)
 |0=>fun _ _=>none
 |n+1=>nO (rA n)
def wS:M.ae->M.aa->Option (Bool):=rA Go.V.ai
def pN(v:M.ae)(t:M.aa):Option (Bool):=
 let q0:=(M.wS (M.ae.re v) (M.aa.re t))
 let q1:=(M.tX (M.aa.re t))
 bif(((Option.isSome q0)||(!((Option.getD q1 default)==true)))&&((Option.isSome q1)&&true))then
 some ((Option.getD q1 default)&&(Option.getD q0 default))
 else
 none
def ub(t:M.aa):Option (Bool):=
 let q0:=(M.zw (M.aa.re t))
 let q1:=(M.zh (M.aa.re t) (4:Int))
 let q2:=(M.zj (M.aa.re t))
 let q3:=((decide ((Option.getD q1 default)<=(4:Int)))&&(decide ((Option.getD q2 default)<=(24:Int))))
 bif(((Option.isSome q0)||(!(q3==true)))&&(((Option.isSome q2)||(!((decide ((Option.getD q1 default)<=(4:Int)))==true)))&&((Option.isSome q1)&&true)))then
 some (q3&&(Option.getD q0 default))
 else
 none
def DO(list:(List M.ae)):Option (Int):=
 some ((List.length list):Int)
def uc(kind:Int):Option (Int×Int×Bool):=
 bif(kind==(3:Int))then
 some ((0:Int),(255:Int),true)
 else
 bif(kind==(4:Int))then
 some ((-(128:Int)),(127:Int),true)
 else
 bif(kind==(5:Int))then
 some ((0:Int),(65535:Int),true)
 else
 bif(kind==(6:Int))then
 some ((-(32768:Int)),(32767:Int),true)
 else
 bif(kind==(7:Int))then
 some ((0:Int),(4294967295:Int),true)
 else
 bif(kind==(8:Int))then
 some ((-(2147483648:Int)),(2147483647:Int),true)
 else
 bif(kind==(9:Int))then
 some ((-(9223372036854775808:Int)),(9223372036854775807:Int),true)
 else
 some ((0:Int),(0:Int),false)
def zD(n:Int):Option (Bool):=
 some (((decide ((0:Int)<=n))&&(decide (n<=(55295:Int))))||((decide ((57344:Int)<=n))&&(decide (n<=(1114111:Int)))))
def ud(v:M.ae)(t:M.aa):Option (Bool):=
 bif(bif((M.aa.Kind t)==(2:Int))then((M.aa.Kind t)==(2:Int))else(bif((M.aa.Kind t)==(13:Int))then((M.aa.Kind t)==(13:Int))else((M.aa.Kind t)==(14:Int))))then
 some ((decide ((0:Int)<=(M.ae.Num v)))&&(decide ((M.ae.Num v)<=(1:Int))))
 else
 bif(bif((M.aa.Kind t)==(3:Int))then((M.aa.Kind t)==(3:Int))else(bif((M.aa.Kind t)==(4:Int))then((M.aa.Kind t)==(4:Int))else(bif((M.aa.Kind t)==(5:Int))then((M.aa.Kind t)==(5:Int))else(bif((M.aa.Kind t)==(6:Int))then((M.aa.Kind t)==(6:Int))else(bif((M.aa.Kind t)==(7:Int))then((M.aa.Kind t)==(7:Int))else(bif((M.aa.Kind t)==(8:Int))then((M.aa.Kind t)==(8:Int))else((M.aa.Kind t)==(9:Int))))))))then
 let q0:=(M.uc (M.aa.Kind t))
 bif((Option.isSome q0)&&true)then
 some ((decide ((Option.getD q0 default).1<=(M.ae.Num v)))&&(decide ((M.ae.Num v)<=(Option.getD q0 default).2.1)))
 else
 none
 else
 bif((M.aa.Kind t)==(10:Int))then
 some (Option.getD (M.zD (M.ae.Num v)) default)
 else
 some ((decide ((0:Int)<=(M.ae.Num v)))&&(decide ((M.ae.Num v)<=(bif(bif((M.aa.Kind t)==(17:Int))then((M.aa.Kind t)==(17:Int))else((M.aa.Kind t)==(18:Int)))then(Go.IntKind.wrap Go.IntKind.i64 (((List.length (M.aa.bm t)):Int)-(1:Int)))else(bif((M.aa.Kind t)==(19:Int))then(Go.IntKind.wrap Go.IntKind.i64 ((Go.V.oo Go.IntKind.i64 (1:Int) ((List.length (M.aa.bm t)):Int))-(1:Int)))else(bif(bif((M.aa.Kind t)==(20:Int))then((M.aa.Kind t)==(20:Int))else(bif((M.aa.Kind t)==(21:Int))then((M.aa.Kind t)==(21:Int))else(bif((M.aa.Kind t)==(22:Int))then((M.aa.Kind t)==(22:Int))else((M.aa.Kind t)==(23:Int)))))then(2147483647:Int)else(0:Int)))))))
def ue(s:(List UInt8)):Option (Bool):=
 let q0:=(M.pO s)
 bif(((Option.isSome q0)||(!((decide (((List.length s):Int)<=(24:Int)))==true)))&&true)then
 some ((decide (((List.length s):Int)<=(24:Int)))&&(Option.getD q0 default))
 else
 none
def k9(t:M.aa)(num:Int):Option (M.aa×Bool):=
 bif((M.aa.Kind t)==(13:Int))then
 bif(num==(0:Int))then
 some ((M.aa.mk (1:Int) [] [] []),true)
 else
 bif(!((decide ((0:Int)<=(Go.IntKind.wrap Go.IntKind.i64 (num-(1:Int)))))&&(decide ((Go.IntKind.wrap Go.IntKind.i64 (num-(1:Int)))<=(Go.IntKind.wrap Go.IntKind.i64 (((List.length (M.aa.Kids t)):Int)-(1:Int)))))))then
 some ((M.aa.mk (0:Int) [] [] []),false)
 else
 bif((Go.V.inB (Go.IntKind.wrap Go.IntKind.i64 (num-(1:Int))) (List.length (M.aa.Kids t)))&&true)then
 some ((M.aa.re (List.getD (M.aa.Kids t) (Int.toNat (Go.IntKind.wrap Go.IntKind.i64 (num-(1:Int)))) M.aa.zero)),true)
 else
 none
 else
 bif(!((decide ((0:Int)<=num))&&(decide (num<=(Go.IntKind.wrap Go.IntKind.i64 (((List.length (M.aa.Kids t)):Int)-(1:Int)))))))then
 some ((M.aa.mk (0:Int) [] [] []),false)
 else
 bif((Go.V.inB num (List.length (M.aa.Kids t)))&&true)then
 some ((M.aa.re (List.getD (M.aa.Kids t) (Int.toNat num) M.aa.zero)),true)
 else
 none
def uf(v:M.ae)(t:M.aa):Option ((List M.aa)×Bool):=
 bif((M.aa.Kind t)==(12:Int))then
 let q0:=(M.pP (M.aa.Kids t) (bif(decide ((8:Int)<((List.length (M.ae.Kids v)):Int)))then(8:Int)else((List.length (M.ae.Kids v)):Int)))
 bif((Option.isSome q0)&&true)then
 some ((Option.getD q0 default),true)
 else
 none
 else
 bif(bif((M.aa.Kind t)==(15:Int))then((M.aa.Kind t)==(15:Int))else((M.aa.Kind t)==(16:Int)))then
 some ((M.aa.Kids t),true)
 else
 bif(bif((M.aa.Kind t)==(13:Int))then((M.aa.Kind t)==(13:Int))else(bif((M.aa.Kind t)==(14:Int))then((M.aa.Kind t)==(14:Int))else((M.aa.Kind t)==(17:Int))))then
 let q0:=(M.k9 (M.aa.re t) (M.ae.Num v))
 bif((M.aa.Kind (Option.getD q0 default).1)==(1:Int))then
 bif((Option.isSome q0)&&true)then
 some ([],(Option.getD q0 default).2)
 else
 none
 else
 bif((Option.isSome q0)&&true)then
 some ([(M.aa.re (Option.getD q0 default).1)],(Option.getD q0 default).2)
 else
 none
 else
 some ([],true)
def mh(ed:M.ae->M.aa->Option (Bool))(kids:(List M.aa))(t53:(List M.ae))(t54:Int):Nat->Int->Option ((Bool)⊕(Unit))
 |0,_=>none
 |fuel+1,t55=>
 bif(decide (t55<t54))then
 bif(!(Option.getD (ed (M.ae.re (List.getD t53 (Int.toNat t55) M.ae.zero)) (M.aa.re (List.getD kids (Int.toNat t55) M.aa.zero))) default))then
 let q0:=((Option.isSome (ed (M.ae.re (List.getD t53 (Int.toNat t55) M.ae.zero)) (M.aa.re (List.getD kids (Int.toNat t55) M.aa.zero))))&&((Go.V.inB t55 (List.length kids))&&((Go.V.inB t55 (List.length t53))&&true)))
 bif q0 then
 some (.inl false)
 else
 none
 else
 let q0:=((Option.isSome (ed (M.ae.re (List.getD t53 (Int.toNat t55) M.ae.zero)) (M.aa.re (List.getD kids (Int.toNat t55) M.aa.zero))))&&((Go.V.inB t55 (List.length kids))&&((Go.V.inB t55 (List.length t53))&&true)))
 bif q0 then
 M.mh ed kids t53 t54 fuel (Go.IntKind.wrap Go.IntKind.i64 (t55+(1:Int)))
 else
 none
 else
 some ((.inr (())))
def wT(ed:M.ae->M.aa->Option (Bool))(v:M.ae)(t:M.aa):Option (Bool):=
 let q0:=(M.ud (M.ae.re v) (M.aa.re t))
 let q1:=((((M.ae.Kind v) !=(M.aa.Kind t))||(!(Option.getD q0 default)))||((!((M.ae.Text v)==[]))&&((M.aa.Kind t) !=(11:Int))))
 let q2:=(M.ue (M.ae.Text v))
 bif(q1||(!(Option.getD q2 default)))then
 let q3:=(((Option.isSome q2)||(!(q1==false)))&&(((Option.isSome q0)||(!(((M.ae.Kind v) !=(M.aa.Kind t))==false)))&&true))
 bif q3 then
 some false
 else
 none
 else
 let q3:=(M.uf (M.ae.re v) (M.aa.re t))
 let q4:=(Option.getD q3 default).1
 bif((!(Option.getD q3 default).2)||(((List.length q4):Int) !=((List.length (M.ae.Kids v)):Int)))then
 let q5:=(((Option.isSome q2)||(!(q1==false)))&&(((Option.isSome q0)||(!(((M.ae.Kind v) !=(M.aa.Kind t))==false)))&&true))
 let q6:=((Option.isSome q3)&&q5)
 bif q6 then
 some false
 else
 none
 else
 match(M.mh ed q4 (M.ae.Kids v) ((List.length (M.ae.Kids v)):Int) Go.V.ai (0:Int))with
 |none=>none
 |some y5=>
 (match y5 with
 |.inl a6=>
 let q7:=(((Option.isSome q2)||(!(q1==false)))&&(((Option.isSome q0)||(!(((M.ae.Kind v) !=(M.aa.Kind t))==false)))&&true))
 let q8:=((Option.isSome q3)&&q7)
 bif q8 then
 some a6
 else
 none
 |.inr b6=>
 let q7:=(((Option.isSome q2)||(!(q1==false)))&&(((Option.isSome q0)||(!(((M.ae.Kind v) !=(M.aa.Kind t))==false)))&&true))
 let q8:=((Option.isSome q3)&&q7)
 bif q8 then
 some true
 else
 none)
def mi:Nat->M.ae->M.aa->Option (Bool)
 |0=>fun _ _=>none
 |n+1=>wT (mi n)
def wU:M.ae->M.aa->Option (Bool):=mi Go.V.ai
def rB:Nat->Int->(List UInt8)->Option ((List UInt8))
 |0,_,_=>none
 |fuel+1,k,out=>
 bif(decide ((0:Int)<k))then
 let q0:=(Go.IntKind.wrap Go.IntKind.u8 (Go.IntKind.wrap Go.IntKind.i64 ((48:Int)+(Int.tmod k (10:Int)))))
 let q1:=(List.map (fun a=>a) [(Go.V.dO q0)])
 bif(((10:Int) !=(0:Int))&&((Go.V.dS q1 out)&&(((Go.V.eS q0)&&true)&&(((10:Int) !=(0:Int))&&true))))then
 M.rB fuel (Go.IntKind.wrap Go.IntKind.i64 (Int.tdiv k (10:Int))) (q1++out)
 else
 none
 else
 some (out)
def ky(k:Int):Option ((List UInt8)):=
 bif(decide (k<=(0:Int)))then
 some [(109:UInt8),(48:UInt8)]
 else
 match(M.rB Go.V.ai k [])with
 |none=>none
 |some y0=>
 bif((Go.V.dS [(109:UInt8)] y0)&&true)then
 some ([(109:UInt8)]++y0)
 else
 none
def rC:Nat->Int->Int->(List (List UInt8))->Option (Int×(List (List UInt8)))
 |0,_,_,_=>none
 |fuel+1,k,i,a=>
 bif(decide (i<((List.length a):Int)))then
 let q0:=(M.ky k)
 bif((Go.V.inB i (List.length a))&&(((Option.isSome q0)&&true)&&true))then
 M.rC fuel (Go.IntKind.wrap Go.IntKind.i64 (k+(1:Int))) (Go.IntKind.wrap Go.IntKind.i64 (i+(1:Int))) (List.set a (Int.toNat i) (Option.getD q0 default))
 else
 none
 else
 some ((k,a))
def pQ(k:Int)(a:(List (List UInt8))):Option (Int×(List (List UInt8))):=
 match(M.rC Go.V.ai k (0:Int) a)with
 |none=>none
 |some y0=>
 some (y0.1,y0.2)
def rD(eu:Int->(List M.aa)->Option (Int×(List M.aa))):Nat->Int->Int->(List M.aa)->Option (Int×(List M.aa))
 |0,_,_,_=>none
 |fuel+1,k,i,a=>
 bif(decide (i<((List.length a):Int)))then
 let q0:=(List.set a (Int.toNat i) (M.aa.mk k (M.aa.Name (List.getD a (Int.toNat i) M.aa.zero)) (M.aa.bm (List.getD a (Int.toNat i) M.aa.zero)) (M.aa.Kids (List.getD a (Int.toNat i) M.aa.zero))))
 let q1:=(List.getD q0 (Int.toNat i) M.aa.zero)
 let q2:=(M.ky (Go.IntKind.wrap Go.IntKind.i64 (k+(1:Int))))
 let q3:=(List.set q0 (Int.toNat i) (M.aa.mk (M.aa.Kind q1) (Option.getD q2 default) (M.aa.bm q1) (M.aa.Kids q1)))
 let q4:=(List.getD q3 (Int.toNat i) M.aa.zero)
 let q5:=(M.pQ (Go.IntKind.wrap Go.IntKind.i64 ((Go.IntKind.wrap Go.IntKind.i64 (k+(1:Int)))+(1:Int))) (M.aa.bm q4))
 let q6:=(Option.getD q5 default)
 let q7:=(List.set q3 (Int.toNat i) (M.aa.mk (M.aa.Kind q4) (M.aa.Name q4) q6.2 (M.aa.Kids q4)))
 let q8:=(List.getD q7 (Int.toNat i) M.aa.zero)
 bif(((Option.isSome (eu q6.1 (M.aa.Kids q8)))&&true)&&((Go.V.inB i (List.length q7))&&(((Option.isSome q5)&&true)&&((Go.V.inB i (List.length q3))&&((Go.V.inB i (List.length q0))&&(((Option.isSome q2)&&true)&&((Go.V.inB i (List.length a))&&true)))))))then
 let q9:=(Option.getD (eu q6.1 (M.aa.Kids q8)) default)
 M.rD eu fuel q9.1 (Go.IntKind.wrap Go.IntKind.i64 (i+(1:Int))) (List.set q7 (Int.toNat i) (M.aa.mk (M.aa.Kind q8) (M.aa.Name q8) (M.aa.bm q8) q9.2))
 else
 none
 else
 some ((k,a))
def wW(eu:Int->(List M.aa)->Option (Int×(List M.aa)))(k:Int)(a:(List M.aa)):Option (Int×(List M.aa)):=
 match(M.rD eu Go.V.ai k (0:Int) a)with
 |none=>none
 |some y0=>
 some (y0.1,y0.2)
def rE:Nat->Int->(List M.aa)->Option (Int×(List M.aa))
 |0=>fun _ _=>none
 |n+1=>wW (rE n)
def zK:Int->(List M.aa)->Option (Int×(List M.aa)):=rE Go.V.ai
def ui(a:Int)(a2:(List UInt8))(k:Int)(o0:(List (List UInt8)))(o1:(List M.aa)):Option (Int×(List (List UInt8))×(List M.aa)):=
 let q0:=(M.pQ k o0)
 let q1:=(M.zK (Option.getD q0 default).1 o1)
 bif(((Option.isSome q1)&&true)&&(((Option.isSome q0)&&true)&&true))then
 let q2:=(Option.getD q1 default)
 some (q2.1,(Option.getD q0 default).2,q2.2)
 else
 none
def rF(ez:Int->(List M.ae)->Option (Int×(List M.ae))):Nat->Int->Int->(List M.ae)->Option (Int×(List M.ae))
 |0,_,_,_=>none
 |fuel+1,k,i,a=>
 bif(decide (i<((List.length a):Int)))then
 let q0:=(Go.IntKind.wrap Go.IntKind.i64 ((Go.IntKind.wrap Go.IntKind.i64 (k+(1:Int)))+(1:Int)))
 let q1:=(List.set a (Int.toNat i) (M.ae.mk k (M.ae.Num (List.getD a (Int.toNat i) M.ae.zero)) (M.ae.Text (List.getD a (Int.toNat i) M.ae.zero)) (M.ae.Kids (List.getD a (Int.toNat i) M.ae.zero))))
 let q2:=(List.getD q1 (Int.toNat i) M.ae.zero)
 let q3:=(List.set q1 (Int.toNat i) (M.ae.mk (M.ae.Kind q2) (Go.IntKind.wrap Go.IntKind.i64 (k+(1:Int))) (M.ae.Text q2) (M.ae.Kids q2)))
 let q4:=(List.getD q3 (Int.toNat i) M.ae.zero)
 let q5:=(M.ky q0)
 let q6:=(List.set q3 (Int.toNat i) (M.ae.mk (M.ae.Kind q4) (M.ae.Num q4) (Option.getD q5 default) (M.ae.Kids q4)))
 let q7:=(List.getD q6 (Int.toNat i) M.ae.zero)
 bif(((Option.isSome (ez (Go.IntKind.wrap Go.IntKind.i64 (q0+(1:Int))) (M.ae.Kids q7)))&&true)&&((Go.V.inB i (List.length q6))&&((Go.V.inB i (List.length q3))&&(((Option.isSome q5)&&true)&&((Go.V.inB i (List.length q1))&&((Go.V.inB i (List.length a))&&true))))))then
 let q8:=(Option.getD (ez (Go.IntKind.wrap Go.IntKind.i64 (q0+(1:Int))) (M.ae.Kids q7)) default)
 M.rF ez fuel q8.1 (Go.IntKind.wrap Go.IntKind.i64 (i+(1:Int))) (List.set q6 (Int.toNat i) (M.ae.mk (M.ae.Kind q7) (M.ae.Num q7) (M.ae.Text q7) q8.2))
 else
 none
 else
 some ((k,a))
def wX(ez:Int->(List M.ae)->Option (Int×(List M.ae)))(k:Int)(a:(List M.ae)):Option (Int×(List M.ae)):=
 match(M.rF ez Go.V.ai k (0:Int) a)with
 |none=>none
 |some y0=>
 some (y0.1,y0.2)
def rG:Nat->Int->(List M.ae)->Option (Int×(List M.ae))
 |0=>fun _ _=>none
 |n+1=>wX (rG n)
def zM:Int->(List M.ae)->Option (Int×(List M.ae)):=rG Go.V.ai
def rH(cR:M.ae->Int->Option (Int))(a:(List M.ae)):Nat->Int->Int->Option ((Int)⊕(Int))
 |0,_,_=>none
 |fuel+1,left,i=>
 bif(decide (i<((List.length a):Int)))then
 let q0:=(Option.getD (cR (M.ae.re (List.getD a (Int.toNat i) M.ae.zero)) left) default)
 bif(decide (q0<(0:Int)))then
 let q1:=((Option.isSome (cR (M.ae.re (List.getD a (Int.toNat i) M.ae.zero)) left))&&((Go.V.inB i (List.length a))&&true))
 bif q1 then
 some (.inl (-(1:Int)))
 else
 none
 else
 let q1:=((Option.isSome (cR (M.ae.re (List.getD a (Int.toNat i) M.ae.zero)) left))&&((Go.V.inB i (List.length a))&&true))
 bif q1 then
 M.rH cR a fuel q0 (Go.IntKind.wrap Go.IntKind.i64 (i+(1:Int)))
 else
 none
 else
 some ((.inr (left)))
def uk(cR:M.ae->Int->Option (Int))(a:(List M.ae))(left:Int):Option (Int):=
 bif(decide ((Go.IntKind.wrap Go.IntKind.i64 (left-((List.length a):Int)))<(0:Int)))then
 some (-(1:Int))
 else
 match(M.rH cR a Go.V.ai (Go.IntKind.wrap Go.IntKind.i64 (left-((List.length a):Int))) (0:Int))with
 |none=>none
 |some y0=>
 (match y0 with
 |.inl a1=>
 some a1
 |.inr b1=>
 some b1)
def wY(cR:M.ae->Int->Option (Int))(a:M.ae)(left:Int):Option (Int):=
 bif(decide ((Go.IntKind.wrap Go.IntKind.i64 (left-((List.length (M.ae.Text a)):Int)))<(0:Int)))then
 some (-(1:Int))
 else
 let q0:=(M.uk cR (M.ae.Kids a) (Go.IntKind.wrap Go.IntKind.i64 (left-((List.length (M.ae.Text a)):Int))))
 let q1:=(Option.getD q0 default)
 bif(decide (q1<(0:Int)))then
 let q2:=((Option.isSome q0)&&true)
 bif q2 then
 some (-(1:Int))
 else
 none
 else
 let q2:=((Option.isSome q0)&&true)
 bif q2 then
 some q1
 else
 none
def rI:Nat->M.ae->Int->Option (Int)
 |0=>fun _ _=>none
 |n+1=>wY (rI n)
def zO:M.ae->Int->Option (Int):=rI Go.V.ai
def pR(cX:M.ae->Option (Int×Int×(List UInt8)×(List M.ae)))(a:(List M.ae)):Nat->Int->(List M.ae)->Option ((List M.ae))
 |0,_,_=>none
 |fuel+1,i,out=>
 bif(decide (i<((List.length a):Int)))then
 bif((Go.V.inB i (List.length out))&&((Option.isSome (cX (M.ae.re (List.getD a (Int.toNat i) M.ae.zero))))&&((Go.V.inB i (List.length a))&&true)))then
 let q0:=(Option.getD (cX (M.ae.re (List.getD a (Int.toNat i) M.ae.zero))) default)
 let q1:=q0.2
 let q2:=q1.2
 M.pR cX a fuel (Go.IntKind.wrap Go.IntKind.i64 (i+(1:Int))) (List.set out (Int.toNat i) (M.ae.mk q0.1 q1.1 q2.1 q2.2))
 else
 none
 else
 some (out)
def um(cX:M.ae->Option (Int×Int×(List UInt8)×(List M.ae)))(a:(List M.ae)):Option ((List M.ae)):=
 match(M.pR cX a Go.V.ai (0:Int) (List.replicate (Int.toNat ((List.length a):Int)) (M.ae.mk (0:Int) (0:Int) [] [])))with
 |none=>none
 |some y0=>
 bif(((decide (((List.length a):Int)<=((List.length a):Int)))&&(decide (((List.length a):Int)<=(1073741824:Int))))&&true)then
 some y0
 else
 none
def wZ(cX:M.ae->Option (Int×Int×(List UInt8)×(List M.ae)))(a:M.ae):Option (Int×Int×(List UInt8)×(List M.ae)):=
 let q0:=(M.um cX (M.ae.Kids a))
 bif((Option.isSome q0)&&true)then
 some ((M.ae.Kind a),(M.ae.Num a),(M.ae.Text a),(Option.getD q0 default))
 else
 none
def rJ:Nat->M.ae->Option (Int×Int×(List UInt8)×(List M.ae))
 |0=>fun _=>none
 |n+1=>wZ (rJ n)
def zQ:M.ae->Option (Int×Int×(List UInt8)×(List M.ae)):=rJ Go.V.ai
def mn(n:Int)(m:M.ax):Nat->Int->Int->Option ((Bool)⊕(Unit))
 |0,_,_=>none
 |fuel+1,last,i=>
 bif(decide (i<((List.length (M.ax.Free m)):Int)))then
 bif((((decide ((M.af.Size (List.getD (M.ax.Free m) (Int.toNat i) M.af.zero))<(1:Int)))||(decide ((M.af.At (List.getD (M.ax.Free m) (Int.toNat i) M.af.zero))<=last)))||(decide (n<(M.af.At (List.getD (M.ax.Free m) (Int.toNat i) M.af.zero)))))||(decide ((Go.IntKind.wrap Go.IntKind.i64 (n-(M.af.At (List.getD (M.ax.Free m) (Int.toNat i) M.af.zero))))<(M.af.Size (List.getD (M.ax.Free m) (Int.toNat i) M.af.zero)))))then
 bif((Go.V.inB i (List.length (M.ax.Free m)))&&true)then
 some (.inl false)
 else
 none
 else
 bif((Go.V.inB i (List.length (M.ax.Free m)))&&true)then
 M.mn n m fuel (Go.IntKind.wrap Go.IntKind.i64 ((M.af.At (List.getD (M.ax.Free m) (Int.toNat i) M.af.zero))+(M.af.Size (List.getD (M.ax.Free m) (Int.toNat i) M.af.zero)))) (Go.IntKind.wrap Go.IntKind.i64 (i+(1:Int)))
 else
 none
 else
 some ((.inr (())))
def uo(m:M.ax):Option (Bool):=
 bif((decide ((4096:Int)<((List.length (M.ax.Bytes m)):Int)))||(decide ((4096:Int)<((List.length (M.ax.Free m)):Int))))then
 some false
 else
 match(M.mn ((List.length (M.ax.Bytes m)):Int) m Go.V.ai (7:Int) (0:Int))with
 |none=>none
 |some y0=>
 (match y0 with
 |.inl a1=>
 some a1
 |.inr b1=>
 some true)
def D6(enc:Int):Option (Bool):=
 some ((decide ((1:Int)<=enc))&&(decide (enc<=(3:Int))))
def uu(m:M.ax)(enc:Int):Option (Bool):=
 let q0:=(M.uo m)
 bif((Option.isSome q0)&&true)then
 some ((Option.getD q0 default)&&((decide ((1:Int)<=enc))&&(decide (enc<=(3:Int)))))
 else
 none
def uv(kind:Int):Option (Int):=
 bif(bif(kind==(2:Int))then(kind==(2:Int))else(bif(kind==(3:Int))then(kind==(3:Int))else(kind==(4:Int))))then
 some (1:Int)
 else
 bif(bif(kind==(5:Int))then(kind==(5:Int))else(kind==(6:Int)))then
 some (2:Int)
 else
 bif(bif(kind==(7:Int))then(kind==(7:Int))else(bif(kind==(8:Int))then(kind==(8:Int))else(bif(kind==(10:Int))then(kind==(10:Int))else(bif(kind==(20:Int))then(kind==(20:Int))else(bif(kind==(21:Int))then(kind==(21:Int))else(bif(kind==(22:Int))then(kind==(22:Int))else(kind==(23:Int))))))))then
 some (4:Int)
 else
 bif(kind==(9:Int))then
 some (8:Int)
 else
 some (0:Int)
def jf(at_:Int)(align:Int):Option (Int):=
 bif((align !=(0:Int))&&true)then
 some (Go.IntKind.wrap Go.IntKind.i64 ((Go.IntKind.wrap Go.IntKind.i64 (Int.tdiv (Go.IntKind.wrap Go.IntKind.i64 ((Go.IntKind.wrap Go.IntKind.i64 (at_+align))-(1:Int))) align))*align))
 else
 none
def mo(bJ:M.aa->Option (Int×Int))(ts:(List M.aa)):Nat->Int->Int->Int->(List Int)->Option (Int×Int×(List Int))
 |0,_,_,_,_=>none
 |fuel+1,at_,align,i,out=>
 bif(decide (i<((List.length ts):Int)))then
 let q0:=(Option.getD (bJ (M.aa.re (List.getD ts (Int.toNat i) M.aa.zero))) default)
 let q1:=q0.2
 let q2:=(M.jc align q1)
 let q3:=(M.jf at_ q1)
 let q4:=(Option.getD q3 default)
 let q5:=[q4]
 bif((Option.isSome q2)&&((decide (((List.length out)+(List.length q5))<=1073741824))&&((Option.isSome q3)&&((Option.isSome (bJ (M.aa.re (List.getD ts (Int.toNat i) M.aa.zero))))&&((Go.V.inB i (List.length ts))&&true)))))then
 M.mo bJ ts fuel (Go.IntKind.wrap Go.IntKind.i64 (q4+q0.1)) (Option.getD q2 default) (Go.IntKind.wrap Go.IntKind.i64 (i+(1:Int))) (out++q5)
 else
 none
 else
 some ((at_,align,out))
def nS(bJ:M.aa->Option (Int×Int))(ts:(List M.aa)):Option ((List Int)×Int×Int):=
 match(M.mo bJ ts Go.V.ai (0:Int) (1:Int) (0:Int) [])with
 |none=>none
 |some y0=>
 let q1:=(M.jf y0.1 y0.2.1)
 bif((Option.isSome q1)&&true)then
 some (y0.2.2,(Option.getD q1 default),y0.2.1)
 else
 none
def mq(t:M.aa):Option ((List M.aa)):=
 bif((M.aa.Kind t)==(13:Int))then
 bif((Go.V.inB (0:Int) (List.length (M.aa.Kids t)))&&true)then
 some [(M.aa.mk (1:Int) [] [] []),(M.aa.re (List.getD (M.aa.Kids t) (Int.toNat (0:Int)) M.aa.zero))]
 else
 none
 else
 bif(bif((M.aa.Kind t)==(14:Int))then((M.aa.Kind t)==(14:Int))else((M.aa.Kind t)==(17:Int)))then
 some (M.aa.Kids t)
 else
 some []
def mr(bJ:M.aa->Option (Int×Int))(ts:(List M.aa)):Nat->Int->Int->Int->Option (Int×Int)
 |0,_,_,_=>none
 |fuel+1,size,align,i=>
 bif(decide (i<((List.length ts):Int)))then
 let q0:=(Option.getD (bJ (M.aa.re (List.getD ts (Int.toNat i) M.aa.zero))) default)
 let q1:=(M.jc align q0.2)
 let q2:=(M.jc size q0.1)
 bif((Option.isSome q1)&&((Option.isSome q2)&&((Option.isSome (bJ (M.aa.re (List.getD ts (Int.toNat i) M.aa.zero))))&&((Go.V.inB i (List.length ts))&&true))))then
 M.mr bJ ts fuel (Option.getD q2 default) (Option.getD q1 default) (Go.IntKind.wrap Go.IntKind.i64 (i+(1:Int)))
 else
 none
 else
 some ((size,align))
def pS(bJ:M.aa->Option (Int×Int))(ts:(List M.aa)):Option (Int×Int):=
 match(M.mr bJ ts Go.V.ai (0:Int) (1:Int) (0:Int))with
 |none=>none
 |some y0=>
 some (y0.1,y0.2)
def w9(bJ:M.aa->Option (Int×Int))(t:M.aa):Option (Int×Int):=
 let q0:=(M.uv (M.aa.Kind t))
 bif(decide ((0:Int)<(Option.getD q0 default)))then
 bif((Option.isSome q0)&&true)then
 some ((Option.getD q0 default),(Option.getD q0 default))
 else
 none
 else
 bif(bif((M.aa.Kind t)==(11:Int))then((M.aa.Kind t)==(11:Int))else((M.aa.Kind t)==(12:Int)))then
 let q1:=((((Option.isSome q0)&&true)||(!((M.aa.Kind t)==(11:Int))))&&(((Option.isSome q0)&&true)||((M.aa.Kind t)==(11:Int))))
 bif q1 then
 some ((8:Int),(4:Int))
 else
 none
 else
 bif((M.aa.Kind t)==(18:Int))then
 let q1:=((((Option.isSome q0)&&true)||(!((M.aa.Kind t)==(11:Int))))&&(((Option.isSome q0)&&true)||((M.aa.Kind t)==(11:Int))))
 bif q1 then
 some ((1:Int),(1:Int))
 else
 none
 else
 bif((M.aa.Kind t)==(19:Int))then
 bif(decide ((8:Int)<((List.length (M.aa.bm t)):Int)))then
 let q1:=((((Option.isSome q0)&&true)||(!((M.aa.Kind t)==(11:Int))))&&(((Option.isSome q0)&&true)||((M.aa.Kind t)==(11:Int))))
 bif q1 then
 some ((2:Int),(2:Int))
 else
 none
 else
 let q1:=((((Option.isSome q0)&&true)||(!((M.aa.Kind t)==(11:Int))))&&(((Option.isSome q0)&&true)||((M.aa.Kind t)==(11:Int))))
 bif q1 then
 some ((1:Int),(1:Int))
 else
 none
 else
 bif(bif((M.aa.Kind t)==(15:Int))then((M.aa.Kind t)==(15:Int))else((M.aa.Kind t)==(16:Int)))then
 let q1:=(M.nS bJ (M.aa.Kids t))
 let q2:=((((Option.isSome q0)&&true)||(!((M.aa.Kind t)==(11:Int))))&&(((Option.isSome q0)&&true)||((M.aa.Kind t)==(11:Int))))
 let q3:=((q2||(!((M.aa.Kind t)==(15:Int))))&&(q2||((M.aa.Kind t)==(15:Int))))
 bif((Option.isSome q1)&&q3)then
 let q4:=(Option.getD q1 default).2
 some (q4.1,q4.2)
 else
 none
 else
 bif(bif((M.aa.Kind t)==(13:Int))then((M.aa.Kind t)==(13:Int))else(bif((M.aa.Kind t)==(14:Int))then((M.aa.Kind t)==(14:Int))else((M.aa.Kind t)==(17:Int))))then
 let q1:=(M.mq (M.aa.re t))
 let q2:=(M.pS bJ (Option.getD q1 default))
 let q3:=(Option.getD q2 default)
 let q4:=q3.2
 let q5:=(M.jf (1:Int) q4)
 let q6:=(M.jf (Go.IntKind.wrap Go.IntKind.i64 ((Option.getD q5 default)+q3.1)) q4)
 let q7:=((((Option.isSome q0)&&true)||(!((M.aa.Kind t)==(11:Int))))&&(((Option.isSome q0)&&true)||((M.aa.Kind t)==(11:Int))))
 let q8:=((q7||(!((M.aa.Kind t)==(15:Int))))&&(q7||((M.aa.Kind t)==(15:Int))))
 let q9:=((q8||(!((M.aa.Kind t)==(13:Int))))&&(((q8||(!((M.aa.Kind t)==(14:Int))))&&(q8||((M.aa.Kind t)==(14:Int))))||((M.aa.Kind t)==(13:Int))))
 bif((Option.isSome q6)&&((Option.isSome q5)&&((Option.isSome q2)&&((Option.isSome q1)&&q9))))then
 some ((Option.getD q6 default),q4)
 else
 none
 else
 let q1:=((((Option.isSome q0)&&true)||(!((M.aa.Kind t)==(11:Int))))&&(((Option.isSome q0)&&true)||((M.aa.Kind t)==(11:Int))))
 let q2:=((q1||(!((M.aa.Kind t)==(15:Int))))&&(q1||((M.aa.Kind t)==(15:Int))))
 let q3:=((q2||(!((M.aa.Kind t)==(13:Int))))&&(((q2||(!((M.aa.Kind t)==(14:Int))))&&(q2||((M.aa.Kind t)==(14:Int))))||((M.aa.Kind t)==(13:Int))))
 bif q3 then
 some ((0:Int),(1:Int))
 else
 none
def nU:Nat->M.aa->Option (Int×Int)
 |0=>fun _=>none
 |n+1=>w9 (nU n)
def iv:M.aa->Option (Int×Int):=nU Go.V.ai
def mw(m:M.ax)(at_:Int)(n:Int):Option (Bool):=
 some ((((decide ((0:Int)<=n))&&(decide ((0:Int)<=at_)))&&(decide (at_<=((List.length (M.ax.Bytes m)):Int))))&&(decide (n<=(Go.IntKind.wrap Go.IntKind.i64 (((List.length (M.ax.Bytes m)):Int)-at_)))))
def jW(m:M.ax):Option ((List UInt8)×(List M.af)):=
 bif((decide ((0+(List.length (M.ax.Free m)))<=1073741824))&&true)then
 some ((M.ax.Bytes m),([]++(M.ax.Free m)))
 else
 none
def my(many:Int):Nat->Int->Int->(List UInt8)->Option ((List UInt8))
 |0,_,_,_=>none
 |fuel+1,n,i,b=>
 bif((decide (i<many))&&((decide ((0:Int)<=many))&&(decide (many<=(8:Int)))))then
 let q0:=[(Go.V.dO (Go.IntKind.wrap Go.IntKind.u8 (Go.V.dR Go.BinOp.and Go.IntKind.i64 n (255:Int))))]
 bif((decide (((List.length b)+(List.length q0))<=1073741824))&&(((Go.V.eS (Go.IntKind.wrap Go.IntKind.u8 (Go.V.dR Go.BinOp.and Go.IntKind.i64 n (255:Int))))&&true)&&true))then
 M.my many fuel (Go.V.ft Go.IntKind.i64 n (8:Int)) (Go.IntKind.wrap Go.IntKind.i64 (i+(1:Int))) (b++q0)
 else
 none
 else
 some (b)
def mz(n:Int)(many:Int):Option ((List UInt8)):=
 match(M.my many Go.V.ai n (0:Int) [])with
 |none=>none
 |some y0=>
 some (List.map (fun a=>a) y0)
def ux(n:Int):Option ((List UInt8)):=
 bif(decide (n<(65536:Int)))then
 let q0:=(M.mz n (2:Int))
 bif((Option.isSome q0)&&true)then
 some (Option.getD q0 default)
 else
 none
 else
 let q0:=(M.mz (Go.IntKind.wrap Go.IntKind.i64 ((55296:Int)+(Go.V.ft Go.IntKind.i64 (Go.IntKind.wrap Go.IntKind.i64 (n-(65536:Int))) (10:Int)))) (2:Int))
 let q1:=(Option.getD q0 default)
 let q2:=(M.mz (Go.IntKind.wrap Go.IntKind.i64 ((56320:Int)+(Go.V.dR Go.BinOp.and Go.IntKind.i64 (Go.IntKind.wrap Go.IntKind.i64 (n-(65536:Int))) (1023:Int)))) (2:Int))
 let q3:=(Option.getD q2 default)
 bif((Go.V.dS q1 q3)&&((Option.isSome q2)&&((Option.isSome q0)&&true)))then
 some (q1++q3)
 else
 none
def lj(enc:Int)(points:(List Int)):Nat->(List UInt8)->Int->Option (((List UInt8)×Int)⊕((List UInt8)))
 |0,_,_=>none
 |fuel+1,out,i=>
 bif(decide (i<((List.length points):Int)))then
 bif(enc==(2:Int))then
 let q0:=(M.ux (List.getD points (Int.toNat i) (0:Int)))
 let q1:=(Option.getD q0 default)
 bif((Go.V.dS out q1)&&((Option.isSome q0)&&((Go.V.inB i (List.length points))&&true)))then
 M.lj enc points fuel (out++q1) (Go.IntKind.wrap Go.IntKind.i64 (i+(1:Int)))
 else
 none
 else
 bif(decide ((255:Int)<(List.getD points (Int.toNat i) (0:Int))))then
 bif((Go.V.inB i (List.length points))&&true)then
 some (.inl ([],(19:Int)))
 else
 none
 else
 let q0:=(List.map (fun a=>a) [(Go.V.dO (Go.IntKind.wrap Go.IntKind.u8 (List.getD points (Int.toNat i) (0:Int))))])
 bif((Go.V.dS out q0)&&(((Go.V.eS (Go.IntKind.wrap Go.IntKind.u8 (List.getD points (Int.toNat i) (0:Int))))&&true)&&((Go.V.inB i (List.length points))&&((Go.V.inB i (List.length points))&&true))))then
 M.lj enc points fuel (out++q0) (Go.IntKind.wrap Go.IntKind.i64 (i+(1:Int)))
 else
 none
 else
 some ((.inr (out)))
def uy(enc:Int)(s:(List UInt8)):Option ((List UInt8)×Int):=
 bif(enc==(1:Int))then
 some (s,(0:Int))
 else
 let q0:=(M.mf s)
 match(M.lj enc (Option.getD q0 default).1 Go.V.ai [] (0:Int))with
 |none=>none
 |some y1=>
 (match y1 with
 |.inl a2=>
 bif((Option.isSome q0)&&true)then
 some (a2.1,a2.2)
 else
 none
 |.inr b2=>
 bif((Option.isSome q0)&&true)then
 some (b2,(0:Int))
 else
 none)
def xc(enc:Int):Option (Int):=
 bif(bif(enc==(1:Int))then(enc==(1:Int))else(enc==(3:Int)))then
 some (1:Int)
 else
 bif(enc==(2:Int))then
 some (2:Int)
 else
 some (0:Int)
def mA(size:Int)(align:Int)(m:M.ax)(t6:(List UInt8))(o3:(List M.af)):Nat->Int->Option ((Int×Int×(List UInt8)×(List M.af))⊕((List UInt8)×(List M.af)))
 |0,_=>none
 |fuel+1,i=>
 bif(decide (i<((List.length (M.ax.Free m)):Int)))then
 let q0:=(M.jf (M.af.At (List.getD (M.ax.Free m) (Int.toNat i) M.af.zero)) align)
 let q1:=(Option.getD q0 default)
 let q2:=(Go.IntKind.wrap Go.IntKind.i64 (q1-(M.af.At (List.getD (M.ax.Free m) (Int.toNat i) M.af.zero))))
 bif((decide ((M.af.Size (List.getD (M.ax.Free m) (Int.toNat i) M.af.zero))<size))||(decide ((Go.IntKind.wrap Go.IntKind.i64 ((M.af.Size (List.getD (M.ax.Free m) (Int.toNat i) M.af.zero))-size))<q2)))then
 let q3:=((Option.isSome q0)&&((Go.V.inB i (List.length (M.ax.Free m)))&&true))
 bif q3 then
 M.mA size align m t6 o3 fuel (Go.IntKind.wrap Go.IntKind.i64 (i+(1:Int)))
 else
 none
 else
 bif(decide ((M.af.At (List.getD (M.ax.Free m) (Int.toNat i) M.af.zero))<q1))then
 let q3:=(Go.IntKind.wrap Go.IntKind.i64 ((Go.IntKind.wrap Go.IntKind.i64 ((Go.IntKind.wrap Go.IntKind.i64 ((M.af.At (List.getD (M.ax.Free m) (Int.toNat i) M.af.zero))+(M.af.Size (List.getD (M.ax.Free m) (Int.toNat i) M.af.zero))))-q1))-size))
 bif(decide ((0:Int)<q3))then
 let q4:=([]++(List.drop (Int.toNat (0:Int)) (List.take (Int.toNat i) (M.ax.Free m))))
 let q5:=[(M.af.mk (M.af.At (List.getD (M.ax.Free m) (Int.toNat i) M.af.zero)) q2)]
 let q6:=(q4++q5)
 let q7:=[(M.af.mk (Go.IntKind.wrap Go.IntKind.i64 (q1+size)) q3)]
 let q8:=(q6++q7)
 let q9:=(List.drop (Int.toNat (Go.IntKind.wrap Go.IntKind.i64 (i+(1:Int)))) (List.take (Int.toNat ((List.length (M.ax.Free m)):Int)) (M.ax.Free m)))
 let q10:=(List.length q9)
 let q11:=(Go.V.bF (Go.IntKind.wrap Go.IntKind.i64 (i+(1:Int))) ((List.length (M.ax.Free m)):Int) (List.length (M.ax.Free m)))
 let q12:=(List.length q6)
 let q13:=(List.length q7)
 let eA:=(List.length q4)
 let cB:=((Option.isSome q0)&&((Go.V.inB i (List.length (M.ax.Free m)))&&true))
 let q16:=((decide ((0+(List.length (List.drop (Int.toNat (0:Int)) (List.take (Int.toNat i) (M.ax.Free m)))))<=1073741824))&&((Go.V.bF (0:Int) i (List.length (M.ax.Free m)))&&cB))
 let mP:=((decide ((eA+(List.length q5))<=1073741824))&&q16)
 bif((decide (((List.length q8)+q10)<=1073741824))&&(q11&&((decide ((q12+q13)<=1073741824))&&mP)))then
 some (.inl (q1,(0:Int),(M.ax.Bytes m),(q8++q9)))
 else
 none
 else
 let q4:=([]++(List.drop (Int.toNat (0:Int)) (List.take (Int.toNat i) (M.ax.Free m))))
 let q5:=[(M.af.mk (M.af.At (List.getD (M.ax.Free m) (Int.toNat i) M.af.zero)) q2)]
 let q6:=(q4++q5)
 let q7:=(List.length q6)
 let q8:=(List.drop (Int.toNat (Go.IntKind.wrap Go.IntKind.i64 (i+(1:Int)))) (List.take (Int.toNat ((List.length (M.ax.Free m)):Int)) (M.ax.Free m)))
 let q9:=(List.length q8)
 let q10:=(Go.V.bF (Go.IntKind.wrap Go.IntKind.i64 (i+(1:Int))) ((List.length (M.ax.Free m)):Int) (List.length (M.ax.Free m)))
 let q11:=(List.length q4)
 let q12:=((Option.isSome q0)&&((Go.V.inB i (List.length (M.ax.Free m)))&&true))
 let q13:=((decide ((0+(List.length (List.drop (Int.toNat (0:Int)) (List.take (Int.toNat i) (M.ax.Free m)))))<=1073741824))&&((Go.V.bF (0:Int) i (List.length (M.ax.Free m)))&&q12))
 let eA:=((decide ((q11+(List.length q5))<=1073741824))&&q13)
 bif((decide ((q7+q9)<=1073741824))&&(q10&&eA))then
 some (.inl (q1,(0:Int),(M.ax.Bytes m),(q6++q8)))
 else
 none
 else
 let q3:=(Go.IntKind.wrap Go.IntKind.i64 ((Go.IntKind.wrap Go.IntKind.i64 ((Go.IntKind.wrap Go.IntKind.i64 ((M.af.At (List.getD (M.ax.Free m) (Int.toNat i) M.af.zero))+(M.af.Size (List.getD (M.ax.Free m) (Int.toNat i) M.af.zero))))-q1))-size))
 bif(decide ((0:Int)<q3))then
 let q4:=([]++(List.drop (Int.toNat (0:Int)) (List.take (Int.toNat i) (M.ax.Free m))))
 let q5:=[(M.af.mk (Go.IntKind.wrap Go.IntKind.i64 (q1+size)) q3)]
 let q6:=(q4++q5)
 let q7:=(List.drop (Int.toNat (Go.IntKind.wrap Go.IntKind.i64 (i+(1:Int)))) (List.take (Int.toNat ((List.length (M.ax.Free m)):Int)) (M.ax.Free m)))
 let q8:=(List.length q7)
 let q9:=(Go.V.bF (Go.IntKind.wrap Go.IntKind.i64 (i+(1:Int))) ((List.length (M.ax.Free m)):Int) (List.length (M.ax.Free m)))
 let q10:=(List.length q4)
 let q11:=(List.length q5)
 let q12:=((Option.isSome q0)&&((Go.V.inB i (List.length (M.ax.Free m)))&&true))
 let q13:=((decide ((0+(List.length (List.drop (Int.toNat (0:Int)) (List.take (Int.toNat i) (M.ax.Free m)))))<=1073741824))&&((Go.V.bF (0:Int) i (List.length (M.ax.Free m)))&&q12))
 bif((decide (((List.length q6)+q8)<=1073741824))&&(q9&&((decide ((q10+q11)<=1073741824))&&q13)))then
 some (.inl (q1,(0:Int),(M.ax.Bytes m),(q6++q7)))
 else
 none
 else
 let q4:=([]++(List.drop (Int.toNat (0:Int)) (List.take (Int.toNat i) (M.ax.Free m))))
 let q5:=(List.length q4)
 let q6:=(List.drop (Int.toNat (Go.IntKind.wrap Go.IntKind.i64 (i+(1:Int)))) (List.take (Int.toNat ((List.length (M.ax.Free m)):Int)) (M.ax.Free m)))
 let q7:=(List.length q6)
 let q8:=(Go.V.bF (Go.IntKind.wrap Go.IntKind.i64 (i+(1:Int))) ((List.length (M.ax.Free m)):Int) (List.length (M.ax.Free m)))
 let q9:=((Option.isSome q0)&&((Go.V.inB i (List.length (M.ax.Free m)))&&true))
 let q10:=((decide ((0+(List.length (List.drop (Int.toNat (0:Int)) (List.take (Int.toNat i) (M.ax.Free m)))))<=1073741824))&&((Go.V.bF (0:Int) i (List.length (M.ax.Free m)))&&q9))
 bif((decide ((q5+q7)<=1073741824))&&(q8&&q10))then
 some (.inl (q1,(0:Int),(M.ax.Bytes m),(q4++q6)))
 else
 none
 else
 some ((.inr ((t6,o3))))
def uz(m:M.ax)(size:Int)(align:Int):Option ((List UInt8)×Int×Int×(List M.af)):=
 bif(size==(0:Int))then
 let q0:=(M.jW m)
 bif((Option.isSome q0)&&true)then
 some ((Option.getD q0 default).1,(0:Int),(0:Int),(Option.getD q0 default).2)
 else
 none
 else
 match(M.mA size align m [] [] Go.V.ai (0:Int))with
 |none=>none
 |some y0=>
 (match y0 with
 |.inl a1=>
 some (a1.2.2.1,a1.1,a1.2.1,a1.2.2.2)
 |.inr b1=>
 some ([],(0:Int),(4:Int),[]))
def pT(size:Int)(align:Int)(o:(List UInt8))(o2:Int)(o3:Int)(o1:(List M.af)):Option (Int×(List UInt8)×Int×Int×(List M.af)):=
 let q0:=(M.uz (M.ax.mk o o1) size align)
 let q1:=(Option.getD q0 default)
 let q2:=q1.2
 let q3:=q2.2
 let q4:=q3.1
 bif(q4 !=(0:Int))then
 let q5:=((Option.isSome q0)&&true)
 bif q5 then
 some ((0:Int),o,o2,q4,o1)
 else
 none
 else
 let q5:=((Option.isSome q0)&&true)
 bif q5 then
 some (q2.1,q1.1,o2,o3,q3.2)
 else
 none
def pU(m:M.ax)(at_:Int)(bytes:(List UInt8)):Option ((List UInt8)×Int×(List M.af)):=
 let q0:=(M.mw m at_ ((List.length bytes):Int))
 bif(!(Option.getD q0 default))then
 some ([],(10:Int),[])
 else
 let q1:=((List.drop (Int.toNat (0:Int)) (List.take (Int.toNat at_) (M.ax.Bytes m)))++bytes)
 let q2:=(List.drop (Int.toNat (Go.IntKind.wrap Go.IntKind.i64 (at_+((List.length bytes):Int)))) (List.take (Int.toNat ((List.length (M.ax.Bytes m)):Int)) (M.ax.Bytes m)))
 let q3:=(M.jW m)
 bif((Go.V.dS q1 q2)&&((Go.V.bF (Go.IntKind.wrap Go.IntKind.i64 (at_+((List.length bytes):Int))) ((List.length (M.ax.Bytes m)):Int) (List.length (M.ax.Bytes m)))&&((Go.V.dS (List.drop (Int.toNat (0:Int)) (List.take (Int.toNat at_) (M.ax.Bytes m))) bytes)&&((Go.V.bF (0:Int) at_ (List.length (M.ax.Bytes m)))&&((Option.isSome q3)&&((Option.isSome q0)&&true))))))then
 some ((q1++q2),(0:Int),(Option.getD q3 default).2)
 else
 none
def uA(s:(List UInt8))(o:(List UInt8))(o2:Int)(o3:Int)(o1:(List M.af)):Option (Int×Int×(List UInt8)×Int×Int×(List M.af)):=
 let q0:=(M.uy o2 s)
 let q1:=(Option.getD q0 default).2
 bif(q1 !=(0:Int))then
 bif((Option.isSome q0)&&true)then
 some ((0:Int),(0:Int),o,o2,q1,o1)
 else
 none
 else
 let q2:=(Option.getD q0 default).1
 let q3:=(M.xc o2)
 let q4:=(M.pT ((List.length q2):Int) (Option.getD q3 default) o o2 o3 o1)
 let q5:=(Option.getD q4 default)
 let q6:=q5.2
 let q7:=q6.2
 let q8:=q7.2
 let q9:=q8.1
 bif((q9 !=(0:Int))||(q2==[]))then
 let q10:=((Option.isSome q4)&&((Option.isSome q3)&&((Option.isSome q0)&&true)))
 bif q10 then
 let q11:=q5.1
 let q12:=q6.1
 let q13:=q7.1
 let eA:=q8.2
 some (q11,(0:Int),q12,q13,q9,eA)
 else
 none
 else
 let q10:=q6.1
 let q11:=q8.2
 let q12:=q5.1
 let q13:=(M.pU (M.ax.mk q10 q11) q12 q2)
 let eA:=((Option.isSome q4)&&((Option.isSome q3)&&((Option.isSome q0)&&true)))
 bif(((Option.getD q3 default) !=(0:Int))&&((Option.isSome q13)&&eA))then
 let cB:=(Option.getD q13 default)
 let q16:=q7.1
 some (q12,(Go.IntKind.wrap Go.IntKind.i64 (Int.tdiv ((List.length q2):Int) (Option.getD q3 default))),cB.1,q16,q9,cB.2.2)
 else
 none
def mB(bw:M.aa->M.ae->Int->(List UInt8)->Int->Int->(List M.af)->Option ((List UInt8)×Int×Int×(List M.af)))(kids:(List M.ae))(size:Int)(many:Int)(at_:Int):Nat->Int->(List UInt8)->Int->Int->M.aa->(List M.af)->Option (Int×Int×(List UInt8)×Int×Int×(List M.af))
 |0,_,_,_,_,_,_=>none
 |fuel+1,i,o,o2,o3,t,o32=>
 bif((decide (i<many))&&(o3==(0:Int)))then
 bif((Option.isSome (bw (M.aa.re t) (M.ae.re (List.getD kids (Int.toNat i) M.ae.zero)) (Go.IntKind.wrap Go.IntKind.i64 (at_+(Go.IntKind.wrap Go.IntKind.i64 (i*size)))) o o2 o3 o32))&&((Go.V.inB i (List.length kids))&&true))then
 let q0:=(Option.getD (bw (M.aa.re t) (M.ae.re (List.getD kids (Int.toNat i) M.ae.zero)) (Go.IntKind.wrap Go.IntKind.i64 (at_+(Go.IntKind.wrap Go.IntKind.i64 (i*size)))) o o2 o3 o32) default)
 let q1:=q0.2
 let q2:=q1.2
 M.mB bw kids size many at_ fuel (Go.IntKind.wrap Go.IntKind.i64 (i+(1:Int))) q0.1 q1.1 q2.1 (M.aa.re t) q2.2
 else
 none
 else
 some ((many,at_,o,o2,o3,o32))
def uB(bw:M.aa->M.ae->Int->(List UInt8)->Int->Int->(List M.af)->Option ((List UInt8)×Int×Int×(List M.af)))(t:M.aa)(kids:(List M.ae))(o:(List UInt8))(o2:Int)(o3:Int)(o1:(List M.af)):Option (Int×Int×(List UInt8)×Int×Int×(List M.af)):=
 let q0:=(M.iv (M.aa.re t))
 let q1:=(M.pT (Go.IntKind.wrap Go.IntKind.i64 (((List.length kids):Int)*(Option.getD q0 default).1)) (Option.getD q0 default).2 o o2 o3 o1)
 let q2:=(Option.getD q1 default)
 let q3:=q2.2
 let q4:=q3.2
 let q5:=q4.2
 match(M.mB bw kids (Option.getD q0 default).1 ((List.length kids):Int) q2.1 Go.V.ai (0:Int) q3.1 q4.1 q5.1 (M.aa.re t) q5.2)with
 |none=>none
 |some y6=>
 bif((Option.isSome q1)&&((Option.isSome q0)&&true))then
 let q7:=y6.2.2
 let q8:=q7.2
 let q9:=q8.2
 some (y6.2.1,y6.1,q7.1,q8.1,q9.1,q9.2)
 else
 none
def uC(bw:M.aa->M.ae->Int->(List UInt8)->Int->Int->(List M.af)->Option ((List UInt8)×Int×Int×(List M.af)))(t:M.aa)(v:M.ae)(o:(List UInt8))(o2:Int)(o3:Int)(o1:(List M.af)):Option (Int×Int×(List UInt8)×Int×Int×(List M.af)):=
 bif((M.aa.Kind t)==(11:Int))then
 let q0:=(M.uA (M.ae.Text v) o o2 o3 o1)
 bif((Option.isSome q0)&&true)then
 let q1:=default
 let q2:=(Option.getD q0 q1)
 let q3:=q2.2
 let q4:=q3.2
 let q5:=q4.2
 let q6:=q5.2
 some (q2.1,q3.1,q4.1,q5.1,q6.1,q6.2)
 else
 none
 else
 let q0:=(M.uB bw (M.aa.re (List.getD (M.aa.Kids t) (Int.toNat (0:Int)) M.aa.zero)) (M.ae.Kids v) o o2 o3 o1)
 bif((Option.isSome q0)&&((Go.V.inB (0:Int) (List.length (M.aa.Kids t)))&&true))then
 let q1:=default
 let q2:=(Option.getD q0 q1)
 let q3:=q2.2
 let q4:=q3.2
 let q5:=q4.2
 let q6:=q5.2
 some (q2.1,q3.1,q4.1,q5.1,q6.1,q6.2)
 else
 none
def ln(at_:Int)(n:Int)(many:Int)(o:(List UInt8))(o2:Int)(o3:Int)(o1:(List M.af)):Option ((List UInt8)×Int×Int×(List M.af)):=
 let q0:=(M.mz n many)
 let q1:=(M.pU (M.ax.mk o o1) at_ (Option.getD q0 default))
 let q2:=(Option.getD q1 default)
 let q3:=q2.2
 bif(q3.1==(0:Int))then
 let q4:=((Option.isSome q1)&&((Option.isSome q0)&&true))
 bif q4 then
 some (q2.1,o2,o3,q3.2)
 else
 none
 else
 let q4:=((Option.isSome q1)&&((Option.isSome q0)&&true))
 bif q4 then
 some (o,o2,o3,o1)
 else
 none
def mC(bw:M.aa->M.ae->Int->(List UInt8)->Int->Int->(List M.af)->Option ((List UInt8)×Int×Int×(List M.af)))(ts:(List M.aa))(vs:(List M.ae))(at_:Int)(places:(List Int)):Nat->Int->(List UInt8)->Int->Int->(List M.af)->Option ((List UInt8)×Int×Int×(List M.af))
 |0,_,_,_,_,_=>none
 |fuel+1,i,o,o2,o3,Fg=>
 bif((decide (i<((List.length ts):Int)))&&(o3==(0:Int)))then
 bif((Option.isSome (bw (M.aa.re (List.getD ts (Int.toNat i) M.aa.zero)) (M.ae.re (List.getD vs (Int.toNat i) M.ae.zero)) (Go.IntKind.wrap Go.IntKind.i64 (at_+(List.getD places (Int.toNat i) (0:Int)))) o o2 o3 Fg))&&((Go.V.inB i (List.length places))&&((Go.V.inB i (List.length vs))&&((Go.V.inB i (List.length ts))&&true))))then
 let q0:=(Option.getD (bw (M.aa.re (List.getD ts (Int.toNat i) M.aa.zero)) (M.ae.re (List.getD vs (Int.toNat i) M.ae.zero)) (Go.IntKind.wrap Go.IntKind.i64 (at_+(List.getD places (Int.toNat i) (0:Int)))) o o2 o3 Fg) default)
 let q1:=q0.2
 let q2:=q1.2
 M.mC bw ts vs at_ places fuel (Go.IntKind.wrap Go.IntKind.i64 (i+(1:Int))) q0.1 q1.1 q2.1 q2.2
 else
 none
 else
 some ((o,o2,o3,Fg))
def xd(bw:M.aa->M.ae->Int->(List UInt8)->Int->Int->(List M.af)->Option ((List UInt8)×Int×Int×(List M.af)))(ts:(List M.aa))(vs:(List M.ae))(at_:Int)(o:(List UInt8))(o2:Int)(o3:Int)(o1:(List M.af)):Option ((List UInt8)×Int×Int×(List M.af)):=
 let q0:=(M.nS M.iv ts)
 match(M.mC bw ts vs at_ (Option.getD q0 default).1 Go.V.ai (0:Int) o o2 o3 o1)with
 |none=>none
 |some y1=>
 bif((Option.isSome q0)&&true)then
 some (y1.1,y1.2.1,y1.2.2.1,y1.2.2.2)
 else
 none
def uD(t:M.aa):Option (Int):=
 let q0:=(M.mq (M.aa.re t))
 let q1:=(M.pS M.iv (Option.getD q0 default))
 let q2:=(M.jf (1:Int) (Option.getD q1 default).2)
 bif((Option.isSome q2)&&((Option.isSome q1)&&((Option.isSome q0)&&true)))then
 some (Option.getD q2 default)
 else
 none
def xe(bw:M.aa->M.ae->Int->(List UInt8)->Int->Int->(List M.af)->Option ((List UInt8)×Int×Int×(List M.af)))(t:M.aa)(v:M.ae)(at_:Int)(o:(List UInt8))(o2:Int)(o3:Int)(o1:(List M.af)):Option ((List UInt8)×Int×Int×(List M.af)):=
 bif((M.aa.Kind t)==(1:Int))then
 some (o,o2,o3,o1)
 else
 bif(bif((M.aa.Kind t)==(11:Int))then((M.aa.Kind t)==(11:Int))else((M.aa.Kind t)==(12:Int)))then
 let q0:=(M.uC bw (M.aa.re t) (M.ae.re v) o o2 o3 o1)
 let q1:=(Option.getD q0 default)
 let q2:=q1.2
 let q3:=q2.2
 let q4:=q3.2
 let q5:=q4.2
 let q6:=q5.1
 bif(q6==(0:Int))then
 let q7:=q3.1
 let q8:=q4.1
 let q9:=q5.2
 let q10:=(M.ln at_ q1.1 (4:Int) q7 q8 q6 q9)
 let q11:=(Option.getD q10 default)
 let q12:=q11.2
 let q13:=q12.2
 let eA:=(M.ln (Go.IntKind.wrap Go.IntKind.i64 (at_+(4:Int))) q2.1 (4:Int) q11.1 q12.1 q13.1 q13.2)
 let cB:=((Option.isSome q0)&&true)
 bif((Option.isSome eA)&&((Option.isSome q10)&&cB))then
 let q16:=(Option.getD eA default)
 let mP:=q16.2
 let xr:=mP.2
 some (q16.1,mP.1,xr.1,xr.2)
 else
 none
 else
 let q7:=((Option.isSome q0)&&true)
 bif q7 then
 let q8:=q3.1
 let q9:=q4.1
 let q10:=q5.2
 some (q8,q9,q6,q10)
 else
 none
 else
 bif(bif((M.aa.Kind t)==(15:Int))then((M.aa.Kind t)==(15:Int))else((M.aa.Kind t)==(16:Int)))then
 let q0:=(M.xd bw (M.aa.Kids t) (M.ae.Kids v) at_ o o2 o3 o1)
 bif((Option.isSome q0)&&true)then
 let q1:=(Option.getD q0 default)
 let q2:=q1.2
 let q3:=q2.2
 some (q1.1,q2.1,q3.1,q3.2)
 else
 none
 else
 bif(bif((M.aa.Kind t)==(13:Int))then((M.aa.Kind t)==(13:Int))else(bif((M.aa.Kind t)==(14:Int))then((M.aa.Kind t)==(14:Int))else((M.aa.Kind t)==(17:Int))))then
 bif(decide ((0:Int)<((List.length (M.ae.Kids v)):Int)))then
 let q0:=(M.mq (M.aa.re t))
 let q1:=(M.uD (M.aa.re t))
 let q2:=(M.ln at_ (M.ae.Num v) (1:Int) o o2 o3 o1)
 let q3:=(Option.getD q2 default)
 let q4:=q3.1
 let q5:=q3.2
 let q6:=q5.1
 let q7:=q5.2
 let q8:=q7.1
 let q9:=q7.2
 let q10:=((Option.isSome q2)&&true)
 bif((Option.isSome (bw (M.aa.re (List.getD (Option.getD q0 default) (Int.toNat (M.ae.Num v)) M.aa.zero)) (M.ae.re (List.getD (M.ae.Kids v) (Int.toNat (0:Int)) M.ae.zero)) (Go.IntKind.wrap Go.IntKind.i64 (at_+(Option.getD q1 default))) q4 q6 q8 q9))&&((Option.isSome q1)&&((Go.V.inB (0:Int) (List.length (M.ae.Kids v)))&&((Go.V.inB (M.ae.Num v) (List.length (Option.getD q0 default)))&&((Option.isSome q0)&&q10)))))then
 let q11:=(Option.getD (bw (M.aa.re (List.getD (Option.getD q0 default) (Int.toNat (M.ae.Num v)) M.aa.zero)) (M.ae.re (List.getD (M.ae.Kids v) (Int.toNat (0:Int)) M.ae.zero)) (Go.IntKind.wrap Go.IntKind.i64 (at_+(Option.getD q1 default))) q4 q6 q8 q9) default)
 let q12:=q11.2
 let q13:=q12.2
 some (q11.1,q12.1,q13.1,q13.2)
 else
 none
 else
 let q0:=(M.ln at_ (M.ae.Num v) (1:Int) o o2 o3 o1)
 let q1:=((Option.isSome q0)&&true)
 bif q1 then
 let q2:=(Option.getD q0 default)
 let q3:=q2.1
 let q4:=q2.2
 let q5:=q4.1
 let q6:=q4.2
 let q7:=q6.1
 let q8:=q6.2
 some (q3,q5,q7,q8)
 else
 none
 else
 let q0:=(M.iv (M.aa.re t))
 let q1:=(M.ln at_ (M.ae.Num v) (Option.getD q0 default).1 o o2 o3 o1)
 bif((Option.isSome q1)&&((Option.isSome q0)&&true))then
 let q2:=(Option.getD q1 default)
 let q3:=q2.2
 let q4:=q3.2
 some (q2.1,q3.1,q4.1,q4.2)
 else
 none
def pV:Nat->M.aa->M.ae->Int->(List UInt8)->Int->Int->(List M.af)->Option ((List UInt8)×Int×Int×(List M.af))
 |0=>fun _ _ _ _ _ _ _=>none
 |n+1=>xe (pV n)
def Ag:M.aa->M.ae->Int->(List UInt8)->Int->Int->(List M.af)->Option ((List UInt8)×Int×Int×(List M.af)):=pV Go.V.ai
def rK(m:M.ax)(enc:Int)(t:M.aa)(v:M.ae)(at_:Int):Option (M.ax×Int):=
 let q0:=(M.uu m enc)
 let q1:=(M.pN (M.ae.re v) (M.aa.re t))
 bif((!(Option.getD q0 default))||(!(Option.getD q1 default)))then
 let q2:=(((Option.isSome q1)||(!((!(Option.getD q0 default))==false)))&&((Option.isSome q0)&&true))
 bif q2 then
 some ((M.ax.mk [] []),(1:Int))
 else
 none
 else
 let q2:=(M.iv (M.aa.re t))
 let q3:=((Int.tmod at_ (Option.getD q2 default).2) !=(0:Int))
 let q4:=(M.mw m at_ (Option.getD q2 default).1)
 bif(q3||(!(Option.getD q4 default)))then
 let q5:=(((Option.isSome q1)||(!((!(Option.getD q0 default))==false)))&&((Option.isSome q0)&&true))
 let q6:=(((Option.isSome q4)||(!(q3==false)))&&(((Option.getD q2 default).2 !=(0:Int))&&((Option.isSome q2)&&q5)))
 bif q6 then
 some ((M.ax.mk [] []),(10:Int))
 else
 none
 else
 let q5:=(M.jW m)
 let q6:=(M.Ag (M.aa.re t) (M.ae.re v) at_ (Option.getD q5 default).1 enc (0:Int) (Option.getD q5 default).2)
 let q7:=(Option.getD q6 default)
 let q8:=q7.2.2
 let q9:=q8.1
 bif(q9 !=(0:Int))then
 let q10:=(((Option.isSome q1)||(!((!(Option.getD q0 default))==false)))&&((Option.isSome q0)&&true))
 let q11:=(((Option.isSome q4)||(!(q3==false)))&&(((Option.getD q2 default).2 !=(0:Int))&&((Option.isSome q2)&&q10)))
 let q12:=((Option.isSome q6)&&((Option.isSome q5)&&q11))
 bif q12 then
 some ((M.ax.mk [] []),q9)
 else
 none
 else
 let q10:=(((Option.isSome q1)||(!((!(Option.getD q0 default))==false)))&&((Option.isSome q0)&&true))
 let q11:=(((Option.isSome q4)||(!(q3==false)))&&(((Option.getD q2 default).2 !=(0:Int))&&((Option.isSome q2)&&q10)))
 let q12:=((Option.isSome q6)&&((Option.isSome q5)&&q11))
 bif q12 then
 some ((M.ax.mk q7.1 q8.2),(0:Int))
 else
 none
def xg(s:(List UInt8)):Option (Int):=
 some ((List.length s):Int)
def mD(end_:Int)(t8:(List M.af))(t9:Int):Nat->Int->Int->Option ((Bool)⊕(Unit))
 |0,_,_=>none
 |fuel+1,last,t10=>
 bif(decide (t10<t9))then
 bif((((decide ((M.af.Size (List.getD t8 (Int.toNat t10) M.af.zero))<=(0:Int)))||(decide ((M.af.At (List.getD t8 (Int.toNat t10) M.af.zero))<=last)))||(decide (end_<(M.af.At (List.getD t8 (Int.toNat t10) M.af.zero)))))||(decide ((Go.IntKind.wrap Go.IntKind.i64 (end_-(M.af.At (List.getD t8 (Int.toNat t10) M.af.zero))))<(M.af.Size (List.getD t8 (Int.toNat t10) M.af.zero)))))then
 bif((Go.V.inB t10 (List.length t8))&&true)then
 some (.inl false)
 else
 none
 else
 bif((Go.V.inB t10 (List.length t8))&&true)then
 M.mD end_ t8 t9 fuel (Go.IntKind.wrap Go.IntKind.i64 ((M.af.At (List.getD t8 (Int.toNat t10) M.af.zero))+(M.af.Size (List.getD t8 (Int.toNat t10) M.af.zero)))) (Go.IntKind.wrap Go.IntKind.i64 (t10+(1:Int)))
 else
 none
 else
 some ((.inr (())))
def uE(free:(List M.af))(end_:Int):Option (Bool):=
 match(M.mD end_ free ((List.length free):Int) Go.V.ai (7:Int) (0:Int))with
 |none=>none
 |some y0=>
 (match y0 with
 |.inl a1=>
 some a1
 |.inr b1=>
 some true)
def uF(m:M.ax):Option (Bool):=
 let q0:=(M.uE (M.ax.Free m) ((List.length (M.ax.Bytes m)):Int))
 bif(((Option.isSome q0)||(!((decide (((List.length (M.ax.Bytes m)):Int)<=(4096:Int)))==true)))&&true)then
 some ((decide (((List.length (M.ax.Bytes m)):Int)<=(4096:Int)))&&(Option.getD q0 default))
 else
 none
def Et(enc:Int):Option (Bool):=
 some ((decide ((1:Int)<=enc))&&(decide (enc<=(3:Int))))
def uG(t:M.aa):Option (Bool):=
 let q0:=(M.ub (M.aa.re t))
 bif((Option.isSome q0)&&true)then
 some (!(Option.getD q0 default))
 else
 none
def rL(s:(List M.aa))(t7:Int):Nat->Int->Option ((Int)⊕(Unit))
 |0,_=>none
 |fuel+1,t8=>
 bif(decide (t8<t7))then
 let q0:=(M.uG (M.aa.re (List.getD s (Int.toNat t8) M.aa.zero)))
 bif(Option.getD q0 default)then
 let q1:=((Option.isSome q0)&&((Go.V.inB t8 (List.length s))&&true))
 bif q1 then
 some (.inl t8)
 else
 none
 else
 let q1:=((Option.isSome q0)&&((Go.V.inB t8 (List.length s))&&true))
 bif q1 then
 M.rL s t7 fuel (Go.IntKind.wrap Go.IntKind.i64 (t8+(1:Int)))
 else
 none
 else
 some ((.inr (())))
def xh(s:(List M.aa)):Option (Int):=
 match(M.rL s ((List.length s):Int) Go.V.ai (0:Int))with
 |none=>none
 |some y0=>
 (match y0 with
 |.inl a1=>
 some a1
 |.inr b1=>
 some (-(1:Int)))
def uH(s:(List M.aa)):Option (Bool):=
 let q0:=(M.xh s)
 bif((Option.isSome q0)&&true)then
 some (decide ((0:Int)<=(Option.getD q0 default)))
 else
 none
def uI(list:(List M.aa)):Option (Bool):=
 let q0:=(M.uH list)
 bif(((Option.isSome q0)||(!((decide (((List.length list):Int)<=(24:Int)))==true)))&&true)then
 some ((decide (((List.length list):Int)<=(24:Int)))&&(!(Option.getD q0 default)))
 else
 none
def uJ(m:M.ax)(enc:Int)(list:(List M.aa)):Option (Bool):=
 let q0:=(M.uI list)
 let q1:=(M.uF m)
 let q2:=(((Option.getD q1 default)&&((decide ((1:Int)<=enc))&&(decide (enc<=(3:Int)))))&&(decide (((List.length list):Int)<=(6:Int))))
 bif(((Option.isSome q0)||(!(q2==true)))&&((Option.isSome q1)&&true))then
 some (q2&&(Option.getD q0 default))
 else
 none
def uK(m:M.ax):Option ((List UInt8)×(List M.af)):=
 let q0:=(M.lp (M.ax.Free m))
 bif((Option.isSome q0)&&((decide ((List.length (M.ax.Bytes m))<=1073741824))&&true))then
 some ((List.map (fun a=>a) (M.ax.Bytes m)),(Option.getD q0 default))
 else
 none
def pW(t:M.aa):Option (Int):=
 some (Go.IntKind.wrap Go.IntKind.i64 (Int.tdiv (Go.IntKind.wrap Go.IntKind.i64 (((List.length (M.aa.bm t)):Int)+(7:Int))) (8:Int)))
def mE(cT:M.aa->Option (Int))(t6:(List M.aa))(t7:Int):Nat->Int->Int->Option (Int)
 |0,_,_=>none
 |fuel+1,greatest,t8=>
 bif(decide (t8<t7))then
 bif((Option.isSome (cT (M.aa.re (List.getD t6 (Int.toNat t8) M.aa.zero))))&&((Go.V.inB t8 (List.length t6))&&true))then
 let q0:=(Option.getD (cT (M.aa.re (List.getD t6 (Int.toNat t8) M.aa.zero))) default)
 M.mE cT t6 t7 fuel (bif(decide (greatest<q0))then q0 else greatest) (Go.IntKind.wrap Go.IntKind.i64 (t8+(1:Int)))
 else
 none
 else
 some (greatest)
def jX(cT:M.aa->Option (Int))(list:(List M.aa)):Option (Int):=
 match(M.mE cT list ((List.length list):Int) Go.V.ai (1:Int) (0:Int))with
 |none=>none
 |some y0=>
 some y0
def mG(t:M.aa):Option ((List M.aa)):=
 bif((M.aa.Kind t)==(13:Int))then
 bif((Go.V.inB (0:Int) (List.length (M.aa.Kids t)))&&true)then
 some [(M.aa.mk (1:Int) [] [] []),(M.aa.re (List.getD (M.aa.Kids t) (Int.toNat (0:Int)) M.aa.zero))]
 else
 none
 else
 bif(bif((M.aa.Kind t)==(14:Int))then((M.aa.Kind t)==(14:Int))else((M.aa.Kind t)==(17:Int)))then
 some (M.aa.Kids t)
 else
 some []
def rM(kind:Int):Option (Int):=
 bif(bif(kind==(2:Int))then(kind==(2:Int))else(bif(kind==(3:Int))then(kind==(3:Int))else(kind==(4:Int))))then
 some (1:Int)
 else
 bif(bif(kind==(5:Int))then(kind==(5:Int))else(kind==(6:Int)))then
 some (2:Int)
 else
 bif(bif(kind==(7:Int))then(kind==(7:Int))else(bif(kind==(8:Int))then(kind==(8:Int))else(bif(kind==(10:Int))then(kind==(10:Int))else(bif(kind==(20:Int))then(kind==(20:Int))else(bif(kind==(21:Int))then(kind==(21:Int))else(bif(kind==(22:Int))then(kind==(22:Int))else(kind==(23:Int))))))))then
 some (4:Int)
 else
 bif(kind==(9:Int))then
 some (8:Int)
 else
 some (0:Int)
def xk(cT:M.aa->Option (Int))(t:M.aa):Option (Int):=
 bif(bif((M.aa.Kind t)==(1:Int))then((M.aa.Kind t)==(1:Int))else((M.aa.Kind t)==(18:Int)))then
 some (1:Int)
 else
 bif(bif((M.aa.Kind t)==(11:Int))then((M.aa.Kind t)==(11:Int))else((M.aa.Kind t)==(12:Int)))then
 some (4:Int)
 else
 bif((M.aa.Kind t)==(19:Int))then
 some (Option.getD (M.pW (M.aa.re t)) default)
 else
 bif(bif((M.aa.Kind t)==(15:Int))then((M.aa.Kind t)==(15:Int))else((M.aa.Kind t)==(16:Int)))then
 let q0:=(M.jX cT (M.aa.Kids t))
 bif((Option.isSome q0)&&true)then
 some (Option.getD q0 default)
 else
 none
 else
 bif(bif((M.aa.Kind t)==(13:Int))then((M.aa.Kind t)==(13:Int))else(bif((M.aa.Kind t)==(14:Int))then((M.aa.Kind t)==(14:Int))else((M.aa.Kind t)==(17:Int))))then
 let q0:=(M.mG (M.aa.re t))
 let q1:=(M.jX cT (Option.getD q0 default))
 bif((Option.isSome q1)&&((Option.isSome q0)&&true))then
 some (Option.getD q1 default)
 else
 none
 else
 let q0:=(M.rM (M.aa.Kind t))
 bif((Option.isSome q0)&&true)then
 some (Option.getD q0 default)
 else
 none
def nV:Nat->M.aa->Option (Int)
 |0=>fun _=>none
 |n+1=>xk (nV n)
def gC:M.aa->Option (Int):=nV Go.V.ai
def iO(x:Int)(a:Int):Option (Int):=
 bif((a !=(0:Int))&&true)then
 some (Go.IntKind.wrap Go.IntKind.i64 ((Go.IntKind.wrap Go.IntKind.i64 (Int.tdiv (Go.IntKind.wrap Go.IntKind.i64 ((Go.IntKind.wrap Go.IntKind.i64 (x+a))-(1:Int))) a))*a))
 else
 none
def mH(bB:M.aa->Option (Int))(t10:(List M.aa))(t11:Int):Nat->Int->Int->(List Int)->Option (Int×(List Int))
 |0,_,_,_=>none
 |fuel+1,end_,t12,offsets=>
 bif(decide (t12<t11))then
 let q0:=(M.gC (M.aa.re (List.getD t10 (Int.toNat t12) M.aa.zero)))
 let q1:=(M.iO end_ (Option.getD q0 default))
 let q2:=(Option.getD q1 default)
 let q3:=[q2]
 bif((Option.isSome (bB (M.aa.re (List.getD t10 (Int.toNat t12) M.aa.zero))))&&((decide (((List.length offsets)+(List.length q3))<=1073741824))&&((Option.isSome q1)&&((Option.isSome q0)&&((Go.V.inB t12 (List.length t10))&&true)))))then
 M.mH bB t10 t11 fuel (Go.IntKind.wrap Go.IntKind.i64 (q2+(Option.getD (bB (M.aa.re (List.getD t10 (Int.toNat t12) M.aa.zero))) default))) (Go.IntKind.wrap Go.IntKind.i64 (t12+(1:Int))) (offsets++q3)
 else
 none
 else
 some ((end_,offsets))
def pX(bB:M.aa->Option (Int))(list:(List M.aa)):Option ((List Int)×Int):=
 match(M.mH bB list ((List.length list):Int) Go.V.ai (0:Int) (0:Int) [])with
 |none=>none
 |some y0=>
 some (y0.2,y0.1)
def rO(bB:M.aa->Option (Int))(list:(List M.aa)):Option (Int):=
 let q0:=(M.pX bB list)
 let q1:=(M.jX M.gC list)
 let q2:=(M.iO (Option.getD q0 default).2 (Option.getD q1 default))
 bif((Option.isSome q2)&&((Option.isSome q1)&&((Option.isSome q0)&&true)))then
 some (Option.getD q2 default)
 else
 none
def nW(t:M.aa):Option (Int):=
 let q0:=(M.mG (M.aa.re t))
 let q1:=(M.jX M.gC (Option.getD q0 default))
 let q2:=(M.iO (1:Int) (Option.getD q1 default))
 bif((Option.isSome q2)&&((Option.isSome q1)&&((Option.isSome q0)&&true)))then
 some (Option.getD q2 default)
 else
 none
def mI(bB:M.aa->Option (Int))(t6:(List M.aa))(t7:Int):Nat->Int->Int->Option (Int)
 |0,_,_=>none
 |fuel+1,greatest,t8=>
 bif(decide (t8<t7))then
 bif((Option.isSome (bB (M.aa.re (List.getD t6 (Int.toNat t8) M.aa.zero))))&&((Go.V.inB t8 (List.length t6))&&true))then
 let q0:=(Option.getD (bB (M.aa.re (List.getD t6 (Int.toNat t8) M.aa.zero))) default)
 M.mI bB t6 t7 fuel (bif(decide (greatest<q0))then q0 else greatest) (Go.IntKind.wrap Go.IntKind.i64 (t8+(1:Int)))
 else
 none
 else
 some (greatest)
def pY(bB:M.aa->Option (Int))(list:(List M.aa)):Option (Int):=
 match(M.mI bB list ((List.length list):Int) Go.V.ai (0:Int) (0:Int))with
 |none=>none
 |some y0=>
 some y0
def xm(bB:M.aa->Option (Int))(t:M.aa):Option (Int):=
 bif((M.aa.Kind t)==(1:Int))then
 some (0:Int)
 else
 bif((M.aa.Kind t)==(18:Int))then
 some (1:Int)
 else
 bif(bif((M.aa.Kind t)==(11:Int))then((M.aa.Kind t)==(11:Int))else((M.aa.Kind t)==(12:Int)))then
 some (8:Int)
 else
 bif((M.aa.Kind t)==(19:Int))then
 some (Option.getD (M.pW (M.aa.re t)) default)
 else
 bif(bif((M.aa.Kind t)==(15:Int))then((M.aa.Kind t)==(15:Int))else((M.aa.Kind t)==(16:Int)))then
 let q0:=(M.rO bB (M.aa.Kids t))
 bif((Option.isSome q0)&&true)then
 some (Option.getD q0 default)
 else
 none
 else
 bif(bif((M.aa.Kind t)==(13:Int))then((M.aa.Kind t)==(13:Int))else(bif((M.aa.Kind t)==(14:Int))then((M.aa.Kind t)==(14:Int))else((M.aa.Kind t)==(17:Int))))then
 let q0:=(M.nW (M.aa.re t))
 let q1:=(M.mG (M.aa.re t))
 let q2:=(M.pY bB (Option.getD q1 default))
 let q3:=(M.gC (M.aa.re t))
 let q4:=(M.iO (Go.IntKind.wrap Go.IntKind.i64 ((Option.getD q0 default)+(Option.getD q2 default))) (Option.getD q3 default))
 bif((Option.isSome q4)&&((Option.isSome q3)&&((Option.isSome q2)&&((Option.isSome q1)&&((Option.isSome q0)&&true)))))then
 some (Option.getD q4 default)
 else
 none
 else
 let q0:=(M.rM (M.aa.Kind t))
 bif((Option.isSome q0)&&true)then
 some (Option.getD q0 default)
 else
 none
def mJ:Nat->M.aa->Option (Int)
 |0=>fun _=>none
 |n+1=>xm (mJ n)
def jY:M.aa->Option (Int):=mJ Go.V.ai
def EH(list:(List UInt8)):Option (Int):=
 some ((List.length list):Int)
def mK(s:M.eQ)(at_:Int)(n:Int):Option (Bool):=
 some ((((decide ((0:Int)<=at_))&&(decide ((0:Int)<=n)))&&(decide (at_<=((List.length (M.eQ.bytes s)):Int))))&&(decide (n<=(Go.IntKind.wrap Go.IntKind.i64 (((List.length (M.eQ.bytes s)):Int)-at_)))))
def uM(s:M.eQ)(t:M.aa)(at_:Int):Option (Bool):=
 let q0:=(M.jY (M.aa.re t))
 let q1:=(M.mK s at_ (Option.getD q0 default))
 let q2:=(M.gC (M.aa.re t))
 let q3:=((Int.tmod at_ (Option.getD q2 default))==(0:Int))
 let q4:=(!(q3==true))
 bif(((Option.isSome q1)||q4)&&(((Option.isSome q0)||q4)&&(((Option.getD q2 default) !=(0:Int))&&((Option.isSome q2)&&true))))then
 some (q3&&(Option.getD q1 default))
 else
 none
def mL(t7:Int):Nat->Int->Int->(List UInt8)->Option ((List UInt8))
 |0,_,_,_=>none
 |fuel+1,n,t8,b=>
 bif(decide (t8<t7))then
 let q0:=[(Go.V.dO (Go.IntKind.wrap Go.IntKind.u8 n))]
 bif((decide (((List.length b)+(List.length q0))<=1073741824))&&(((Go.V.eS (Go.IntKind.wrap Go.IntKind.u8 n))&&true)&&true))then
 M.mL t7 fuel (Go.V.ft Go.IntKind.i64 n (8:Int)) (Go.IntKind.wrap Go.IntKind.i64 (t8+(1:Int))) (b++q0)
 else
 none
 else
 some (b)
def iw(n:Int)(many:Int):Option ((List UInt8)):=
 match(M.mL many Go.V.ai n (0:Int) [])with
 |none=>none
 |some y0=>
 some (List.map (fun a=>a) y0)
def uN(n:Int):Option ((List UInt8)):=
 bif(decide (n<(65536:Int)))then
 let q0:=(M.iw n (2:Int))
 bif((Option.isSome q0)&&true)then
 some (Option.getD q0 default)
 else
 none
 else
 let q0:=(M.iw (Go.IntKind.wrap Go.IntKind.i64 ((55296:Int)+(Go.V.ft Go.IntKind.i64 (Go.IntKind.wrap Go.IntKind.i64 (n-(65536:Int))) (10:Int)))) (2:Int))
 let q1:=(Option.getD q0 default)
 let q2:=(M.iw (Go.IntKind.wrap Go.IntKind.i64 ((56320:Int)+(Go.V.dR Go.BinOp.and Go.IntKind.i64 (Go.IntKind.wrap Go.IntKind.i64 (n-(65536:Int))) (1023:Int)))) (2:Int))
 let q3:=(Option.getD q2 default)
 bif((Go.V.dS q1 q3)&&((Option.isSome q2)&&((Option.isSome q0)&&true)))then
 some (q1++q3)
 else
 none
def lq(enc:Int)(t14:Int)(t13:(List Int)):Nat->(List UInt8)->Int->Option (((List UInt8)×Int)⊕((List UInt8)))
 |0,_,_=>none
 |fuel+1,bytes,t15=>
 bif(decide (t15<t14))then
 bif(enc==(2:Int))then
 let q0:=(M.uN (List.getD t13 (Int.toNat t15) (0:Int)))
 let q1:=(Option.getD q0 default)
 bif((Go.V.dS bytes q1)&&((Option.isSome q0)&&((Go.V.inB t15 (List.length t13))&&true)))then
 M.lq enc t14 t13 fuel (bytes++q1) (Go.IntKind.wrap Go.IntKind.i64 (t15+(1:Int)))
 else
 none
 else
 bif(decide ((List.getD t13 (Int.toNat t15) (0:Int))<(256:Int)))then
 let q0:=(M.iw (List.getD t13 (Int.toNat t15) (0:Int)) (1:Int))
 let q1:=(Option.getD q0 default)
 bif((Go.V.dS bytes q1)&&((Option.isSome q0)&&((Go.V.inB t15 (List.length t13))&&true)))then
 M.lq enc t14 t13 fuel (bytes++q1) (Go.IntKind.wrap Go.IntKind.i64 (t15+(1:Int)))
 else
 none
 else
 bif((Go.V.inB t15 (List.length t13))&&true)then
 some (.inl ([],(19:Int)))
 else
 none
 else
 some ((.inr (bytes)))
def uO(enc:Int)(s:(List UInt8)):Option ((List UInt8)×Int):=
 bif(enc==(1:Int))then
 some (s,(0:Int))
 else
 let q0:=(M.pZ s)
 match(M.lq enc ((List.length (Option.getD q0 default)):Int) (Option.getD q0 default) Go.V.ai [] (0:Int))with
 |none=>none
 |some y1=>
 (match y1 with
 |.inl a2=>
 bif((Option.isSome q0)&&true)then
 some (a2.1,a2.2)
 else
 none
 |.inr b2=>
 bif((Option.isSome q0)&&true)then
 some (b2,(0:Int))
 else
 none)
def rP(enc:Int):Option (Int):=
 bif(enc==(2:Int))then
 some (2:Int)
 else
 some (1:Int)
def nX(slices:(List (List M.af)))(t9:(List (List M.af)))(t10:Int):Nat->Int->Int->Option ((List (List M.af))×Int)
 |0,_,_=>none
 |fuel+1,size,t11=>
 bif(decide (t11<t10))then
 let q0:=(Go.IntKind.wrap Go.IntKind.i64 (size+((List.length (List.getD t9 (Int.toNat t11) [])):Int)))
 bif(decide (q0<(0:Int)))then
 none
 else
 bif((Go.V.inB t11 (List.length t9))&&true)then
 M.nX slices t9 t10 fuel q0 (Go.IntKind.wrap Go.IntKind.i64 (t11+(1:Int)))
 else
 none
 else
 some ((slices,size))
def nY(t25:(List (List M.af)))(t26:Int):Nat->Int->(List M.af)->Option ((List M.af))
 |0,_,_=>none
 |fuel+1,t27,Fh=>
 bif(decide (t27<t26))then
 bif((decide (((List.length Fh)+(List.length (List.getD t25 (Int.toNat t27) [])))<=1073741824))&&((Go.V.inB t27 (List.length t25))&&true))then
 M.nY t25 t26 fuel (Go.IntKind.wrap Go.IntKind.i64 (t27+(1:Int))) (Fh++(List.getD t25 (Int.toNat t27) []))
 else
 none
 else
 some (Fh)
def nZ(slices:(List (List M.af))):Option ((List M.af)):=
 match(M.nX slices slices ((List.length slices):Int) Go.V.ai (0:Int) (0:Int))with
 |none=>none
 |some y0=>
 let q1:=(M.qa y0.2)
 match(M.nY y0.1 ((List.length y0.1):Int) Go.V.ai (0:Int) (Option.getD q1 default))with
 |none=>none
 |some y2=>
 bif((Option.isSome q1)&&true)then
 some y2
 else
 none
def mM(many:Int)(alignment:Int)(t20:Int)(t19:(List M.af))(o4:(List UInt8)):Nat->Int->Option ((Int×Int×(List UInt8)×(List M.af))⊕((List UInt8)×(List M.af)))
 |0,_=>none
 |fuel+1,t21=>
 bif(decide (t21<t20))then
 let q0:=(Go.IntKind.wrap Go.IntKind.i64 ((M.af.At (List.getD t19 (Int.toNat t21) M.af.zero))+(M.af.Size (List.getD t19 (Int.toNat t21) M.af.zero))))
 let q1:=(M.iO (M.af.At (List.getD t19 (Int.toNat t21) M.af.zero)) alignment)
 let q2:=(Option.getD q1 default)
 bif(decide ((Go.IntKind.wrap Go.IntKind.i64 (q0-q2))<many))then
 let q3:=((Option.isSome q1)&&((Go.V.inB t21 (List.length t19))&&true))
 bif q3 then
 M.mM many alignment t20 t19 o4 fuel (Go.IntKind.wrap Go.IntKind.i64 (t21+(1:Int)))
 else
 none
 else
 bif(decide ((M.af.At (List.getD t19 (Int.toNat t21) M.af.zero))<q2))then
 let q3:=(Go.IntKind.wrap Go.IntKind.i64 (q2+many))
 bif(decide (q3<q0))then
 let q4:=([]++[(M.af.mk (M.af.At (List.getD t19 (Int.toNat t21) M.af.zero)) (Go.IntKind.wrap Go.IntKind.i64 (q2-(M.af.At (List.getD t19 (Int.toNat t21) M.af.zero)))))])
 let q5:=[(M.af.mk q3 (Go.IntKind.wrap Go.IntKind.i64 (q0-q3)))]
 let q6:=[(List.drop (Int.toNat (Go.IntKind.wrap Go.IntKind.i64 (t21+(1:Int)))) (List.take (Int.toNat ((List.length t19):Int)) t19))]
 let q7:=(M.nZ [(List.drop (Int.toNat (0:Int)) (List.take (Int.toNat t21) t19)),(q4++q5),(List.drop (Int.toNat (Go.IntKind.wrap Go.IntKind.i64 (t21+(1:Int)))) (List.take (Int.toNat ((List.length t19):Int)) t19))])
 let q8:=((Option.isSome q1)&&((Go.V.inB t21 (List.length t19))&&true))
 let q9:=((Go.V.bF (Go.IntKind.wrap Go.IntKind.i64 (t21+(1:Int))) ((List.length t19):Int) (List.length t19))&&((Go.V.bF (0:Int) t21 (List.length t19))&&q8))
 bif((Option.isSome q7)&&q9)then
 some (.inl (q2,(0:Int),o4,(Option.getD q7 default)))
 else
 none
 else
 let q4:=([]++[(M.af.mk (M.af.At (List.getD t19 (Int.toNat t21) M.af.zero)) (Go.IntKind.wrap Go.IntKind.i64 (q2-(M.af.At (List.getD t19 (Int.toNat t21) M.af.zero)))))])
 let q5:=[(List.drop (Int.toNat (Go.IntKind.wrap Go.IntKind.i64 (t21+(1:Int)))) (List.take (Int.toNat ((List.length t19):Int)) t19))]
 let q6:=(M.nZ [(List.drop (Int.toNat (0:Int)) (List.take (Int.toNat t21) t19)),q4,(List.drop (Int.toNat (Go.IntKind.wrap Go.IntKind.i64 (t21+(1:Int)))) (List.take (Int.toNat ((List.length t19):Int)) t19))])
 let q7:=((Option.isSome q1)&&((Go.V.inB t21 (List.length t19))&&true))
 let q8:=((Go.V.bF (Go.IntKind.wrap Go.IntKind.i64 (t21+(1:Int))) ((List.length t19):Int) (List.length t19))&&((Go.V.bF (0:Int) t21 (List.length t19))&&q7))
 bif((Option.isSome q6)&&q8)then
 some (.inl (q2,(0:Int),o4,(Option.getD q6 default)))
 else
 none
 else
 let q3:=(Go.IntKind.wrap Go.IntKind.i64 (q2+many))
 bif(decide (q3<q0))then
 let q4:=[(M.af.mk q3 (Go.IntKind.wrap Go.IntKind.i64 (q0-q3)))]
 let q5:=[(List.drop (Int.toNat (Go.IntKind.wrap Go.IntKind.i64 (t21+(1:Int)))) (List.take (Int.toNat ((List.length t19):Int)) t19))]
 let q6:=(M.nZ [(List.drop (Int.toNat (0:Int)) (List.take (Int.toNat t21) t19)),([]++q4),(List.drop (Int.toNat (Go.IntKind.wrap Go.IntKind.i64 (t21+(1:Int)))) (List.take (Int.toNat ((List.length t19):Int)) t19))])
 let q7:=((Option.isSome q1)&&((Go.V.inB t21 (List.length t19))&&true))
 let q8:=((Go.V.bF (Go.IntKind.wrap Go.IntKind.i64 (t21+(1:Int))) ((List.length t19):Int) (List.length t19))&&((Go.V.bF (0:Int) t21 (List.length t19))&&q7))
 bif((Option.isSome q6)&&q8)then
 some (.inl (q2,(0:Int),o4,(Option.getD q6 default)))
 else
 none
 else
 let q4:=[(List.drop (Int.toNat (Go.IntKind.wrap Go.IntKind.i64 (t21+(1:Int)))) (List.take (Int.toNat ((List.length t19):Int)) t19))]
 let q5:=(M.nZ [(List.drop (Int.toNat (0:Int)) (List.take (Int.toNat t21) t19)),[],(List.drop (Int.toNat (Go.IntKind.wrap Go.IntKind.i64 (t21+(1:Int)))) (List.take (Int.toNat ((List.length t19):Int)) t19))])
 let q6:=((Option.isSome q1)&&((Go.V.inB t21 (List.length t19))&&true))
 let q7:=((Go.V.bF (Go.IntKind.wrap Go.IntKind.i64 (t21+(1:Int))) ((List.length t19):Int) (List.length t19))&&((Go.V.bF (0:Int) t21 (List.length t19))&&q6))
 bif((Option.isSome q5)&&q7)then
 some (.inl (q2,(0:Int),o4,(Option.getD q5 default)))
 else
 none
 else
 some ((.inr ((o4,t19))))
def uQ(many:Int)(alignment:Int)(o1:(List UInt8))(o2:(List M.af)):Option (Int×Int×(List UInt8)×(List M.af)):=
 bif(many==(0:Int))then
 some ((0:Int),(0:Int),o1,o2)
 else
 match(M.mM many alignment ((List.length o2):Int) o2 o1 Go.V.ai (0:Int))with
 |none=>none
 |some y0=>
 (match y0 with
 |.inl a1=>
 some (a1.1,a1.2.1,a1.2.2.1,a1.2.2.2)
 |.inr b1=>
 some ((0:Int),(4:Int),b1.1,b1.2))
def oa(many:Int)(alignment:Int)(x:Int)(x2:Int)(o2:(List UInt8))(o3:(List M.af)):Option (Int×Int×Int×(List UInt8)×(List M.af)):=
 bif(x2 !=(0:Int))then
 some ((0:Int),x,x2,o2,o3)
 else
 let q0:=(M.uQ many alignment o2 o3)
 bif((Option.isSome q0)&&true)then
 let q1:=(Option.getD q0 default)
 let q2:=q1.2
 let q3:=q2.2
 some (q1.1,x,q2.1,q3.1,q3.2)
 else
 none
def uR(at_:Int)(bytes:(List UInt8))(o1:(List UInt8))(o2:(List M.af)):Option (Bool×(List UInt8)×(List M.af)):=
 let q0:=(M.mK (M.eQ.mk o1 o2) at_ ((List.length bytes):Int))
 bif(!(Option.getD q0 default))then
 some (false,o1,o2)
 else
 bif(((decide ((Int.toNat ((List.length o1):Int))<=(List.length o1)))&&(decide ((List.length bytes)<=((Int.toNat ((List.length o1):Int))-(Int.toNat at_)))))&&((Go.V.bF at_ ((List.length o1):Int) (List.length o1))&&((Option.isSome q0)&&true)))then
 some (true,(((List.take (Int.toNat at_) o1)++(List.map (fun a=>a) bytes))++(List.drop ((Int.toNat at_)+(List.length bytes)) o1)),o2)
 else
 none
def jZ(at_:Int)(bytes:(List UInt8))(x:Int)(x2:Int)(o2:(List UInt8))(o3:(List M.af)):Option (Int×Int×(List UInt8)×(List M.af)):=
 bif(x2==(0:Int))then
 let q0:=(M.uR at_ bytes o2 o3)
 bif((Option.isSome q0)&&true)then
 let q1:=(Option.getD q0 default).2
 some (x,x2,q1.1,q1.2)
 else
 none
 else
 some (x,x2,o2,o3)
def iP(bX:M.aa->M.ae->Int->Int->Int->(List UInt8)->(List M.af)->Option (Int×Int×(List UInt8)×(List M.af)))(at_:Int)(t74:(List M.ae))(t75:Int):Nat->Int->Int->Int->M.ae->M.aa->(List UInt8)->(List M.af)->Option (Int×Int×Int×M.ae×(List UInt8)×(List M.af))
 |0,_,_,_,_,_,_,_=>none
 |fuel+1,t76,x,x2,v,kid,o6,o7=>
 bif(decide (t76<t75))then
 let q0:=(M.jY (M.aa.re kid))
 bif((Option.isSome (bX (M.aa.re kid) (M.ae.re (List.getD t74 (Int.toNat t76) M.ae.zero)) (Go.IntKind.wrap Go.IntKind.i64 (at_+(Go.IntKind.wrap Go.IntKind.i64 (t76*(Option.getD q0 default))))) x x2 o6 o7))&&((Option.isSome q0)&&((Go.V.inB t76 (List.length t74))&&true)))then
 let q1:=(Option.getD (bX (M.aa.re kid) (M.ae.re (List.getD t74 (Int.toNat t76) M.ae.zero)) (Go.IntKind.wrap Go.IntKind.i64 (at_+(Go.IntKind.wrap Go.IntKind.i64 (t76*(Option.getD q0 default))))) x x2 o6 o7) default)
 let q2:=q1.2
 let q3:=q2.2
 M.iP bX at_ t74 t75 fuel (Go.IntKind.wrap Go.IntKind.i64 (t76+(1:Int))) q1.1 q2.1 (M.ae.re v) (M.aa.re kid) q3.1 q3.2
 else
 none
 else
 some ((at_,x,x2,(M.ae.re v),o6,o7))
def uS(bX:M.aa->M.ae->Int->Int->Int->(List UInt8)->(List M.af)->Option (Int×Int×(List UInt8)×(List M.af)))(t:M.aa)(v:M.ae)(x:Int)(x2:Int)(o2:(List UInt8))(o3:(List M.af)):Option (Int×Int×Int×Int×(List UInt8)×(List M.af)):=
 bif(x2 !=(0:Int))then
 some ((0:Int),(0:Int),x,x2,o2,o3)
 else
 bif((M.aa.Kind t)==(11:Int))then
 let q0:=(M.uO x (M.ae.Text v))
 let q1:=(Option.getD q0 default).1
 let q2:=(M.rP x)
 let q3:=(M.oa ((List.length q1):Int) (Option.getD q2 default) x (Option.getD q0 default).2 o2 o3)
 let q4:=default
 let q5:=(Option.getD q3 q4)
 let q6:=q5.1
 let q7:=q5.2
 let q8:=q7.2
 let q9:=q8.2
 let q10:=(M.jZ q6 q1 q7.1 q8.1 q9.1 q9.2)
 let q11:=(Option.getD q10 default)
 let q12:=q11.1
 let q13:=(M.rP q12)
 let eA:=(Option.getD q13 default)
 bif((eA !=(0:Int))&&((Option.isSome q13)&&((Option.isSome q10)&&((Option.isSome q3)&&((Option.isSome q2)&&((Option.isSome q0)&&true))))))then
 let cB:=q11.2
 let q16:=cB.2
 some (q6,(Go.IntKind.wrap Go.IntKind.i64 (Int.tdiv ((List.length q1):Int) eA)),q12,cB.1,q16.1,q16.2)
 else
 none
 else
 let q0:=(M.jY (M.aa.re (List.getD (M.aa.Kids t) (Int.toNat (0:Int)) M.aa.zero)))
 let q1:=(M.gC (M.aa.re (List.getD (M.aa.Kids t) (Int.toNat (0:Int)) M.aa.zero)))
 let q2:=(M.oa (Go.IntKind.wrap Go.IntKind.i64 (((List.length (M.ae.Kids v)):Int)*(Option.getD q0 default))) (Option.getD q1 default) x x2 o2 o3)
 let q3:=default
 let q4:=(Option.getD q2 q3)
 let q5:=q4.2
 let q6:=q5.2
 let q7:=q6.2
 match(M.iP bX q4.1 (M.ae.Kids v) ((List.length (M.ae.Kids v)):Int) Go.V.ai (0:Int) q5.1 q6.1 (M.ae.re v) (M.aa.re (List.getD (M.aa.Kids t) (Int.toNat (0:Int)) M.aa.zero)) q7.1 q7.2)with
 |none=>none
 |some y8=>
 bif((Option.isSome q2)&&((Option.isSome q1)&&((Option.isSome q0)&&((Go.V.inB (0:Int) (List.length (M.aa.Kids t)))&&true))))then
 let q9:=y8.2
 let q10:=q9.2
 let q11:=q10.2
 let q12:=q11.2
 some (y8.1,((List.length (M.ae.Kids q11.1)):Int),q9.1,q10.1,q12.1,q12.2)
 else
 none
def mN(bX:M.aa->M.ae->Int->Int->Int->(List UInt8)->(List M.af)->Option (Int×Int×(List UInt8)×(List M.af)))(at_:Int)(offsets:(List Int))(t59:(List M.aa))(t60:Int):Nat->Int->Int->Int->M.ae->(List UInt8)->(List M.af)->Option (Int×Int×(List UInt8)×(List M.af))
 |0,_,_,_,_,_,_=>none
 |fuel+1,t61,x,x2,v,o5,o6=>
 bif(decide (t61<t60))then
 bif((Option.isSome (bX (M.aa.re (List.getD t59 (Int.toNat t61) M.aa.zero)) (M.ae.re (List.getD (M.ae.Kids v) (Int.toNat t61) M.ae.zero)) (Go.IntKind.wrap Go.IntKind.i64 (at_+(List.getD offsets (Int.toNat t61) (0:Int)))) x x2 o5 o6))&&((Go.V.inB t61 (List.length offsets))&&((Go.V.inB t61 (List.length (M.ae.Kids v)))&&((Go.V.inB t61 (List.length t59))&&true))))then
 let q0:=(Option.getD (bX (M.aa.re (List.getD t59 (Int.toNat t61) M.aa.zero)) (M.ae.re (List.getD (M.ae.Kids v) (Int.toNat t61) M.ae.zero)) (Go.IntKind.wrap Go.IntKind.i64 (at_+(List.getD offsets (Int.toNat t61) (0:Int)))) x x2 o5 o6) default)
 let q1:=q0.2
 let q2:=q1.2
 M.mN bX at_ offsets t59 t60 fuel (Go.IntKind.wrap Go.IntKind.i64 (t61+(1:Int))) q0.1 q1.1 (M.ae.re v) q2.1 q2.2
 else
 none
 else
 some ((x,x2,o5,o6))
def rQ(bX:M.aa->M.ae->Int->Int->Int->(List UInt8)->(List M.af)->Option (Int×Int×(List UInt8)×(List M.af)))(t:M.aa)(v:M.ae)(at_:Int)(x:Int)(x2:Int)(o2:(List UInt8))(o3:(List M.af)):Option (Int×Int×(List UInt8)×(List M.af)):=
 bif(x2 !=(0:Int))then
 some (x,x2,o2,o3)
 else
 bif(bif((M.aa.Kind t)==(11:Int))then((M.aa.Kind t)==(11:Int))else((M.aa.Kind t)==(12:Int)))then
 let q0:=(M.uS bX (M.aa.re t) (M.ae.re v) x x2 o2 o3)
 let q1:=(Option.getD q0 default)
 let q2:=(M.iw q1.1 (4:Int))
 let q3:=(Option.getD q2 default)
 let q4:=q1.2
 let q5:=(M.iw q4.1 (4:Int))
 let q6:=(Option.getD q5 default)
 let q7:=q4.2
 let q8:=q7.2
 let q9:=q8.2
 let q10:=(M.jZ at_ (q3++q6) q7.1 q8.1 q9.1 q9.2)
 bif((Option.isSome q10)&&((Go.V.dS q3 q6)&&((Option.isSome q5)&&((Option.isSome q2)&&((Option.isSome q0)&&true)))))then
 let q11:=default
 let q12:=(Option.getD q10 q11)
 let q13:=q12.2
 let eA:=q13.2
 some (q12.1,q13.1,eA.1,eA.2)
 else
 none
 else
 bif(bif((M.aa.Kind t)==(15:Int))then((M.aa.Kind t)==(15:Int))else((M.aa.Kind t)==(16:Int)))then
 let q0:=(M.pX M.jY (M.aa.Kids t))
 match(M.mN bX at_ (Option.getD q0 default).1 (M.aa.Kids t) ((List.length (M.aa.Kids t)):Int) Go.V.ai (0:Int) x x2 (M.ae.re v) o2 o3)with
 |none=>none
 |some y1=>
 bif((Option.isSome q0)&&true)then
 some (y1.1,y1.2.1,y1.2.2.1,y1.2.2.2)
 else
 none
 else
 bif(bif((M.aa.Kind t)==(13:Int))then((M.aa.Kind t)==(13:Int))else(bif((M.aa.Kind t)==(14:Int))then((M.aa.Kind t)==(14:Int))else((M.aa.Kind t)==(17:Int))))then
 bif(decide ((0:Int)<((List.length (M.ae.Kids v)):Int)))then
 let q0:=(M.k9 (M.aa.re t) (M.ae.Num v))
 let q1:=(M.nW (M.aa.re t))
 let q2:=(M.iw (M.ae.Num v) (1:Int))
 let q3:=(M.jZ at_ (Option.getD q2 default) x x2 o2 o3)
 let q4:=default
 let q5:=(Option.getD q3 q4)
 let q6:=q5.1
 let q7:=q5.2
 let q8:=q7.1
 let q9:=q7.2
 let q10:=q9.1
 let q11:=q9.2
 let q12:=((Option.isSome q3)&&((Option.isSome q2)&&true))
 bif((Option.isSome (bX (M.aa.re (Option.getD q0 default).1) (M.ae.re (List.getD (M.ae.Kids v) (Int.toNat (0:Int)) M.ae.zero)) (Go.IntKind.wrap Go.IntKind.i64 (at_+(Option.getD q1 default))) q6 q8 q10 q11))&&((Option.isSome q1)&&((Go.V.inB (0:Int) (List.length (M.ae.Kids v)))&&((Option.isSome q0)&&q12))))then
 let q13:=(Option.getD (bX (M.aa.re (Option.getD q0 default).1) (M.ae.re (List.getD (M.ae.Kids v) (Int.toNat (0:Int)) M.ae.zero)) (Go.IntKind.wrap Go.IntKind.i64 (at_+(Option.getD q1 default))) q6 q8 q10 q11) q4)
 let eA:=q13.2
 let cB:=eA.2
 some (q13.1,eA.1,cB.1,cB.2)
 else
 none
 else
 let q0:=(M.iw (M.ae.Num v) (1:Int))
 let q1:=(M.jZ at_ (Option.getD q0 default) x x2 o2 o3)
 let q2:=((Option.isSome q1)&&((Option.isSome q0)&&true))
 bif q2 then
 let q3:=default
 let q4:=(Option.getD q1 q3)
 let q5:=q4.1
 let q6:=q4.2
 let q7:=q6.1
 let q8:=q6.2
 let q9:=q8.1
 let q10:=q8.2
 some (q5,q7,q9,q10)
 else
 none
 else
 let q0:=(M.jY (M.aa.re t))
 let q1:=(M.iw (M.ae.Num v) (Option.getD q0 default))
 let q2:=(M.jZ at_ (Option.getD q1 default) x x2 o2 o3)
 bif((Option.isSome q2)&&((Option.isSome q1)&&((Option.isSome q0)&&true)))then
 let q3:=default
 let q4:=(Option.getD q2 q3)
 let q5:=q4.2
 let q6:=q5.2
 some (q4.1,q5.1,q6.1,q6.2)
 else
 none
def mO:Nat->M.aa->M.ae->Int->Int->Int->(List UInt8)->(List M.af)->Option (Int×Int×(List UInt8)×(List M.af))
 |0=>fun _ _ _ _ _ _ _=>none
 |n+1=>rQ (mO n)
def AD:M.aa->M.ae->Int->Int->Int->(List UInt8)->(List M.af)->Option (Int×Int×(List UInt8)×(List M.af)):=mO Go.V.ai
def uT(s:M.eQ):Option ((List UInt8)×(List M.af)):=
 let q0:=(M.lp (M.eQ.free s))
 bif((Option.isSome q0)&&true)then
 some ((List.map (fun a=>a) (M.eQ.bytes s)),(Option.getD q0 default))
 else
 none
def rR(m:M.ax)(enc:Int)(t:M.aa)(v:M.ae)(at_:Int):Option ((List UInt8)×Int×(List M.af)):=
 let q0:=(M.uJ m enc [(M.aa.re t)])
 let q1:=(!(Option.getD q0 default))
 let q2:=(M.wU (M.ae.re v) (M.aa.re t))
 bif(q1||(!(Option.getD q2 default)))then
 let q3:=(((Option.isSome q2)||(!(q1==false)))&&((Option.isSome q0)&&true))
 bif q3 then
 some ([],(1:Int),[])
 else
 none
 else
 let q3:=(M.uK m)
 let q4:=(Option.getD q3 default).1
 let q5:=(Option.getD q3 default).2
 let q6:=(M.uM (M.eQ.mk q4 q5) (M.aa.re t) at_)
 bif(!(Option.getD q6 default))then
 let q7:=(((Option.isSome q2)||(!(q1==false)))&&((Option.isSome q0)&&true))
 let q8:=((Option.isSome q6)&&((Option.isSome q3)&&q7))
 bif q8 then
 some ([],(10:Int),[])
 else
 none
 else
 let q7:=(M.AD (M.aa.re t) (M.ae.re v) at_ enc (0:Int) q4 q5)
 let q8:=(Option.getD q7 default).2
 let q9:=q8.1
 bif(q9 !=(0:Int))then
 let q10:=(((Option.isSome q2)||(!(q1==false)))&&((Option.isSome q0)&&true))
 let q11:=((Option.isSome q6)&&((Option.isSome q3)&&q10))
 let q12:=((Option.isSome q7)&&q11)
 bif q12 then
 some ([],q9,[])
 else
 none
 else
 let q10:=q8.2
 let q11:=(M.uT (M.eQ.mk q10.1 q10.2))
 let q12:=(((Option.isSome q2)||(!(q1==false)))&&((Option.isSome q0)&&true))
 let q13:=((Option.isSome q6)&&((Option.isSome q3)&&q12))
 let eA:=((Option.isSome q7)&&q13)
 bif((Option.isSome q11)&&eA)then
 let cB:=(Option.getD q11 default)
 some (cB.1,(0:Int),cB.2)
 else
 none
def uU(a:(List M.af))(left:Int):Option (Int):=
 bif(decide ((Go.IntKind.wrap Go.IntKind.i64 (left-((List.length a):Int)))<(0:Int)))then
 some (-(1:Int))
 else
 some (Go.IntKind.wrap Go.IntKind.i64 (left-((List.length a):Int)))
def uV(a:M.ax)(left:Int):Option (Int):=
 bif(decide ((Go.IntKind.wrap Go.IntKind.i64 (left-((List.length (M.ax.Bytes a)):Int)))<(0:Int)))then
 some (-(1:Int))
 else
 let q0:=(M.uU (M.ax.Free a) (Go.IntKind.wrap Go.IntKind.i64 (left-((List.length (M.ax.Bytes a)):Int))))
 let q1:=(Option.getD q0 default)
 bif(decide (q1<(0:Int)))then
 let q2:=((Option.isSome q0)&&true)
 bif q2 then
 some (-(1:Int))
 else
 none
 else
 let q2:=((Option.isSome q0)&&true)
 bif q2 then
 some q1
 else
 none
def xo(a:M.af):Option (M.af):=
 some a
def qb(a:(List M.af)):Nat->Int->(List M.af)->Option ((List M.af))
 |0,_,_=>none
 |fuel+1,i,out=>
 bif(decide (i<((List.length a):Int)))then
 bif((Go.V.inB i (List.length out))&&((Go.V.inB i (List.length a))&&true))then
 M.qb a fuel (Go.IntKind.wrap Go.IntKind.i64 (i+(1:Int))) (List.set out (Int.toNat i) (List.getD a (Int.toNat i) M.af.zero))
 else
 none
 else
 some (out)
def uW(a:(List M.af)):Option ((List M.af)):=
 match(M.qb a Go.V.ai (0:Int) (List.replicate (Int.toNat ((List.length a):Int)) (M.af.mk (0:Int) (0:Int))))with
 |none=>none
 |some y0=>
 bif(((decide (((List.length a):Int)<=((List.length a):Int)))&&(decide (((List.length a):Int)<=(1073741824:Int))))&&true)then
 some y0
 else
 none
def uX(a:M.ax):Option ((List UInt8)×(List M.af)):=
 let q0:=(M.uW (M.ax.Free a))
 bif((Option.isSome q0)&&true)then
 some ((M.ax.Bytes a),(Option.getD q0 default))
 else
 none
def uY(a:M.af)(b:M.af):Option (Bool):=
 bif((M.af.At a) !=(M.af.At b))then
 some false
 else
 bif((M.af.Size a) !=(M.af.Size b))then
 some false
 else
 some true
def rS(a:(List M.af))(b:(List M.af)):Nat->Int->Option ((Bool)⊕(Unit))
 |0,_=>none
 |fuel+1,i=>
 bif(decide (i<((List.length a):Int)))then
 let q0:=(M.uY (List.getD a (Int.toNat i) M.af.zero) (List.getD b (Int.toNat i) M.af.zero))
 bif(!(Option.getD q0 default))then
 let q1:=((Option.isSome q0)&&((Go.V.inB i (List.length b))&&((Go.V.inB i (List.length a))&&true)))
 bif q1 then
 some (.inl false)
 else
 none
 else
 let q1:=((Option.isSome q0)&&((Go.V.inB i (List.length b))&&((Go.V.inB i (List.length a))&&true)))
 bif q1 then
 M.rS a b fuel (Go.IntKind.wrap Go.IntKind.i64 (i+(1:Int)))
 else
 none
 else
 some ((.inr (())))
def uZ(a:(List M.af))(b:(List M.af)):Option (Bool):=
 bif(((List.length a):Int) !=((List.length b):Int))then
 some false
 else
 match(M.rS a b Go.V.ai (0:Int))with
 |none=>none
 |some y0=>
 (match y0 with
 |.inl a1=>
 some a1
 |.inr b1=>
 some true)
def od(a:M.ax)(b:M.ax):Option (Bool):=
 bif(!((M.ax.Bytes a)==(M.ax.Bytes b)))then
 some false
 else
 let q0:=(M.uZ (M.ax.Free a) (M.ax.Free b))
 bif(!(Option.getD q0 default))then
 bif((Option.isSome q0)&&true)then
 some false
 else
 none
 else
 bif((Option.isSome q0)&&true)then
 some true
 else
 none
def rT:Nat->Int->Int->(List M.af)->Option (Int×(List M.af))
 |0,_,_,_=>none
 |fuel+1,k,i,a=>
 bif(decide (i<((List.length a):Int)))then
 let q0:=(List.set a (Int.toNat i) (M.af.mk k (M.af.Size (List.getD a (Int.toNat i) M.af.zero))))
 bif((Go.V.inB i (List.length q0))&&((Go.V.inB i (List.length a))&&true))then
 M.rT fuel (Go.IntKind.wrap Go.IntKind.i64 ((Go.IntKind.wrap Go.IntKind.i64 (k+(1:Int)))+(1:Int))) (Go.IntKind.wrap Go.IntKind.i64 (i+(1:Int))) (List.set q0 (Int.toNat i) (M.af.mk (M.af.At (List.getD q0 (Int.toNat i) M.af.zero)) (Go.IntKind.wrap Go.IntKind.i64 (k+(1:Int)))))
 else
 none
 else
 some ((k,a))
def u3(k:Int)(a:(List M.af)):Option (Int×(List M.af)):=
 match(M.rT Go.V.ai k (0:Int) a)with
 |none=>none
 |some y0=>
 some (y0.1,y0.2)
def rU(a:(List UInt8))(k:Int)(o0:(List M.af)):Option (Int×(List M.af)):=
 let q0:=(M.u3 k o0)
 bif(((Option.isSome q0)&&true)&&true)then
 some ((Option.getD q0 default).1,(Option.getD q0 default).2)
 else
 none
def rV(a:(List M.af)):Nat->Int->Int->Option ((Int)⊕(Int))
 |0,_,_=>none
 |fuel+1,k,i=>
 bif(decide (i<((List.length a):Int)))then
 bif((M.af.At (List.getD a (Int.toNat i) M.af.zero)) !=k)then
 bif((Go.V.inB i (List.length a))&&true)then
 some (.inl (-(1:Int)))
 else
 none
 else
 bif((M.af.Size (List.getD a (Int.toNat i) M.af.zero)) !=(Go.IntKind.wrap Go.IntKind.i64 (k+(1:Int))))then
 let q0:=((Go.V.inB i (List.length a))&&((Go.V.inB i (List.length a))&&true))
 bif q0 then
 some (.inl (-(1:Int)))
 else
 none
 else
 let q0:=((Go.V.inB i (List.length a))&&((Go.V.inB i (List.length a))&&true))
 bif q0 then
 M.rV a fuel (Go.IntKind.wrap Go.IntKind.i64 ((Go.IntKind.wrap Go.IntKind.i64 (k+(1:Int)))+(1:Int))) (Go.IntKind.wrap Go.IntKind.i64 (i+(1:Int)))
 else
 none
 else
 some ((.inr (k)))
def rW(a:(List M.af))(k:Int):Option (Int):=
 match(M.rV a Go.V.ai k (0:Int))with
 |none=>none
 |some y0=>
 (match y0 with
 |.inl a1=>
 some a1
 |.inr b1=>
 some b1)
def u4(a:M.ax)(k:Int):Option (Int):=
 let q0:=(M.rW (M.ax.Free a) k)
 bif(decide ((Option.getD q0 default)<(0:Int)))then
 bif((Option.isSome q0)&&true)then
 some (-(1:Int))
 else
 none
 else
 bif((Option.isSome q0)&&true)then
 some (Option.getD q0 default)
 else
 none
def u5(a:Int)(a2:Int)(a3:(List UInt8))(k:Int)(o0:(List M.ae)):Option (Int×(List M.ae)):=
 let q0:=(M.zM k o0)
 bif(((Option.isSome q0)&&true)&&true)then
 some ((Option.getD q0 default).1,(Option.getD q0 default).2)
 else
 none
def oe(aM:M.ax)(P8:Int)(aT:M.aa)(aV:M.ae)(P9:Int):Option (Bool):=
 let q0:=(M.uV aM (1048576:Int))
 bif(decide ((Option.getD q0 default)<(0:Int)))then
 bif((Option.isSome q0)&&true)then
 some true
 else
 none
 else
 let q1:=(M.yU (M.aa.re aT) (Option.getD q0 default))
 let q2:=(Option.getD q1 default)
 bif(decide (q2<(0:Int)))then
 let q3:=((Option.isSome q1)&&((Option.isSome q0)&&true))
 bif q3 then
 some true
 else
 none
 else
 let q3:=(M.zO (M.ae.re aV) q2)
 bif(decide ((Option.getD q3 default)<(0:Int)))then
 let q4:=((Option.isSome q1)&&((Option.isSome q0)&&true))
 let q5:=((Option.isSome q3)&&q4)
 bif q5 then
 some true
 else
 none
 else
 let q4:=(M.uX aM)
 let q5:=(Option.getD q4 default).1
 let q6:=(Option.getD q4 default).2
 let q7:=(M.yX (M.aa.re aT))
 let q8:=(Option.getD q7 default)
 let q9:=q8.1
 let q10:=q8.2
 let q11:=q10.1
 let q12:=q10.2
 let q13:=q12.1
 let eA:=q12.2
 let cB:=(M.zQ (M.ae.re aV))
 let q16:=(Option.getD cB default)
 let mP:=q16.1
 let xr:=q16.2
 let xt:=xr.1
 let Qa:=xr.2
 let xu:=Qa.1
 let q22:=Qa.2
 let q23:=(M.rR (M.ax.mk q5 q6) P8 (M.aa.mk q9 q11 q13 eA) (M.ae.mk mP xt xu q22) P9)
 let q24:=(Option.getD q23 default)
 let Fj:=q24.1
 let Qb:=q24.2
 let Qc:=Qb.2
 let kA:=(M.rK (M.ax.mk q5 q6) P8 (M.aa.mk q9 q11 q13 eA) (M.ae.mk mP xt xu q22) P9)
 let Qd:=(Option.getD kA default)
 let q30:=(M.od (M.ax.mk Fj Qc) Qd.1)
 let Qe:=(!(Option.getD q30 default))
 let q32:=(Qb.1 !=Qd.2)
 let Qf:=(Qe||q32)
 bif Qf then
 let j6:=(Option.isSome q30)
 let q35:=(Option.isSome q23)
 let jh:=((Option.isSome q1)&&((Option.isSome q0)&&true))
 let q37:=((Option.isSome q3)&&jh)
 let iQ:=(j6&&(q35&&((Option.isSome cB)&&((Option.isSome q7)&&((Option.isSome q4)&&((Option.isSome kA)&&((Option.isSome cB)&&((Option.isSome q7)&&((Option.isSome q4)&&q37)))))))))
 bif iQ then
 some false
 else
 none
 else
 let j6:=(M.od (M.ax.mk q5 q6) (M.ax.mk q5 q6))
 bif(!(Option.getD j6 default))then
 let q35:=(Option.isSome q30)
 let jh:=(Option.isSome q23)
 let q37:=((Option.isSome q1)&&((Option.isSome q0)&&true))
 let iQ:=((Option.isSome q3)&&q37)
 let fJ:=(q35&&(jh&&((Option.isSome cB)&&((Option.isSome q7)&&((Option.isSome q4)&&((Option.isSome kA)&&((Option.isSome cB)&&((Option.isSome q7)&&((Option.isSome q4)&&iQ)))))))))
 let iR:=((Option.isSome j6)&&((Option.isSome q4)&&fJ))
 bif iR then
 some false
 else
 none
 else
 let q35:=(M.y4 (M.aa.mk q9 q11 q13 eA) (M.aa.mk q9 q11 q13 eA))
 bif(!(Option.getD q35 default))then
 let jh:=(Option.isSome q30)
 let q37:=(Option.isSome q23)
 let iQ:=((Option.isSome q1)&&((Option.isSome q0)&&true))
 let fJ:=((Option.isSome q3)&&iQ)
 let iR:=(jh&&(q37&&((Option.isSome cB)&&((Option.isSome q7)&&((Option.isSome q4)&&((Option.isSome kA)&&((Option.isSome cB)&&((Option.isSome q7)&&((Option.isSome q4)&&fJ)))))))))
 let qc:=((Option.isSome j6)&&((Option.isSome q4)&&iR))
 let j7:=((Option.isSome q35)&&((Option.isSome q7)&&qc))
 bif j7 then
 some false
 else
 none
 else
 let jh:=(M.yR (M.ae.mk mP xt xu q22) (M.ae.mk mP xt xu q22))
 bif(!(Option.getD jh default))then
 let q37:=(Option.isSome q30)
 let iQ:=(Option.isSome q23)
 let fJ:=((Option.isSome q1)&&((Option.isSome q0)&&true))
 let iR:=((Option.isSome q3)&&fJ)
 let qc:=(q37&&(iQ&&((Option.isSome cB)&&((Option.isSome q7)&&((Option.isSome q4)&&((Option.isSome kA)&&((Option.isSome cB)&&((Option.isSome q7)&&((Option.isSome q4)&&iR)))))))))
 let j7:=((Option.isSome j6)&&((Option.isSome q4)&&qc))
 let rY:=((Option.isSome q35)&&((Option.isSome q7)&&j7))
 let qd:=((Option.isSome jh)&&((Option.isSome cB)&&rY))
 bif qd then
 some false
 else
 none
 else
 let q37:=(M.rU q5 (1:Int) q6)
 let iQ:=(M.ui q9 q11 (Option.getD q37 default).1 q13 eA)
 let fJ:=(M.u5 mP xt xu (Option.getD iQ default).1 q22)
 bif(((decide ((Option.getD fJ default).1<(0:Int)))||Qe)||q32)then
 let iR:=(Option.isSome q30)
 let qc:=(Option.isSome q23)
 let j7:=((Option.isSome q1)&&((Option.isSome q0)&&true))
 let rY:=((Option.isSome q3)&&j7)
 let qd:=(iR&&(qc&&((Option.isSome cB)&&((Option.isSome q7)&&((Option.isSome q4)&&((Option.isSome kA)&&((Option.isSome cB)&&((Option.isSome q7)&&((Option.isSome q4)&&rY)))))))))
 let gK:=((Option.isSome j6)&&((Option.isSome q4)&&qd))
 let fK:=((Option.isSome q35)&&((Option.isSome q7)&&gK))
 let iS:=((Option.isSome jh)&&((Option.isSome cB)&&fK))
 let j8:=((iR||(!((decide ((Option.getD fJ default).1<(0:Int)))==false)))&&((Option.isSome fJ)&&((Option.isSome iQ)&&((Option.isSome q37)&&iS))))
 bif j8 then
 some false
 else
 none
 else
 let iR:=(M.rU Fj (1:Int) Qc)
 let qc:=(Option.getD iR default)
 let j7:=(M.u4 (M.ax.mk Fj qc.2) (1:Int))
 let rY:=(Option.getD j7 default)
 bif(decide (rY<(0:Int)))then
 let qd:=(Option.isSome j7)
 let gK:=(Option.isSome q30)
 let fK:=(Option.isSome q23)
 let iS:=((Option.isSome q1)&&((Option.isSome q0)&&true))
 let j8:=((Option.isSome q3)&&iS)
 let lr:=(gK&&(fK&&((Option.isSome cB)&&((Option.isSome q7)&&((Option.isSome q4)&&((Option.isSome kA)&&((Option.isSome cB)&&((Option.isSome q7)&&((Option.isSome q4)&&j8)))))))))
 let lu:=((Option.isSome j6)&&((Option.isSome q4)&&lr))
 let lv:=((Option.isSome q35)&&((Option.isSome q7)&&lu))
 let lx:=((Option.isSome jh)&&((Option.isSome cB)&&lv))
 let ly:=((gK||(!((decide ((Option.getD fJ default).1<(0:Int)))==false)))&&((Option.isSome fJ)&&((Option.isSome iQ)&&((Option.isSome q37)&&lx))))
 let lA:=(qd&&((Option.isSome iR)&&ly))
 bif lA then
 some false
 else
 none
 else
 let qd:=(rY !=qc.1)
 bif qd then
 let gK:=(Option.isSome j7)
 let fK:=(Option.isSome q30)
 let iS:=(Option.isSome q23)
 let j8:=((Option.isSome q1)&&((Option.isSome q0)&&true))
 let lr:=((Option.isSome q3)&&j8)
 let lu:=(fK&&(iS&&((Option.isSome cB)&&((Option.isSome q7)&&((Option.isSome q4)&&((Option.isSome kA)&&((Option.isSome cB)&&((Option.isSome q7)&&((Option.isSome q4)&&lr)))))))))
 let lv:=((Option.isSome j6)&&((Option.isSome q4)&&lu))
 let lx:=((Option.isSome q35)&&((Option.isSome q7)&&lv))
 let ly:=((Option.isSome jh)&&((Option.isSome cB)&&lx))
 let lA:=((fK||(!((decide ((Option.getD fJ default).1<(0:Int)))==false)))&&((Option.isSome fJ)&&((Option.isSome iQ)&&((Option.isSome q37)&&ly))))
 let oq:=(gK&&((Option.isSome iR)&&lA))
 bif oq then
 some false
 else
 none
 else
 bif Qf then
 let gK:=(Option.isSome q30)
 let fK:=(Option.isSome q23)
 let iS:=(Option.isSome j7)
 let j8:=((Option.isSome q1)&&((Option.isSome q0)&&true))
 let lr:=((Option.isSome q3)&&j8)
 let lu:=(gK&&(fK&&((Option.isSome cB)&&((Option.isSome q7)&&((Option.isSome q4)&&((Option.isSome kA)&&((Option.isSome cB)&&((Option.isSome q7)&&((Option.isSome q4)&&lr)))))))))
 let lv:=((Option.isSome j6)&&((Option.isSome q4)&&lu))
 let lx:=((Option.isSome q35)&&((Option.isSome q7)&&lv))
 let ly:=((Option.isSome jh)&&((Option.isSome cB)&&lx))
 let lA:=((gK||(!((decide ((Option.getD fJ default).1<(0:Int)))==false)))&&((Option.isSome fJ)&&((Option.isSome iQ)&&((Option.isSome q37)&&ly))))
 let oq:=(iS&&((Option.isSome iR)&&lA))
 let rZ:=(gK&&(fK&&((Option.isSome cB)&&((Option.isSome q7)&&((Option.isSome q4)&&oq)))))
 bif rZ then
 some false
 else
 none
 else
 bif(decide (rY<(0:Int)))then
 let gK:=(Option.isSome j7)
 let fK:=(Option.isSome q30)
 let iS:=(Option.isSome q23)
 let j8:=((Option.isSome q1)&&((Option.isSome q0)&&true))
 let lr:=((Option.isSome q3)&&j8)
 let lu:=(fK&&(iS&&((Option.isSome cB)&&((Option.isSome q7)&&((Option.isSome q4)&&((Option.isSome kA)&&((Option.isSome cB)&&((Option.isSome q7)&&((Option.isSome q4)&&lr)))))))))
 let lv:=((Option.isSome j6)&&((Option.isSome q4)&&lu))
 let lx:=((Option.isSome q35)&&((Option.isSome q7)&&lv))
 let ly:=((Option.isSome jh)&&((Option.isSome cB)&&lx))
 let lA:=((fK||(!((decide ((Option.getD fJ default).1<(0:Int)))==false)))&&((Option.isSome fJ)&&((Option.isSome iQ)&&((Option.isSome q37)&&ly))))
 let oq:=(gK&&((Option.isSome iR)&&lA))
 let rZ:=(fK&&(iS&&((Option.isSome cB)&&((Option.isSome q7)&&((Option.isSome q4)&&oq)))))
 let xw:=(gK&&rZ)
 bif xw then
 some false
 else
 none
 else
 bif qd then
 let gK:=(Option.isSome j7)
 let fK:=(Option.isSome q30)
 let iS:=(Option.isSome q23)
 let j8:=((Option.isSome q1)&&((Option.isSome q0)&&true))
 let lr:=((Option.isSome q3)&&j8)
 let lu:=(fK&&(iS&&((Option.isSome cB)&&((Option.isSome q7)&&((Option.isSome q4)&&((Option.isSome kA)&&((Option.isSome cB)&&((Option.isSome q7)&&((Option.isSome q4)&&lr)))))))))
 let lv:=((Option.isSome j6)&&((Option.isSome q4)&&lu))
 let lx:=((Option.isSome q35)&&((Option.isSome q7)&&lv))
 let ly:=((Option.isSome jh)&&((Option.isSome cB)&&lx))
 let lA:=((fK||(!((decide ((Option.getD fJ default).1<(0:Int)))==false)))&&((Option.isSome fJ)&&((Option.isSome iQ)&&((Option.isSome q37)&&ly))))
 let oq:=(gK&&((Option.isSome iR)&&lA))
 let rZ:=(fK&&(iS&&((Option.isSome cB)&&((Option.isSome q7)&&((Option.isSome q4)&&oq)))))
 let xw:=(gK&&rZ)
 bif xw then
 some false
 else
 none
 else
 let gK:=(Option.isSome j7)
 let fK:=(Option.isSome q30)
 let iS:=(Option.isSome q23)
 let j8:=((Option.isSome q1)&&((Option.isSome q0)&&true))
 let lr:=((Option.isSome q3)&&j8)
 let lu:=(fK&&(iS&&((Option.isSome cB)&&((Option.isSome q7)&&((Option.isSome q4)&&((Option.isSome kA)&&((Option.isSome cB)&&((Option.isSome q7)&&((Option.isSome q4)&&lr)))))))))
 let lv:=((Option.isSome j6)&&((Option.isSome q4)&&lu))
 let lx:=((Option.isSome q35)&&((Option.isSome q7)&&lv))
 let ly:=((Option.isSome jh)&&((Option.isSome cB)&&lx))
 let lA:=((fK||(!((decide ((Option.getD fJ default).1<(0:Int)))==false)))&&((Option.isSome fJ)&&((Option.isSome iQ)&&((Option.isSome q37)&&ly))))
 let oq:=(gK&&((Option.isSome iR)&&lA))
 let rZ:=(fK&&(iS&&((Option.isSome cB)&&((Option.isSome q7)&&((Option.isSome q4)&&oq)))))
 let xw:=(gK&&rZ)
 bif xw then
 some true
 else
 none
end M
