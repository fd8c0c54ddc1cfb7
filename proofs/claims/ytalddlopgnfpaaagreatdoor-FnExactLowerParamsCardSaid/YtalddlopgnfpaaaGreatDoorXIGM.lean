/-
  Part of the proof of the claim.
-/
import Derived.Test.YtalddlopgnfpaaaGreatDoorXIdata
import Derived.Test.YtalddlopgnfpaaaGreatDoorXIhandA
set_option linter.unusedVariables false
set_option maxRecDepth 100000
noncomputable section
namespace M
def py(db:M.ae->M.ae->Option (Bool))(a:(List M.ae))(b:(List M.ae)):Nat->Int->Option ((Bool)⊕(Unit))
 |0,_=>none
 |fuel+1,i=>
 bif(decide (i<((List.length a):Int)))then
 bif(!(Option.getD (db (M.ae.re (List.getD a (Int.toNat i) M.ae.zero)) (M.ae.re (List.getD b (Int.toNat i) M.ae.zero))) default))then
 let q0:=((Option.isSome (db (M.ae.re (List.getD a (Int.toNat i) M.ae.zero)) (M.ae.re (List.getD b (Int.toNat i) M.ae.zero))))&&((Go.V.inB i (List.length b))&&((Go.V.inB i (List.length a))&&true)))
 bif q0 then
 some (.inl false)
 else
 none
 else
 let q0:=((Option.isSome (db (M.ae.re (List.getD a (Int.toNat i) M.ae.zero)) (M.ae.re (List.getD b (Int.toNat i) M.ae.zero))))&&((Go.V.inB i (List.length b))&&((Go.V.inB i (List.length a))&&true)))
 bif q0 then
 M.py db a b fuel (Go.IntKind.wrap Go.IntKind.i64 (i+(1:Int)))
 else
 none
 else
 some ((.inr (())))
def pz(db:M.ae->M.ae->Option (Bool))(a:(List M.ae))(b:(List M.ae)):Option (Bool):=
 bif(((List.length a):Int) !=((List.length b):Int))then
 some false
 else
 match(M.py db a b Go.V.ah (0:Int))with
 |none=>none
 |some y0=>
 (match y0 with
 |.inl a1=>
 some a1
 |.inr b1=>
 some true)
def zy(db:M.ae->M.ae->Option (Bool))(a:M.ae)(b:M.ae):Option (Bool):=
 bif((M.ae.Kind a) !=(M.ae.Kind b))then
 some false
 else
 bif((M.ae.Num a) !=(M.ae.Num b))then
 some false
 else
 bif(!((M.ae.Text a)==(M.ae.Text b)))then
 some false
 else
 let q0:=(M.pz db (M.ae.Kids a) (M.ae.Kids b))
 bif(!(Option.getD q0 default))then
 bif((Option.isSome q0)&&true)then
 some false
 else
 none
 else
 bif((Option.isSome q0)&&true)then
 some true
 else
 none
def tH:Nat->M.ae->M.ae->Option (Bool)
 |0=>fun _ _=>none
 |n+1=>zy (tH n)
def tI:M.ae->M.ae->Option (Bool):=tH Go.V.ah
def tJ(a:(List Int))(b:(List Int)):Nat->Int->Option ((Bool)⊕(Unit))
 |0,_=>none
 |fuel+1,i=>
 bif(decide (i<((List.length a):Int)))then
 bif((List.getD a (Int.toNat i) (0:Int)) !=(List.getD b (Int.toNat i) (0:Int)))then
 let q0:=((Go.V.inB i (List.length b))&&((Go.V.inB i (List.length a))&&true))
 bif q0 then
 some (.inl false)
 else
 none
 else
 let q0:=((Go.V.inB i (List.length b))&&((Go.V.inB i (List.length a))&&true))
 bif q0 then
 M.tJ a b fuel (Go.IntKind.wrap Go.IntKind.i64 (i+(1:Int)))
 else
 none
 else
 some ((.inr (())))
def v8(a:(List Int))(b:(List Int)):Option (Bool):=
 bif(((List.length a):Int) !=((List.length b):Int))then
 some false
 else
 match(M.tJ a b Go.V.ah (0:Int))with
 |none=>none
 |some y0=>
 (match y0 with
 |.inl a1=>
 some a1
 |.inr b1=>
 some true)
def tK:Nat->Int->Int->(List Int)->Option (Int×(List Int))
 |0,_,_,_=>none
 |fuel+1,k,i,a=>
 bif(decide (i<((List.length a):Int)))then
 bif((Go.V.inB i (List.length a))&&true)then
 M.tK fuel (Go.IntKind.wrap Go.IntKind.i64 (k+(1:Int))) (Go.IntKind.wrap Go.IntKind.i64 (i+(1:Int))) (List.set a (Int.toNat i) k)
 else
 none
 else
 some ((k,a))
def tL(k:Int)(a:(List Int)):Option (Int×(List Int)):=
 match(M.tK Go.V.ah k (0:Int) a)with
 |none=>none
 |some y0=>
 some (y0.1,y0.2)
def tM(a:(List Int)):Nat->Int->Int->Option ((Int)⊕(Int))
 |0,_,_=>none
 |fuel+1,k,i=>
 bif(decide (i<((List.length a):Int)))then
 bif((List.getD a (Int.toNat i) (0:Int)) !=k)then
 bif((Go.V.inB i (List.length a))&&true)then
 some (.inl (-(1:Int)))
 else
 none
 else
 bif((Go.V.inB i (List.length a))&&true)then
 M.tM a fuel (Go.IntKind.wrap Go.IntKind.i64 (k+(1:Int))) (Go.IntKind.wrap Go.IntKind.i64 (i+(1:Int)))
 else
 none
 else
 some ((.inr (k)))
def wa(a:(List Int))(k:Int):Option (Int):=
 match(M.tM a Go.V.ah k (0:Int))with
 |none=>none
 |some y0=>
 (match y0 with
 |.inl a1=>
 some a1
 |.inr b1=>
 some b1)
def tN(a:(List (List UInt8))):Nat->Int->Int->Option ((Int)⊕(Int))
 |0,_,_=>none
 |fuel+1,left,i=>
 bif(decide (i<((List.length a):Int)))then
 let q0:=(Go.IntKind.wrap Go.IntKind.i64 (left-((List.length (List.getD a (Int.toNat i) [])):Int)))
 bif(decide (q0<(0:Int)))then
 bif((Go.V.inB i (List.length a))&&true)then
 some (.inl (-(1:Int)))
 else
 none
 else
 bif((Go.V.inB i (List.length a))&&true)then
 M.tN a fuel q0 (Go.IntKind.wrap Go.IntKind.i64 (i+(1:Int)))
 else
 none
 else
 some ((.inr (left)))
def wb(a:(List (List UInt8)))(left:Int):Option (Int):=
 bif(decide ((Go.IntKind.wrap Go.IntKind.i64 (left-((List.length a):Int)))<(0:Int)))then
 some (-(1:Int))
 else
 match(M.tN a Go.V.ah (Go.IntKind.wrap Go.IntKind.i64 (left-((List.length a):Int))) (0:Int))with
 |none=>none
 |some y0=>
 (match y0 with
 |.inl a1=>
 some a1
 |.inr b1=>
 some b1)
def pA(dc:M.aa->Int->Option (Int))(a:(List M.aa)):Nat->Int->Int->Option ((Int)⊕(Int))
 |0,_,_=>none
 |fuel+1,left,i=>
 bif(decide (i<((List.length a):Int)))then
 let q0:=(Option.getD (dc (M.aa.re (List.getD a (Int.toNat i) M.aa.zero)) left) default)
 bif(decide (q0<(0:Int)))then
 let q1:=((Option.isSome (dc (M.aa.re (List.getD a (Int.toNat i) M.aa.zero)) left))&&((Go.V.inB i (List.length a))&&true))
 bif q1 then
 some (.inl (-(1:Int)))
 else
 none
 else
 let q1:=((Option.isSome (dc (M.aa.re (List.getD a (Int.toNat i) M.aa.zero)) left))&&((Go.V.inB i (List.length a))&&true))
 bif q1 then
 M.pA dc a fuel q0 (Go.IntKind.wrap Go.IntKind.i64 (i+(1:Int)))
 else
 none
 else
 some ((.inr (left)))
def pB(dc:M.aa->Int->Option (Int))(a:(List M.aa))(left:Int):Option (Int):=
 bif(decide ((Go.IntKind.wrap Go.IntKind.i64 (left-((List.length a):Int)))<(0:Int)))then
 some (-(1:Int))
 else
 match(M.pA dc a Go.V.ah (Go.IntKind.wrap Go.IntKind.i64 (left-((List.length a):Int))) (0:Int))with
 |none=>none
 |some y0=>
 (match y0 with
 |.inl a1=>
 some a1
 |.inr b1=>
 some b1)
def zz(dc:M.aa->Int->Option (Int))(a:M.aa)(left:Int):Option (Int):=
 bif(decide ((Go.IntKind.wrap Go.IntKind.i64 (left-((List.length (M.aa.Name a)):Int)))<(0:Int)))then
 some (-(1:Int))
 else
 let q0:=(M.wb (M.aa.bu a) (Go.IntKind.wrap Go.IntKind.i64 (left-((List.length (M.aa.Name a)):Int))))
 let q1:=(Option.getD q0 default)
 bif(decide (q1<(0:Int)))then
 let q2:=((Option.isSome q0)&&true)
 bif q2 then
 some (-(1:Int))
 else
 none
 else
 let q2:=(M.pB dc (M.aa.Kids a) q1)
 let q3:=(Option.getD q2 default)
 bif(decide (q3<(0:Int)))then
 let q4:=((Option.isSome q0)&&true)
 let q5:=((Option.isSome q2)&&q4)
 bif q5 then
 some (-(1:Int))
 else
 none
 else
 let q4:=((Option.isSome q0)&&true)
 let q5:=((Option.isSome q2)&&q4)
 bif q5 then
 some q3
 else
 none
def tO:Nat->M.aa->Int->Option (Int)
 |0=>fun _ _=>none
 |n+1=>zz (tO n)
def tP:M.aa->Int->Option (Int):=tO Go.V.ah
def ri(a:(List (List UInt8))):Nat->Int->(List (List UInt8))->Option ((List (List UInt8)))
 |0,_,_=>none
 |fuel+1,i,out=>
 bif(decide (i<((List.length a):Int)))then
 bif((Go.V.inB i (List.length out))&&((Go.V.inB i (List.length a))&&true))then
 M.ri a fuel (Go.IntKind.wrap Go.IntKind.i64 (i+(1:Int))) (List.set out (Int.toNat i) (List.getD a (Int.toNat i) []))
 else
 none
 else
 some (out)
def wc(a:(List (List UInt8))):Option ((List (List UInt8))):=
 match(M.ri a Go.V.ah (0:Int) (List.replicate (Int.toNat ((List.length a):Int)) []))with
 |none=>none
 |some y0=>
 bif(((decide (((List.length a):Int)<=((List.length a):Int)))&&(decide (((List.length a):Int)<=(1073741824:Int))))&&true)then
 some y0
 else
 none
def nB(dk:M.aa->Option (Int×(List UInt8)×(List (List UInt8))×(List M.aa)))(a:(List M.aa)):Nat->Int->(List M.aa)->Option ((List M.aa))
 |0,_,_=>none
 |fuel+1,i,out=>
 bif(decide (i<((List.length a):Int)))then
 bif((Go.V.inB i (List.length out))&&((Option.isSome (dk (M.aa.re (List.getD a (Int.toNat i) M.aa.zero))))&&((Go.V.inB i (List.length a))&&true)))then
 let q0:=(Option.getD (dk (M.aa.re (List.getD a (Int.toNat i) M.aa.zero))) default)
 let q1:=q0.2
 let q2:=q1.2
 M.nB dk a fuel (Go.IntKind.wrap Go.IntKind.i64 (i+(1:Int))) (List.set out (Int.toNat i) (M.aa.mk q0.1 q1.1 q2.1 q2.2))
 else
 none
 else
 some (out)
def pC(dk:M.aa->Option (Int×(List UInt8)×(List (List UInt8))×(List M.aa)))(a:(List M.aa)):Option ((List M.aa)):=
 match(M.nB dk a Go.V.ah (0:Int) (List.replicate (Int.toNat ((List.length a):Int)) (M.aa.mk (0:Int) [] [] [])))with
 |none=>none
 |some y0=>
 bif(((decide (((List.length a):Int)<=((List.length a):Int)))&&(decide (((List.length a):Int)<=(1073741824:Int))))&&true)then
 some y0
 else
 none
def zA(dk:M.aa->Option (Int×(List UInt8)×(List (List UInt8))×(List M.aa)))(a:M.aa):Option (Int×(List UInt8)×(List (List UInt8))×(List M.aa)):=
 let q0:=(M.pC dk (M.aa.Kids a))
 let q1:=(M.wc (M.aa.bu a))
 bif((Option.isSome q0)&&((Option.isSome q1)&&true))then
 some ((M.aa.Kind a),(M.aa.Name a),(Option.getD q1 default),(Option.getD q0 default))
 else
 none
def tQ:Nat->M.aa->Option (Int×(List UInt8)×(List (List UInt8))×(List M.aa))
 |0=>fun _=>none
 |n+1=>zA (tQ n)
def tR:M.aa->Option (Int×(List UInt8)×(List (List UInt8))×(List M.aa)):=tQ Go.V.ah
def tU(a:(List (List UInt8)))(b:(List (List UInt8))):Nat->Int->Option ((Bool)⊕(Unit))
 |0,_=>none
 |fuel+1,i=>
 bif(decide (i<((List.length a):Int)))then
 bif(!((List.getD a (Int.toNat i) [])==(List.getD b (Int.toNat i) [])))then
 let q0:=((Go.V.inB i (List.length b))&&((Go.V.inB i (List.length a))&&true))
 bif q0 then
 some (.inl false)
 else
 none
 else
 let q0:=((Go.V.inB i (List.length b))&&((Go.V.inB i (List.length a))&&true))
 bif q0 then
 M.tU a b fuel (Go.IntKind.wrap Go.IntKind.i64 (i+(1:Int)))
 else
 none
 else
 some ((.inr (())))
def we(a:(List (List UInt8)))(b:(List (List UInt8))):Option (Bool):=
 bif(((List.length a):Int) !=((List.length b):Int))then
 some false
 else
 match(M.tU a b Go.V.ah (0:Int))with
 |none=>none
 |some y0=>
 (match y0 with
 |.inl a1=>
 some a1
 |.inr b1=>
 some true)
def pD(de:M.aa->M.aa->Option (Bool))(a:(List M.aa))(b:(List M.aa)):Nat->Int->Option ((Bool)⊕(Unit))
 |0,_=>none
 |fuel+1,i=>
 bif(decide (i<((List.length a):Int)))then
 bif(!(Option.getD (de (M.aa.re (List.getD a (Int.toNat i) M.aa.zero)) (M.aa.re (List.getD b (Int.toNat i) M.aa.zero))) default))then
 let q0:=((Option.isSome (de (M.aa.re (List.getD a (Int.toNat i) M.aa.zero)) (M.aa.re (List.getD b (Int.toNat i) M.aa.zero))))&&((Go.V.inB i (List.length b))&&((Go.V.inB i (List.length a))&&true)))
 bif q0 then
 some (.inl false)
 else
 none
 else
 let q0:=((Option.isSome (de (M.aa.re (List.getD a (Int.toNat i) M.aa.zero)) (M.aa.re (List.getD b (Int.toNat i) M.aa.zero))))&&((Go.V.inB i (List.length b))&&((Go.V.inB i (List.length a))&&true)))
 bif q0 then
 M.pD de a b fuel (Go.IntKind.wrap Go.IntKind.i64 (i+(1:Int)))
 else
 none
 else
 some ((.inr (())))
def pE(de:M.aa->M.aa->Option (Bool))(a:(List M.aa))(b:(List M.aa)):Option (Bool):=
 bif(((List.length a):Int) !=((List.length b):Int))then
 some false
 else
 match(M.pD de a b Go.V.ah (0:Int))with
 |none=>none
 |some y0=>
 (match y0 with
 |.inl a1=>
 some a1
 |.inr b1=>
 some true)
def zB(de:M.aa->M.aa->Option (Bool))(a:M.aa)(b:M.aa):Option (Bool):=
 bif((M.aa.Kind a) !=(M.aa.Kind b))then
 some false
 else
 bif(!((M.aa.Name a)==(M.aa.Name b)))then
 some false
 else
 let q0:=(M.we (M.aa.bu a) (M.aa.bu b))
 bif(!(Option.getD q0 default))then
 bif((Option.isSome q0)&&true)then
 some false
 else
 none
 else
 let q1:=(M.pE de (M.aa.Kids a) (M.aa.Kids b))
 bif(!(Option.getD q1 default))then
 bif((Option.isSome q1)&&((Option.isSome q0)&&true))then
 some false
 else
 none
 else
 bif((Option.isSome q1)&&((Option.isSome q0)&&true))then
 some true
 else
 none
def tV:Nat->M.aa->M.aa->Option (Bool)
 |0=>fun _ _=>none
 |n+1=>zB (tV n)
def tW:M.aa->M.aa->Option (Bool):=tV Go.V.ah
def gQ(a:Int)(b:Int):Option (Int):=
 bif(decide (b<a))then
 some a
 else
 some b
def rj(eL:M.aa->Int->Option (Int×Int))(deep:Int):Nat->Int->Int->Int->M.aa->Option ((Int×Int)⊕(Int×Int))
 |0,_,_,_,_=>none
 |fuel+1,most,parts,i,t=>
 bif(decide (i<((List.length (M.aa.Kids t)):Int)))then
 let q0:=(Option.getD (eL (M.aa.re (List.getD (M.aa.Kids t) (Int.toNat i) M.aa.zero)) (Go.IntKind.wrap Go.IntKind.i64 (deep+(1:Int)))) default)
 let q1:=(Go.IntKind.wrap Go.IntKind.i64 (parts+q0.2))
 bif(decide ((24:Int)<q1))then
 let q2:=(M.gQ most q0.1)
 let q3:=((Option.isSome q2)&&((Option.isSome (eL (M.aa.re (List.getD (M.aa.Kids t) (Int.toNat i) M.aa.zero)) (Go.IntKind.wrap Go.IntKind.i64 (deep+(1:Int)))))&&((Go.V.inB i (List.length (M.aa.Kids t)))&&true)))
 bif q3 then
 some (.inl ((5:Int),(25:Int)))
 else
 none
 else
 let q2:=(M.gQ most q0.1)
 let q3:=((Option.isSome q2)&&((Option.isSome (eL (M.aa.re (List.getD (M.aa.Kids t) (Int.toNat i) M.aa.zero)) (Go.IntKind.wrap Go.IntKind.i64 (deep+(1:Int)))))&&((Go.V.inB i (List.length (M.aa.Kids t)))&&true)))
 bif q3 then
 M.rj eL deep fuel (Option.getD q2 default) q1 (Go.IntKind.wrap Go.IntKind.i64 (i+(1:Int))) (M.aa.re t)
 else
 none
 else
 some ((.inr ((most,parts))))
def zD(eL:M.aa->Int->Option (Int×Int))(t:M.aa)(deep:Int):Option (Int×Int):=
 bif((decide ((4:Int)<deep))||(decide ((24:Int)<((List.length (M.aa.Kids t)):Int))))then
 some ((5:Int),(25:Int))
 else
 match(M.rj eL deep Go.V.ah (0:Int) (1:Int) (0:Int) (M.aa.re t))with
 |none=>none
 |some y0=>
 (match y0 with
 |.inl a1=>
 some (a1.1,a1.2)
 |.inr b1=>
 some ((Go.IntKind.wrap Go.IntKind.i64 (b1.1+(1:Int))),b1.2))
def rk:Nat->M.aa->Int->Option (Int×Int)
 |0=>fun _ _=>none
 |n+1=>zD (rk n)
def CG:M.aa->Int->Option (Int×Int):=rk Go.V.ah
def rm(n:Int)(low:Int)(high:Int):Option (Bool):=
 some ((decide (low<=n))&&(decide (n<=high)))
def tY(s:(List UInt8)):Nat->Int->Option ((Bool)⊕(Unit))
 |0,_=>none
 |fuel+1,i=>
 bif(decide (i<((List.length s):Int)))then
 let q0:=((((decide (((UInt8.toNat (List.getD s (Int.toNat i) (0:UInt8))):Int)<(97:Int)))||(decide ((122:Int)<((UInt8.toNat (List.getD s (Int.toNat i) (0:UInt8))):Int))))&&((decide (((UInt8.toNat (List.getD s (Int.toNat i) (0:UInt8))):Int)<(48:Int)))||(decide ((57:Int)<((UInt8.toNat (List.getD s (Int.toNat i) (0:UInt8))):Int)))))&&(((UInt8.toNat (List.getD s (Int.toNat i) (0:UInt8))):Int) !=(45:Int)))
 let q1:=(((UInt8.toNat (List.getD s (Int.toNat i) (0:UInt8))):Int)==(45:Int))
 bif(q0||(q1&&(((UInt8.toNat (List.getD s (Int.toNat (Go.IntKind.wrap Go.IntKind.i64 (i-(1:Int)))) (0:UInt8))):Int)==(45:Int))))then
 let q2:=(((Go.V.inB (Go.IntKind.wrap Go.IntKind.i64 (i-(1:Int))) (List.length s))||(!((q0==false)&&(q1==true))))&&((Go.V.inB i (List.length s))&&true))
 bif q2 then
 some (.inl false)
 else
 none
 else
 let q2:=(((Go.V.inB (Go.IntKind.wrap Go.IntKind.i64 (i-(1:Int))) (List.length s))||(!((q0==false)&&(q1==true))))&&((Go.V.inB i (List.length s))&&true))
 bif q2 then
 M.tY s fuel (Go.IntKind.wrap Go.IntKind.i64 (i+(1:Int)))
 else
 none
 else
 some ((.inr (())))
def rn(s:(List UInt8)):Option (Bool):=
 let q0:=((decide (((List.length s):Int)<(1:Int)))||(decide ((12:Int)<((List.length s):Int))))
 let q1:=(q0||(decide (((UInt8.toNat (List.getD s (Int.toNat (0:Int)) (0:UInt8))):Int)<(97:Int))))
 let q2:=(q1||(decide ((122:Int)<((UInt8.toNat (List.getD s (Int.toNat (0:Int)) (0:UInt8))):Int))))
 bif(q2||(((UInt8.toNat (List.getD s (Int.toNat (Go.IntKind.wrap Go.IntKind.i64 (((List.length s):Int)-(1:Int)))) (0:UInt8))):Int)==(45:Int)))then
 let q3:=(((Go.V.inB (Go.IntKind.wrap Go.IntKind.i64 (((List.length s):Int)-(1:Int))) (List.length s))||(!(q2==false)))&&(((Go.V.inB (0:Int) (List.length s))||(!(q1==false)))&&(((Go.V.inB (0:Int) (List.length s))||(!(q0==false)))&&true)))
 bif q3 then
 some false
 else
 none
 else
 match(M.tY s Go.V.ah (0:Int))with
 |none=>none
 |some y3=>
 (match y3 with
 |.inl a4=>
 let q5:=(((Go.V.inB (Go.IntKind.wrap Go.IntKind.i64 (((List.length s):Int)-(1:Int))) (List.length s))||(!(q2==false)))&&(((Go.V.inB (0:Int) (List.length s))||(!(q1==false)))&&(((Go.V.inB (0:Int) (List.length s))||(!(q0==false)))&&true)))
 bif q5 then
 some a4
 else
 none
 |.inr b4=>
 let q5:=(((Go.V.inB (Go.IntKind.wrap Go.IntKind.i64 (((List.length s):Int)-(1:Int))) (List.length s))||(!(q2==false)))&&(((Go.V.inB (0:Int) (List.length s))||(!(q1==false)))&&(((Go.V.inB (0:Int) (List.length s))||(!(q0==false)))&&true)))
 bif q5 then
 some true
 else
 none)
def rq(list:(List (List UInt8)))(i:Int):Nat->Int->Option ((Bool)⊕((List (List UInt8))×Int))
 |0,_=>none
 |fuel+1,k=>
 bif(decide (k<i))then
 bif((List.getD list (Int.toNat k) [])==(List.getD list (Int.toNat i) []))then
 let q0:=((Go.V.inB i (List.length list))&&((Go.V.inB k (List.length list))&&true))
 bif q0 then
 some (.inl false)
 else
 none
 else
 let q0:=((Go.V.inB i (List.length list))&&((Go.V.inB k (List.length list))&&true))
 bif q0 then
 M.rq list i fuel (Go.IntKind.wrap Go.IntKind.i64 (k+(1:Int)))
 else
 none
 else
 some ((.inr ((list,i))))
def pG:Nat->(List (List UInt8))->Int->Option ((Bool)⊕(Unit))
 |0,_,_=>none
 |fuel+1,list,i=>
 bif(decide (i<((List.length list):Int)))then
 let q0:=(M.rn (List.getD list (Int.toNat i) []))
 bif(!(Option.getD q0 default))then
 let q1:=((Option.isSome q0)&&((Go.V.inB i (List.length list))&&true))
 bif q1 then
 some (.inl false)
 else
 none
 else
 match(M.rq list i Go.V.ah (0:Int))with
 |none=>none
 |some y1=>
 (match y1 with
 |.inl a2=>
 let q3:=((Option.isSome q0)&&((Go.V.inB i (List.length list))&&true))
 bif q3 then
 some (.inl a2)
 else
 none
 |.inr b2=>
 let q3:=((Option.isSome q0)&&((Go.V.inB i (List.length list))&&true))
 bif q3 then
 M.pG fuel b2.1 (Go.IntKind.wrap Go.IntKind.i64 (b2.2+(1:Int)))
 else
 none)
 else
 some ((.inr (())))
def wk(list:(List (List UInt8))):Option (Bool):=
 bif((decide (((List.length list):Int)<(1:Int)))||(decide ((16:Int)<((List.length list):Int))))then
 some false
 else
 match(M.pG Go.V.ah list (0:Int))with
 |none=>none
 |some y0=>
 (match y0 with
 |.inl a1=>
 some a1
 |.inr b1=>
 some true)
def nE:Nat->Int->M.aa->Option ((Bool)⊕(Unit))
 |0,_,_=>none
 |fuel+1,i,t=>
 bif(decide (i<((List.length (M.aa.Kids t)):Int)))then
 bif((M.aa.Kind (List.getD (M.aa.Kids t) (Int.toNat i) M.aa.zero))==(1:Int))then
 bif((Go.V.inB i (List.length (M.aa.Kids t)))&&true)then
 some (.inl true)
 else
 none
 else
 bif((Go.V.inB i (List.length (M.aa.Kids t)))&&true)then
 M.nE fuel (Go.IntKind.wrap Go.IntKind.i64 (i+(1:Int))) (M.aa.re t)
 else
 none
 else
 some ((.inr (())))
def ru(t:M.aa):Option (Bool):=
 match(M.nE Go.V.ah (0:Int) (M.aa.re t))with
 |none=>none
 |some y0=>
 (match y0 with
 |.inl a1=>
 some a1
 |.inr b1=>
 some false)
def nF(eM:M.aa->Int->Int->Option (Bool))(low:Int)(high:Int):Nat->Int->M.aa->Option ((Bool)⊕(Unit))
 |0,_,_=>none
 |fuel+1,i,t=>
 bif(decide (i<((List.length (M.aa.Kids t)):Int)))then
 bif(Option.getD (eM (M.aa.re (List.getD (M.aa.Kids t) (Int.toNat i) M.aa.zero)) low high) default)then
 let q0:=((Option.isSome (eM (M.aa.re (List.getD (M.aa.Kids t) (Int.toNat i) M.aa.zero)) low high))&&((Go.V.inB i (List.length (M.aa.Kids t)))&&true))
 bif q0 then
 some (.inl true)
 else
 none
 else
 let q0:=((Option.isSome (eM (M.aa.re (List.getD (M.aa.Kids t) (Int.toNat i) M.aa.zero)) low high))&&((Go.V.inB i (List.length (M.aa.Kids t)))&&true))
 bif q0 then
 M.nF eM low high fuel (Go.IntKind.wrap Go.IntKind.i64 (i+(1:Int))) (M.aa.re t)
 else
 none
 else
 some ((.inr (())))
def zE(eM:M.aa->Int->Int->Option (Bool))(t:M.aa)(low:Int)(high:Int):Option (Bool):=
 bif((decide (low<=(M.aa.Kind t)))&&(decide ((M.aa.Kind t)<=high)))then
 some true
 else
 match(M.nF eM low high Go.V.ah (0:Int) (M.aa.re t))with
 |none=>none
 |some y0=>
 (match y0 with
 |.inl a1=>
 some a1
 |.inr b1=>
 some false)
def mH:Nat->M.aa->Int->Int->Option (Bool)
 |0=>fun _ _ _=>none
 |n+1=>zE (mH n)
def tZ:M.aa->Int->Int->Option (Bool):=mH Go.V.ah
def wq(t:M.aa):Option (Bool):=
 let q0:=(((M.aa.Kind t)==(20:Int))||((M.aa.Kind t)==(21:Int)))
 let q1:=(!(q0==(!((M.aa.Name t)==[]))))
 let q2:=(M.rn (M.aa.Name t))
 let q3:=((decide ((16:Int)<=(M.aa.Kind t)))&&(decide ((M.aa.Kind t)<=(19:Int))))
 let q4:=((q1||(q0&&(!(Option.getD q2 default))))||(!(q3==(decide ((0:Int)<((List.length (M.aa.bu t)):Int))))))
 let q5:=(M.wk (M.aa.bu t))
 bif(q4||(q3&&(!(Option.getD q5 default))))then
 let q6:=(((Option.isSome q5)||(!((q4==false)&&(q3==true))))&&(((Option.isSome q2)||(!((q1==false)&&(q0==true))))&&true))
 bif q6 then
 some false
 else
 none
 else
 bif(bif((M.aa.Kind t)==(12:Int))then((M.aa.Kind t)==(12:Int))else((M.aa.Kind t)==(13:Int)))then
 let q6:=(M.ru (M.aa.re t))
 let q7:=(!((((List.length (M.aa.Kids t)):Int)==(1:Int))==true))
 let q8:=(((Option.isSome q5)||(!((q4==false)&&(q3==true))))&&(((Option.isSome q2)||(!((q1==false)&&(q0==true))))&&true))
 let q9:=((q8||(!((M.aa.Kind t)==(12:Int))))&&(q8||((M.aa.Kind t)==(12:Int))))
 bif(((Option.isSome q6)||q7)&&q9)then
 some ((((List.length (M.aa.Kids t)):Int)==(1:Int))&&(!(Option.getD q6 default)))
 else
 none
 else
 bif(bif((M.aa.Kind t)==(22:Int))then((M.aa.Kind t)==(22:Int))else((M.aa.Kind t)==(23:Int)))then
 let q6:=(M.tZ (M.aa.re (List.getD (M.aa.Kids t) (Int.toNat (0:Int)) M.aa.zero)) (21:Int) (21:Int))
 let q7:=(!((((List.length (M.aa.Kids t)):Int)==(1:Int))==true))
 let q8:=(((Option.isSome q5)||(!((q4==false)&&(q3==true))))&&(((Option.isSome q2)||(!((q1==false)&&(q0==true))))&&true))
 let q9:=((q8||(!((M.aa.Kind t)==(12:Int))))&&(q8||((M.aa.Kind t)==(12:Int))))
 let q10:=((q9||(!((M.aa.Kind t)==(22:Int))))&&(q9||((M.aa.Kind t)==(22:Int))))
 bif(((Option.isSome q6)||q7)&&(((Go.V.inB (0:Int) (List.length (M.aa.Kids t)))||q7)&&q10))then
 some ((((List.length (M.aa.Kids t)):Int)==(1:Int))&&(!(Option.getD q6 default)))
 else
 none
 else
 bif((M.aa.Kind t)==(14:Int))then
 let q6:=(((Option.isSome q5)||(!((q4==false)&&(q3==true))))&&(((Option.isSome q2)||(!((q1==false)&&(q0==true))))&&true))
 let q7:=((q6||(!((M.aa.Kind t)==(12:Int))))&&(q6||((M.aa.Kind t)==(12:Int))))
 let q8:=((q7||(!((M.aa.Kind t)==(22:Int))))&&(q7||((M.aa.Kind t)==(22:Int))))
 bif q8 then
 some (((List.length (M.aa.Kids t)):Int)==(2:Int))
 else
 none
 else
 bif((M.aa.Kind t)==(15:Int))then
 let q6:=(M.ru (M.aa.re t))
 let q7:=((decide ((1:Int)<=((List.length (M.aa.Kids t)):Int)))&&(decide (((List.length (M.aa.Kids t)):Int)<=(6:Int))))
 let q8:=(((Option.isSome q5)||(!((q4==false)&&(q3==true))))&&(((Option.isSome q2)||(!((q1==false)&&(q0==true))))&&true))
 let q9:=((q8||(!((M.aa.Kind t)==(12:Int))))&&(q8||((M.aa.Kind t)==(12:Int))))
 let q10:=((q9||(!((M.aa.Kind t)==(22:Int))))&&(q9||((M.aa.Kind t)==(22:Int))))
 bif(((Option.isSome q6)||(!(q7==true)))&&q10)then
 some (q7&&(!(Option.getD q6 default)))
 else
 none
 else
 bif((M.aa.Kind t)==(16:Int))then
 let q6:=(M.ru (M.aa.re t))
 let q7:=(((Option.isSome q5)||(!((q4==false)&&(q3==true))))&&(((Option.isSome q2)||(!((q1==false)&&(q0==true))))&&true))
 let q8:=((q7||(!((M.aa.Kind t)==(12:Int))))&&(q7||((M.aa.Kind t)==(12:Int))))
 let q9:=((q8||(!((M.aa.Kind t)==(22:Int))))&&(q8||((M.aa.Kind t)==(22:Int))))
 bif(((Option.isSome q6)||(!((((List.length (M.aa.Kids t)):Int)==((List.length (M.aa.bu t)):Int))==true)))&&q9)then
 some ((((List.length (M.aa.Kids t)):Int)==((List.length (M.aa.bu t)):Int))&&(!(Option.getD q6 default)))
 else
 none
 else
 bif((M.aa.Kind t)==(17:Int))then
 let q6:=(((Option.isSome q5)||(!((q4==false)&&(q3==true))))&&(((Option.isSome q2)||(!((q1==false)&&(q0==true))))&&true))
 let q7:=((q6||(!((M.aa.Kind t)==(12:Int))))&&(q6||((M.aa.Kind t)==(12:Int))))
 let q8:=((q7||(!((M.aa.Kind t)==(22:Int))))&&(q7||((M.aa.Kind t)==(22:Int))))
 bif q8 then
 some (((List.length (M.aa.Kids t)):Int)==((List.length (M.aa.bu t)):Int))
 else
 none
 else
 let q6:=(((Option.isSome q5)||(!((q4==false)&&(q3==true))))&&(((Option.isSome q2)||(!((q1==false)&&(q0==true))))&&true))
 let q7:=((q6||(!((M.aa.Kind t)==(12:Int))))&&(q6||((M.aa.Kind t)==(12:Int))))
 let q8:=((q7||(!((M.aa.Kind t)==(22:Int))))&&(q7||((M.aa.Kind t)==(22:Int))))
 bif q8 then
 some (((decide ((1:Int)<=(M.aa.Kind t)))&&(decide ((M.aa.Kind t)<=(23:Int))))&&(((List.length (M.aa.Kids t)):Int)==(0:Int)))
 else
 none
def nG(eN:M.aa->Option (Bool)):Nat->Int->M.aa->Option ((Bool)⊕(Unit))
 |0,_,_=>none
 |fuel+1,i,t=>
 bif(decide (i<((List.length (M.aa.Kids t)):Int)))then
 bif(!(Option.getD (eN (M.aa.re (List.getD (M.aa.Kids t) (Int.toNat i) M.aa.zero))) default))then
 let q0:=((Option.isSome (eN (M.aa.re (List.getD (M.aa.Kids t) (Int.toNat i) M.aa.zero))))&&((Go.V.inB i (List.length (M.aa.Kids t)))&&true))
 bif q0 then
 some (.inl false)
 else
 none
 else
 let q0:=((Option.isSome (eN (M.aa.re (List.getD (M.aa.Kids t) (Int.toNat i) M.aa.zero))))&&((Go.V.inB i (List.length (M.aa.Kids t)))&&true))
 bif q0 then
 M.nG eN fuel (Go.IntKind.wrap Go.IntKind.i64 (i+(1:Int))) (M.aa.re t)
 else
 none
 else
 some ((.inr (())))
def zF(eN:M.aa->Option (Bool))(t:M.aa):Option (Bool):=
 let q0:=(M.wq (M.aa.re t))
 bif(!(Option.getD q0 default))then
 bif((Option.isSome q0)&&true)then
 some false
 else
 none
 else
 match(M.nG eN Go.V.ah (0:Int) (M.aa.re t))with
 |none=>none
 |some y1=>
 (match y1 with
 |.inl a2=>
 bif((Option.isSome q0)&&true)then
 some a2
 else
 none
 |.inr b2=>
 bif((Option.isSome q0)&&true)then
 some true
 else
 none)
def nH:Nat->M.aa->Option (Bool)
 |0=>fun _=>none
 |n+1=>zF (nH n)
def CO:M.aa->Option (Bool):=nH Go.V.ah
def rx(fc:M.aa->Int->Option (Int))(levels:Int)(t11:(List M.aa))(t12:Int):Nat->Int->Int->Option (Int)
 |0,_,_=>none
 |fuel+1,depth,t13=>
 bif(decide (t13<t12))then
 bif((Option.isSome (fc (M.aa.re (List.getD t11 (Int.toNat t13) M.aa.zero)) (Go.IntKind.wrap Go.IntKind.i64 (levels-(1:Int)))))&&((Go.V.inB t13 (List.length t11))&&true))then
 let q0:=(Option.getD (fc (M.aa.re (List.getD t11 (Int.toNat t13) M.aa.zero)) (Go.IntKind.wrap Go.IntKind.i64 (levels-(1:Int)))) default)
 M.rx fc levels t11 t12 fuel (bif(decide (depth<q0))then q0 else depth) (Go.IntKind.wrap Go.IntKind.i64 (t13+(1:Int)))
 else
 none
 else
 some (depth)
def zG(fc:M.aa->Int->Option (Int))(t:M.aa)(levels:Int):Option (Int):=
 bif(levels==(0:Int))then
 some (1:Int)
 else
 match(M.rx fc levels (M.aa.Kids t) ((List.length (M.aa.Kids t)):Int) Go.V.ah (0:Int) (0:Int))with
 |none=>none
 |some y0=>
 some (Go.IntKind.wrap Go.IntKind.i64 (y0+(1:Int)))
def ry:Nat->M.aa->Int->Option (Int)
 |0=>fun _ _=>none
 |n+1=>zG (ry n)
def CQ:M.aa->Int->Option (Int):=ry Go.V.ah
def rz(fe:M.aa->Option (Int))(t7:(List M.aa))(t8:Int):Nat->Int->Int->Option (Int)
 |0,_,_=>none
 |fuel+1,many,t9=>
 bif(decide (t9<t8))then
 bif((Option.isSome (fe (M.aa.re (List.getD t7 (Int.toNat t9) M.aa.zero))))&&((Go.V.inB t9 (List.length t7))&&true))then
 M.rz fe t7 t8 fuel (Go.IntKind.wrap Go.IntKind.i64 (many+(Option.getD (fe (M.aa.re (List.getD t7 (Int.toNat t9) M.aa.zero))) default))) (Go.IntKind.wrap Go.IntKind.i64 (t9+(1:Int)))
 else
 none
 else
 some (many)
def zH(fe:M.aa->Option (Int))(t:M.aa):Option (Int):=
 match(M.rz fe (M.aa.Kids t) ((List.length (M.aa.Kids t)):Int) Go.V.ah (1:Int) (0:Int))with
 |none=>none
 |some y0=>
 some y0
def rA:Nat->M.aa->Option (Int)
 |0=>fun _=>none
 |n+1=>zH (rA n)
def CU:M.aa->Option (Int):=rA Go.V.ah
def wz(cb:M.aa->Option (Bool))(kid:M.aa):Option (Bool):=
 bif((Option.isSome (cb (M.aa.re kid)))&&true)then
 some (!(Option.getD (cb (M.aa.re kid)) default))
 else
 none
def ua(cb:M.aa->Option (Bool))(s:(List M.aa))(t7:Int):Nat->Int->Option ((Int)⊕(Unit))
 |0,_=>none
 |fuel+1,t8=>
 bif(decide (t8<t7))then
 let q0:=(M.wz cb (M.aa.re (List.getD s (Int.toNat t8) M.aa.zero)))
 bif(Option.getD q0 default)then
 let q1:=((Option.isSome q0)&&((Go.V.inB t8 (List.length s))&&true))
 bif q1 then
 some (.inl t8)
 else
 none
 else
 let q1:=((Option.isSome q0)&&((Go.V.inB t8 (List.length s))&&true))
 bif q1 then
 M.ua cb s t7 fuel (Go.IntKind.wrap Go.IntKind.i64 (t8+(1:Int)))
 else
 none
 else
 some ((.inr (())))
def zI(cb:M.aa->Option (Bool))(s:(List M.aa)):Option (Int):=
 match(M.ua cb s ((List.length s):Int) Go.V.ah (0:Int))with
 |none=>none
 |some y0=>
 (match y0 with
 |.inl a1=>
 some a1
 |.inr b1=>
 some (-(1:Int)))
def ub(cb:M.aa->Option (Bool))(s:(List M.aa)):Option (Bool):=
 let q0:=(M.zI cb s)
 bif((Option.isSome q0)&&true)then
 some (decide ((0:Int)<=(Option.getD q0 default)))
 else
 none
def rC(n:Int)(low:Int)(high:Int):Option (Bool):=
 some ((decide (low<=n))&&(decide (n<=high)))
def wC(list:(List (List UInt8))):Option (Int):=
 some ((List.length list):Int)
def rD(s:(List UInt8))(t7:Int):Nat->Int->Option ((Bool)⊕((List UInt8)))
 |0,_=>none
 |fuel+1,t8=>
 bif(decide (t8<t7))then
 bif((decide ((97:Int)<=((UInt8.toNat (List.getD s (Int.toNat t8) (0:UInt8))):Int)))&&(decide (((UInt8.toNat (List.getD s (Int.toNat t8) (0:UInt8))):Int)<=(122:Int))))then
 let q0:=(((Go.V.inB t8 (List.length s))||(!((decide ((48:Int)<=((UInt8.toNat (List.getD s (Int.toNat t8) (0:UInt8))):Int)))==true)))&&((Go.V.inB t8 (List.length s))&&(((Go.V.inB t8 (List.length s))||(!((decide ((97:Int)<=((UInt8.toNat (List.getD s (Int.toNat t8) (0:UInt8))):Int)))==true)))&&((Go.V.inB t8 (List.length s))&&true))))
 bif q0 then
 M.rD s t7 fuel (Go.IntKind.wrap Go.IntKind.i64 (t8+(1:Int)))
 else
 none
 else
 let q0:=(!((decide ((48:Int)<=((UInt8.toNat (List.getD s (Int.toNat t8) (0:UInt8))):Int)))&&(decide (((UInt8.toNat (List.getD s (Int.toNat t8) (0:UInt8))):Int)<=(57:Int)))))
 bif((t8==(0:Int))||(q0&&(((UInt8.toNat (List.getD s (Int.toNat t8) (0:UInt8))):Int) !=(45:Int))))then
 let q1:=(((Go.V.inB t8 (List.length s))||(!((decide ((48:Int)<=((UInt8.toNat (List.getD s (Int.toNat t8) (0:UInt8))):Int)))==true)))&&((Go.V.inB t8 (List.length s))&&(((Go.V.inB t8 (List.length s))||(!((decide ((97:Int)<=((UInt8.toNat (List.getD s (Int.toNat t8) (0:UInt8))):Int)))==true)))&&((Go.V.inB t8 (List.length s))&&true))))
 let q2:=(((Go.V.inB t8 (List.length s))||(!(((t8==(0:Int))==false)&&(q0==true))))&&q1)
 bif q2 then
 some (.inl false)
 else
 none
 else
 let q1:=(((UInt8.toNat (List.getD s (Int.toNat t8) (0:UInt8))):Int)==(45:Int))
 bif(q1&&(((UInt8.toNat (List.getD s (Int.toNat (Go.IntKind.wrap Go.IntKind.i64 (t8-(1:Int)))) (0:UInt8))):Int)==(45:Int)))then
 let q2:=(((Go.V.inB t8 (List.length s))||(!((decide ((48:Int)<=((UInt8.toNat (List.getD s (Int.toNat t8) (0:UInt8))):Int)))==true)))&&((Go.V.inB t8 (List.length s))&&(((Go.V.inB t8 (List.length s))||(!((decide ((97:Int)<=((UInt8.toNat (List.getD s (Int.toNat t8) (0:UInt8))):Int)))==true)))&&((Go.V.inB t8 (List.length s))&&true))))
 let q3:=(((Go.V.inB t8 (List.length s))||(!(((t8==(0:Int))==false)&&(q0==true))))&&q2)
 let q4:=(((Go.V.inB (Go.IntKind.wrap Go.IntKind.i64 (t8-(1:Int))) (List.length s))||(!(q1==true)))&&((Go.V.inB t8 (List.length s))&&q3))
 bif q4 then
 some (.inl false)
 else
 none
 else
 let q2:=(((Go.V.inB t8 (List.length s))||(!((decide ((48:Int)<=((UInt8.toNat (List.getD s (Int.toNat t8) (0:UInt8))):Int)))==true)))&&((Go.V.inB t8 (List.length s))&&(((Go.V.inB t8 (List.length s))||(!((decide ((97:Int)<=((UInt8.toNat (List.getD s (Int.toNat t8) (0:UInt8))):Int)))==true)))&&((Go.V.inB t8 (List.length s))&&true))))
 let q3:=(((Go.V.inB t8 (List.length s))||(!(((t8==(0:Int))==false)&&(q0==true))))&&q2)
 let q4:=(((Go.V.inB (Go.IntKind.wrap Go.IntKind.i64 (t8-(1:Int))) (List.length s))||(!(q1==true)))&&((Go.V.inB t8 (List.length s))&&q3))
 bif q4 then
 M.rD s t7 fuel (Go.IntKind.wrap Go.IntKind.i64 (t8+(1:Int)))
 else
 none
 else
 some ((.inr (s)))
def rE(s:(List UInt8)):Option (Bool):=
 match(M.rD s ((List.length s):Int) Go.V.ah (0:Int))with
 |none=>none
 |some y0=>
 (match y0 with
 |.inl a1=>
 some a1
 |.inr b1=>
 let q2:=((decide ((1:Int)<=((List.length b1):Int)))&&(decide (((List.length b1):Int)<=(12:Int))))
 bif(((Go.V.inB (Go.IntKind.wrap Go.IntKind.i64 (((List.length b1):Int)-(1:Int))) (List.length b1))||(!(q2==true)))&&true)then
 some (q2&&(((UInt8.toNat (List.getD b1 (Int.toNat (Go.IntKind.wrap Go.IntKind.i64 (((List.length b1):Int)-(1:Int)))) (0:UInt8))):Int) !=(45:Int)))
 else
 none)
def wE(name:(List UInt8)):Option (Bool):=
 let q0:=(M.rE name)
 bif((Option.isSome q0)&&true)then
 some (!(Option.getD q0 default))
 else
 none
def uc(s:(List (List UInt8)))(t7:Int):Nat->Int->Option ((Int)⊕(Unit))
 |0,_=>none
 |fuel+1,t8=>
 bif(decide (t8<t7))then
 let q0:=(M.wE (List.getD s (Int.toNat t8) []))
 bif(Option.getD q0 default)then
 let q1:=((Option.isSome q0)&&((Go.V.inB t8 (List.length s))&&true))
 bif q1 then
 some (.inl t8)
 else
 none
 else
 let q1:=((Option.isSome q0)&&((Go.V.inB t8 (List.length s))&&true))
 bif q1 then
 M.uc s t7 fuel (Go.IntKind.wrap Go.IntKind.i64 (t8+(1:Int)))
 else
 none
 else
 some ((.inr (())))
def zJ(s:(List (List UInt8))):Option (Int):=
 match(M.uc s ((List.length s):Int) Go.V.ah (0:Int))with
 |none=>none
 |some y0=>
 (match y0 with
 |.inl a1=>
 some a1
 |.inr b1=>
 some (-(1:Int)))
def wF(s:(List (List UInt8))):Option (Bool):=
 let q0:=(M.zJ s)
 bif((Option.isSome q0)&&true)then
 some (decide ((0:Int)<=(Option.getD q0 default)))
 else
 none
def wG(labels:(List (List UInt8))):Option (Bool):=
 let q0:=(M.wF labels)
 let q1:=((decide ((1:Int)<=((List.length labels):Int)))&&(decide (((List.length labels):Int)<=(16:Int))))
 let q2:=(M.rF labels)
 let q3:=(q1&&(Option.getD q2 default))
 bif(((Option.isSome q0)||(!(q3==true)))&&(((Option.isSome q2)||(!(q1==true)))&&true))then
 some (q3&&(!(Option.getD q0 default)))
 else
 none
def zL(list:(List M.aa)):Option (Int):=
 some ((List.length list):Int)
def C2(t:M.aa):Option (Bool):=
 some ((M.aa.Kind t)==(1:Int))
def ud(s:(List M.aa))(t7:Int):Nat->Int->Option ((Int)⊕(Unit))
 |0,_=>none
 |fuel+1,t8=>
 bif(decide (t8<t7))then
 bif((M.aa.Kind (List.getD s (Int.toNat t8) M.aa.zero))==(1:Int))then
 bif((Go.V.inB t8 (List.length s))&&true)then
 some (.inl t8)
 else
 none
 else
 bif((Go.V.inB t8 (List.length s))&&true)then
 M.ud s t7 fuel (Go.IntKind.wrap Go.IntKind.i64 (t8+(1:Int)))
 else
 none
 else
 some ((.inr (())))
def zM(s:(List M.aa)):Option (Int):=
 match(M.ud s ((List.length s):Int) Go.V.ah (0:Int))with
 |none=>none
 |some y0=>
 (match y0 with
 |.inl a1=>
 some a1
 |.inr b1=>
 some (-(1:Int)))
def wH(s:(List M.aa)):Option (Bool):=
 let q0:=(M.zM s)
 bif((Option.isSome q0)&&true)then
 some (decide ((0:Int)<=(Option.getD q0 default)))
 else
 none
def pL(t:M.aa)(many:Int):Option (Bool):=
 let q0:=(M.wH (M.aa.Kids t))
 bif(((Option.isSome q0)||(!((((List.length (M.aa.Kids t)):Int)==many)==true)))&&true)then
 some ((((List.length (M.aa.Kids t)):Int)==many)&&(!(Option.getD q0 default)))
 else
 none
def ue(s:(List Int))(v:Int)(t7:Int):Nat->Int->Option ((Int)⊕(Unit))
 |0,_=>none
 |fuel+1,t8=>
 bif(decide (t8<t7))then
 bif(v==(List.getD s (Int.toNat t8) (0:Int)))then
 bif((Go.V.inB t8 (List.length s))&&true)then
 some (.inl t8)
 else
 none
 else
 bif((Go.V.inB t8 (List.length s))&&true)then
 M.ue s v t7 fuel (Go.IntKind.wrap Go.IntKind.i64 (t8+(1:Int)))
 else
 none
 else
 some ((.inr (())))
def zN(s:(List Int))(v:Int):Option (Int):=
 match(M.ue s v ((List.length s):Int) Go.V.ah (0:Int))with
 |none=>none
 |some y0=>
 (match y0 with
 |.inl a1=>
 some a1
 |.inr b1=>
 some (-(1:Int)))
def wI(s:(List Int))(v:Int):Option (Bool):=
 let q0:=(M.zN s v)
 bif((Option.isSome q0)&&true)then
 some (decide ((0:Int)<=(Option.getD q0 default)))
 else
 none
def wJ(cg:M.aa->(List Int)->Option (Bool))(kid:M.aa)(t1:(List Int)):Option (Bool):=
 bif((Option.isSome (cg (M.aa.re kid) t1))&&true)then
 some (Option.getD (cg (M.aa.re kid) t1) default)
 else
 none
def uf(cg:M.aa->(List Int)->Option (Bool))(s:(List M.aa))(f:(List Int))(t7:Int):Nat->Int->Option ((Int)⊕(Unit))
 |0,_=>none
 |fuel+1,t8=>
 bif(decide (t8<t7))then
 let q0:=(M.wJ cg (M.aa.re (List.getD s (Int.toNat t8) M.aa.zero)) f)
 bif(Option.getD q0 default)then
 let q1:=((Option.isSome q0)&&((Go.V.inB t8 (List.length s))&&true))
 bif q1 then
 some (.inl t8)
 else
 none
 else
 let q1:=((Option.isSome q0)&&((Go.V.inB t8 (List.length s))&&true))
 bif q1 then
 M.uf cg s f t7 fuel (Go.IntKind.wrap Go.IntKind.i64 (t8+(1:Int)))
 else
 none
 else
 some ((.inr (())))
def zO(cg:M.aa->(List Int)->Option (Bool))(s:(List M.aa))(f:(List Int)):Option (Int):=
 match(M.uf cg s f ((List.length s):Int) Go.V.ah (0:Int))with
 |none=>none
 |some y0=>
 (match y0 with
 |.inl a1=>
 some a1
 |.inr b1=>
 some (-(1:Int)))
def wK(cg:M.aa->(List Int)->Option (Bool))(s:(List M.aa))(f:(List Int)):Option (Bool):=
 let q0:=(M.zO cg s f)
 bif((Option.isSome q0)&&true)then
 some (decide ((0:Int)<=(Option.getD q0 default)))
 else
 none
def zP(cg:M.aa->(List Int)->Option (Bool))(t:M.aa)(kinds:(List Int)):Option (Bool):=
 let q0:=(M.wK cg (M.aa.Kids t) kinds)
 let q1:=(M.wI kinds (M.aa.Kind t))
 bif(((Option.isSome q0)||(!((Option.getD q1 default)==false)))&&((Option.isSome q1)&&true))then
 some ((Option.getD q1 default)||(Option.getD q0 default))
 else
 none
def nI:Nat->M.aa->(List Int)->Option (Bool)
 |0=>fun _ _=>none
 |n+1=>zP (nI n)
def ug:M.aa->(List Int)->Option (Bool):=nI Go.V.ah
def wL(cb:M.aa->Option (Bool))(t:M.aa):Option (Bool):=
 let q0:=(M.ub cb (M.aa.Kids t))
 bif(Option.getD q0 default)then
 bif((Option.isSome q0)&&true)then
 some false
 else
 none
 else
 let q1:=((decide ((16:Int)<=(M.aa.Kind t)))&&(decide ((M.aa.Kind t)<=(19:Int))))
 let q2:=(M.wG (M.aa.bu t))
 let q3:=((q1&&(!(Option.getD q2 default)))||((!q1)&&(decide ((0:Int)<((List.length (M.aa.bu t)):Int)))))
 let q4:=(((M.aa.Kind t)==(20:Int))||((M.aa.Kind t)==(21:Int)))
 let q5:=(M.rE (M.aa.Name t))
 bif((q3||(q4&&(!(Option.getD q5 default))))||((!q4)&&(!((M.aa.Name t)==[]))))then
 let q6:=(((Option.isSome q5)||(!((q3==false)&&(q4==true))))&&(((Option.isSome q2)||(!(q1==true)))&&((Option.isSome q0)&&true)))
 bif q6 then
 some false
 else
 none
 else
 bif(bif((M.aa.Kind t)==(12:Int))then((M.aa.Kind t)==(12:Int))else((M.aa.Kind t)==(13:Int)))then
 let q6:=(M.pL (M.aa.re t) (1:Int))
 let q7:=(((Option.isSome q5)||(!((q3==false)&&(q4==true))))&&(((Option.isSome q2)||(!(q1==true)))&&((Option.isSome q0)&&true)))
 let q8:=((q7||(!((M.aa.Kind t)==(12:Int))))&&(q7||((M.aa.Kind t)==(12:Int))))
 bif((Option.isSome q6)&&q8)then
 some (Option.getD q6 default)
 else
 none
 else
 bif((M.aa.Kind t)==(14:Int))then
 let q6:=(((Option.isSome q5)||(!((q3==false)&&(q4==true))))&&(((Option.isSome q2)||(!(q1==true)))&&((Option.isSome q0)&&true)))
 let q7:=((q6||(!((M.aa.Kind t)==(12:Int))))&&(q6||((M.aa.Kind t)==(12:Int))))
 bif q7 then
 some (((List.length (M.aa.Kids t)):Int)==(2:Int))
 else
 none
 else
 bif((M.aa.Kind t)==(15:Int))then
 let q6:=(M.pL (M.aa.re t) ((List.length (M.aa.Kids t)):Int))
 let q7:=((decide ((1:Int)<=((List.length (M.aa.Kids t)):Int)))&&(decide (((List.length (M.aa.Kids t)):Int)<=(6:Int))))
 let q8:=(((Option.isSome q5)||(!((q3==false)&&(q4==true))))&&(((Option.isSome q2)||(!(q1==true)))&&((Option.isSome q0)&&true)))
 let q9:=((q8||(!((M.aa.Kind t)==(12:Int))))&&(q8||((M.aa.Kind t)==(12:Int))))
 bif(((Option.isSome q6)||(!(q7==true)))&&q9)then
 some (q7&&(Option.getD q6 default))
 else
 none
 else
 bif((M.aa.Kind t)==(16:Int))then
 let q6:=(M.pL (M.aa.re t) ((List.length (M.aa.bu t)):Int))
 let q7:=(((Option.isSome q5)||(!((q3==false)&&(q4==true))))&&(((Option.isSome q2)||(!(q1==true)))&&((Option.isSome q0)&&true)))
 let q8:=((q7||(!((M.aa.Kind t)==(12:Int))))&&(q7||((M.aa.Kind t)==(12:Int))))
 bif((Option.isSome q6)&&q8)then
 some (Option.getD q6 default)
 else
 none
 else
 bif((M.aa.Kind t)==(17:Int))then
 let q6:=(((Option.isSome q5)||(!((q3==false)&&(q4==true))))&&(((Option.isSome q2)||(!(q1==true)))&&((Option.isSome q0)&&true)))
 let q7:=((q6||(!((M.aa.Kind t)==(12:Int))))&&(q6||((M.aa.Kind t)==(12:Int))))
 bif q7 then
 some (((List.length (M.aa.Kids t)):Int)==((List.length (M.aa.bu t)):Int))
 else
 none
 else
 bif(bif((M.aa.Kind t)==(22:Int))then((M.aa.Kind t)==(22:Int))else((M.aa.Kind t)==(23:Int)))then
 let q6:=(M.ug (M.aa.re (List.getD (M.aa.Kids t) (Int.toNat (0:Int)) M.aa.zero)) [(21:Int)])
 let q7:=(!((((List.length (M.aa.Kids t)):Int)==(1:Int))==true))
 let q8:=(((Option.isSome q5)||(!((q3==false)&&(q4==true))))&&(((Option.isSome q2)||(!(q1==true)))&&((Option.isSome q0)&&true)))
 let q9:=((q8||(!((M.aa.Kind t)==(12:Int))))&&(q8||((M.aa.Kind t)==(12:Int))))
 let q10:=((q9||(!((M.aa.Kind t)==(22:Int))))&&(q9||((M.aa.Kind t)==(22:Int))))
 bif(((Option.isSome q6)||q7)&&(((Go.V.inB (0:Int) (List.length (M.aa.Kids t)))||q7)&&q10))then
 some ((((List.length (M.aa.Kids t)):Int)==(1:Int))&&(!(Option.getD q6 default)))
 else
 none
 else
 let q6:=(((Option.isSome q5)||(!((q3==false)&&(q4==true))))&&(((Option.isSome q2)||(!(q1==true)))&&((Option.isSome q0)&&true)))
 let q7:=((q6||(!((M.aa.Kind t)==(12:Int))))&&(q6||((M.aa.Kind t)==(12:Int))))
 let q8:=((q7||(!((M.aa.Kind t)==(22:Int))))&&(q7||((M.aa.Kind t)==(22:Int))))
 bif q8 then
 some (((decide ((1:Int)<=(M.aa.Kind t)))&&(decide ((M.aa.Kind t)<=(23:Int))))&&(((List.length (M.aa.Kids t)):Int)==(0:Int)))
 else
 none
def pM:Nat->M.aa->Option (Bool)
 |0=>fun _=>none
 |n+1=>wL (pM n)
def C6:M.aa->Option (Bool):=pM Go.V.ah
def wM(t:M.aa):Option (Bool):=
 let q0:=(M.CO (M.aa.re t))
 let q1:=(M.CG (M.aa.re t) (1:Int))
 let q2:=((decide ((Option.getD q1 default).1<=(4:Int)))&&(decide ((Option.getD q1 default).2<=(24:Int))))
 bif(((Option.isSome q0)||(!(q2==true)))&&((Option.isSome q1)&&true))then
 some (q2&&(Option.getD q0 default))
 else
 none
def wN(t:M.aa):Option (Bool):=
 let q0:=(M.wM (M.aa.re t))
 bif((Option.isSome q0)&&true)then
 some (Option.getD q0 default)
 else
 none
def uh(bq:M.ae->M.aa->Option (Bool))(kids:(List M.ae))(t:M.aa):Option (Bool):=
 bif((M.aa.Kind t)==(1:Int))then
 some (((List.length kids):Int)==(0:Int))
 else
 let q0:=(!((((List.length kids):Int)==(1:Int))==true))
 bif(((Option.isSome (bq (M.ae.re (List.getD kids (Int.toNat (0:Int)) M.ae.zero)) (M.aa.re t)))||q0)&&(((Go.V.inB (0:Int) (List.length kids))||q0)&&true))then
 some ((((List.length kids):Int)==(1:Int))&&(Option.getD (bq (M.ae.re (List.getD kids (Int.toNat (0:Int)) M.ae.zero)) (M.aa.re t)) default))
 else
 none
def nJ(bq:M.ae->M.aa->Option (Bool))(kids:(List M.ae)):Nat->Int->M.aa->Option ((Bool)⊕(Unit))
 |0,_,_=>none
 |fuel+1,i,t=>
 bif(decide (i<((List.length kids):Int)))then
 bif(!(Option.getD (bq (M.ae.re (List.getD kids (Int.toNat i) M.ae.zero)) (M.aa.re t)) default))then
 let q0:=((Option.isSome (bq (M.ae.re (List.getD kids (Int.toNat i) M.ae.zero)) (M.aa.re t)))&&((Go.V.inB i (List.length kids))&&true))
 bif q0 then
 some (.inl false)
 else
 none
 else
 let q0:=((Option.isSome (bq (M.ae.re (List.getD kids (Int.toNat i) M.ae.zero)) (M.aa.re t)))&&((Go.V.inB i (List.length kids))&&true))
 bif q0 then
 M.nJ bq kids fuel (Go.IntKind.wrap Go.IntKind.i64 (i+(1:Int))) (M.aa.re t)
 else
 none
 else
 some ((.inr (())))
def ui(bq:M.ae->M.aa->Option (Bool))(kids:(List M.ae))(most:Int)(t:M.aa):Option (Bool):=
 bif(decide (most<((List.length kids):Int)))then
 some false
 else
 match(M.nJ bq kids Go.V.ah (0:Int) (M.aa.re t))with
 |none=>none
 |some y0=>
 (match y0 with
 |.inl a1=>
 some a1
 |.inr b1=>
 some true)
def jz(n:Int):Option (Bool):=
 some (((decide ((0:Int)<=n))&&(decide (n<=(55295:Int))))||((decide ((57344:Int)<=n))&&(decide (n<=(1114111:Int)))))
def rG(s:(List UInt8))(many:Int):Nat->Int->Int->Option ((List UInt8)×Int×Int)
 |0,_,_=>none
 |fuel+1,n,i=>
 bif(decide (i<many))then
 bif((Go.V.inB i (List.length s))&&true)then
 M.rG s many fuel (Go.V.dX Go.BinOp.or Go.IntKind.i64 (Go.V.lv Go.IntKind.i64 n (6:Int)) (Go.IntKind.wrap Go.IntKind.i64 (Go.V.dX Go.BinOp.and Go.IntKind.u8 ((UInt8.toNat (List.getD s (Int.toNat i) (0:UInt8))):Int) (63:Int)))) (Go.IntKind.wrap Go.IntKind.i64 (i+(1:Int)))
 else
 none
 else
 some ((s,many,n))
def pN(n:Int):Option ((List UInt8)):=
 bif(decide (n<(128:Int)))then
 bif(((Go.V.fH (Go.IntKind.wrap Go.IntKind.u8 n))&&true)&&true)then
 some (List.map (fun a=>a) [(Go.V.eA (Go.IntKind.wrap Go.IntKind.u8 n))])
 else
 none
 else
 bif(decide (n<(2048:Int)))then
 let q0:=(Go.IntKind.wrap Go.IntKind.u8 (Go.IntKind.wrap Go.IntKind.i64 ((192:Int)+(Go.V.gi Go.IntKind.i64 n (6:Int)))))
 let q1:=(Go.IntKind.wrap Go.IntKind.u8 (Go.IntKind.wrap Go.IntKind.i64 ((128:Int)+(Go.V.dX Go.BinOp.and Go.IntKind.i64 n (63:Int)))))
 let q2:=((Go.V.fH q1)&&true)
 bif(((Go.V.fH q0)&&q2)&&true)then
 let q3:=[(Go.V.eA q1)]
 some (List.map (fun a=>a) [(Go.V.eA q0),(Go.V.eA q1)])
 else
 none
 else
 bif(decide (n<(65536:Int)))then
 let q0:=(Go.IntKind.wrap Go.IntKind.u8 (Go.IntKind.wrap Go.IntKind.i64 ((224:Int)+(Go.V.gi Go.IntKind.i64 n (12:Int)))))
 let q1:=(Go.IntKind.wrap Go.IntKind.u8 (Go.IntKind.wrap Go.IntKind.i64 ((128:Int)+(Go.V.dX Go.BinOp.and Go.IntKind.i64 (Go.V.gi Go.IntKind.i64 n (6:Int)) (63:Int)))))
 let q2:=(Go.IntKind.wrap Go.IntKind.u8 (Go.IntKind.wrap Go.IntKind.i64 ((128:Int)+(Go.V.dX Go.BinOp.and Go.IntKind.i64 n (63:Int)))))
 let q3:=((Go.V.fH q2)&&true)
 let q4:=((Go.V.fH q1)&&q3)
 bif(((Go.V.fH q0)&&q4)&&true)then
 let q5:=[(Go.V.eA q2)]
 let q6:=[(Go.V.eA q1),(Go.V.eA q2)]
 some (List.map (fun a=>a) [(Go.V.eA q0),(Go.V.eA q1),(Go.V.eA q2)])
 else
 none
 else
 let q0:=(Go.IntKind.wrap Go.IntKind.u8 (Go.IntKind.wrap Go.IntKind.i64 ((240:Int)+(Go.V.gi Go.IntKind.i64 n (18:Int)))))
 let q1:=(Go.IntKind.wrap Go.IntKind.u8 (Go.IntKind.wrap Go.IntKind.i64 ((128:Int)+(Go.V.dX Go.BinOp.and Go.IntKind.i64 (Go.V.gi Go.IntKind.i64 n (12:Int)) (63:Int)))))
 let q2:=(Go.IntKind.wrap Go.IntKind.u8 (Go.IntKind.wrap Go.IntKind.i64 ((128:Int)+(Go.V.dX Go.BinOp.and Go.IntKind.i64 (Go.V.gi Go.IntKind.i64 n (6:Int)) (63:Int)))))
 let q3:=(Go.IntKind.wrap Go.IntKind.u8 (Go.IntKind.wrap Go.IntKind.i64 ((128:Int)+(Go.V.dX Go.BinOp.and Go.IntKind.i64 n (63:Int)))))
 let q4:=((Go.V.fH q3)&&true)
 let q5:=((Go.V.fH q2)&&q4)
 bif(((Go.V.fH q0)&&((Go.V.fH q1)&&q5))&&true)then
 let q6:=[(Go.V.eA q3)]
 let q7:=[(Go.V.eA q2),(Go.V.eA q3)]
 some (List.map (fun a=>a) [(Go.V.eA q0),(Go.V.eA q1),(Go.V.eA q2),(Go.V.eA q3)])
 else
 none
def wO(s:(List UInt8)):Option (Int×Int):=
 bif(s==[])then
 some ((0:Int),(0:Int))
 else
 let q0:=(bif(decide ((240:Int)<=((UInt8.toNat (List.getD s (Int.toNat (0:Int)) (0:UInt8))):Int)))then(4:Int)else(bif(decide ((224:Int)<=((UInt8.toNat (List.getD s (Int.toNat (0:Int)) (0:UInt8))):Int)))then(3:Int)else(bif(decide ((192:Int)<=((UInt8.toNat (List.getD s (Int.toNat (0:Int)) (0:UInt8))):Int)))then(2:Int)else(1:Int))))
 bif(decide (((List.length s):Int)<q0))then
 let q1:=((Go.V.inB (0:Int) (List.length s))&&((Go.V.inB (0:Int) (List.length s))&&((Go.V.inB (0:Int) (List.length s))&&true)))
 let q2:=((Go.V.inB (0:Int) (List.length s))&&q1)
 let q3:=((q1||(!(decide ((240:Int)<=((UInt8.toNat (List.getD s (Int.toNat (0:Int)) (0:UInt8))):Int)))))&&(((q2||(!(decide ((224:Int)<=((UInt8.toNat (List.getD s (Int.toNat (0:Int)) (0:UInt8))):Int)))))&&(((((Go.V.inB (0:Int) (List.length s))&&q2)||(!(decide ((192:Int)<=((UInt8.toNat (List.getD s (Int.toNat (0:Int)) (0:UInt8))):Int)))))&&(q2||(decide ((192:Int)<=((UInt8.toNat (List.getD s (Int.toNat (0:Int)) (0:UInt8))):Int)))))||(decide ((224:Int)<=((UInt8.toNat (List.getD s (Int.toNat (0:Int)) (0:UInt8))):Int)))))||(decide ((240:Int)<=((UInt8.toNat (List.getD s (Int.toNat (0:Int)) (0:UInt8))):Int)))))
 bif q3 then
 some ((0:Int),(0:Int))
 else
 none
 else
 let q1:=(Go.IntKind.wrap Go.IntKind.i64 ((UInt8.toNat (List.getD s (Int.toNat (0:Int)) (0:UInt8))):Int))
 match(M.rG s q0 Go.V.ah (bif(decide ((240:Int)<=((UInt8.toNat (List.getD s (Int.toNat (0:Int)) (0:UInt8))):Int)))then(Go.IntKind.wrap Go.IntKind.i64 (q1-(240:Int)))else(bif(decide ((224:Int)<=((UInt8.toNat (List.getD s (Int.toNat (0:Int)) (0:UInt8))):Int)))then(Go.IntKind.wrap Go.IntKind.i64 (q1-(224:Int)))else(bif(decide ((192:Int)<=((UInt8.toNat (List.getD s (Int.toNat (0:Int)) (0:UInt8))):Int)))then(Go.IntKind.wrap Go.IntKind.i64 (q1-(192:Int)))else q1))) (1:Int))with
 |none=>none
 |some y2=>
 let q3:=(M.jz y2.2.2)
 let q4:=(!(Option.getD q3 default))
 let q5:=(M.pN y2.2.2)
 bif(q4||(!((Option.getD q5 default)==(List.drop (Int.toNat (0:Int)) (List.take (Int.toNat y2.2.1) y2.1)))))then
 let q6:=(!(q4==false))
 let q7:=((Go.V.inB (0:Int) (List.length s))&&((Go.V.inB (0:Int) (List.length s))&&((Go.V.inB (0:Int) (List.length s))&&true)))
 let q8:=((Go.V.inB (0:Int) (List.length s))&&q7)
 let q9:=((q7||(!(decide ((240:Int)<=((UInt8.toNat (List.getD s (Int.toNat (0:Int)) (0:UInt8))):Int)))))&&(((q8||(!(decide ((224:Int)<=((UInt8.toNat (List.getD s (Int.toNat (0:Int)) (0:UInt8))):Int)))))&&(((((Go.V.inB (0:Int) (List.length s))&&q8)||(!(decide ((192:Int)<=((UInt8.toNat (List.getD s (Int.toNat (0:Int)) (0:UInt8))):Int)))))&&(q8||(decide ((192:Int)<=((UInt8.toNat (List.getD s (Int.toNat (0:Int)) (0:UInt8))):Int)))))||(decide ((224:Int)<=((UInt8.toNat (List.getD s (Int.toNat (0:Int)) (0:UInt8))):Int)))))||(decide ((240:Int)<=((UInt8.toNat (List.getD s (Int.toNat (0:Int)) (0:UInt8))):Int)))))
 let q10:=(((Go.V.bV (0:Int) y2.2.1 (List.length y2.1))||q6)&&(((Option.isSome q5)||q6)&&((Option.isSome q3)&&q9)))
 bif q10 then
 some ((0:Int),(0:Int))
 else
 none
 else
 let q6:=(!(q4==false))
 let q7:=((Go.V.inB (0:Int) (List.length s))&&((Go.V.inB (0:Int) (List.length s))&&((Go.V.inB (0:Int) (List.length s))&&true)))
 let q8:=((Go.V.inB (0:Int) (List.length s))&&q7)
 let q9:=((q7||(!(decide ((240:Int)<=((UInt8.toNat (List.getD s (Int.toNat (0:Int)) (0:UInt8))):Int)))))&&(((q8||(!(decide ((224:Int)<=((UInt8.toNat (List.getD s (Int.toNat (0:Int)) (0:UInt8))):Int)))))&&(((((Go.V.inB (0:Int) (List.length s))&&q8)||(!(decide ((192:Int)<=((UInt8.toNat (List.getD s (Int.toNat (0:Int)) (0:UInt8))):Int)))))&&(q8||(decide ((192:Int)<=((UInt8.toNat (List.getD s (Int.toNat (0:Int)) (0:UInt8))):Int)))))||(decide ((224:Int)<=((UInt8.toNat (List.getD s (Int.toNat (0:Int)) (0:UInt8))):Int)))))||(decide ((240:Int)<=((UInt8.toNat (List.getD s (Int.toNat (0:Int)) (0:UInt8))):Int)))))
 let q10:=(((Go.V.bV (0:Int) y2.2.1 (List.length y2.1))||q6)&&(((Option.isSome q5)||q6)&&((Option.isSome q3)&&q9)))
 bif q10 then
 some (y2.2.2,y2.2.1)
 else
 none
def pO:Nat->(List UInt8)->(List Int)->Option ((Bool×(List Int))⊕((List Int)))
 |0,_,_=>none
 |fuel+1,s,out=>
 bif(decide ((0:Int)<((List.length s):Int)))then
 let q0:=(M.wO s)
 bif((Option.getD q0 default).2==(0:Int))then
 bif((Option.isSome q0)&&true)then
 some (.inl (false,[]))
 else
 none
 else
 let q1:=[(Option.getD q0 default).1]
 bif((Go.V.bV (Option.getD q0 default).2 ((List.length s):Int) (List.length s))&&((decide (((List.length out)+(List.length q1))<=1073741824))&&((Option.isSome q0)&&true)))then
 M.pO fuel (List.drop (Int.toNat (Option.getD q0 default).2) (List.take (Int.toNat ((List.length s):Int)) s)) (out++q1)
 else
 none
 else
 some ((.inr (out)))
def nK(s:(List UInt8)):Option ((List Int)×Bool):=
 match(M.pO Go.V.ah s [])with
 |none=>none
 |some y0=>
 (match y0 with
 |.inl a1=>
 some (a1.2,a1.1)
 |.inr b1=>
 some (b1,true))
def wP(s:(List UInt8)):Option (Bool):=
 bif(decide ((24:Int)<((List.length s):Int)))then
 some false
 else
 let q0:=(M.nK s)
 bif((Option.isSome q0)&&true)then
 some (Option.getD q0 default).2
 else
 none
def nL(bq:M.ae->M.aa->Option (Bool))(kids:(List M.ae))(ts:(List M.aa)):Nat->Int->Option ((Bool)⊕(Unit))
 |0,_=>none
 |fuel+1,i=>
 bif(decide (i<((List.length kids):Int)))then
 bif(!(Option.getD (bq (M.ae.re (List.getD kids (Int.toNat i) M.ae.zero)) (M.aa.re (List.getD ts (Int.toNat i) M.aa.zero))) default))then
 let q0:=((Option.isSome (bq (M.ae.re (List.getD kids (Int.toNat i) M.ae.zero)) (M.aa.re (List.getD ts (Int.toNat i) M.aa.zero))))&&((Go.V.inB i (List.length ts))&&((Go.V.inB i (List.length kids))&&true)))
 bif q0 then
 some (.inl false)
 else
 none
 else
 let q0:=((Option.isSome (bq (M.ae.re (List.getD kids (Int.toNat i) M.ae.zero)) (M.aa.re (List.getD ts (Int.toNat i) M.aa.zero))))&&((Go.V.inB i (List.length ts))&&((Go.V.inB i (List.length kids))&&true)))
 bif q0 then
 M.nL bq kids ts fuel (Go.IntKind.wrap Go.IntKind.i64 (i+(1:Int)))
 else
 none
 else
 some ((.inr (())))
def wQ(bq:M.ae->M.aa->Option (Bool))(kids:(List M.ae))(ts:(List M.aa)):Option (Bool):=
 bif(((List.length kids):Int) !=((List.length ts):Int))then
 some false
 else
 match(M.nL bq kids ts Go.V.ah (0:Int))with
 |none=>none
 |some y0=>
 (match y0 with
 |.inl a1=>
 some a1
 |.inr b1=>
 some true)
def zQ(kind:Int):Option (Int×Int×Bool):=
 bif(kind==(3:Int))then
 some ((0:Int),(255:Int),true)
 else
 bif(kind==(4:Int))then
 some ((-(128:Int)),(127:Int),true)
 else
 bif(kind==(5:Int))then
 some ((0:Int),(65535:Int),true)
 else
 bif(kind==(6:Int))then
 some ((-(32768:Int)),(32767:Int),true)
 else
 bif(kind==(7:Int))then
 some ((0:Int),(4294967295:Int),true)
 else
 bif(kind==(8:Int))then
 some ((-(2147483648:Int)),(2147483647:Int),true)
 else
 bif(kind==(9:Int))then
 some ((-(9223372036854775808:Int)),(9223372036854775807:Int),true)
 else
 some ((0:Int),(0:Int),false)
def pP(bq:M.ae->M.aa->Option (Bool))(v:M.ae)(t:M.aa):Option (Bool):=
 bif(((M.ae.Kind v) !=(M.aa.Kind t))||(((M.aa.Kind t) !=(11:Int))&&(!((M.ae.Text v)==[]))))then
 some false
 else
 bif(bif((M.aa.Kind t)==(2:Int))then((M.aa.Kind t)==(2:Int))else((M.aa.Kind t)==(14:Int)))then
 bif(!((decide ((0:Int)<=(M.ae.Num v)))&&(decide ((M.ae.Num v)<=(1:Int)))))then
 some false
 else
 let q0:=(((M.aa.Kind t)==(14:Int))||((M.aa.Kind t)==(17:Int)))
 bif q0 then
 let q1:=(M.uh bq (M.ae.Kids v) (M.aa.re (List.getD (M.aa.Kids t) (Int.toNat (M.ae.Num v)) M.aa.zero)))
 let q2:=(Option.isSome q1)
 bif(q2&&((Go.V.inB (M.ae.Num v) (List.length (M.aa.Kids t)))&&true))then
 let q3:=(Option.getD q1 default)
 some q3
 else
 none
 else
 some (((List.length (M.ae.Kids v)):Int)==(0:Int))
 else
 bif((M.aa.Kind t)==(13:Int))then
 let q0:=(M.ui bq (M.ae.Kids v) (1:Int) (M.aa.re (List.getD (M.aa.Kids t) (Int.toNat (0:Int)) M.aa.zero)))
 let q1:=(!(((M.ae.Num v)==((List.length (M.ae.Kids v)):Int))==true))
 bif(((Option.isSome q0)||q1)&&(((Go.V.inB (0:Int) (List.length (M.aa.Kids t)))||q1)&&true))then
 some (((M.ae.Num v)==((List.length (M.ae.Kids v)):Int))&&(Option.getD q0 default))
 else
 none
 else
 bif((M.aa.Kind t)==(10:Int))then
 some ((Option.getD (M.jz (M.ae.Num v)) default)&&(((List.length (M.ae.Kids v)):Int)==(0:Int)))
 else
 bif((M.aa.Kind t)==(11:Int))then
 let q0:=(M.wP (M.ae.Text v))
 bif((Option.isSome q0)&&true)then
 some (((Option.getD q0 default)&&((M.ae.Num v)==(0:Int)))&&(((List.length (M.ae.Kids v)):Int)==(0:Int)))
 else
 none
 else
 bif((M.aa.Kind t)==(12:Int))then
 let q0:=(M.ui bq (M.ae.Kids v) (8:Int) (M.aa.re (List.getD (M.aa.Kids t) (Int.toNat (0:Int)) M.aa.zero)))
 let q1:=(!(((M.ae.Num v)==(0:Int))==true))
 bif(((Option.isSome q0)||q1)&&(((Go.V.inB (0:Int) (List.length (M.aa.Kids t)))||q1)&&true))then
 some (((M.ae.Num v)==(0:Int))&&(Option.getD q0 default))
 else
 none
 else
 bif(bif((M.aa.Kind t)==(15:Int))then((M.aa.Kind t)==(15:Int))else((M.aa.Kind t)==(16:Int)))then
 let q0:=(M.wQ bq (M.ae.Kids v) (M.aa.Kids t))
 let q1:=(!(((M.ae.Num v)==(0:Int))==true))
 bif(((Option.isSome q0)||q1)&&true)then
 some (((M.ae.Num v)==(0:Int))&&(Option.getD q0 default))
 else
 none
 else
 let q0:=(bif((M.aa.Kind t)==(17:Int))then((M.aa.Kind t)==(17:Int))else((M.aa.Kind t)==(18:Int)))
 let q1:=(bif((M.aa.Kind t)==(20:Int))then((M.aa.Kind t)==(20:Int))else(bif((M.aa.Kind t)==(21:Int))then((M.aa.Kind t)==(21:Int))else(bif((M.aa.Kind t)==(22:Int))then((M.aa.Kind t)==(22:Int))else((M.aa.Kind t)==(23:Int)))))
 let q2:=(M.zQ (M.aa.Kind t))
 bif(!((decide ((bif q0 then(0:Int)else(bif((M.aa.Kind t)==(19:Int))then(0:Int)else(bif q1 then(0:Int)else(Option.getD q2 default).1)))<=(M.ae.Num v)))&&(decide ((M.ae.Num v)<=(bif q0 then(Go.IntKind.wrap Go.IntKind.i64 (((List.length (M.aa.bu t)):Int)-(1:Int)))else(bif((M.aa.Kind t)==(19:Int))then(Go.IntKind.wrap Go.IntKind.i64 ((Go.V.lv Go.IntKind.i64 (1:Int) (Go.IntKind.wrap Go.IntKind.u64 ((List.length (M.aa.bu t)):Int)))-(1:Int)))else(bif q1 then(2147483647:Int)else(Option.getD q2 default).2.1)))))))then
 let q3:=(((((Option.isSome q2)&&true)||q1)||((M.aa.Kind t)==(19:Int)))||q0)
 bif q3 then
 some false
 else
 none
 else
 let q3:=(((M.aa.Kind t)==(14:Int))||((M.aa.Kind t)==(17:Int)))
 bif q3 then
 let q4:=(M.uh bq (M.ae.Kids v) (M.aa.re (List.getD (M.aa.Kids t) (Int.toNat (M.ae.Num v)) M.aa.zero)))
 let q5:=(Option.isSome q4)
 let q6:=(((((Option.isSome q2)&&true)||q1)||((M.aa.Kind t)==(19:Int)))||q0)
 bif(q5&&((Go.V.inB (M.ae.Num v) (List.length (M.aa.Kids t)))&&q6))then
 let q7:=(Option.getD q4 default)
 some q7
 else
 none
 else
 let q4:=(((((Option.isSome q2)&&true)||q1)||((M.aa.Kind t)==(19:Int)))||q0)
 bif q4 then
 some (((List.length (M.ae.Kids v)):Int)==(0:Int))
 else
 none
def uj:Nat->M.ae->M.aa->Option (Bool)
 |0=>fun _ _=>none
 |n+1=>pP (uj n)
def Dh:M.ae->M.aa->Option (Bool):=uj Go.V.ah
def wR(t:M.aa):Option (Bool):=
 let q0:=(M.C6 (M.aa.re t))
 let q1:=(M.CQ (M.aa.re t) (4:Int))
 let q2:=(M.CU (M.aa.re t))
 let q3:=((decide ((Option.getD q1 default)<=(4:Int)))&&(decide ((Option.getD q2 default)<=(24:Int))))
 bif(((Option.isSome q0)||(!(q3==true)))&&(((Option.isSome q2)||(!((decide ((Option.getD q1 default)<=(4:Int)))==true)))&&((Option.isSome q1)&&true)))then
 some (q3&&(Option.getD q0 default))
 else
 none
def Dj(list:(List M.ae)):Option (Int):=
 some ((List.length list):Int)
def nM(kind:Int):Option (Int×Int×Bool):=
 bif(kind==(3:Int))then
 some ((0:Int),(255:Int),true)
 else
 bif(kind==(4:Int))then
 some ((-(128:Int)),(127:Int),true)
 else
 bif(kind==(5:Int))then
 some ((0:Int),(65535:Int),true)
 else
 bif(kind==(6:Int))then
 some ((-(32768:Int)),(32767:Int),true)
 else
 bif(kind==(7:Int))then
 some ((0:Int),(4294967295:Int),true)
 else
 bif(kind==(8:Int))then
 some ((-(2147483648:Int)),(2147483647:Int),true)
 else
 bif(kind==(9:Int))then
 some ((-(9223372036854775808:Int)),(9223372036854775807:Int),true)
 else
 some ((0:Int),(0:Int),false)
def Dl(n:Int):Option (Bool):=
 some (((decide ((0:Int)<=n))&&(decide (n<=(55295:Int))))||((decide ((57344:Int)<=n))&&(decide (n<=(1114111:Int)))))
def wS(v:M.ae)(t:M.aa):Option (Bool):=
 bif(bif((M.aa.Kind t)==(2:Int))then((M.aa.Kind t)==(2:Int))else(bif((M.aa.Kind t)==(13:Int))then((M.aa.Kind t)==(13:Int))else((M.aa.Kind t)==(14:Int))))then
 some ((decide ((0:Int)<=(M.ae.Num v)))&&(decide ((M.ae.Num v)<=(1:Int))))
 else
 bif(bif((M.aa.Kind t)==(3:Int))then((M.aa.Kind t)==(3:Int))else(bif((M.aa.Kind t)==(4:Int))then((M.aa.Kind t)==(4:Int))else(bif((M.aa.Kind t)==(5:Int))then((M.aa.Kind t)==(5:Int))else(bif((M.aa.Kind t)==(6:Int))then((M.aa.Kind t)==(6:Int))else(bif((M.aa.Kind t)==(7:Int))then((M.aa.Kind t)==(7:Int))else(bif((M.aa.Kind t)==(8:Int))then((M.aa.Kind t)==(8:Int))else((M.aa.Kind t)==(9:Int))))))))then
 let q0:=(M.nM (M.aa.Kind t))
 bif((Option.isSome q0)&&true)then
 some ((decide ((Option.getD q0 default).1<=(M.ae.Num v)))&&(decide ((M.ae.Num v)<=(Option.getD q0 default).2.1)))
 else
 none
 else
 bif((M.aa.Kind t)==(10:Int))then
 some (Option.getD (M.Dl (M.ae.Num v)) default)
 else
 some ((decide ((0:Int)<=(M.ae.Num v)))&&(decide ((M.ae.Num v)<=(bif(bif((M.aa.Kind t)==(17:Int))then((M.aa.Kind t)==(17:Int))else((M.aa.Kind t)==(18:Int)))then(Go.IntKind.wrap Go.IntKind.i64 (((List.length (M.aa.bu t)):Int)-(1:Int)))else(bif((M.aa.Kind t)==(19:Int))then(Go.IntKind.wrap Go.IntKind.i64 ((Go.V.lv Go.IntKind.i64 (1:Int) ((List.length (M.aa.bu t)):Int))-(1:Int)))else(bif(bif((M.aa.Kind t)==(20:Int))then((M.aa.Kind t)==(20:Int))else(bif((M.aa.Kind t)==(21:Int))then((M.aa.Kind t)==(21:Int))else(bif((M.aa.Kind t)==(22:Int))then((M.aa.Kind t)==(22:Int))else((M.aa.Kind t)==(23:Int)))))then(2147483647:Int)else(0:Int)))))))
def wT(s:(List UInt8)):Option (Bool):=
 let q0:=(M.rH s)
 bif(((Option.isSome q0)||(!((decide (((List.length s):Int)<=(24:Int)))==true)))&&true)then
 some ((decide (((List.length s):Int)<=(24:Int)))&&(Option.getD q0 default))
 else
 none
def lh(t:M.aa)(num:Int):Option (M.aa×Bool):=
 bif((M.aa.Kind t)==(13:Int))then
 bif(num==(0:Int))then
 some ((M.aa.mk (1:Int) [] [] []),true)
 else
 bif(!((decide ((0:Int)<=(Go.IntKind.wrap Go.IntKind.i64 (num-(1:Int)))))&&(decide ((Go.IntKind.wrap Go.IntKind.i64 (num-(1:Int)))<=(Go.IntKind.wrap Go.IntKind.i64 (((List.length (M.aa.Kids t)):Int)-(1:Int)))))))then
 some ((M.aa.mk (0:Int) [] [] []),false)
 else
 bif((Go.V.inB (Go.IntKind.wrap Go.IntKind.i64 (num-(1:Int))) (List.length (M.aa.Kids t)))&&true)then
 some ((M.aa.re (List.getD (M.aa.Kids t) (Int.toNat (Go.IntKind.wrap Go.IntKind.i64 (num-(1:Int)))) M.aa.zero)),true)
 else
 none
 else
 bif(!((decide ((0:Int)<=num))&&(decide (num<=(Go.IntKind.wrap Go.IntKind.i64 (((List.length (M.aa.Kids t)):Int)-(1:Int)))))))then
 some ((M.aa.mk (0:Int) [] [] []),false)
 else
 bif((Go.V.inB num (List.length (M.aa.Kids t)))&&true)then
 some ((M.aa.re (List.getD (M.aa.Kids t) (Int.toNat num) M.aa.zero)),true)
 else
 none
def wU(v:M.ae)(t:M.aa):Option ((List M.aa)×Bool):=
 bif((M.aa.Kind t)==(12:Int))then
 let q0:=(M.rI (M.aa.Kids t) (bif(decide ((8:Int)<((List.length (M.ae.Kids v)):Int)))then(8:Int)else((List.length (M.ae.Kids v)):Int)))
 bif((Option.isSome q0)&&true)then
 some ((Option.getD q0 default),true)
 else
 none
 else
 bif(bif((M.aa.Kind t)==(15:Int))then((M.aa.Kind t)==(15:Int))else((M.aa.Kind t)==(16:Int)))then
 some ((M.aa.Kids t),true)
 else
 bif(bif((M.aa.Kind t)==(13:Int))then((M.aa.Kind t)==(13:Int))else(bif((M.aa.Kind t)==(14:Int))then((M.aa.Kind t)==(14:Int))else((M.aa.Kind t)==(17:Int))))then
 let q0:=(M.lh (M.aa.re t) (M.ae.Num v))
 bif((M.aa.Kind (Option.getD q0 default).1)==(1:Int))then
 bif((Option.isSome q0)&&true)then
 some ([],(Option.getD q0 default).2)
 else
 none
 else
 bif((Option.isSome q0)&&true)then
 some ([(M.aa.re (Option.getD q0 default).1)],(Option.getD q0 default).2)
 else
 none
 else
 some ([],true)
def nN(eO:M.ae->M.aa->Option (Bool))(kids:(List M.aa))(t53:(List M.ae))(t54:Int):Nat->Int->Option ((Bool)⊕(Unit))
 |0,_=>none
 |fuel+1,t55=>
 bif(decide (t55<t54))then
 bif(!(Option.getD (eO (M.ae.re (List.getD t53 (Int.toNat t55) M.ae.zero)) (M.aa.re (List.getD kids (Int.toNat t55) M.aa.zero))) default))then
 let q0:=((Option.isSome (eO (M.ae.re (List.getD t53 (Int.toNat t55) M.ae.zero)) (M.aa.re (List.getD kids (Int.toNat t55) M.aa.zero))))&&((Go.V.inB t55 (List.length kids))&&((Go.V.inB t55 (List.length t53))&&true)))
 bif q0 then
 some (.inl false)
 else
 none
 else
 let q0:=((Option.isSome (eO (M.ae.re (List.getD t53 (Int.toNat t55) M.ae.zero)) (M.aa.re (List.getD kids (Int.toNat t55) M.aa.zero))))&&((Go.V.inB t55 (List.length kids))&&((Go.V.inB t55 (List.length t53))&&true)))
 bif q0 then
 M.nN eO kids t53 t54 fuel (Go.IntKind.wrap Go.IntKind.i64 (t55+(1:Int)))
 else
 none
 else
 some ((.inr (())))
def zS(eO:M.ae->M.aa->Option (Bool))(v:M.ae)(t:M.aa):Option (Bool):=
 let q0:=(M.wS (M.ae.re v) (M.aa.re t))
 let q1:=((((M.ae.Kind v) !=(M.aa.Kind t))||(!(Option.getD q0 default)))||((!((M.ae.Text v)==[]))&&((M.aa.Kind t) !=(11:Int))))
 let q2:=(M.wT (M.ae.Text v))
 bif(q1||(!(Option.getD q2 default)))then
 let q3:=(((Option.isSome q2)||(!(q1==false)))&&(((Option.isSome q0)||(!(((M.ae.Kind v) !=(M.aa.Kind t))==false)))&&true))
 bif q3 then
 some false
 else
 none
 else
 let q3:=(M.wU (M.ae.re v) (M.aa.re t))
 let q4:=(Option.getD q3 default).1
 bif((!(Option.getD q3 default).2)||(((List.length q4):Int) !=((List.length (M.ae.Kids v)):Int)))then
 let q5:=(((Option.isSome q2)||(!(q1==false)))&&(((Option.isSome q0)||(!(((M.ae.Kind v) !=(M.aa.Kind t))==false)))&&true))
 let q6:=((Option.isSome q3)&&q5)
 bif q6 then
 some false
 else
 none
 else
 match(M.nN eO q4 (M.ae.Kids v) ((List.length (M.ae.Kids v)):Int) Go.V.ah (0:Int))with
 |none=>none
 |some y5=>
 (match y5 with
 |.inl a6=>
 let q7:=(((Option.isSome q2)||(!(q1==false)))&&(((Option.isSome q0)||(!(((M.ae.Kind v) !=(M.aa.Kind t))==false)))&&true))
 let q8:=((Option.isSome q3)&&q7)
 bif q8 then
 some a6
 else
 none
 |.inr b6=>
 let q7:=(((Option.isSome q2)||(!(q1==false)))&&(((Option.isSome q0)||(!(((M.ae.Kind v) !=(M.aa.Kind t))==false)))&&true))
 let q8:=((Option.isSome q3)&&q7)
 bif q8 then
 some true
 else
 none)
def nO:Nat->M.ae->M.aa->Option (Bool)
 |0=>fun _ _=>none
 |n+1=>zS (nO n)
def zT:M.ae->M.aa->Option (Bool):=nO Go.V.ah
def uk:Nat->Int->(List UInt8)->Option ((List UInt8))
 |0,_,_=>none
 |fuel+1,k,out=>
 bif(decide ((0:Int)<k))then
 let q0:=(Go.IntKind.wrap Go.IntKind.u8 (Go.IntKind.wrap Go.IntKind.i64 ((48:Int)+(Int.tmod k (10:Int)))))
 let q1:=(List.map (fun a=>a) [(Go.V.eA q0)])
 bif(((10:Int) !=(0:Int))&&((Go.V.eE q1 out)&&(((Go.V.fH q0)&&true)&&(((10:Int) !=(0:Int))&&true))))then
 M.uk fuel (Go.IntKind.wrap Go.IntKind.i64 (Int.tdiv k (10:Int))) (q1++out)
 else
 none
 else
 some (out)
def lZ(k:Int):Option ((List UInt8)):=
 bif(decide (k<=(0:Int)))then
 some [(109:UInt8),(48:UInt8)]
 else
 match(M.uk Go.V.ah k [])with
 |none=>none
 |some y0=>
 bif((Go.V.eE [(109:UInt8)] y0)&&true)then
 some ([(109:UInt8)]++y0)
 else
 none
def um:Nat->Int->Int->(List (List UInt8))->Option (Int×(List (List UInt8)))
 |0,_,_,_=>none
 |fuel+1,k,i,a=>
 bif(decide (i<((List.length a):Int)))then
 let q0:=(M.lZ k)
 bif((Go.V.inB i (List.length a))&&(((Option.isSome q0)&&true)&&true))then
 M.um fuel (Go.IntKind.wrap Go.IntKind.i64 (k+(1:Int))) (Go.IntKind.wrap Go.IntKind.i64 (i+(1:Int))) (List.set a (Int.toNat i) (Option.getD q0 default))
 else
 none
 else
 some ((k,a))
def wW(k:Int)(a:(List (List UInt8))):Option (Int×(List (List UInt8))):=
 match(M.um Go.V.ah k (0:Int) a)with
 |none=>none
 |some y0=>
 some (y0.1,y0.2)
def uo(fg:Int->(List M.aa)->Option (Int×(List M.aa))):Nat->Int->Int->(List M.aa)->Option (Int×(List M.aa))
 |0,_,_,_=>none
 |fuel+1,k,i,a=>
 bif(decide (i<((List.length a):Int)))then
 let q0:=(List.set a (Int.toNat i) (M.aa.mk k (M.aa.Name (List.getD a (Int.toNat i) M.aa.zero)) (M.aa.bu (List.getD a (Int.toNat i) M.aa.zero)) (M.aa.Kids (List.getD a (Int.toNat i) M.aa.zero))))
 let q1:=(List.getD q0 (Int.toNat i) M.aa.zero)
 let q2:=(M.lZ (Go.IntKind.wrap Go.IntKind.i64 (k+(1:Int))))
 let q3:=(List.set q0 (Int.toNat i) (M.aa.mk (M.aa.Kind q1) (Option.getD q2 default) (M.aa.bu q1) (M.aa.Kids q1)))
 let q4:=(List.getD q3 (Int.toNat i) M.aa.zero)
 let q5:=(M.wW (Go.IntKind.wrap Go.IntKind.i64 ((Go.IntKind.wrap Go.IntKind.i64 (k+(1:Int)))+(1:Int))) (M.aa.bu q4))
 let q6:=(Option.getD q5 default)
 let q7:=(List.set q3 (Int.toNat i) (M.aa.mk (M.aa.Kind q4) (M.aa.Name q4) q6.2 (M.aa.Kids q4)))
 let q8:=(List.getD q7 (Int.toNat i) M.aa.zero)
 bif(((Option.isSome (fg q6.1 (M.aa.Kids q8)))&&true)&&((Go.V.inB i (List.length q7))&&(((Option.isSome q5)&&true)&&((Go.V.inB i (List.length q3))&&((Go.V.inB i (List.length q0))&&(((Option.isSome q2)&&true)&&((Go.V.inB i (List.length a))&&true)))))))then
 let q9:=(Option.getD (fg q6.1 (M.aa.Kids q8)) default)
 M.uo fg fuel q9.1 (Go.IntKind.wrap Go.IntKind.i64 (i+(1:Int))) (List.set q7 (Int.toNat i) (M.aa.mk (M.aa.Kind q8) (M.aa.Name q8) (M.aa.bu q8) q9.2))
 else
 none
 else
 some ((k,a))
def zV(fg:Int->(List M.aa)->Option (Int×(List M.aa)))(k:Int)(a:(List M.aa)):Option (Int×(List M.aa)):=
 match(M.uo fg Go.V.ah k (0:Int) a)with
 |none=>none
 |some y0=>
 some (y0.1,y0.2)
def uu:Nat->Int->(List M.aa)->Option (Int×(List M.aa))
 |0=>fun _ _=>none
 |n+1=>zV (uu n)
def Ds:Int->(List M.aa)->Option (Int×(List M.aa)):=uu Go.V.ah
def uv(fh:Int->(List M.ae)->Option (Int×(List M.ae))):Nat->Int->Int->(List M.ae)->Option (Int×(List M.ae))
 |0,_,_,_=>none
 |fuel+1,k,i,a=>
 bif(decide (i<((List.length a):Int)))then
 let q0:=(Go.IntKind.wrap Go.IntKind.i64 ((Go.IntKind.wrap Go.IntKind.i64 (k+(1:Int)))+(1:Int)))
 let q1:=(List.set a (Int.toNat i) (M.ae.mk k (M.ae.Num (List.getD a (Int.toNat i) M.ae.zero)) (M.ae.Text (List.getD a (Int.toNat i) M.ae.zero)) (M.ae.Kids (List.getD a (Int.toNat i) M.ae.zero))))
 let q2:=(List.getD q1 (Int.toNat i) M.ae.zero)
 let q3:=(List.set q1 (Int.toNat i) (M.ae.mk (M.ae.Kind q2) (Go.IntKind.wrap Go.IntKind.i64 (k+(1:Int))) (M.ae.Text q2) (M.ae.Kids q2)))
 let q4:=(List.getD q3 (Int.toNat i) M.ae.zero)
 let q5:=(M.lZ q0)
 let q6:=(List.set q3 (Int.toNat i) (M.ae.mk (M.ae.Kind q4) (M.ae.Num q4) (Option.getD q5 default) (M.ae.Kids q4)))
 let q7:=(List.getD q6 (Int.toNat i) M.ae.zero)
 bif(((Option.isSome (fh (Go.IntKind.wrap Go.IntKind.i64 (q0+(1:Int))) (M.ae.Kids q7)))&&true)&&((Go.V.inB i (List.length q6))&&((Go.V.inB i (List.length q3))&&(((Option.isSome q5)&&true)&&((Go.V.inB i (List.length q1))&&((Go.V.inB i (List.length a))&&true))))))then
 let q8:=(Option.getD (fh (Go.IntKind.wrap Go.IntKind.i64 (q0+(1:Int))) (M.ae.Kids q7)) default)
 M.uv fh fuel q8.1 (Go.IntKind.wrap Go.IntKind.i64 (i+(1:Int))) (List.set q6 (Int.toNat i) (M.ae.mk (M.ae.Kind q7) (M.ae.Num q7) (M.ae.Text q7) q8.2))
 else
 none
 else
 some ((k,a))
def zW(fh:Int->(List M.ae)->Option (Int×(List M.ae)))(k:Int)(a:(List M.ae)):Option (Int×(List M.ae)):=
 match(M.uv fh Go.V.ah k (0:Int) a)with
 |none=>none
 |some y0=>
 some (y0.1,y0.2)
def uw:Nat->Int->(List M.ae)->Option (Int×(List M.ae))
 |0=>fun _ _=>none
 |n+1=>zW (uw n)
def Du:Int->(List M.ae)->Option (Int×(List M.ae)):=uw Go.V.ah
def pT(df:M.ae->Int->Option (Int))(a:(List M.ae)):Nat->Int->Int->Option ((Int)⊕(Int))
 |0,_,_=>none
 |fuel+1,left,i=>
 bif(decide (i<((List.length a):Int)))then
 let q0:=(Option.getD (df (M.ae.re (List.getD a (Int.toNat i) M.ae.zero)) left) default)
 bif(decide (q0<(0:Int)))then
 let q1:=((Option.isSome (df (M.ae.re (List.getD a (Int.toNat i) M.ae.zero)) left))&&((Go.V.inB i (List.length a))&&true))
 bif q1 then
 some (.inl (-(1:Int)))
 else
 none
 else
 let q1:=((Option.isSome (df (M.ae.re (List.getD a (Int.toNat i) M.ae.zero)) left))&&((Go.V.inB i (List.length a))&&true))
 bif q1 then
 M.pT df a fuel q0 (Go.IntKind.wrap Go.IntKind.i64 (i+(1:Int)))
 else
 none
 else
 some ((.inr (left)))
def pU(df:M.ae->Int->Option (Int))(a:(List M.ae))(left:Int):Option (Int):=
 bif(decide ((Go.IntKind.wrap Go.IntKind.i64 (left-((List.length a):Int)))<(0:Int)))then
 some (-(1:Int))
 else
 match(M.pT df a Go.V.ah (Go.IntKind.wrap Go.IntKind.i64 (left-((List.length a):Int))) (0:Int))with
 |none=>none
 |some y0=>
 (match y0 with
 |.inl a1=>
 some a1
 |.inr b1=>
 some b1)
def zX(df:M.ae->Int->Option (Int))(a:M.ae)(left:Int):Option (Int):=
 bif(decide ((Go.IntKind.wrap Go.IntKind.i64 (left-((List.length (M.ae.Text a)):Int)))<(0:Int)))then
 some (-(1:Int))
 else
 let q0:=(M.pU df (M.ae.Kids a) (Go.IntKind.wrap Go.IntKind.i64 (left-((List.length (M.ae.Text a)):Int))))
 let q1:=(Option.getD q0 default)
 bif(decide (q1<(0:Int)))then
 let q2:=((Option.isSome q0)&&true)
 bif q2 then
 some (-(1:Int))
 else
 none
 else
 let q2:=((Option.isSome q0)&&true)
 bif q2 then
 some q1
 else
 none
def ux:Nat->M.ae->Int->Option (Int)
 |0=>fun _ _=>none
 |n+1=>zX (ux n)
def uy:M.ae->Int->Option (Int):=ux Go.V.ah
def nQ(dm:M.ae->Option (Int×Int×(List UInt8)×(List M.ae)))(a:(List M.ae)):Nat->Int->(List M.ae)->Option ((List M.ae))
 |0,_,_=>none
 |fuel+1,i,out=>
 bif(decide (i<((List.length a):Int)))then
 bif((Go.V.inB i (List.length out))&&((Option.isSome (dm (M.ae.re (List.getD a (Int.toNat i) M.ae.zero))))&&((Go.V.inB i (List.length a))&&true)))then
 let q0:=(Option.getD (dm (M.ae.re (List.getD a (Int.toNat i) M.ae.zero))) default)
 let q1:=q0.2
 let q2:=q1.2
 M.nQ dm a fuel (Go.IntKind.wrap Go.IntKind.i64 (i+(1:Int))) (List.set out (Int.toNat i) (M.ae.mk q0.1 q1.1 q2.1 q2.2))
 else
 none
 else
 some (out)
def pV(dm:M.ae->Option (Int×Int×(List UInt8)×(List M.ae)))(a:(List M.ae)):Option ((List M.ae)):=
 match(M.nQ dm a Go.V.ah (0:Int) (List.replicate (Int.toNat ((List.length a):Int)) (M.ae.mk (0:Int) (0:Int) [] [])))with
 |none=>none
 |some y0=>
 bif(((decide (((List.length a):Int)<=((List.length a):Int)))&&(decide (((List.length a):Int)<=(1073741824:Int))))&&true)then
 some y0
 else
 none
def zY(dm:M.ae->Option (Int×Int×(List UInt8)×(List M.ae)))(a:M.ae):Option (Int×Int×(List UInt8)×(List M.ae)):=
 let q0:=(M.pV dm (M.ae.Kids a))
 bif((Option.isSome q0)&&true)then
 some ((M.ae.Kind a),(M.ae.Num a),(M.ae.Text a),(Option.getD q0 default))
 else
 none
def uz:Nat->M.ae->Option (Int×Int×(List UInt8)×(List M.ae))
 |0=>fun _=>none
 |n+1=>zY (uz n)
def uA:M.ae->Option (Int×Int×(List UInt8)×(List M.ae)):=uz Go.V.ah
def nS(n:Int)(m:M.aB):Nat->Int->Int->Option ((Bool)⊕(Unit))
 |0,_,_=>none
 |fuel+1,last,i=>
 bif(decide (i<((List.length (M.aB.Free m)):Int)))then
 bif((((decide ((M.af.Size (List.getD (M.aB.Free m) (Int.toNat i) M.af.zero))<(1:Int)))||(decide ((M.af.At (List.getD (M.aB.Free m) (Int.toNat i) M.af.zero))<=last)))||(decide (n<(M.af.At (List.getD (M.aB.Free m) (Int.toNat i) M.af.zero)))))||(decide ((Go.IntKind.wrap Go.IntKind.i64 (n-(M.af.At (List.getD (M.aB.Free m) (Int.toNat i) M.af.zero))))<(M.af.Size (List.getD (M.aB.Free m) (Int.toNat i) M.af.zero)))))then
 bif((Go.V.inB i (List.length (M.aB.Free m)))&&true)then
 some (.inl false)
 else
 none
 else
 bif((Go.V.inB i (List.length (M.aB.Free m)))&&true)then
 M.nS n m fuel (Go.IntKind.wrap Go.IntKind.i64 ((M.af.At (List.getD (M.aB.Free m) (Int.toNat i) M.af.zero))+(M.af.Size (List.getD (M.aB.Free m) (Int.toNat i) M.af.zero)))) (Go.IntKind.wrap Go.IntKind.i64 (i+(1:Int)))
 else
 none
 else
 some ((.inr (())))
def wZ(m:M.aB):Option (Bool):=
 bif((decide ((4096:Int)<((List.length (M.aB.Bytes m)):Int)))||(decide ((4096:Int)<((List.length (M.aB.Free m)):Int))))then
 some false
 else
 match(M.nS ((List.length (M.aB.Bytes m)):Int) m Go.V.ah (7:Int) (0:Int))with
 |none=>none
 |some y0=>
 (match y0 with
 |.inl a1=>
 some a1
 |.inr b1=>
 some true)
def H6(enc:Int):Option (Bool):=
 some ((decide ((1:Int)<=enc))&&(decide (enc<=(3:Int))))
def rJ(m:M.aB)(enc:Int):Option (Bool):=
 let q0:=(M.wZ m)
 bif((Option.isSome q0)&&true)then
 some ((Option.getD q0 default)&&((decide ((1:Int)<=enc))&&(decide (enc<=(3:Int)))))
 else
 none
def w8(kind:Int):Option (Int):=
 bif(bif(kind==(2:Int))then(kind==(2:Int))else(bif(kind==(3:Int))then(kind==(3:Int))else(kind==(4:Int))))then
 some (1:Int)
 else
 bif(bif(kind==(5:Int))then(kind==(5:Int))else(kind==(6:Int)))then
 some (2:Int)
 else
 bif(bif(kind==(7:Int))then(kind==(7:Int))else(bif(kind==(8:Int))then(kind==(8:Int))else(bif(kind==(10:Int))then(kind==(10:Int))else(bif(kind==(20:Int))then(kind==(20:Int))else(bif(kind==(21:Int))then(kind==(21:Int))else(bif(kind==(22:Int))then(kind==(22:Int))else(kind==(23:Int))))))))then
 some (4:Int)
 else
 bif(kind==(9:Int))then
 some (8:Int)
 else
 some (0:Int)
def iQ(at_:Int)(align:Int):Option (Int):=
 bif((align !=(0:Int))&&true)then
 some (Go.IntKind.wrap Go.IntKind.i64 ((Go.IntKind.wrap Go.IntKind.i64 (Int.tdiv (Go.IntKind.wrap Go.IntKind.i64 ((Go.IntKind.wrap Go.IntKind.i64 (at_+align))-(1:Int))) align))*align))
 else
 none
def l4(ca:M.aa->Option (Int×Int))(ts:(List M.aa)):Nat->Int->Int->Int->(List Int)->Option (Int×Int×(List Int))
 |0,_,_,_,_=>none
 |fuel+1,at_,align,i,out=>
 bif(decide (i<((List.length ts):Int)))then
 let q0:=(Option.getD (ca (M.aa.re (List.getD ts (Int.toNat i) M.aa.zero))) default)
 let q1:=q0.2
 let q2:=(M.gQ align q1)
 let q3:=(M.iQ at_ q1)
 let q4:=(Option.getD q3 default)
 let q5:=[q4]
 bif((Option.isSome q2)&&((decide (((List.length out)+(List.length q5))<=1073741824))&&((Option.isSome q3)&&((Option.isSome (ca (M.aa.re (List.getD ts (Int.toNat i) M.aa.zero))))&&((Go.V.inB i (List.length ts))&&true)))))then
 M.l4 ca ts fuel (Go.IntKind.wrap Go.IntKind.i64 (q4+q0.1)) (Option.getD q2 default) (Go.IntKind.wrap Go.IntKind.i64 (i+(1:Int))) (out++q5)
 else
 none
 else
 some ((at_,align,out))
def mK(ca:M.aa->Option (Int×Int))(ts:(List M.aa)):Option ((List Int)×Int×Int):=
 match(M.l4 ca ts Go.V.ah (0:Int) (1:Int) (0:Int) [])with
 |none=>none
 |some y0=>
 let q1:=(M.iQ y0.1 y0.2.1)
 bif((Option.isSome q1)&&true)then
 some (y0.2.2,(Option.getD q1 default),y0.2.1)
 else
 none
def kA(t:M.aa):Option ((List M.aa)):=
 bif((M.aa.Kind t)==(13:Int))then
 bif((Go.V.inB (0:Int) (List.length (M.aa.Kids t)))&&true)then
 some [(M.aa.mk (1:Int) [] [] []),(M.aa.re (List.getD (M.aa.Kids t) (Int.toNat (0:Int)) M.aa.zero))]
 else
 none
 else
 bif(bif((M.aa.Kind t)==(14:Int))then((M.aa.Kind t)==(14:Int))else((M.aa.Kind t)==(17:Int)))then
 some (M.aa.Kids t)
 else
 some []
def nU(ca:M.aa->Option (Int×Int))(ts:(List M.aa)):Nat->Int->Int->Int->Option (Int×Int)
 |0,_,_,_=>none
 |fuel+1,size,align,i=>
 bif(decide (i<((List.length ts):Int)))then
 let q0:=(Option.getD (ca (M.aa.re (List.getD ts (Int.toNat i) M.aa.zero))) default)
 let q1:=(M.gQ align q0.2)
 let q2:=(M.gQ size q0.1)
 bif((Option.isSome q1)&&((Option.isSome q2)&&((Option.isSome (ca (M.aa.re (List.getD ts (Int.toNat i) M.aa.zero))))&&((Go.V.inB i (List.length ts))&&true))))then
 M.nU ca ts fuel (Option.getD q2 default) (Option.getD q1 default) (Go.IntKind.wrap Go.IntKind.i64 (i+(1:Int)))
 else
 none
 else
 some ((size,align))
def rK(ca:M.aa->Option (Int×Int))(ts:(List M.aa)):Option (Int×Int):=
 match(M.nU ca ts Go.V.ah (0:Int) (1:Int) (0:Int))with
 |none=>none
 |some y0=>
 some (y0.1,y0.2)
def Ac(ca:M.aa->Option (Int×Int))(t:M.aa):Option (Int×Int):=
 let q0:=(M.w8 (M.aa.Kind t))
 bif(decide ((0:Int)<(Option.getD q0 default)))then
 bif((Option.isSome q0)&&true)then
 some ((Option.getD q0 default),(Option.getD q0 default))
 else
 none
 else
 bif(bif((M.aa.Kind t)==(11:Int))then((M.aa.Kind t)==(11:Int))else((M.aa.Kind t)==(12:Int)))then
 let q1:=((((Option.isSome q0)&&true)||(!((M.aa.Kind t)==(11:Int))))&&(((Option.isSome q0)&&true)||((M.aa.Kind t)==(11:Int))))
 bif q1 then
 some ((8:Int),(4:Int))
 else
 none
 else
 bif((M.aa.Kind t)==(18:Int))then
 let q1:=((((Option.isSome q0)&&true)||(!((M.aa.Kind t)==(11:Int))))&&(((Option.isSome q0)&&true)||((M.aa.Kind t)==(11:Int))))
 bif q1 then
 some ((1:Int),(1:Int))
 else
 none
 else
 bif((M.aa.Kind t)==(19:Int))then
 bif(decide ((8:Int)<((List.length (M.aa.bu t)):Int)))then
 let q1:=((((Option.isSome q0)&&true)||(!((M.aa.Kind t)==(11:Int))))&&(((Option.isSome q0)&&true)||((M.aa.Kind t)==(11:Int))))
 bif q1 then
 some ((2:Int),(2:Int))
 else
 none
 else
 let q1:=((((Option.isSome q0)&&true)||(!((M.aa.Kind t)==(11:Int))))&&(((Option.isSome q0)&&true)||((M.aa.Kind t)==(11:Int))))
 bif q1 then
 some ((1:Int),(1:Int))
 else
 none
 else
 bif(bif((M.aa.Kind t)==(15:Int))then((M.aa.Kind t)==(15:Int))else((M.aa.Kind t)==(16:Int)))then
 let q1:=(M.mK ca (M.aa.Kids t))
 let q2:=((((Option.isSome q0)&&true)||(!((M.aa.Kind t)==(11:Int))))&&(((Option.isSome q0)&&true)||((M.aa.Kind t)==(11:Int))))
 let q3:=((q2||(!((M.aa.Kind t)==(15:Int))))&&(q2||((M.aa.Kind t)==(15:Int))))
 bif((Option.isSome q1)&&q3)then
 let q4:=(Option.getD q1 default).2
 some (q4.1,q4.2)
 else
 none
 else
 bif(bif((M.aa.Kind t)==(13:Int))then((M.aa.Kind t)==(13:Int))else(bif((M.aa.Kind t)==(14:Int))then((M.aa.Kind t)==(14:Int))else((M.aa.Kind t)==(17:Int))))then
 let q1:=(M.kA (M.aa.re t))
 let q2:=(M.rK ca (Option.getD q1 default))
 let q3:=(Option.getD q2 default)
 let q4:=q3.2
 let q5:=(M.iQ (1:Int) q4)
 let q6:=(M.iQ (Go.IntKind.wrap Go.IntKind.i64 ((Option.getD q5 default)+q3.1)) q4)
 let q7:=((((Option.isSome q0)&&true)||(!((M.aa.Kind t)==(11:Int))))&&(((Option.isSome q0)&&true)||((M.aa.Kind t)==(11:Int))))
 let q8:=((q7||(!((M.aa.Kind t)==(15:Int))))&&(q7||((M.aa.Kind t)==(15:Int))))
 let q9:=((q8||(!((M.aa.Kind t)==(13:Int))))&&(((q8||(!((M.aa.Kind t)==(14:Int))))&&(q8||((M.aa.Kind t)==(14:Int))))||((M.aa.Kind t)==(13:Int))))
 bif((Option.isSome q6)&&((Option.isSome q5)&&((Option.isSome q2)&&((Option.isSome q1)&&q9))))then
 some ((Option.getD q6 default),q4)
 else
 none
 else
 let q1:=((((Option.isSome q0)&&true)||(!((M.aa.Kind t)==(11:Int))))&&(((Option.isSome q0)&&true)||((M.aa.Kind t)==(11:Int))))
 let q2:=((q1||(!((M.aa.Kind t)==(15:Int))))&&(q1||((M.aa.Kind t)==(15:Int))))
 let q3:=((q2||(!((M.aa.Kind t)==(13:Int))))&&(((q2||(!((M.aa.Kind t)==(14:Int))))&&(q2||((M.aa.Kind t)==(14:Int))))||((M.aa.Kind t)==(13:Int))))
 bif q3 then
 some ((0:Int),(1:Int))
 else
 none
def pW:Nat->M.aa->Option (Int×Int)
 |0=>fun _=>none
 |n+1=>Ac (pW n)
def gR:M.aa->Option (Int×Int):=pW Go.V.ah
def xa(m:M.aB)(at_:Int)(n:Int):Option (Bool):=
 some ((((decide ((0:Int)<=n))&&(decide ((0:Int)<=at_)))&&(decide (at_<=((List.length (M.aB.Bytes m)):Int))))&&(decide (n<=(Go.IntKind.wrap Go.IntKind.i64 (((List.length (M.aB.Bytes m)):Int)-at_)))))
def jm(m:M.aB):Option ((List UInt8)×(List M.af)):=
 bif((decide ((0+(List.length (M.aB.Free m)))<=1073741824))&&true)then
 some ((M.aB.Bytes m),([]++(M.aB.Free m)))
 else
 none
def nV(many:Int):Nat->Int->Int->(List UInt8)->Option ((List UInt8))
 |0,_,_,_=>none
 |fuel+1,n,i,b=>
 bif((decide (i<many))&&((decide ((0:Int)<=many))&&(decide (many<=(8:Int)))))then
 let q0:=[(Go.V.eA (Go.IntKind.wrap Go.IntKind.u8 (Go.V.dX Go.BinOp.and Go.IntKind.i64 n (255:Int))))]
 bif((decide (((List.length b)+(List.length q0))<=1073741824))&&(((Go.V.fH (Go.IntKind.wrap Go.IntKind.u8 (Go.V.dX Go.BinOp.and Go.IntKind.i64 n (255:Int))))&&true)&&true))then
 M.nV many fuel (Go.V.gi Go.IntKind.i64 n (8:Int)) (Go.IntKind.wrap Go.IntKind.i64 (i+(1:Int))) (b++q0)
 else
 none
 else
 some (b)
def nW(n:Int)(many:Int):Option ((List UInt8)):=
 match(M.nV many Go.V.ah n (0:Int) [])with
 |none=>none
 |some y0=>
 some (List.map (fun a=>a) y0)
def xb(n:Int):Option ((List UInt8)):=
 bif(decide (n<(65536:Int)))then
 let q0:=(M.nW n (2:Int))
 bif((Option.isSome q0)&&true)then
 some (Option.getD q0 default)
 else
 none
 else
 let q0:=(M.nW (Go.IntKind.wrap Go.IntKind.i64 ((55296:Int)+(Go.V.gi Go.IntKind.i64 (Go.IntKind.wrap Go.IntKind.i64 (n-(65536:Int))) (10:Int)))) (2:Int))
 let q1:=(Option.getD q0 default)
 let q2:=(M.nW (Go.IntKind.wrap Go.IntKind.i64 ((56320:Int)+(Go.V.dX Go.BinOp.and Go.IntKind.i64 (Go.IntKind.wrap Go.IntKind.i64 (n-(65536:Int))) (1023:Int)))) (2:Int))
 let q3:=(Option.getD q2 default)
 bif((Go.V.eE q1 q3)&&((Option.isSome q2)&&((Option.isSome q0)&&true)))then
 some (q1++q3)
 else
 none
def mL(enc:Int)(points:(List Int)):Nat->(List UInt8)->Int->Option (((List UInt8)×Int)⊕((List UInt8)))
 |0,_,_=>none
 |fuel+1,out,i=>
 bif(decide (i<((List.length points):Int)))then
 bif(enc==(2:Int))then
 let q0:=(M.xb (List.getD points (Int.toNat i) (0:Int)))
 let q1:=(Option.getD q0 default)
 bif((Go.V.eE out q1)&&((Option.isSome q0)&&((Go.V.inB i (List.length points))&&true)))then
 M.mL enc points fuel (out++q1) (Go.IntKind.wrap Go.IntKind.i64 (i+(1:Int)))
 else
 none
 else
 bif(decide ((255:Int)<(List.getD points (Int.toNat i) (0:Int))))then
 bif((Go.V.inB i (List.length points))&&true)then
 some (.inl ([],(19:Int)))
 else
 none
 else
 let q0:=(List.map (fun a=>a) [(Go.V.eA (Go.IntKind.wrap Go.IntKind.u8 (List.getD points (Int.toNat i) (0:Int))))])
 bif((Go.V.eE out q0)&&(((Go.V.fH (Go.IntKind.wrap Go.IntKind.u8 (List.getD points (Int.toNat i) (0:Int))))&&true)&&((Go.V.inB i (List.length points))&&((Go.V.inB i (List.length points))&&true))))then
 M.mL enc points fuel (out++q0) (Go.IntKind.wrap Go.IntKind.i64 (i+(1:Int)))
 else
 none
 else
 some ((.inr (out)))
def xc(enc:Int)(s:(List UInt8)):Option ((List UInt8)×Int):=
 bif(enc==(1:Int))then
 some (s,(0:Int))
 else
 let q0:=(M.nK s)
 match(M.mL enc (Option.getD q0 default).1 Go.V.ah [] (0:Int))with
 |none=>none
 |some y1=>
 (match y1 with
 |.inl a2=>
 bif((Option.isSome q0)&&true)then
 some (a2.1,a2.2)
 else
 none
 |.inr b2=>
 bif((Option.isSome q0)&&true)then
 some (b2,(0:Int))
 else
 none)
def Ae(enc:Int):Option (Int):=
 bif(bif(enc==(1:Int))then(enc==(1:Int))else(enc==(3:Int)))then
 some (1:Int)
 else
 bif(enc==(2:Int))then
 some (2:Int)
 else
 some (0:Int)
def nX(size:Int)(align:Int)(m:M.aB)(t6:(List UInt8))(o3:(List M.af)):Nat->Int->Option ((Int×Int×(List UInt8)×(List M.af))⊕((List UInt8)×(List M.af)))
 |0,_=>none
 |fuel+1,i=>
 bif(decide (i<((List.length (M.aB.Free m)):Int)))then
 let q0:=(M.iQ (M.af.At (List.getD (M.aB.Free m) (Int.toNat i) M.af.zero)) align)
 let q1:=(Option.getD q0 default)
 let q2:=(Go.IntKind.wrap Go.IntKind.i64 (q1-(M.af.At (List.getD (M.aB.Free m) (Int.toNat i) M.af.zero))))
 bif((decide ((M.af.Size (List.getD (M.aB.Free m) (Int.toNat i) M.af.zero))<size))||(decide ((Go.IntKind.wrap Go.IntKind.i64 ((M.af.Size (List.getD (M.aB.Free m) (Int.toNat i) M.af.zero))-size))<q2)))then
 let q3:=((Option.isSome q0)&&((Go.V.inB i (List.length (M.aB.Free m)))&&true))
 bif q3 then
 M.nX size align m t6 o3 fuel (Go.IntKind.wrap Go.IntKind.i64 (i+(1:Int)))
 else
 none
 else
 bif(decide ((M.af.At (List.getD (M.aB.Free m) (Int.toNat i) M.af.zero))<q1))then
 let q3:=(Go.IntKind.wrap Go.IntKind.i64 ((Go.IntKind.wrap Go.IntKind.i64 ((Go.IntKind.wrap Go.IntKind.i64 ((M.af.At (List.getD (M.aB.Free m) (Int.toNat i) M.af.zero))+(M.af.Size (List.getD (M.aB.Free m) (Int.toNat i) M.af.zero))))-q1))-size))
 bif(decide ((0:Int)<q3))then
 let q4:=([]++(List.drop (Int.toNat (0:Int)) (List.take (Int.toNat i) (M.aB.Free m))))
 let q5:=[(M.af.mk (M.af.At (List.getD (M.aB.Free m) (Int.toNat i) M.af.zero)) q2)]
 let q6:=(q4++q5)
 let q7:=[(M.af.mk (Go.IntKind.wrap Go.IntKind.i64 (q1+size)) q3)]
 let q8:=(q6++q7)
 let q9:=(List.drop (Int.toNat (Go.IntKind.wrap Go.IntKind.i64 (i+(1:Int)))) (List.take (Int.toNat ((List.length (M.aB.Free m)):Int)) (M.aB.Free m)))
 let q10:=(List.length q9)
 let q11:=(Go.V.bV (Go.IntKind.wrap Go.IntKind.i64 (i+(1:Int))) ((List.length (M.aB.Free m)):Int) (List.length (M.aB.Free m)))
 let q12:=(List.length q6)
 let q13:=(List.length q7)
 let dB:=(List.length q4)
 let di:=((Option.isSome q0)&&((Go.V.inB i (List.length (M.aB.Free m)))&&true))
 let q16:=((decide ((0+(List.length (List.drop (Int.toNat (0:Int)) (List.take (Int.toNat i) (M.aB.Free m)))))<=1073741824))&&((Go.V.bV (0:Int) i (List.length (M.aB.Free m)))&&di))
 let dJ:=((decide ((dB+(List.length q5))<=1073741824))&&q16)
 bif((decide (((List.length q8)+q10)<=1073741824))&&(q11&&((decide ((q12+q13)<=1073741824))&&dJ)))then
 some (.inl (q1,(0:Int),(M.aB.Bytes m),(q8++q9)))
 else
 none
 else
 let q4:=([]++(List.drop (Int.toNat (0:Int)) (List.take (Int.toNat i) (M.aB.Free m))))
 let q5:=[(M.af.mk (M.af.At (List.getD (M.aB.Free m) (Int.toNat i) M.af.zero)) q2)]
 let q6:=(q4++q5)
 let q7:=(List.length q6)
 let q8:=(List.drop (Int.toNat (Go.IntKind.wrap Go.IntKind.i64 (i+(1:Int)))) (List.take (Int.toNat ((List.length (M.aB.Free m)):Int)) (M.aB.Free m)))
 let q9:=(List.length q8)
 let q10:=(Go.V.bV (Go.IntKind.wrap Go.IntKind.i64 (i+(1:Int))) ((List.length (M.aB.Free m)):Int) (List.length (M.aB.Free m)))
 let q11:=(List.length q4)
 let q12:=((Option.isSome q0)&&((Go.V.inB i (List.length (M.aB.Free m)))&&true))
 let q13:=((decide ((0+(List.length (List.drop (Int.toNat (0:Int)) (List.take (Int.toNat i) (M.aB.Free m)))))<=1073741824))&&((Go.V.bV (0:Int) i (List.length (M.aB.Free m)))&&q12))
 let dB:=((decide ((q11+(List.length q5))<=1073741824))&&q13)
 bif((decide ((q7+q9)<=1073741824))&&(q10&&dB))then
 some (.inl (q1,(0:Int),(M.aB.Bytes m),(q6++q8)))
 else
 none
 else
 let q3:=(Go.IntKind.wrap Go.IntKind.i64 ((Go.IntKind.wrap Go.IntKind.i64 ((Go.IntKind.wrap Go.IntKind.i64 ((M.af.At (List.getD (M.aB.Free m) (Int.toNat i) M.af.zero))+(M.af.Size (List.getD (M.aB.Free m) (Int.toNat i) M.af.zero))))-q1))-size))
 bif(decide ((0:Int)<q3))then
 let q4:=([]++(List.drop (Int.toNat (0:Int)) (List.take (Int.toNat i) (M.aB.Free m))))
 let q5:=[(M.af.mk (Go.IntKind.wrap Go.IntKind.i64 (q1+size)) q3)]
 let q6:=(q4++q5)
 let q7:=(List.drop (Int.toNat (Go.IntKind.wrap Go.IntKind.i64 (i+(1:Int)))) (List.take (Int.toNat ((List.length (M.aB.Free m)):Int)) (M.aB.Free m)))
 let q8:=(List.length q7)
 let q9:=(Go.V.bV (Go.IntKind.wrap Go.IntKind.i64 (i+(1:Int))) ((List.length (M.aB.Free m)):Int) (List.length (M.aB.Free m)))
 let q10:=(List.length q4)
 let q11:=(List.length q5)
 let q12:=((Option.isSome q0)&&((Go.V.inB i (List.length (M.aB.Free m)))&&true))
 let q13:=((decide ((0+(List.length (List.drop (Int.toNat (0:Int)) (List.take (Int.toNat i) (M.aB.Free m)))))<=1073741824))&&((Go.V.bV (0:Int) i (List.length (M.aB.Free m)))&&q12))
 bif((decide (((List.length q6)+q8)<=1073741824))&&(q9&&((decide ((q10+q11)<=1073741824))&&q13)))then
 some (.inl (q1,(0:Int),(M.aB.Bytes m),(q6++q7)))
 else
 none
 else
 let q4:=([]++(List.drop (Int.toNat (0:Int)) (List.take (Int.toNat i) (M.aB.Free m))))
 let q5:=(List.length q4)
 let q6:=(List.drop (Int.toNat (Go.IntKind.wrap Go.IntKind.i64 (i+(1:Int)))) (List.take (Int.toNat ((List.length (M.aB.Free m)):Int)) (M.aB.Free m)))
 let q7:=(List.length q6)
 let q8:=(Go.V.bV (Go.IntKind.wrap Go.IntKind.i64 (i+(1:Int))) ((List.length (M.aB.Free m)):Int) (List.length (M.aB.Free m)))
 let q9:=((Option.isSome q0)&&((Go.V.inB i (List.length (M.aB.Free m)))&&true))
 let q10:=((decide ((0+(List.length (List.drop (Int.toNat (0:Int)) (List.take (Int.toNat i) (M.aB.Free m)))))<=1073741824))&&((Go.V.bV (0:Int) i (List.length (M.aB.Free m)))&&q9))
 bif((decide ((q5+q7)<=1073741824))&&(q8&&q10))then
 some (.inl (q1,(0:Int),(M.aB.Bytes m),(q4++q6)))
 else
 none
 else
 some ((.inr ((t6,o3))))
def xd(m:M.aB)(size:Int)(align:Int):Option ((List UInt8)×Int×Int×(List M.af)):=
 bif(size==(0:Int))then
 let q0:=(M.jm m)
 bif((Option.isSome q0)&&true)then
 some ((Option.getD q0 default).1,(0:Int),(0:Int),(Option.getD q0 default).2)
 else
 none
 else
 match(M.nX size align m [] [] Go.V.ah (0:Int))with
 |none=>none
 |some y0=>
 (match y0 with
 |.inl a1=>
 some (a1.2.2.1,a1.1,a1.2.1,a1.2.2.2)
 |.inr b1=>
 some ([],(0:Int),(4:Int),[]))
def jX(size:Int)(align:Int)(o:(List UInt8))(o2:Int)(o3:Int)(o1:(List M.af)):Option (Int×(List UInt8)×Int×Int×(List M.af)):=
 let q0:=(M.xd (M.aB.mk o o1) size align)
 let q1:=(Option.getD q0 default)
 let q2:=q1.2
 let q3:=q2.2
 let q4:=q3.1
 bif(q4 !=(0:Int))then
 let q5:=((Option.isSome q0)&&true)
 bif q5 then
 some ((0:Int),o,o2,q4,o1)
 else
 none
 else
 let q5:=((Option.isSome q0)&&true)
 bif q5 then
 some (q2.1,q1.1,o2,o3,q3.2)
 else
 none
def rM(m:M.aB)(at_:Int)(bytes:(List UInt8)):Option ((List UInt8)×Int×(List M.af)):=
 let q0:=(M.xa m at_ ((List.length bytes):Int))
 bif(!(Option.getD q0 default))then
 some ([],(10:Int),[])
 else
 let q1:=((List.drop (Int.toNat (0:Int)) (List.take (Int.toNat at_) (M.aB.Bytes m)))++bytes)
 let q2:=(List.drop (Int.toNat (Go.IntKind.wrap Go.IntKind.i64 (at_+((List.length bytes):Int)))) (List.take (Int.toNat ((List.length (M.aB.Bytes m)):Int)) (M.aB.Bytes m)))
 let q3:=(M.jm m)
 bif((Go.V.eE q1 q2)&&((Go.V.bV (Go.IntKind.wrap Go.IntKind.i64 (at_+((List.length bytes):Int))) ((List.length (M.aB.Bytes m)):Int) (List.length (M.aB.Bytes m)))&&((Go.V.eE (List.drop (Int.toNat (0:Int)) (List.take (Int.toNat at_) (M.aB.Bytes m))) bytes)&&((Go.V.bV (0:Int) at_ (List.length (M.aB.Bytes m)))&&((Option.isSome q3)&&((Option.isSome q0)&&true))))))then
 some ((q1++q2),(0:Int),(Option.getD q3 default).2)
 else
 none
def rN(s:(List UInt8))(o:(List UInt8))(o2:Int)(o3:Int)(o1:(List M.af)):Option (Int×Int×(List UInt8)×Int×Int×(List M.af)):=
 let q0:=(M.xc o2 s)
 let q1:=(Option.getD q0 default).2
 bif(q1 !=(0:Int))then
 bif((Option.isSome q0)&&true)then
 some ((0:Int),(0:Int),o,o2,q1,o1)
 else
 none
 else
 let q2:=(Option.getD q0 default).1
 let q3:=(M.Ae o2)
 let q4:=(M.jX ((List.length q2):Int) (Option.getD q3 default) o o2 o3 o1)
 let q5:=(Option.getD q4 default)
 let q6:=q5.2
 let q7:=q6.2
 let q8:=q7.2
 let q9:=q8.1
 bif((q9 !=(0:Int))||(q2==[]))then
 let q10:=((Option.isSome q4)&&((Option.isSome q3)&&((Option.isSome q0)&&true)))
 bif q10 then
 let q11:=q5.1
 let q12:=q6.1
 let q13:=q7.1
 let dB:=q8.2
 some (q11,(0:Int),q12,q13,q9,dB)
 else
 none
 else
 let q10:=q6.1
 let q11:=q8.2
 let q12:=q5.1
 let q13:=(M.rM (M.aB.mk q10 q11) q12 q2)
 let dB:=((Option.isSome q4)&&((Option.isSome q3)&&((Option.isSome q0)&&true)))
 bif(((Option.getD q3 default) !=(0:Int))&&((Option.isSome q13)&&dB))then
 let di:=(Option.getD q13 default)
 let q16:=q7.1
 some (q12,(Go.IntKind.wrap Go.IntKind.i64 (Int.tdiv ((List.length q2):Int) (Option.getD q3 default))),di.1,q16,q9,di.2.2)
 else
 none
def l5(bE:M.aa->M.ae->Int->(List UInt8)->Int->Int->(List M.af)->Option ((List UInt8)×Int×Int×(List M.af)))(kids:(List M.ae))(size:Int)(many:Int)(at_:Int):Nat->Int->(List UInt8)->Int->Int->M.aa->(List M.af)->Option (Int×Int×(List UInt8)×Int×Int×(List M.af))
 |0,_,_,_,_,_,_=>none
 |fuel+1,i,o,o2,o3,t,o32=>
 bif((decide (i<many))&&(o3==(0:Int)))then
 bif((Option.isSome (bE (M.aa.re t) (M.ae.re (List.getD kids (Int.toNat i) M.ae.zero)) (Go.IntKind.wrap Go.IntKind.i64 (at_+(Go.IntKind.wrap Go.IntKind.i64 (i*size)))) o o2 o3 o32))&&((Go.V.inB i (List.length kids))&&true))then
 let q0:=(Option.getD (bE (M.aa.re t) (M.ae.re (List.getD kids (Int.toNat i) M.ae.zero)) (Go.IntKind.wrap Go.IntKind.i64 (at_+(Go.IntKind.wrap Go.IntKind.i64 (i*size)))) o o2 o3 o32) default)
 let q1:=q0.2
 let q2:=q1.2
 M.l5 bE kids size many at_ fuel (Go.IntKind.wrap Go.IntKind.i64 (i+(1:Int))) q0.1 q1.1 q2.1 (M.aa.re t) q2.2
 else
 none
 else
 some ((many,at_,o,o2,o3,o32))
def uE(bE:M.aa->M.ae->Int->(List UInt8)->Int->Int->(List M.af)->Option ((List UInt8)×Int×Int×(List M.af)))(t:M.aa)(kids:(List M.ae))(o:(List UInt8))(o2:Int)(o3:Int)(o1:(List M.af)):Option (Int×Int×(List UInt8)×Int×Int×(List M.af)):=
 let q0:=(M.gR (M.aa.re t))
 let q1:=(M.jX (Go.IntKind.wrap Go.IntKind.i64 (((List.length kids):Int)*(Option.getD q0 default).1)) (Option.getD q0 default).2 o o2 o3 o1)
 let q2:=(Option.getD q1 default)
 let q3:=q2.2
 let q4:=q3.2
 let q5:=q4.2
 match(M.l5 bE kids (Option.getD q0 default).1 ((List.length kids):Int) q2.1 Go.V.ah (0:Int) q3.1 q4.1 q5.1 (M.aa.re t) q5.2)with
 |none=>none
 |some y6=>
 bif((Option.isSome q1)&&((Option.isSome q0)&&true))then
 let q7:=y6.2.2
 let q8:=q7.2
 let q9:=q8.2
 some (y6.2.1,y6.1,q7.1,q8.1,q9.1,q9.2)
 else
 none
def rO(bE:M.aa->M.ae->Int->(List UInt8)->Int->Int->(List M.af)->Option ((List UInt8)×Int×Int×(List M.af)))(t:M.aa)(v:M.ae)(o:(List UInt8))(o2:Int)(o3:Int)(o1:(List M.af)):Option (Int×Int×(List UInt8)×Int×Int×(List M.af)):=
 bif((M.aa.Kind t)==(11:Int))then
 let q0:=(M.rN (M.ae.Text v) o o2 o3 o1)
 bif((Option.isSome q0)&&true)then
 let q1:=default
 let q2:=(Option.getD q0 q1)
 let q3:=q2.2
 let q4:=q3.2
 let q5:=q4.2
 let q6:=q5.2
 some (q2.1,q3.1,q4.1,q5.1,q6.1,q6.2)
 else
 none
 else
 let q0:=(M.uE bE (M.aa.re (List.getD (M.aa.Kids t) (Int.toNat (0:Int)) M.aa.zero)) (M.ae.Kids v) o o2 o3 o1)
 bif((Option.isSome q0)&&((Go.V.inB (0:Int) (List.length (M.aa.Kids t)))&&true))then
 let q1:=default
 let q2:=(Option.getD q0 q1)
 let q3:=q2.2
 let q4:=q3.2
 let q5:=q4.2
 let q6:=q5.2
 some (q2.1,q3.1,q4.1,q5.1,q6.1,q6.2)
 else
 none
def mM(at_:Int)(n:Int)(many:Int)(o:(List UInt8))(o2:Int)(o3:Int)(o1:(List M.af)):Option ((List UInt8)×Int×Int×(List M.af)):=
 let q0:=(M.nW n many)
 let q1:=(M.rM (M.aB.mk o o1) at_ (Option.getD q0 default))
 let q2:=(Option.getD q1 default)
 let q3:=q2.2
 bif(q3.1==(0:Int))then
 let q4:=((Option.isSome q1)&&((Option.isSome q0)&&true))
 bif q4 then
 some (q2.1,o2,o3,q3.2)
 else
 none
 else
 let q4:=((Option.isSome q1)&&((Option.isSome q0)&&true))
 bif q4 then
 some (o,o2,o3,o1)
 else
 none
def lj(bE:M.aa->M.ae->Int->(List UInt8)->Int->Int->(List M.af)->Option ((List UInt8)×Int×Int×(List M.af)))(ts:(List M.aa))(vs:(List M.ae))(at_:Int)(places:(List Int)):Nat->Int->(List UInt8)->Int->Int->(List M.af)->Option ((List UInt8)×Int×Int×(List M.af))
 |0,_,_,_,_,_=>none
 |fuel+1,i,o,o2,o3,yg=>
 bif((decide (i<((List.length ts):Int)))&&(o3==(0:Int)))then
 bif((Option.isSome (bE (M.aa.re (List.getD ts (Int.toNat i) M.aa.zero)) (M.ae.re (List.getD vs (Int.toNat i) M.ae.zero)) (Go.IntKind.wrap Go.IntKind.i64 (at_+(List.getD places (Int.toNat i) (0:Int)))) o o2 o3 yg))&&((Go.V.inB i (List.length places))&&((Go.V.inB i (List.length vs))&&((Go.V.inB i (List.length ts))&&true))))then
 let q0:=(Option.getD (bE (M.aa.re (List.getD ts (Int.toNat i) M.aa.zero)) (M.ae.re (List.getD vs (Int.toNat i) M.ae.zero)) (Go.IntKind.wrap Go.IntKind.i64 (at_+(List.getD places (Int.toNat i) (0:Int)))) o o2 o3 yg) default)
 let q1:=q0.2
 let q2:=q1.2
 M.lj bE ts vs at_ places fuel (Go.IntKind.wrap Go.IntKind.i64 (i+(1:Int))) q0.1 q1.1 q2.1 q2.2
 else
 none
 else
 some ((o,o2,o3,yg))
def pX(bE:M.aa->M.ae->Int->(List UInt8)->Int->Int->(List M.af)->Option ((List UInt8)×Int×Int×(List M.af)))(ts:(List M.aa))(vs:(List M.ae))(at_:Int)(o:(List UInt8))(o2:Int)(o3:Int)(o1:(List M.af)):Option ((List UInt8)×Int×Int×(List M.af)):=
 let q0:=(M.mK M.gR ts)
 match(M.lj bE ts vs at_ (Option.getD q0 default).1 Go.V.ah (0:Int) o o2 o3 o1)with
 |none=>none
 |some y1=>
 bif((Option.isSome q0)&&true)then
 some (y1.1,y1.2.1,y1.2.2.1,y1.2.2.2)
 else
 none
def xf(t:M.aa):Option (Int):=
 let q0:=(M.kA (M.aa.re t))
 let q1:=(M.rK M.gR (Option.getD q0 default))
 let q2:=(M.iQ (1:Int) (Option.getD q1 default).2)
 bif((Option.isSome q2)&&((Option.isSome q1)&&((Option.isSome q0)&&true)))then
 some (Option.getD q2 default)
 else
 none
def Af(bE:M.aa->M.ae->Int->(List UInt8)->Int->Int->(List M.af)->Option ((List UInt8)×Int×Int×(List M.af)))(t:M.aa)(v:M.ae)(at_:Int)(o:(List UInt8))(o2:Int)(o3:Int)(o1:(List M.af)):Option ((List UInt8)×Int×Int×(List M.af)):=
 bif((M.aa.Kind t)==(1:Int))then
 some (o,o2,o3,o1)
 else
 bif(bif((M.aa.Kind t)==(11:Int))then((M.aa.Kind t)==(11:Int))else((M.aa.Kind t)==(12:Int)))then
 let q0:=(M.rO bE (M.aa.re t) (M.ae.re v) o o2 o3 o1)
 let q1:=(Option.getD q0 default)
 let q2:=q1.2
 let q3:=q2.2
 let q4:=q3.2
 let q5:=q4.2
 let q6:=q5.1
 bif(q6==(0:Int))then
 let q7:=q3.1
 let q8:=q4.1
 let q9:=q5.2
 let q10:=(M.mM at_ q1.1 (4:Int) q7 q8 q6 q9)
 let q11:=(Option.getD q10 default)
 let q12:=q11.2
 let q13:=q12.2
 let dB:=(M.mM (Go.IntKind.wrap Go.IntKind.i64 (at_+(4:Int))) q2.1 (4:Int) q11.1 q12.1 q13.1 q13.2)
 let di:=((Option.isSome q0)&&true)
 bif((Option.isSome dB)&&((Option.isSome q10)&&di))then
 let q16:=(Option.getD dB default)
 let dJ:=q16.2
 let dC:=dJ.2
 some (q16.1,dJ.1,dC.1,dC.2)
 else
 none
 else
 let q7:=((Option.isSome q0)&&true)
 bif q7 then
 let q8:=q3.1
 let q9:=q4.1
 let q10:=q5.2
 some (q8,q9,q6,q10)
 else
 none
 else
 bif(bif((M.aa.Kind t)==(15:Int))then((M.aa.Kind t)==(15:Int))else((M.aa.Kind t)==(16:Int)))then
 let q0:=(M.pX bE (M.aa.Kids t) (M.ae.Kids v) at_ o o2 o3 o1)
 bif((Option.isSome q0)&&true)then
 let q1:=(Option.getD q0 default)
 let q2:=q1.2
 let q3:=q2.2
 some (q1.1,q2.1,q3.1,q3.2)
 else
 none
 else
 bif(bif((M.aa.Kind t)==(13:Int))then((M.aa.Kind t)==(13:Int))else(bif((M.aa.Kind t)==(14:Int))then((M.aa.Kind t)==(14:Int))else((M.aa.Kind t)==(17:Int))))then
 bif(decide ((0:Int)<((List.length (M.ae.Kids v)):Int)))then
 let q0:=(M.kA (M.aa.re t))
 let q1:=(M.xf (M.aa.re t))
 let q2:=(M.mM at_ (M.ae.Num v) (1:Int) o o2 o3 o1)
 let q3:=(Option.getD q2 default)
 let q4:=q3.1
 let q5:=q3.2
 let q6:=q5.1
 let q7:=q5.2
 let q8:=q7.1
 let q9:=q7.2
 let q10:=((Option.isSome q2)&&true)
 bif((Option.isSome (bE (M.aa.re (List.getD (Option.getD q0 default) (Int.toNat (M.ae.Num v)) M.aa.zero)) (M.ae.re (List.getD (M.ae.Kids v) (Int.toNat (0:Int)) M.ae.zero)) (Go.IntKind.wrap Go.IntKind.i64 (at_+(Option.getD q1 default))) q4 q6 q8 q9))&&((Option.isSome q1)&&((Go.V.inB (0:Int) (List.length (M.ae.Kids v)))&&((Go.V.inB (M.ae.Num v) (List.length (Option.getD q0 default)))&&((Option.isSome q0)&&q10)))))then
 let q11:=(Option.getD (bE (M.aa.re (List.getD (Option.getD q0 default) (Int.toNat (M.ae.Num v)) M.aa.zero)) (M.ae.re (List.getD (M.ae.Kids v) (Int.toNat (0:Int)) M.ae.zero)) (Go.IntKind.wrap Go.IntKind.i64 (at_+(Option.getD q1 default))) q4 q6 q8 q9) default)
 let q12:=q11.2
 let q13:=q12.2
 some (q11.1,q12.1,q13.1,q13.2)
 else
 none
 else
 let q0:=(M.mM at_ (M.ae.Num v) (1:Int) o o2 o3 o1)
 let q1:=((Option.isSome q0)&&true)
 bif q1 then
 let q2:=(Option.getD q0 default)
 let q3:=q2.1
 let q4:=q2.2
 let q5:=q4.1
 let q6:=q4.2
 let q7:=q6.1
 let q8:=q6.2
 some (q3,q5,q7,q8)
 else
 none
 else
 let q0:=(M.gR (M.aa.re t))
 let q1:=(M.mM at_ (M.ae.Num v) (Option.getD q0 default).1 o o2 o3 o1)
 bif((Option.isSome q1)&&((Option.isSome q0)&&true))then
 let q2:=(Option.getD q1 default)
 let q3:=q2.2
 let q4:=q3.2
 some (q2.1,q3.1,q4.1,q4.2)
 else
 none
def rP:Nat->M.aa->M.ae->Int->(List UInt8)->Int->Int->(List M.af)->Option ((List UInt8)×Int×Int×(List M.af))
 |0=>fun _ _ _ _ _ _ _=>none
 |n+1=>Af (rP n)
def ln:M.aa->M.ae->Int->(List UInt8)->Int->Int->(List M.af)->Option ((List UInt8)×Int×Int×(List M.af)):=rP Go.V.ah
def xh(s:(List UInt8)):Option (Int):=
 some ((List.length s):Int)
def nY(end_:Int)(t8:(List M.af))(t9:Int):Nat->Int->Int->Option ((Bool)⊕(Unit))
 |0,_,_=>none
 |fuel+1,last,t10=>
 bif(decide (t10<t9))then
 bif((((decide ((M.af.Size (List.getD t8 (Int.toNat t10) M.af.zero))<=(0:Int)))||(decide ((M.af.At (List.getD t8 (Int.toNat t10) M.af.zero))<=last)))||(decide (end_<(M.af.At (List.getD t8 (Int.toNat t10) M.af.zero)))))||(decide ((Go.IntKind.wrap Go.IntKind.i64 (end_-(M.af.At (List.getD t8 (Int.toNat t10) M.af.zero))))<(M.af.Size (List.getD t8 (Int.toNat t10) M.af.zero)))))then
 bif((Go.V.inB t10 (List.length t8))&&true)then
 some (.inl false)
 else
 none
 else
 bif((Go.V.inB t10 (List.length t8))&&true)then
 M.nY end_ t8 t9 fuel (Go.IntKind.wrap Go.IntKind.i64 ((M.af.At (List.getD t8 (Int.toNat t10) M.af.zero))+(M.af.Size (List.getD t8 (Int.toNat t10) M.af.zero)))) (Go.IntKind.wrap Go.IntKind.i64 (t10+(1:Int)))
 else
 none
 else
 some ((.inr (())))
def xi(free:(List M.af))(end_:Int):Option (Bool):=
 match(M.nY end_ free ((List.length free):Int) Go.V.ah (7:Int) (0:Int))with
 |none=>none
 |some y0=>
 (match y0 with
 |.inl a1=>
 some a1
 |.inr b1=>
 some true)
def xj(m:M.aB):Option (Bool):=
 let q0:=(M.xi (M.aB.Free m) ((List.length (M.aB.Bytes m)):Int))
 bif(((Option.isSome q0)||(!((decide (((List.length (M.aB.Bytes m)):Int)<=(4096:Int)))==true)))&&true)then
 some ((decide (((List.length (M.aB.Bytes m)):Int)<=(4096:Int)))&&(Option.getD q0 default))
 else
 none
def Ip(enc:Int):Option (Bool):=
 some ((decide ((1:Int)<=enc))&&(decide (enc<=(3:Int))))
def xk(t:M.aa):Option (Bool):=
 let q0:=(M.wR (M.aa.re t))
 bif((Option.isSome q0)&&true)then
 some (!(Option.getD q0 default))
 else
 none
def uF(s:(List M.aa))(t7:Int):Nat->Int->Option ((Int)⊕(Unit))
 |0,_=>none
 |fuel+1,t8=>
 bif(decide (t8<t7))then
 let q0:=(M.xk (M.aa.re (List.getD s (Int.toNat t8) M.aa.zero)))
 bif(Option.getD q0 default)then
 let q1:=((Option.isSome q0)&&((Go.V.inB t8 (List.length s))&&true))
 bif q1 then
 some (.inl t8)
 else
 none
 else
 let q1:=((Option.isSome q0)&&((Go.V.inB t8 (List.length s))&&true))
 bif q1 then
 M.uF s t7 fuel (Go.IntKind.wrap Go.IntKind.i64 (t8+(1:Int)))
 else
 none
 else
 some ((.inr (())))
def Ag(s:(List M.aa)):Option (Int):=
 match(M.uF s ((List.length s):Int) Go.V.ah (0:Int))with
 |none=>none
 |some y0=>
 (match y0 with
 |.inl a1=>
 some a1
 |.inr b1=>
 some (-(1:Int)))
def xl(s:(List M.aa)):Option (Bool):=
 let q0:=(M.Ag s)
 bif((Option.isSome q0)&&true)then
 some (decide ((0:Int)<=(Option.getD q0 default)))
 else
 none
def xm(list:(List M.aa)):Option (Bool):=
 let q0:=(M.xl list)
 bif(((Option.isSome q0)||(!((decide (((List.length list):Int)<=(24:Int)))==true)))&&true)then
 some ((decide (((List.length list):Int)<=(24:Int)))&&(!(Option.getD q0 default)))
 else
 none
def xn(m:M.aB)(enc:Int)(list:(List M.aa)):Option (Bool):=
 let q0:=(M.xm list)
 let q1:=(M.xj m)
 let q2:=(((Option.getD q1 default)&&((decide ((1:Int)<=enc))&&(decide (enc<=(3:Int)))))&&(decide (((List.length list):Int)<=(6:Int))))
 bif(((Option.isSome q0)||(!(q2==true)))&&((Option.isSome q1)&&true))then
 some (q2&&(Option.getD q0 default))
 else
 none
def xo(m:M.aB):Option ((List UInt8)×(List M.af)):=
 let q0:=(M.mN (M.aB.Free m))
 bif((Option.isSome q0)&&((decide ((List.length (M.aB.Bytes m))<=1073741824))&&true))then
 some ((List.map (fun a=>a) (M.aB.Bytes m)),(Option.getD q0 default))
 else
 none
def rQ(t:M.aa):Option (Int):=
 some (Go.IntKind.wrap Go.IntKind.i64 (Int.tdiv (Go.IntKind.wrap Go.IntKind.i64 (((List.length (M.aa.bu t)):Int)+(7:Int))) (8:Int)))
def l6(dh:M.aa->Option (Int))(t6:(List M.aa))(t7:Int):Nat->Int->Int->Option (Int)
 |0,_,_=>none
 |fuel+1,greatest,t8=>
 bif(decide (t8<t7))then
 bif((Option.isSome (dh (M.aa.re (List.getD t6 (Int.toNat t8) M.aa.zero))))&&((Go.V.inB t8 (List.length t6))&&true))then
 let q0:=(Option.getD (dh (M.aa.re (List.getD t6 (Int.toNat t8) M.aa.zero))) default)
 M.l6 dh t6 t7 fuel (bif(decide (greatest<q0))then q0 else greatest) (Go.IntKind.wrap Go.IntKind.i64 (t8+(1:Int)))
 else
 none
 else
 some (greatest)
def jY(dh:M.aa->Option (Int))(list:(List M.aa)):Option (Int):=
 match(M.l6 dh list ((List.length list):Int) Go.V.ah (1:Int) (0:Int))with
 |none=>none
 |some y0=>
 some y0
def l7(t:M.aa):Option ((List M.aa)):=
 bif((M.aa.Kind t)==(13:Int))then
 bif((Go.V.inB (0:Int) (List.length (M.aa.Kids t)))&&true)then
 some [(M.aa.mk (1:Int) [] [] []),(M.aa.re (List.getD (M.aa.Kids t) (Int.toNat (0:Int)) M.aa.zero))]
 else
 none
 else
 bif(bif((M.aa.Kind t)==(14:Int))then((M.aa.Kind t)==(14:Int))else((M.aa.Kind t)==(17:Int)))then
 some (M.aa.Kids t)
 else
 some []
def uG(kind:Int):Option (Int):=
 bif(bif(kind==(2:Int))then(kind==(2:Int))else(bif(kind==(3:Int))then(kind==(3:Int))else(kind==(4:Int))))then
 some (1:Int)
 else
 bif(bif(kind==(5:Int))then(kind==(5:Int))else(kind==(6:Int)))then
 some (2:Int)
 else
 bif(bif(kind==(7:Int))then(kind==(7:Int))else(bif(kind==(8:Int))then(kind==(8:Int))else(bif(kind==(10:Int))then(kind==(10:Int))else(bif(kind==(20:Int))then(kind==(20:Int))else(bif(kind==(21:Int))then(kind==(21:Int))else(bif(kind==(22:Int))then(kind==(22:Int))else(kind==(23:Int))))))))then
 some (4:Int)
 else
 bif(kind==(9:Int))then
 some (8:Int)
 else
 some (0:Int)
def Ai(dh:M.aa->Option (Int))(t:M.aa):Option (Int):=
 bif(bif((M.aa.Kind t)==(1:Int))then((M.aa.Kind t)==(1:Int))else((M.aa.Kind t)==(18:Int)))then
 some (1:Int)
 else
 bif(bif((M.aa.Kind t)==(11:Int))then((M.aa.Kind t)==(11:Int))else((M.aa.Kind t)==(12:Int)))then
 some (4:Int)
 else
 bif((M.aa.Kind t)==(19:Int))then
 some (Option.getD (M.rQ (M.aa.re t)) default)
 else
 bif(bif((M.aa.Kind t)==(15:Int))then((M.aa.Kind t)==(15:Int))else((M.aa.Kind t)==(16:Int)))then
 let q0:=(M.jY dh (M.aa.Kids t))
 bif((Option.isSome q0)&&true)then
 some (Option.getD q0 default)
 else
 none
 else
 bif(bif((M.aa.Kind t)==(13:Int))then((M.aa.Kind t)==(13:Int))else(bif((M.aa.Kind t)==(14:Int))then((M.aa.Kind t)==(14:Int))else((M.aa.Kind t)==(17:Int))))then
 let q0:=(M.l7 (M.aa.re t))
 let q1:=(M.jY dh (Option.getD q0 default))
 bif((Option.isSome q1)&&((Option.isSome q0)&&true))then
 some (Option.getD q1 default)
 else
 none
 else
 let q0:=(M.uG (M.aa.Kind t))
 bif((Option.isSome q0)&&true)then
 some (Option.getD q0 default)
 else
 none
def pY:Nat->M.aa->Option (Int)
 |0=>fun _=>none
 |n+1=>Ai (pY n)
def fE:M.aa->Option (Int):=pY Go.V.ah
def ib(x:Int)(a:Int):Option (Int):=
 bif((a !=(0:Int))&&true)then
 some (Go.IntKind.wrap Go.IntKind.i64 ((Go.IntKind.wrap Go.IntKind.i64 (Int.tdiv (Go.IntKind.wrap Go.IntKind.i64 ((Go.IntKind.wrap Go.IntKind.i64 (x+a))-(1:Int))) a))*a))
 else
 none
def l9(bK:M.aa->Option (Int))(t10:(List M.aa))(t11:Int):Nat->Int->Int->(List Int)->Option (Int×(List Int))
 |0,_,_,_=>none
 |fuel+1,end_,t12,offsets=>
 bif(decide (t12<t11))then
 let q0:=(M.fE (M.aa.re (List.getD t10 (Int.toNat t12) M.aa.zero)))
 let q1:=(M.ib end_ (Option.getD q0 default))
 let q2:=(Option.getD q1 default)
 let q3:=[q2]
 bif((Option.isSome (bK (M.aa.re (List.getD t10 (Int.toNat t12) M.aa.zero))))&&((decide (((List.length offsets)+(List.length q3))<=1073741824))&&((Option.isSome q1)&&((Option.isSome q0)&&((Go.V.inB t12 (List.length t10))&&true)))))then
 M.l9 bK t10 t11 fuel (Go.IntKind.wrap Go.IntKind.i64 (q2+(Option.getD (bK (M.aa.re (List.getD t10 (Int.toNat t12) M.aa.zero))) default))) (Go.IntKind.wrap Go.IntKind.i64 (t12+(1:Int))) (offsets++q3)
 else
 none
 else
 some ((end_,offsets))
def od(bK:M.aa->Option (Int))(list:(List M.aa)):Option ((List Int)×Int):=
 match(M.l9 bK list ((List.length list):Int) Go.V.ah (0:Int) (0:Int) [])with
 |none=>none
 |some y0=>
 some (y0.2,y0.1)
def qa(bK:M.aa->Option (Int))(list:(List M.aa)):Option (Int):=
 let q0:=(M.od bK list)
 let q1:=(M.jY M.fE list)
 let q2:=(M.ib (Option.getD q0 default).2 (Option.getD q1 default))
 bif((Option.isSome q2)&&((Option.isSome q1)&&((Option.isSome q0)&&true)))then
 some (Option.getD q2 default)
 else
 none
def qb(t:M.aa):Option (Int):=
 let q0:=(M.l7 (M.aa.re t))
 let q1:=(M.jY M.fE (Option.getD q0 default))
 let q2:=(M.ib (1:Int) (Option.getD q1 default))
 bif((Option.isSome q2)&&((Option.isSome q1)&&((Option.isSome q0)&&true)))then
 some (Option.getD q2 default)
 else
 none
def oe(bK:M.aa->Option (Int))(t6:(List M.aa))(t7:Int):Nat->Int->Int->Option (Int)
 |0,_,_=>none
 |fuel+1,greatest,t8=>
 bif(decide (t8<t7))then
 bif((Option.isSome (bK (M.aa.re (List.getD t6 (Int.toNat t8) M.aa.zero))))&&((Go.V.inB t8 (List.length t6))&&true))then
 let q0:=(Option.getD (bK (M.aa.re (List.getD t6 (Int.toNat t8) M.aa.zero))) default)
 M.oe bK t6 t7 fuel (bif(decide (greatest<q0))then q0 else greatest) (Go.IntKind.wrap Go.IntKind.i64 (t8+(1:Int)))
 else
 none
 else
 some (greatest)
def rS(bK:M.aa->Option (Int))(list:(List M.aa)):Option (Int):=
 match(M.oe bK list ((List.length list):Int) Go.V.ah (0:Int) (0:Int))with
 |none=>none
 |some y0=>
 some y0
def Aj(bK:M.aa->Option (Int))(t:M.aa):Option (Int):=
 bif((M.aa.Kind t)==(1:Int))then
 some (0:Int)
 else
 bif((M.aa.Kind t)==(18:Int))then
 some (1:Int)
 else
 bif(bif((M.aa.Kind t)==(11:Int))then((M.aa.Kind t)==(11:Int))else((M.aa.Kind t)==(12:Int)))then
 some (8:Int)
 else
 bif((M.aa.Kind t)==(19:Int))then
 some (Option.getD (M.rQ (M.aa.re t)) default)
 else
 bif(bif((M.aa.Kind t)==(15:Int))then((M.aa.Kind t)==(15:Int))else((M.aa.Kind t)==(16:Int)))then
 let q0:=(M.qa bK (M.aa.Kids t))
 bif((Option.isSome q0)&&true)then
 some (Option.getD q0 default)
 else
 none
 else
 bif(bif((M.aa.Kind t)==(13:Int))then((M.aa.Kind t)==(13:Int))else(bif((M.aa.Kind t)==(14:Int))then((M.aa.Kind t)==(14:Int))else((M.aa.Kind t)==(17:Int))))then
 let q0:=(M.qb (M.aa.re t))
 let q1:=(M.l7 (M.aa.re t))
 let q2:=(M.rS bK (Option.getD q1 default))
 let q3:=(M.fE (M.aa.re t))
 let q4:=(M.ib (Go.IntKind.wrap Go.IntKind.i64 ((Option.getD q0 default)+(Option.getD q2 default))) (Option.getD q3 default))
 bif((Option.isSome q4)&&((Option.isSome q3)&&((Option.isSome q2)&&((Option.isSome q1)&&((Option.isSome q0)&&true)))))then
 some (Option.getD q4 default)
 else
 none
 else
 let q0:=(M.uG (M.aa.Kind t))
 bif((Option.isSome q0)&&true)then
 some (Option.getD q0 default)
 else
 none
def oh:Nat->M.aa->Option (Int)
 |0=>fun _=>none
 |n+1=>Aj (oh n)
def ie:M.aa->Option (Int):=oh Go.V.ah
def IB(list:(List UInt8)):Option (Int):=
 some ((List.length list):Int)
def uI(s:M.ig)(at_:Int)(n:Int):Option (Bool):=
 some ((((decide ((0:Int)<=at_))&&(decide ((0:Int)<=n)))&&(decide (at_<=((List.length (M.ig.bytes s)):Int))))&&(decide (n<=(Go.IntKind.wrap Go.IntKind.i64 (((List.length (M.ig.bytes s)):Int)-at_)))))
def oi(t7:Int):Nat->Int->Int->(List UInt8)->Option ((List UInt8))
 |0,_,_,_=>none
 |fuel+1,n,t8,b=>
 bif(decide (t8<t7))then
 let q0:=[(Go.V.eA (Go.IntKind.wrap Go.IntKind.u8 n))]
 bif((decide (((List.length b)+(List.length q0))<=1073741824))&&(((Go.V.fH (Go.IntKind.wrap Go.IntKind.u8 n))&&true)&&true))then
 M.oi t7 fuel (Go.V.gi Go.IntKind.i64 n (8:Int)) (Go.IntKind.wrap Go.IntKind.i64 (t8+(1:Int))) (b++q0)
 else
 none
 else
 some (b)
def jn(n:Int)(many:Int):Option ((List UInt8)):=
 match(M.oi many Go.V.ah n (0:Int) [])with
 |none=>none
 |some y0=>
 some (List.map (fun a=>a) y0)
def xq(n:Int):Option ((List UInt8)):=
 bif(decide (n<(65536:Int)))then
 let q0:=(M.jn n (2:Int))
 bif((Option.isSome q0)&&true)then
 some (Option.getD q0 default)
 else
 none
 else
 let q0:=(M.jn (Go.IntKind.wrap Go.IntKind.i64 ((55296:Int)+(Go.V.gi Go.IntKind.i64 (Go.IntKind.wrap Go.IntKind.i64 (n-(65536:Int))) (10:Int)))) (2:Int))
 let q1:=(Option.getD q0 default)
 let q2:=(M.jn (Go.IntKind.wrap Go.IntKind.i64 ((56320:Int)+(Go.V.dX Go.BinOp.and Go.IntKind.i64 (Go.IntKind.wrap Go.IntKind.i64 (n-(65536:Int))) (1023:Int)))) (2:Int))
 let q3:=(Option.getD q2 default)
 bif((Go.V.eE q1 q3)&&((Option.isSome q2)&&((Option.isSome q0)&&true)))then
 some (q1++q3)
 else
 none
def mO(enc:Int)(t14:Int)(t13:(List Int)):Nat->(List UInt8)->Int->Option (((List UInt8)×Int)⊕((List UInt8)))
 |0,_,_=>none
 |fuel+1,bytes,t15=>
 bif(decide (t15<t14))then
 bif(enc==(2:Int))then
 let q0:=(M.xq (List.getD t13 (Int.toNat t15) (0:Int)))
 let q1:=(Option.getD q0 default)
 bif((Go.V.eE bytes q1)&&((Option.isSome q0)&&((Go.V.inB t15 (List.length t13))&&true)))then
 M.mO enc t14 t13 fuel (bytes++q1) (Go.IntKind.wrap Go.IntKind.i64 (t15+(1:Int)))
 else
 none
 else
 bif(decide ((List.getD t13 (Int.toNat t15) (0:Int))<(256:Int)))then
 let q0:=(M.jn (List.getD t13 (Int.toNat t15) (0:Int)) (1:Int))
 let q1:=(Option.getD q0 default)
 bif((Go.V.eE bytes q1)&&((Option.isSome q0)&&((Go.V.inB t15 (List.length t13))&&true)))then
 M.mO enc t14 t13 fuel (bytes++q1) (Go.IntKind.wrap Go.IntKind.i64 (t15+(1:Int)))
 else
 none
 else
 bif((Go.V.inB t15 (List.length t13))&&true)then
 some (.inl ([],(19:Int)))
 else
 none
 else
 some ((.inr (bytes)))
def rU(enc:Int)(s:(List UInt8)):Option ((List UInt8)×Int):=
 bif(enc==(1:Int))then
 some (s,(0:Int))
 else
 let q0:=(M.rT s)
 match(M.mO enc ((List.length (Option.getD q0 default)):Int) (Option.getD q0 default) Go.V.ah [] (0:Int))with
 |none=>none
 |some y1=>
 (match y1 with
 |.inl a2=>
 bif((Option.isSome q0)&&true)then
 some (a2.1,a2.2)
 else
 none
 |.inr b2=>
 bif((Option.isSome q0)&&true)then
 some (b2,(0:Int))
 else
 none)
def oj(enc:Int):Option (Int):=
 bif(enc==(2:Int))then
 some (2:Int)
 else
 some (1:Int)
def qc(slices:(List (List M.af)))(t9:(List (List M.af)))(t10:Int):Nat->Int->Int->Option ((List (List M.af))×Int)
 |0,_,_=>none
 |fuel+1,size,t11=>
 bif(decide (t11<t10))then
 let q0:=(Go.IntKind.wrap Go.IntKind.i64 (size+((List.length (List.getD t9 (Int.toNat t11) [])):Int)))
 bif(decide (q0<(0:Int)))then
 none
 else
 bif((Go.V.inB t11 (List.length t9))&&true)then
 M.qc slices t9 t10 fuel q0 (Go.IntKind.wrap Go.IntKind.i64 (t11+(1:Int)))
 else
 none
 else
 some ((slices,size))
def qd(t25:(List (List M.af)))(t26:Int):Nat->Int->(List M.af)->Option ((List M.af))
 |0,_,_=>none
 |fuel+1,t27,JE=>
 bif(decide (t27<t26))then
 bif((decide (((List.length JE)+(List.length (List.getD t25 (Int.toNat t27) [])))<=1073741824))&&((Go.V.inB t27 (List.length t25))&&true))then
 M.qd t25 t26 fuel (Go.IntKind.wrap Go.IntKind.i64 (t27+(1:Int))) (JE++(List.getD t25 (Int.toNat t27) []))
 else
 none
 else
 some (JE)
def qe(slices:(List (List M.af))):Option ((List M.af)):=
 match(M.qc slices slices ((List.length slices):Int) Go.V.ah (0:Int) (0:Int))with
 |none=>none
 |some y0=>
 let q1:=(M.rV y0.2)
 match(M.qd y0.1 ((List.length y0.1):Int) Go.V.ah (0:Int) (Option.getD q1 default))with
 |none=>none
 |some y2=>
 bif((Option.isSome q1)&&true)then
 some y2
 else
 none
def om(many:Int)(alignment:Int)(t20:Int)(t19:(List M.af))(o4:(List UInt8)):Nat->Int->Option ((Int×Int×(List UInt8)×(List M.af))⊕((List UInt8)×(List M.af)))
 |0,_=>none
 |fuel+1,t21=>
 bif(decide (t21<t20))then
 let q0:=(Go.IntKind.wrap Go.IntKind.i64 ((M.af.At (List.getD t19 (Int.toNat t21) M.af.zero))+(M.af.Size (List.getD t19 (Int.toNat t21) M.af.zero))))
 let q1:=(M.ib (M.af.At (List.getD t19 (Int.toNat t21) M.af.zero)) alignment)
 let q2:=(Option.getD q1 default)
 bif(decide ((Go.IntKind.wrap Go.IntKind.i64 (q0-q2))<many))then
 let q3:=((Option.isSome q1)&&((Go.V.inB t21 (List.length t19))&&true))
 bif q3 then
 M.om many alignment t20 t19 o4 fuel (Go.IntKind.wrap Go.IntKind.i64 (t21+(1:Int)))
 else
 none
 else
 bif(decide ((M.af.At (List.getD t19 (Int.toNat t21) M.af.zero))<q2))then
 let q3:=(Go.IntKind.wrap Go.IntKind.i64 (q2+many))
 bif(decide (q3<q0))then
 let q4:=([]++[(M.af.mk (M.af.At (List.getD t19 (Int.toNat t21) M.af.zero)) (Go.IntKind.wrap Go.IntKind.i64 (q2-(M.af.At (List.getD t19 (Int.toNat t21) M.af.zero)))))])
 let q5:=[(M.af.mk q3 (Go.IntKind.wrap Go.IntKind.i64 (q0-q3)))]
 let q6:=[(List.drop (Int.toNat (Go.IntKind.wrap Go.IntKind.i64 (t21+(1:Int)))) (List.take (Int.toNat ((List.length t19):Int)) t19))]
 let q7:=(M.qe [(List.drop (Int.toNat (0:Int)) (List.take (Int.toNat t21) t19)),(q4++q5),(List.drop (Int.toNat (Go.IntKind.wrap Go.IntKind.i64 (t21+(1:Int)))) (List.take (Int.toNat ((List.length t19):Int)) t19))])
 let q8:=((Option.isSome q1)&&((Go.V.inB t21 (List.length t19))&&true))
 let q9:=((Go.V.bV (Go.IntKind.wrap Go.IntKind.i64 (t21+(1:Int))) ((List.length t19):Int) (List.length t19))&&((Go.V.bV (0:Int) t21 (List.length t19))&&q8))
 bif((Option.isSome q7)&&q9)then
 some (.inl (q2,(0:Int),o4,(Option.getD q7 default)))
 else
 none
 else
 let q4:=([]++[(M.af.mk (M.af.At (List.getD t19 (Int.toNat t21) M.af.zero)) (Go.IntKind.wrap Go.IntKind.i64 (q2-(M.af.At (List.getD t19 (Int.toNat t21) M.af.zero)))))])
 let q5:=[(List.drop (Int.toNat (Go.IntKind.wrap Go.IntKind.i64 (t21+(1:Int)))) (List.take (Int.toNat ((List.length t19):Int)) t19))]
 let q6:=(M.qe [(List.drop (Int.toNat (0:Int)) (List.take (Int.toNat t21) t19)),q4,(List.drop (Int.toNat (Go.IntKind.wrap Go.IntKind.i64 (t21+(1:Int)))) (List.take (Int.toNat ((List.length t19):Int)) t19))])
 let q7:=((Option.isSome q1)&&((Go.V.inB t21 (List.length t19))&&true))
 let q8:=((Go.V.bV (Go.IntKind.wrap Go.IntKind.i64 (t21+(1:Int))) ((List.length t19):Int) (List.length t19))&&((Go.V.bV (0:Int) t21 (List.length t19))&&q7))
 bif((Option.isSome q6)&&q8)then
 some (.inl (q2,(0:Int),o4,(Option.getD q6 default)))
 else
 none
 else
 let q3:=(Go.IntKind.wrap Go.IntKind.i64 (q2+many))
 bif(decide (q3<q0))then
 let q4:=[(M.af.mk q3 (Go.IntKind.wrap Go.IntKind.i64 (q0-q3)))]
 let q5:=[(List.drop (Int.toNat (Go.IntKind.wrap Go.IntKind.i64 (t21+(1:Int)))) (List.take (Int.toNat ((List.length t19):Int)) t19))]
 let q6:=(M.qe [(List.drop (Int.toNat (0:Int)) (List.take (Int.toNat t21) t19)),([]++q4),(List.drop (Int.toNat (Go.IntKind.wrap Go.IntKind.i64 (t21+(1:Int)))) (List.take (Int.toNat ((List.length t19):Int)) t19))])
 let q7:=((Option.isSome q1)&&((Go.V.inB t21 (List.length t19))&&true))
 let q8:=((Go.V.bV (Go.IntKind.wrap Go.IntKind.i64 (t21+(1:Int))) ((List.length t19):Int) (List.length t19))&&((Go.V.bV (0:Int) t21 (List.length t19))&&q7))
 bif((Option.isSome q6)&&q8)then
 some (.inl (q2,(0:Int),o4,(Option.getD q6 default)))
 else
 none
 else
 let q4:=[(List.drop (Int.toNat (Go.IntKind.wrap Go.IntKind.i64 (t21+(1:Int)))) (List.take (Int.toNat ((List.length t19):Int)) t19))]
 let q5:=(M.qe [(List.drop (Int.toNat (0:Int)) (List.take (Int.toNat t21) t19)),[],(List.drop (Int.toNat (Go.IntKind.wrap Go.IntKind.i64 (t21+(1:Int)))) (List.take (Int.toNat ((List.length t19):Int)) t19))])
 let q6:=((Option.isSome q1)&&((Go.V.inB t21 (List.length t19))&&true))
 let q7:=((Go.V.bV (Go.IntKind.wrap Go.IntKind.i64 (t21+(1:Int))) ((List.length t19):Int) (List.length t19))&&((Go.V.bV (0:Int) t21 (List.length t19))&&q6))
 bif((Option.isSome q5)&&q7)then
 some (.inl (q2,(0:Int),o4,(Option.getD q5 default)))
 else
 none
 else
 some ((.inr ((o4,t19))))
def xt(many:Int)(alignment:Int)(o1:(List UInt8))(o2:(List M.af)):Option (Int×Int×(List UInt8)×(List M.af)):=
 bif(many==(0:Int))then
 some ((0:Int),(0:Int),o1,o2)
 else
 match(M.om many alignment ((List.length o2):Int) o2 o1 Go.V.ah (0:Int))with
 |none=>none
 |some y0=>
 (match y0 with
 |.inl a1=>
 some (a1.1,a1.2.1,a1.2.2.1,a1.2.2.2)
 |.inr b1=>
 some ((0:Int),(4:Int),b1.1,b1.2))
def jZ(many:Int)(alignment:Int)(x:Int)(x2:Int)(o2:(List UInt8))(o3:(List M.af)):Option (Int×Int×Int×(List UInt8)×(List M.af)):=
 bif(x2 !=(0:Int))then
 some ((0:Int),x,x2,o2,o3)
 else
 let q0:=(M.xt many alignment o2 o3)
 bif((Option.isSome q0)&&true)then
 let q1:=(Option.getD q0 default)
 let q2:=q1.2
 let q3:=q2.2
 some (q1.1,x,q2.1,q3.1,q3.2)
 else
 none
def xu(at_:Int)(bytes:(List UInt8))(o1:(List UInt8))(o2:(List M.af)):Option (Bool×(List UInt8)×(List M.af)):=
 let q0:=(M.uI (M.ig.mk o1 o2) at_ ((List.length bytes):Int))
 bif(!(Option.getD q0 default))then
 some (false,o1,o2)
 else
 bif(((decide ((Int.toNat ((List.length o1):Int))<=(List.length o1)))&&(decide ((List.length bytes)<=((Int.toNat ((List.length o1):Int))-(Int.toNat at_)))))&&((Go.V.bV at_ ((List.length o1):Int) (List.length o1))&&((Option.isSome q0)&&true)))then
 some (true,(((List.take (Int.toNat at_) o1)++(List.map (fun a=>a) bytes))++(List.drop ((Int.toNat at_)+(List.length bytes)) o1)),o2)
 else
 none
def j0(at_:Int)(bytes:(List UInt8))(x:Int)(x2:Int)(o2:(List UInt8))(o3:(List M.af)):Option (Int×Int×(List UInt8)×(List M.af)):=
 bif(x2==(0:Int))then
 let q0:=(M.xu at_ bytes o2 o3)
 bif((Option.isSome q0)&&true)then
 let q1:=(Option.getD q0 default).2
 some (x,x2,q1.1,q1.2)
 else
 none
 else
 some (x,x2,o2,o3)
def iS(cA:M.aa->M.ae->Int->Int->Int->(List UInt8)->(List M.af)->Option (Int×Int×(List UInt8)×(List M.af)))(at_:Int)(t74:(List M.ae))(t75:Int):Nat->Int->Int->Int->M.ae->M.aa->(List UInt8)->(List M.af)->Option (Int×Int×Int×M.ae×(List UInt8)×(List M.af))
 |0,_,_,_,_,_,_,_=>none
 |fuel+1,t76,x,x2,v,kid,o6,o7=>
 bif(decide (t76<t75))then
 let q0:=(M.ie (M.aa.re kid))
 bif((Option.isSome (cA (M.aa.re kid) (M.ae.re (List.getD t74 (Int.toNat t76) M.ae.zero)) (Go.IntKind.wrap Go.IntKind.i64 (at_+(Go.IntKind.wrap Go.IntKind.i64 (t76*(Option.getD q0 default))))) x x2 o6 o7))&&((Option.isSome q0)&&((Go.V.inB t76 (List.length t74))&&true)))then
 let q1:=(Option.getD (cA (M.aa.re kid) (M.ae.re (List.getD t74 (Int.toNat t76) M.ae.zero)) (Go.IntKind.wrap Go.IntKind.i64 (at_+(Go.IntKind.wrap Go.IntKind.i64 (t76*(Option.getD q0 default))))) x x2 o6 o7) default)
 let q2:=q1.2
 let q3:=q2.2
 M.iS cA at_ t74 t75 fuel (Go.IntKind.wrap Go.IntKind.i64 (t76+(1:Int))) q1.1 q2.1 (M.ae.re v) (M.aa.re kid) q3.1 q3.2
 else
 none
 else
 some ((at_,x,x2,(M.ae.re v),o6,o7))
def rW(cA:M.aa->M.ae->Int->Int->Int->(List UInt8)->(List M.af)->Option (Int×Int×(List UInt8)×(List M.af)))(t:M.aa)(v:M.ae)(x:Int)(x2:Int)(o2:(List UInt8))(o3:(List M.af)):Option (Int×Int×Int×Int×(List UInt8)×(List M.af)):=
 bif(x2 !=(0:Int))then
 some ((0:Int),(0:Int),x,x2,o2,o3)
 else
 bif((M.aa.Kind t)==(11:Int))then
 let q0:=(M.rU x (M.ae.Text v))
 let q1:=(Option.getD q0 default).1
 let q2:=(M.oj x)
 let q3:=(M.jZ ((List.length q1):Int) (Option.getD q2 default) x (Option.getD q0 default).2 o2 o3)
 let q4:=default
 let q5:=(Option.getD q3 q4)
 let q6:=q5.1
 let q7:=q5.2
 let q8:=q7.2
 let q9:=q8.2
 let q10:=(M.j0 q6 q1 q7.1 q8.1 q9.1 q9.2)
 let q11:=(Option.getD q10 default)
 let q12:=q11.1
 let q13:=(M.oj q12)
 let dB:=(Option.getD q13 default)
 bif((dB !=(0:Int))&&((Option.isSome q13)&&((Option.isSome q10)&&((Option.isSome q3)&&((Option.isSome q2)&&((Option.isSome q0)&&true))))))then
 let di:=q11.2
 let q16:=di.2
 some (q6,(Go.IntKind.wrap Go.IntKind.i64 (Int.tdiv ((List.length q1):Int) dB)),q12,di.1,q16.1,q16.2)
 else
 none
 else
 let q0:=(M.ie (M.aa.re (List.getD (M.aa.Kids t) (Int.toNat (0:Int)) M.aa.zero)))
 let q1:=(M.fE (M.aa.re (List.getD (M.aa.Kids t) (Int.toNat (0:Int)) M.aa.zero)))
 let q2:=(M.jZ (Go.IntKind.wrap Go.IntKind.i64 (((List.length (M.ae.Kids v)):Int)*(Option.getD q0 default))) (Option.getD q1 default) x x2 o2 o3)
 let q3:=default
 let q4:=(Option.getD q2 q3)
 let q5:=q4.2
 let q6:=q5.2
 let q7:=q6.2
 match(M.iS cA q4.1 (M.ae.Kids v) ((List.length (M.ae.Kids v)):Int) Go.V.ah (0:Int) q5.1 q6.1 (M.ae.re v) (M.aa.re (List.getD (M.aa.Kids t) (Int.toNat (0:Int)) M.aa.zero)) q7.1 q7.2)with
 |none=>none
 |some y8=>
 bif((Option.isSome q2)&&((Option.isSome q1)&&((Option.isSome q0)&&((Go.V.inB (0:Int) (List.length (M.aa.Kids t)))&&true))))then
 let q9:=y8.2
 let q10:=q9.2
 let q11:=q10.2
 let q12:=q11.2
 some (y8.1,((List.length (M.ae.Kids q11.1)):Int),q9.1,q10.1,q12.1,q12.2)
 else
 none
def mP(cA:M.aa->M.ae->Int->Int->Int->(List UInt8)->(List M.af)->Option (Int×Int×(List UInt8)×(List M.af)))(at_:Int)(offsets:(List Int))(t59:(List M.aa))(t60:Int):Nat->Int->Int->Int->M.ae->(List UInt8)->(List M.af)->Option (Int×Int×(List UInt8)×(List M.af))
 |0,_,_,_,_,_,_=>none
 |fuel+1,t61,x,x2,v,o5,o6=>
 bif(decide (t61<t60))then
 bif((Option.isSome (cA (M.aa.re (List.getD t59 (Int.toNat t61) M.aa.zero)) (M.ae.re (List.getD (M.ae.Kids v) (Int.toNat t61) M.ae.zero)) (Go.IntKind.wrap Go.IntKind.i64 (at_+(List.getD offsets (Int.toNat t61) (0:Int)))) x x2 o5 o6))&&((Go.V.inB t61 (List.length offsets))&&((Go.V.inB t61 (List.length (M.ae.Kids v)))&&((Go.V.inB t61 (List.length t59))&&true))))then
 let q0:=(Option.getD (cA (M.aa.re (List.getD t59 (Int.toNat t61) M.aa.zero)) (M.ae.re (List.getD (M.ae.Kids v) (Int.toNat t61) M.ae.zero)) (Go.IntKind.wrap Go.IntKind.i64 (at_+(List.getD offsets (Int.toNat t61) (0:Int)))) x x2 o5 o6) default)
 let q1:=q0.2
 let q2:=q1.2
 M.mP cA at_ offsets t59 t60 fuel (Go.IntKind.wrap Go.IntKind.i64 (t61+(1:Int))) q0.1 q1.1 (M.ae.re v) q2.1 q2.2
 else
 none
 else
 some ((x,x2,o5,o6))
def lp(cA:M.aa->M.ae->Int->Int->Int->(List UInt8)->(List M.af)->Option (Int×Int×(List UInt8)×(List M.af)))(t:M.aa)(v:M.ae)(at_:Int)(x:Int)(x2:Int)(o2:(List UInt8))(o3:(List M.af)):Option (Int×Int×(List UInt8)×(List M.af)):=
 bif(x2 !=(0:Int))then
 some (x,x2,o2,o3)
 else
 bif(bif((M.aa.Kind t)==(11:Int))then((M.aa.Kind t)==(11:Int))else((M.aa.Kind t)==(12:Int)))then
 let q0:=(M.rW cA (M.aa.re t) (M.ae.re v) x x2 o2 o3)
 let q1:=(Option.getD q0 default)
 let q2:=(M.jn q1.1 (4:Int))
 let q3:=(Option.getD q2 default)
 let q4:=q1.2
 let q5:=(M.jn q4.1 (4:Int))
 let q6:=(Option.getD q5 default)
 let q7:=q4.2
 let q8:=q7.2
 let q9:=q8.2
 let q10:=(M.j0 at_ (q3++q6) q7.1 q8.1 q9.1 q9.2)
 bif((Option.isSome q10)&&((Go.V.eE q3 q6)&&((Option.isSome q5)&&((Option.isSome q2)&&((Option.isSome q0)&&true)))))then
 let q11:=default
 let q12:=(Option.getD q10 q11)
 let q13:=q12.2
 let dB:=q13.2
 some (q12.1,q13.1,dB.1,dB.2)
 else
 none
 else
 bif(bif((M.aa.Kind t)==(15:Int))then((M.aa.Kind t)==(15:Int))else((M.aa.Kind t)==(16:Int)))then
 let q0:=(M.od M.ie (M.aa.Kids t))
 match(M.mP cA at_ (Option.getD q0 default).1 (M.aa.Kids t) ((List.length (M.aa.Kids t)):Int) Go.V.ah (0:Int) x x2 (M.ae.re v) o2 o3)with
 |none=>none
 |some y1=>
 bif((Option.isSome q0)&&true)then
 some (y1.1,y1.2.1,y1.2.2.1,y1.2.2.2)
 else
 none
 else
 bif(bif((M.aa.Kind t)==(13:Int))then((M.aa.Kind t)==(13:Int))else(bif((M.aa.Kind t)==(14:Int))then((M.aa.Kind t)==(14:Int))else((M.aa.Kind t)==(17:Int))))then
 bif(decide ((0:Int)<((List.length (M.ae.Kids v)):Int)))then
 let q0:=(M.lh (M.aa.re t) (M.ae.Num v))
 let q1:=(M.qb (M.aa.re t))
 let q2:=(M.jn (M.ae.Num v) (1:Int))
 let q3:=(M.j0 at_ (Option.getD q2 default) x x2 o2 o3)
 let q4:=default
 let q5:=(Option.getD q3 q4)
 let q6:=q5.1
 let q7:=q5.2
 let q8:=q7.1
 let q9:=q7.2
 let q10:=q9.1
 let q11:=q9.2
 let q12:=((Option.isSome q3)&&((Option.isSome q2)&&true))
 bif((Option.isSome (cA (M.aa.re (Option.getD q0 default).1) (M.ae.re (List.getD (M.ae.Kids v) (Int.toNat (0:Int)) M.ae.zero)) (Go.IntKind.wrap Go.IntKind.i64 (at_+(Option.getD q1 default))) q6 q8 q10 q11))&&((Option.isSome q1)&&((Go.V.inB (0:Int) (List.length (M.ae.Kids v)))&&((Option.isSome q0)&&q12))))then
 let q13:=(Option.getD (cA (M.aa.re (Option.getD q0 default).1) (M.ae.re (List.getD (M.ae.Kids v) (Int.toNat (0:Int)) M.ae.zero)) (Go.IntKind.wrap Go.IntKind.i64 (at_+(Option.getD q1 default))) q6 q8 q10 q11) q4)
 let dB:=q13.2
 let di:=dB.2
 some (q13.1,dB.1,di.1,di.2)
 else
 none
 else
 let q0:=(M.jn (M.ae.Num v) (1:Int))
 let q1:=(M.j0 at_ (Option.getD q0 default) x x2 o2 o3)
 let q2:=((Option.isSome q1)&&((Option.isSome q0)&&true))
 bif q2 then
 let q3:=default
 let q4:=(Option.getD q1 q3)
 let q5:=q4.1
 let q6:=q4.2
 let q7:=q6.1
 let q8:=q6.2
 let q9:=q8.1
 let q10:=q8.2
 some (q5,q7,q9,q10)
 else
 none
 else
 let q0:=(M.ie (M.aa.re t))
 let q1:=(M.jn (M.ae.Num v) (Option.getD q0 default))
 let q2:=(M.j0 at_ (Option.getD q1 default) x x2 o2 o3)
 bif((Option.isSome q2)&&((Option.isSome q1)&&((Option.isSome q0)&&true)))then
 let q3:=default
 let q4:=(Option.getD q2 q3)
 let q5:=q4.2
 let q6:=q5.2
 some (q4.1,q5.1,q6.1,q6.2)
 else
 none
def iT:Nat->M.aa->M.ae->Int->Int->Int->(List UInt8)->(List M.af)->Option (Int×Int×(List UInt8)×(List M.af))
 |0=>fun _ _ _ _ _ _ _=>none
 |n+1=>lp (iT n)
def oo:M.aa->M.ae->Int->Int->Int->(List UInt8)->(List M.af)->Option (Int×Int×(List UInt8)×(List M.af)):=iT Go.V.ah
def xw(s:M.ig):Option ((List UInt8)×(List M.af)):=
 let q0:=(M.mN (M.ig.free s))
 bif((Option.isSome q0)&&true)then
 some ((List.map (fun a=>a) (M.ig.bytes s)),(Option.getD q0 default))
 else
 none
def uJ(ts:(List M.aa)):Nat->Int->Option ((Bool)⊕((List M.aa)))
 |0,_=>none
 |fuel+1,i=>
 bif((decide (i<((List.length ts):Int)))&&(decide (i<=(24:Int))))then
 let q0:=(M.wN (M.aa.re (List.getD ts (Int.toNat i) M.aa.zero)))
 bif(!(Option.getD q0 default))then
 let q1:=((Option.isSome q0)&&((Go.V.inB i (List.length ts))&&true))
 bif q1 then
 some (.inl false)
 else
 none
 else
 let q1:=((Option.isSome q0)&&((Go.V.inB i (List.length ts))&&true))
 bif q1 then
 M.uJ ts fuel (Go.IntKind.wrap Go.IntKind.i64 (i+(1:Int)))
 else
 none
 else
 some ((.inr (ts)))
def rX(ts:(List M.aa)):Option (Bool):=
 match(M.uJ ts Go.V.ah (0:Int))with
 |none=>none
 |some y0=>
 (match y0 with
 |.inl a1=>
 some a1
 |.inr b1=>
 some (decide (((List.length b1):Int)<=(24:Int))))
def rY(ts:(List M.aa)):Option (Bool):=
 let q0:=(M.rX ts)
 bif(((Option.isSome q0)||(!((decide (((List.length ts):Int)<=(6:Int)))==true)))&&true)then
 some ((decide (((List.length ts):Int)<=(6:Int)))&&(Option.getD q0 default))
 else
 none
def oq(kids:(List M.ae))(ts:(List M.aa)):Nat->Int->Option ((Bool)⊕(Unit))
 |0,_=>none
 |fuel+1,i=>
 bif(decide (i<((List.length kids):Int)))then
 let q0:=(M.Dh (M.ae.re (List.getD kids (Int.toNat i) M.ae.zero)) (M.aa.re (List.getD ts (Int.toNat i) M.aa.zero)))
 bif(!(Option.getD q0 default))then
 let q1:=((Option.isSome q0)&&((Go.V.inB i (List.length ts))&&((Go.V.inB i (List.length kids))&&true)))
 bif q1 then
 some (.inl false)
 else
 none
 else
 let q1:=((Option.isSome q0)&&((Go.V.inB i (List.length ts))&&((Go.V.inB i (List.length kids))&&true)))
 bif q1 then
 M.oq kids ts fuel (Go.IntKind.wrap Go.IntKind.i64 (i+(1:Int)))
 else
 none
 else
 some ((.inr (())))
def rZ(kids:(List M.ae))(ts:(List M.aa)):Option (Bool):=
 bif(((List.length kids):Int) !=((List.length ts):Int))then
 some false
 else
 match(M.oq kids ts Go.V.ah (0:Int))with
 |none=>none
 |some y0=>
 (match y0 with
 |.inl a1=>
 some a1
 |.inr b1=>
 some true)
def ou(a:(List Int))(b:(List Int)):Nat->Int->(List Int)->Option ((List Int))
 |0,_,_=>none
 |fuel+1,i,out=>
 bif((decide (i<((List.length a):Int)))||(decide (i<((List.length b):Int))))then
 bif(decide (((List.length b):Int)<=i))then
 let q0:=(List.length out)
 let q1:=[(List.getD a (Int.toNat i) (0:Int))]
 bif((decide ((q0+(List.length q1))<=1073741824))&&((Go.V.inB i (List.length a))&&true))then
 M.ou a b fuel (Go.IntKind.wrap Go.IntKind.i64 (i+(1:Int))) (out++q1)
 else
 none
 else
 bif(decide (((List.length a):Int)<=i))then
 let q0:=(List.length out)
 let q1:=[(List.getD b (Int.toNat i) (0:Int))]
 bif((decide ((q0+(List.length q1))<=1073741824))&&((Go.V.inB i (List.length b))&&true))then
 M.ou a b fuel (Go.IntKind.wrap Go.IntKind.i64 (i+(1:Int))) (out++q1)
 else
 none
 else
 let q0:=(List.length out)
 let q1:=(M.gQ (List.getD a (Int.toNat i) (0:Int)) (List.getD b (Int.toNat i) (0:Int)))
 let q2:=[(Option.getD q1 default)]
 bif((decide ((q0+(List.length q2))<=1073741824))&&((Option.isSome q1)&&((Go.V.inB i (List.length b))&&((Go.V.inB i (List.length a))&&true))))then
 M.ou a b fuel (Go.IntKind.wrap Go.IntKind.i64 (i+(1:Int))) (out++q2)
 else
 none
 else
 some (out)
def xx(a:(List Int))(b:(List Int)):Option ((List Int)):=
 match(M.ou a b Go.V.ah (0:Int) [])with
 |none=>none
 |some y0=>
 some y0
def r5(fi:M.aa->Option ((List Int)))(cases:(List M.aa)):Nat->Int->(List Int)->Option ((List Int))
 |0,_,_=>none
 |fuel+1,i,out=>
 bif(decide (i<((List.length cases):Int)))then
 let q0:=(M.xx out (Option.getD (fi (M.aa.re (List.getD cases (Int.toNat i) M.aa.zero))) default))
 bif((Option.isSome q0)&&((Option.isSome (fi (M.aa.re (List.getD cases (Int.toNat i) M.aa.zero))))&&((Go.V.inB i (List.length cases))&&true)))then
 M.r5 fi cases fuel (Go.IntKind.wrap Go.IntKind.i64 (i+(1:Int))) (Option.getD q0 default)
 else
 none
 else
 some (out)
def Ar(cu:(List M.aa)->Option ((List Int)))(fi:M.aa->Option ((List Int)))(t:M.aa):Option ((List Int)):=
 bif((M.aa.Kind t)==(1:Int))then
 some []
 else
 bif((M.aa.Kind t)==(9:Int))then
 some [(2:Int)]
 else
 bif(bif((M.aa.Kind t)==(11:Int))then((M.aa.Kind t)==(11:Int))else((M.aa.Kind t)==(12:Int)))then
 let q0:=[(1:Int)]
 some [(1:Int),(1:Int)]
 else
 bif(bif((M.aa.Kind t)==(15:Int))then((M.aa.Kind t)==(15:Int))else((M.aa.Kind t)==(16:Int)))then
 bif((Option.isSome (cu (M.aa.Kids t)))&&true)then
 some (Option.getD (cu (M.aa.Kids t)) default)
 else
 none
 else
 bif(bif((M.aa.Kind t)==(13:Int))then((M.aa.Kind t)==(13:Int))else(bif((M.aa.Kind t)==(14:Int))then((M.aa.Kind t)==(14:Int))else((M.aa.Kind t)==(17:Int))))then
 let q0:=(M.kA (M.aa.re t))
 match(M.r5 fi (Option.getD q0 default) Go.V.ah (0:Int) [])with
 |none=>none
 |some y1=>
 let q2:=[(1:Int)]
 bif((decide (((List.length q2)+(List.length y1))<=1073741824))&&((Option.isSome q0)&&true))then
 some (q2++y1)
 else
 none
 else
 let q0:=[(1:Int)]
 some q0
def r6(cu:(List M.aa)->Option ((List Int))):Nat->M.aa->Option ((List Int))
 |0=>fun _=>none
 |n+1=>Ar cu (r6 cu n)
def r7(cu:(List M.aa)->Option ((List Int))):M.aa->Option ((List Int)):=r6 cu Go.V.ah
def sc(cu:(List M.aa)->Option ((List Int)))(ts:(List M.aa)):Nat->Int->(List Int)->Option ((List Int))
 |0,_,_=>none
 |fuel+1,i,out=>
 bif(decide (i<((List.length ts):Int)))then
 let q0:=(M.r7 cu (M.aa.re (List.getD ts (Int.toNat i) M.aa.zero)))
 let q1:=(Option.getD q0 default)
 bif((decide (((List.length out)+(List.length q1))<=1073741824))&&((Option.isSome q0)&&((Go.V.inB i (List.length ts))&&true)))then
 M.sc cu ts fuel (Go.IntKind.wrap Go.IntKind.i64 (i+(1:Int))) (out++q1)
 else
 none
 else
 some (out)
def As(cu:(List M.aa)->Option ((List Int)))(ts:(List M.aa)):Option ((List Int)):=
 match(M.sc cu ts Go.V.ah (0:Int) [])with
 |none=>none
 |some y0=>
 some y0
def qf:Nat->(List M.aa)->Option ((List Int))
 |0=>fun _=>none
 |n+1=>As (qf n)
def ov:(List M.aa)->Option ((List Int)):=qf Go.V.ah
def sd(ts:(List M.aa)):Option (Bool):=
 let q0:=(M.ov ts)
 let q1:=(M.rX ts)
 bif(((Option.isSome q0)||(!((Option.getD q1 default)==true)))&&((Option.isSome q1)&&true))then
 some ((Option.getD q1 default)&&(decide ((8:Int)<((List.length (Option.getD q0 default)):Int))))
 else
 none
def xz(kids:(List M.ae))(size:Int)(many:Int)(at_:Int):Nat->Int->(List UInt8)->Int->Int->M.aa->(List M.af)->Option (Int×Int×(List UInt8)×Int×Int×(List M.af))
 |0,_,_,_,_,_,_=>none
 |fuel+1,i,o,o2,o3,t,o32=>
 bif((decide (i<many))&&(o3==(0:Int)))then
 let q0:=(M.ln (M.aa.re t) (M.ae.re (List.getD kids (Int.toNat i) M.ae.zero)) (Go.IntKind.wrap Go.IntKind.i64 (at_+(Go.IntKind.wrap Go.IntKind.i64 (i*size)))) o o2 o3 o32)
 bif((Option.isSome q0)&&((Go.V.inB i (List.length kids))&&true))then
 let q1:=(Option.getD q0 default)
 let q2:=q1.2
 let q3:=q2.2
 M.xz kids size many at_ fuel (Go.IntKind.wrap Go.IntKind.i64 (i+(1:Int))) q1.1 q2.1 q3.1 (M.aa.re t) q3.2
 else
 none
 else
 some ((many,at_,o,o2,o3,o32))
def Av(t:M.aa)(kids:(List M.ae))(o:(List UInt8))(o2:Int)(o3:Int)(o1:(List M.af)):Option (Int×Int×(List UInt8)×Int×Int×(List M.af)):=
 let q0:=(M.gR (M.aa.re t))
 let q1:=(M.jX (Go.IntKind.wrap Go.IntKind.i64 (((List.length kids):Int)*(Option.getD q0 default).1)) (Option.getD q0 default).2 o o2 o3 o1)
 let q2:=(Option.getD q1 default)
 let q3:=q2.2
 let q4:=q3.2
 let q5:=q4.2
 match(M.xz kids (Option.getD q0 default).1 ((List.length kids):Int) q2.1 Go.V.ah (0:Int) q3.1 q4.1 q5.1 (M.aa.re t) q5.2)with
 |none=>none
 |some y6=>
 bif((Option.isSome q1)&&((Option.isSome q0)&&true))then
 let q7:=y6.2.2
 let q8:=q7.2
 let q9:=q8.2
 some (y6.2.1,y6.1,q7.1,q8.1,q9.1,q9.2)
 else
 none
def xA(t:M.aa)(v:M.ae)(o:(List UInt8))(o2:Int)(o3:Int)(o1:(List M.af)):Option (Int×Int×(List UInt8)×Int×Int×(List M.af)):=
 bif((M.aa.Kind t)==(11:Int))then
 let q0:=(M.rN (M.ae.Text v) o o2 o3 o1)
 bif((Option.isSome q0)&&true)then
 let q1:=default
 let q2:=(Option.getD q0 q1)
 let q3:=q2.2
 let q4:=q3.2
 let q5:=q4.2
 let q6:=q5.2
 some (q2.1,q3.1,q4.1,q5.1,q6.1,q6.2)
 else
 none
 else
 let q0:=(M.Av (M.aa.re (List.getD (M.aa.Kids t) (Int.toNat (0:Int)) M.aa.zero)) (M.ae.Kids v) o o2 o3 o1)
 bif((Option.isSome q0)&&((Go.V.inB (0:Int) (List.length (M.aa.Kids t)))&&true))then
 let q1:=default
 let q2:=(Option.getD q0 q1)
 let q3:=q2.2
 let q4:=q3.2
 let q5:=q4.2
 let q6:=q5.2
 some (q2.1,q3.1,q4.1,q5.1,q6.1,q6.2)
 else
 none
def IZ(n:Int):Option (Int):=
 some (Go.V.dX Go.BinOp.and Go.IntKind.i64 n (4294967295:Int))
def se:Nat->M.aa->(List Int)->Option ((List Int))
 |0,_,_=>none
 |fuel+1,t,out=>
 let q0:=(M.r7 M.ov (M.aa.re t))
 bif(decide (((List.length out):Int)<((List.length (Option.getD q0 default)):Int)))then
 let q1:=[(0:Int)]
 bif((decide (((List.length out)+(List.length q1))<=1073741824))&&((Option.isSome q0)&&true))then
 M.se fuel (M.aa.re t) (out++q1)
 else
 none
 else
 bif((Option.isSome q0)&&true)then
 some (out)
 else
 none
def Aw(cy:(List M.aa)->(List M.ae)->(List UInt8)->Int->Int->(List M.af)->Option ((List Int)×(List UInt8)×Int×Int×(List M.af)))(iE:M.aa->M.ae->(List UInt8)->Int->Int->(List M.af)->Option ((List Int)×(List UInt8)×Int×Int×(List M.af)))(t:M.aa)(v:M.ae)(o:(List UInt8))(o2:Int)(o3:Int)(o1:(List M.af)):Option ((List Int)×(List UInt8)×Int×Int×(List M.af)):=
 bif((M.aa.Kind t)==(1:Int))then
 some ([],o,o2,o3,o1)
 else
 bif((M.aa.Kind t)==(9:Int))then
 let q0:=[(M.ae.Num v)]
 some (q0,o,o2,o3,o1)
 else
 bif(bif((M.aa.Kind t)==(11:Int))then((M.aa.Kind t)==(11:Int))else((M.aa.Kind t)==(12:Int)))then
 let q0:=(M.xA (M.aa.re t) (M.ae.re v) o o2 o3 o1)
 bif((Option.isSome q0)&&true)then
 let q1:=(Option.getD q0 default)
 let q2:=q1.2
 let q3:=q2.2
 let q4:=q3.2
 let q5:=q4.2
 some ([q1.1,q2.1],q3.1,q4.1,q5.1,q5.2)
 else
 none
 else
 bif(bif((M.aa.Kind t)==(15:Int))then((M.aa.Kind t)==(15:Int))else((M.aa.Kind t)==(16:Int)))then
 bif((Option.isSome (cy (M.aa.Kids t) (M.ae.Kids v) o o2 o3 o1))&&true)then
 let q0:=default
 let q1:=(Option.getD (cy (M.aa.Kids t) (M.ae.Kids v) o o2 o3 o1) q0)
 let q2:=q1.2
 let q3:=q2.2
 let q4:=q3.2
 some (q1.1,q2.1,q3.1,q4.1,q4.2)
 else
 none
 else
 bif(bif((M.aa.Kind t)==(13:Int))then((M.aa.Kind t)==(13:Int))else(bif((M.aa.Kind t)==(14:Int))then((M.aa.Kind t)==(14:Int))else((M.aa.Kind t)==(17:Int))))then
 bif(decide ((0:Int)<((List.length (M.ae.Kids v)):Int)))then
 let q0:=[(M.ae.Num v)]
 let q1:=(M.kA (M.aa.re t))
 let q2:=default
 let q3:=(Option.getD (iE (M.aa.re (List.getD (Option.getD q1 default) (Int.toNat (M.ae.Num v)) M.aa.zero)) (M.ae.re (List.getD (M.ae.Kids v) (Int.toNat (0:Int)) M.ae.zero)) o o2 o3 o1) q2)
 let q4:=q3.1
 match(M.se Go.V.ah (M.aa.re t) (q0++q4))with
 |none=>none
 |some y5=>
 bif((decide (((List.length q0)+(List.length q4))<=1073741824))&&((Option.isSome (iE (M.aa.re (List.getD (Option.getD q1 default) (Int.toNat (M.ae.Num v)) M.aa.zero)) (M.ae.re (List.getD (M.ae.Kids v) (Int.toNat (0:Int)) M.ae.zero)) o o2 o3 o1))&&((Go.V.inB (0:Int) (List.length (M.ae.Kids v)))&&((Go.V.inB (M.ae.Num v) (List.length (Option.getD q1 default)))&&((Option.isSome q1)&&true)))))then
 let q6:=q3.2
 let q7:=q6.2
 let q8:=q7.2
 some (y5,q6.1,q7.1,q8.1,q8.2)
 else
 none
 else
 let q0:=[(M.ae.Num v)]
 match(M.se Go.V.ah (M.aa.re t) q0)with
 |none=>none
 |some y1=>
 some (y1,o,o2,o3,o1)
 else
 some ([(Go.V.dX Go.BinOp.and Go.IntKind.i64 (M.ae.Num v) (4294967295:Int))],o,o2,o3,o1)
def uK(cy:(List M.aa)->(List M.ae)->(List UInt8)->Int->Int->(List M.af)->Option ((List Int)×(List UInt8)×Int×Int×(List M.af))):Nat->M.aa->M.ae->(List UInt8)->Int->Int->(List M.af)->Option ((List Int)×(List UInt8)×Int×Int×(List M.af))
 |0=>fun _ _ _ _ _ _=>none
 |n+1=>Aw cy (uK cy n)
def Ek(cy:(List M.aa)->(List M.ae)->(List UInt8)->Int->Int->(List M.af)->Option ((List Int)×(List UInt8)×Int×Int×(List M.af))):M.aa->M.ae->(List UInt8)->Int->Int->(List M.af)->Option ((List Int)×(List UInt8)×Int×Int×(List M.af)):=uK cy Go.V.ah
def qh(cy:(List M.aa)->(List M.ae)->(List UInt8)->Int->Int->(List M.af)->Option ((List Int)×(List UInt8)×Int×Int×(List M.af)))(ts:(List M.aa))(vs:(List M.ae)):Nat->Int->(List UInt8)->Int->Int->(List Int)->(List M.af)->Option ((List UInt8)×Int×Int×(List Int)×(List M.af))
 |0,_,_,_,_,_,_=>none
 |fuel+1,i,o,o2,o3,out,o4=>
 bif((decide (i<((List.length ts):Int)))&&(o3==(0:Int)))then
 let q0:=(M.Ek cy (M.aa.re (List.getD ts (Int.toNat i) M.aa.zero)) (M.ae.re (List.getD vs (Int.toNat i) M.ae.zero)) o o2 o3 o4)
 let q1:=(Option.getD q0 default)
 let q2:=q1.1
 bif((decide (((List.length out)+(List.length q2))<=1073741824))&&((Option.isSome q0)&&((Go.V.inB i (List.length vs))&&((Go.V.inB i (List.length ts))&&true))))then
 let q3:=q1.2
 let q4:=q3.2
 let q5:=q4.2
 M.qh cy ts vs fuel (Go.IntKind.wrap Go.IntKind.i64 (i+(1:Int))) q3.1 q4.1 q5.1 (out++q2) q5.2
 else
 none
 else
 some ((o,o2,o3,out,o4))
def Ax(cy:(List M.aa)->(List M.ae)->(List UInt8)->Int->Int->(List M.af)->Option ((List Int)×(List UInt8)×Int×Int×(List M.af)))(ts:(List M.aa))(vs:(List M.ae))(o:(List UInt8))(o2:Int)(o3:Int)(o1:(List M.af)):Option ((List Int)×(List UInt8)×Int×Int×(List M.af)):=
 match(M.qh cy ts vs Go.V.ah (0:Int) o o2 o3 [] o1)with
 |none=>none
 |some y0=>
 let q1:=y0.2.2
 let q2:=q1.2
 some (q2.1,y0.1,y0.2.1,q1.1,q2.2)
def ow:Nat->(List M.aa)->(List M.ae)->(List UInt8)->Int->Int->(List M.af)->Option ((List Int)×(List UInt8)×Int×Int×(List M.af))
 |0=>fun _ _ _ _ _ _=>none
 |n+1=>Ax (ow n)
def sf:(List M.aa)->(List M.ae)->(List UInt8)->Int->Int->(List M.af)->Option ((List Int)×(List UInt8)×Int×Int×(List M.af)):=ow Go.V.ah
def ox(list:(List M.aa))(t12:(List M.ae))(t13:Int):Nat->Int->Option ((Bool)⊕(Unit))
 |0,_=>none
 |fuel+1,t14=>
 bif(decide (t14<t13))then
 let q0:=(M.zT (M.ae.re (List.getD t12 (Int.toNat t14) M.ae.zero)) (M.aa.re (List.getD list (Int.toNat t14) M.aa.zero)))
 bif(!(Option.getD q0 default))then
 let q1:=((Option.isSome q0)&&((Go.V.inB t14 (List.length list))&&((Go.V.inB t14 (List.length t12))&&true)))
 bif q1 then
 some (.inl false)
 else
 none
 else
 let q1:=((Option.isSome q0)&&((Go.V.inB t14 (List.length list))&&((Go.V.inB t14 (List.length t12))&&true)))
 bif q1 then
 M.ox list t12 t13 fuel (Go.IntKind.wrap Go.IntKind.i64 (t14+(1:Int)))
 else
 none
 else
 some ((.inr (())))
def xC(values:(List M.ae))(list:(List M.aa)):Option (Bool):=
 bif(((List.length values):Int) !=((List.length list):Int))then
 some false
 else
 match(M.ox list values ((List.length values):Int) Go.V.ah (0:Int))with
 |none=>none
 |some y0=>
 (match y0 with
 |.inl a1=>
 some a1
 |.inr b1=>
 some true)
def sg(a:(List Int))(b:(List Int))(t13:Int):Nat->Int->(List Int)->Option ((List Int))
 |0,_,_=>none
 |fuel+1,t14,out=>
 bif(decide (t14<t13))then
 let q0:=((decide (t14<((List.length a):Int)))&&((List.getD a (Int.toNat t14) (0:Int))==(2:Int)))
 let q1:=(q0||((decide (t14<((List.length b):Int)))&&((List.getD b (Int.toNat t14) (0:Int))==(2:Int))))
 let q2:=[(bif q1 then(2:Int)else(1:Int))]
 let q3:=(((Go.V.inB t14 (List.length b))||(!((q0==false)&&((decide (t14<((List.length b):Int)))==true))))&&(((Go.V.inB t14 (List.length a))||(!((decide (t14<((List.length a):Int)))==true)))&&true))
 bif((decide (((List.length out)+(List.length q2))<=1073741824))&&((q3||(!q1))&&(q3||q1)))then
 M.sg a b t13 fuel (Go.IntKind.wrap Go.IntKind.i64 (t14+(1:Int))) (out++q2)
 else
 none
 else
 some (out)
def xE(a:(List Int))(b:(List Int)):Option ((List Int)):=
 match(M.sg a b (bif(decide (((List.length a):Int)<((List.length b):Int)))then((List.length b):Int)else((List.length a):Int)) Go.V.ah (0:Int) [])with
 |none=>none
 |some y0=>
 some y0
def si(fj:M.aa->Option ((List Int)))(t30:(List M.aa))(t31:Int):Nat->Int->(List Int)->Option ((List Int))
 |0,_,_=>none
 |fuel+1,t32,join=>
 bif(decide (t32<t31))then
 let q0:=(M.xE join (Option.getD (fj (M.aa.re (List.getD t30 (Int.toNat t32) M.aa.zero))) default))
 bif((Option.isSome q0)&&((Option.isSome (fj (M.aa.re (List.getD t30 (Int.toNat t32) M.aa.zero))))&&((Go.V.inB t32 (List.length t30))&&true)))then
 M.si fj t30 t31 fuel (Go.IntKind.wrap Go.IntKind.i64 (t32+(1:Int))) (Option.getD q0 default)
 else
 none
 else
 some (join)
def Az(cz:(List M.aa)->Option ((List Int)))(fj:M.aa->Option ((List Int)))(t:M.aa):Option ((List Int)):=
 bif((M.aa.Kind t)==(1:Int))then
 some []
 else
 bif((M.aa.Kind t)==(9:Int))then
 some [(2:Int)]
 else
 bif(bif((M.aa.Kind t)==(11:Int))then((M.aa.Kind t)==(11:Int))else((M.aa.Kind t)==(12:Int)))then
 let q0:=[(1:Int)]
 some [(1:Int),(1:Int)]
 else
 bif(bif((M.aa.Kind t)==(15:Int))then((M.aa.Kind t)==(15:Int))else((M.aa.Kind t)==(16:Int)))then
 bif((Option.isSome (cz (M.aa.Kids t)))&&true)then
 some (Option.getD (cz (M.aa.Kids t)) default)
 else
 none
 else
 bif(bif((M.aa.Kind t)==(13:Int))then((M.aa.Kind t)==(13:Int))else(bif((M.aa.Kind t)==(14:Int))then((M.aa.Kind t)==(14:Int))else((M.aa.Kind t)==(17:Int))))then
 let q0:=(M.l7 (M.aa.re t))
 match(M.si fj (Option.getD q0 default) ((List.length (Option.getD q0 default)):Int) Go.V.ah (0:Int) [])with
 |none=>none
 |some y1=>
 let q2:=[(1:Int)]
 bif((decide (((List.length q2)+(List.length y1))<=1073741824))&&((Option.isSome q0)&&true))then
 some (q2++y1)
 else
 none
 else
 let q0:=[(1:Int)]
 some q0
def sj(cz:(List M.aa)->Option ((List Int))):Nat->M.aa->Option ((List Int))
 |0=>fun _=>none
 |n+1=>Az cz (sj cz n)
def sk(cz:(List M.aa)->Option ((List Int))):M.aa->Option ((List Int)):=sj cz Go.V.ah
def sn(cz:(List M.aa)->Option ((List Int)))(t7:(List M.aa))(t8:Int):Nat->Int->(List Int)->Option ((List Int))
 |0,_,_=>none
 |fuel+1,t9,kinds=>
 bif(decide (t9<t8))then
 let q0:=(M.sk cz (M.aa.re (List.getD t7 (Int.toNat t9) M.aa.zero)))
 let q1:=(Option.getD q0 default)
 bif((decide (((List.length kinds)+(List.length q1))<=1073741824))&&((Option.isSome q0)&&((Go.V.inB t9 (List.length t7))&&true)))then
 M.sn cz t7 t8 fuel (Go.IntKind.wrap Go.IntKind.i64 (t9+(1:Int))) (kinds++q1)
 else
 none
 else
 some (kinds)
def AA(cz:(List M.aa)->Option ((List Int)))(list:(List M.aa)):Option ((List Int)):=
 match(M.sn cz list ((List.length list):Int) Go.V.ah (0:Int) [])with
 |none=>none
 |some y0=>
 some y0
def qi:Nat->(List M.aa)->Option ((List Int))
 |0=>fun _=>none
 |n+1=>AA (qi n)
def oz:(List M.aa)->Option ((List Int)):=qi Go.V.ah
def AB(list:(List M.aa)):Option (Bool):=
 let q0:=(M.oz list)
 bif((Option.isSome q0)&&true)then
 some (decide ((8:Int)<((List.length (Option.getD q0 default)):Int)))
 else
 none
def xG(at_:Int)(t74:(List M.ae))(t75:Int):Nat->Int->Int->Int->M.ae->M.aa->(List UInt8)->(List M.af)->Option (Int×Int×Int×M.ae×(List UInt8)×(List M.af))
 |0,_,_,_,_,_,_,_=>none
 |fuel+1,t76,x,x2,v,kid,o6,o7=>
 bif(decide (t76<t75))then
 let q0:=(M.ie (M.aa.re kid))
 let q1:=(M.oo (M.aa.re kid) (M.ae.re (List.getD t74 (Int.toNat t76) M.ae.zero)) (Go.IntKind.wrap Go.IntKind.i64 (at_+(Go.IntKind.wrap Go.IntKind.i64 (t76*(Option.getD q0 default))))) x x2 o6 o7)
 bif((Option.isSome q1)&&((Option.isSome q0)&&((Go.V.inB t76 (List.length t74))&&true)))then
 let q2:=(Option.getD q1 default)
 let q3:=q2.2
 let q4:=q3.2
 M.xG at_ t74 t75 fuel (Go.IntKind.wrap Go.IntKind.i64 (t76+(1:Int))) q2.1 q3.1 (M.ae.re v) (M.aa.re kid) q4.1 q4.2
 else
 none
 else
 some ((at_,x,x2,(M.ae.re v),o6,o7))
def xH(t:M.aa)(v:M.ae)(x:Int)(x2:Int)(o2:(List UInt8))(o3:(List M.af)):Option (Int×Int×Int×Int×(List UInt8)×(List M.af)):=
 bif(x2 !=(0:Int))then
 some ((0:Int),(0:Int),x,x2,o2,o3)
 else
 bif((M.aa.Kind t)==(11:Int))then
 let q0:=(M.rU x (M.ae.Text v))
 let q1:=(Option.getD q0 default).1
 let q2:=(M.oj x)
 let q3:=(M.jZ ((List.length q1):Int) (Option.getD q2 default) x (Option.getD q0 default).2 o2 o3)
 let q4:=default
 let q5:=(Option.getD q3 q4)
 let q6:=q5.1
 let q7:=q5.2
 let q8:=q7.2
 let q9:=q8.2
 let q10:=(M.j0 q6 q1 q7.1 q8.1 q9.1 q9.2)
 let q11:=(Option.getD q10 default)
 let q12:=q11.1
 let q13:=(M.oj q12)
 let dB:=(Option.getD q13 default)
 bif((dB !=(0:Int))&&((Option.isSome q13)&&((Option.isSome q10)&&((Option.isSome q3)&&((Option.isSome q2)&&((Option.isSome q0)&&true))))))then
 let di:=q11.2
 let q16:=di.2
 some (q6,(Go.IntKind.wrap Go.IntKind.i64 (Int.tdiv ((List.length q1):Int) dB)),q12,di.1,q16.1,q16.2)
 else
 none
 else
 let q0:=(M.ie (M.aa.re (List.getD (M.aa.Kids t) (Int.toNat (0:Int)) M.aa.zero)))
 let q1:=(M.fE (M.aa.re (List.getD (M.aa.Kids t) (Int.toNat (0:Int)) M.aa.zero)))
 let q2:=(M.jZ (Go.IntKind.wrap Go.IntKind.i64 (((List.length (M.ae.Kids v)):Int)*(Option.getD q0 default))) (Option.getD q1 default) x x2 o2 o3)
 let q3:=default
 let q4:=(Option.getD q2 q3)
 let q5:=q4.2
 let q6:=q5.2
 let q7:=q6.2
 match(M.xG q4.1 (M.ae.Kids v) ((List.length (M.ae.Kids v)):Int) Go.V.ah (0:Int) q5.1 q6.1 (M.ae.re v) (M.aa.re (List.getD (M.aa.Kids t) (Int.toNat (0:Int)) M.aa.zero)) q7.1 q7.2)with
 |none=>none
 |some y8=>
 bif((Option.isSome q2)&&((Option.isSome q1)&&((Option.isSome q0)&&((Go.V.inB (0:Int) (List.length (M.aa.Kids t)))&&true))))then
 let q9:=y8.2
 let q10:=q9.2
 let q11:=q10.2
 let q12:=q11.2
 some (y8.1,((List.length (M.ae.Kids q11.1)):Int),q9.1,q10.1,q12.1,q12.2)
 else
 none
def I6(n:Int):Option (Int):=
 some (Go.V.dX Go.BinOp.and Go.IntKind.i64 n (4294967295:Int))
def AD(cG:(List M.aa)->(List M.ae)->Int->Int->(List UInt8)->(List M.af)->Option (Int×Int×(List Int)×(List UInt8)×(List M.af)))(lr:M.aa->M.ae->Int->Int->(List UInt8)->(List M.af)->Option (Int×Int×(List Int)×(List UInt8)×(List M.af)))(t:M.aa)(v:M.ae)(x:Int)(x2:Int)(o2:(List UInt8))(o3:(List M.af)):Option (Int×Int×(List Int)×(List UInt8)×(List M.af)):=
 bif(x2 !=(0:Int))then
 some (x,x2,[],o2,o3)
 else
 bif((M.aa.Kind t)==(1:Int))then
 some (x,x2,[],o2,o3)
 else
 bif(bif((M.aa.Kind t)==(11:Int))then((M.aa.Kind t)==(11:Int))else((M.aa.Kind t)==(12:Int)))then
 let q0:=(M.xH (M.aa.re t) (M.ae.re v) x x2 o2 o3)
 bif((Option.isSome q0)&&true)then
 let q1:=(Option.getD q0 default)
 let q2:=q1.2
 let q3:=q2.2
 let q4:=q3.2
 let q5:=q4.2
 some (q3.1,q4.1,[q1.1,q2.1],q5.1,q5.2)
 else
 none
 else
 bif(bif((M.aa.Kind t)==(15:Int))then((M.aa.Kind t)==(15:Int))else((M.aa.Kind t)==(16:Int)))then
 bif((Option.isSome (cG (M.aa.Kids t) (M.ae.Kids v) x x2 o2 o3))&&true)then
 let q0:=default
 let q1:=(Option.getD (cG (M.aa.Kids t) (M.ae.Kids v) x x2 o2 o3) q0)
 let q2:=q1.2
 let q3:=q2.2
 let q4:=q3.2
 some (q1.1,q2.1,q3.1,q4.1,q4.2)
 else
 none
 else
 bif(bif((M.aa.Kind t)==(13:Int))then((M.aa.Kind t)==(13:Int))else(bif((M.aa.Kind t)==(14:Int))then((M.aa.Kind t)==(14:Int))else((M.aa.Kind t)==(17:Int))))then
 bif(decide ((0:Int)<((List.length (M.ae.Kids v)):Int)))then
 let q0:=(M.sk M.oz (M.aa.re t))
 let q1:=[(M.ae.Num v)]
 let q2:=(M.lh (M.aa.re t) (M.ae.Num v))
 let q3:=default
 let q4:=(Option.getD (lr (M.aa.re (Option.getD q2 default).1) (M.ae.re (List.getD (M.ae.Kids v) (Int.toNat (0:Int)) M.ae.zero)) x x2 o2 o3) q3)
 let q5:=q4.2
 let q6:=q5.2
 let q7:=q6.1
 let q8:=(q1++q7)
 let q9:=(List.length q8)
 let q10:=(Go.IntKind.wrap Go.IntKind.i64 (((List.length (Option.getD q0 default)):Int)-(q9:Int)))
 let q11:=(bif(decide ((0:Int)<q10))then q10 else(0:Int))
 let q12:=(Int.toNat q11)
 let q13:=(List.length q1)
 bif(((decide ((0:Int)<=q11))&&(decide ((q9+q12)<=1073741824)))&&((Option.isSome q0)&&((decide ((q13+(List.length q7))<=1073741824))&&((Option.isSome (lr (M.aa.re (Option.getD q2 default).1) (M.ae.re (List.getD (M.ae.Kids v) (Int.toNat (0:Int)) M.ae.zero)) x x2 o2 o3))&&((Go.V.inB (0:Int) (List.length (M.ae.Kids v)))&&((Option.isSome q2)&&true))))))then
 let dB:=q6.2
 some (q4.1,q5.1,(q8++(List.replicate q12 (0:Int))),dB.1,dB.2)
 else
 none
 else
 let q0:=(M.sk M.oz (M.aa.re t))
 let q1:=[(M.ae.Num v)]
 let q2:=(List.length q1)
 let q3:=(Go.IntKind.wrap Go.IntKind.i64 (((List.length (Option.getD q0 default)):Int)-(q2:Int)))
 let q4:=(bif(decide ((0:Int)<q3))then q3 else(0:Int))
 let q5:=(Int.toNat q4)
 bif(((decide ((0:Int)<=q4))&&(decide ((q2+q5)<=1073741824)))&&((Option.isSome q0)&&true))then
 some (x,x2,(q1++(List.replicate q5 (0:Int))),o2,o3)
 else
 none
 else
 let q0:=(M.nM (M.aa.Kind t))
 bif((Option.getD q0 default).2.2&&((M.aa.Kind t) !=(9:Int)))then
 bif((Option.isSome q0)&&true)then
 some (x,x2,[(Go.V.dX Go.BinOp.and Go.IntKind.i64 (M.ae.Num v) (4294967295:Int))],o2,o3)
 else
 none
 else
 bif((Option.isSome q0)&&true)then
 let q1:=[(M.ae.Num v)]
 some (x,x2,q1,o2,o3)
 else
 none
def xI(cG:(List M.aa)->(List M.ae)->Int->Int->(List UInt8)->(List M.af)->Option (Int×Int×(List Int)×(List UInt8)×(List M.af))):Nat->M.aa->M.ae->Int->Int->(List UInt8)->(List M.af)->Option (Int×Int×(List Int)×(List UInt8)×(List M.af))
 |0=>fun _ _ _ _ _ _=>none
 |n+1=>AD cG (xI cG n)
def Eu(cG:(List M.aa)->(List M.ae)->Int->Int->(List UInt8)->(List M.af)->Option (Int×Int×(List Int)×(List UInt8)×(List M.af))):M.aa->M.ae->Int->Int->(List UInt8)->(List M.af)->Option (Int×Int×(List Int)×(List UInt8)×(List M.af)):=xI cG Go.V.ah
def sq(cG:(List M.aa)->(List M.ae)->Int->Int->(List UInt8)->(List M.af)->Option (Int×Int×(List Int)×(List UInt8)×(List M.af)))(values:(List M.ae))(t11:(List M.aa))(t12:Int):Nat->Int->Int->Int->(List Int)->(List UInt8)->(List M.af)->Option (Int×Int×(List Int)×(List UInt8)×(List M.af))
 |0,_,_,_,_,_,_=>none
 |fuel+1,t13,x,x2,flat,o6,o7=>
 bif(decide (t13<t12))then
 let q0:=(M.Eu cG (M.aa.re (List.getD t11 (Int.toNat t13) M.aa.zero)) (M.ae.re (List.getD values (Int.toNat t13) M.ae.zero)) x x2 o6 o7)
 let q1:=(Option.getD q0 default)
 let q2:=q1.2
 let q3:=q2.2
 let q4:=q3.1
 bif((decide (((List.length flat)+(List.length q4))<=1073741824))&&((Option.isSome q0)&&((Go.V.inB t13 (List.length values))&&((Go.V.inB t13 (List.length t11))&&true))))then
 let q5:=q3.2
 M.sq cG values t11 t12 fuel (Go.IntKind.wrap Go.IntKind.i64 (t13+(1:Int))) q1.1 q2.1 (flat++q4) q5.1 q5.2
 else
 none
 else
 some ((x,x2,flat,o6,o7))
def AE(cG:(List M.aa)->(List M.ae)->Int->Int->(List UInt8)->(List M.af)->Option (Int×Int×(List Int)×(List UInt8)×(List M.af)))(list:(List M.aa))(values:(List M.ae))(x:Int)(x2:Int)(o2:(List UInt8))(o3:(List M.af)):Option (Int×Int×(List Int)×(List UInt8)×(List M.af)):=
 match(M.sq cG values list ((List.length list):Int) Go.V.ah (0:Int) x x2 [] o2 o3)with
 |none=>none
 |some y0=>
 let q1:=y0.2.2
 let q2:=q1.2
 some (y0.1,y0.2.1,q1.1,q2.1,q2.2)
def oC:Nat->(List M.aa)->(List M.ae)->Int->Int->(List UInt8)->(List M.af)->Option (Int×Int×(List Int)×(List UInt8)×(List M.af))
 |0=>fun _ _ _ _ _ _=>none
 |n+1=>AE (oC n)
def Ey:(List M.aa)->(List M.ae)->Int->Int->(List UInt8)->(List M.af)->Option (Int×Int×(List Int)×(List UInt8)×(List M.af)):=oC Go.V.ah
def xJ(t10:(List M.aa))(t11:Int):Nat->Int->Int->(List Int)->Option (Int×(List Int))
 |0,_,_,_=>none
 |fuel+1,end_,t12,offsets=>
 bif(decide (t12<t11))then
 let q0:=(M.ie (M.aa.re (List.getD t10 (Int.toNat t12) M.aa.zero)))
 let q1:=(M.fE (M.aa.re (List.getD t10 (Int.toNat t12) M.aa.zero)))
 let q2:=(M.ib end_ (Option.getD q1 default))
 let q3:=(Option.getD q2 default)
 let q4:=[q3]
 bif((Option.isSome q0)&&((decide (((List.length offsets)+(List.length q4))<=1073741824))&&((Option.isSome q2)&&((Option.isSome q1)&&((Go.V.inB t12 (List.length t10))&&true)))))then
 M.xJ t10 t11 fuel (Go.IntKind.wrap Go.IntKind.i64 (q3+(Option.getD q0 default))) (Go.IntKind.wrap Go.IntKind.i64 (t12+(1:Int))) (offsets++q4)
 else
 none
 else
 some ((end_,offsets))
def xK(list:(List M.aa)):Option ((List Int)×Int):=
 match(M.xJ list ((List.length list):Int) Go.V.ah (0:Int) (0:Int) [])with
 |none=>none
 |some y0=>
 some (y0.2,y0.1)
def xM(t6:(List M.aa))(t7:Int):Nat->Int->Int->Option (Int)
 |0,_,_=>none
 |fuel+1,greatest,t8=>
 bif(decide (t8<t7))then
 let q0:=(M.fE (M.aa.re (List.getD t6 (Int.toNat t8) M.aa.zero)))
 bif((Option.isSome q0)&&((Go.V.inB t8 (List.length t6))&&true))then
 let q1:=(Option.getD q0 default)
 M.xM t6 t7 fuel (bif(decide (greatest<q1))then q1 else greatest) (Go.IntKind.wrap Go.IntKind.i64 (t8+(1:Int)))
 else
 none
 else
 some (greatest)
def sr(list:(List M.aa)):Option (Int):=
 match(M.xM list ((List.length list):Int) Go.V.ah (1:Int) (0:Int))with
 |none=>none
 |some y0=>
 some y0
def xN(list:(List M.aa)):Option (Int):=
 let q0:=(M.xK list)
 let q1:=(M.sr list)
 let q2:=(M.ib (Option.getD q0 default).2 (Option.getD q1 default))
 bif((Option.isSome q2)&&((Option.isSome q1)&&((Option.isSome q0)&&true)))then
 some (Option.getD q2 default)
 else
 none
def Jb(list:(List M.aa)):Option (M.aa):=
 some (M.aa.mk (15:Int) [] [] list)
def uL(enc:Int)(list:(List M.aa))(values:(List M.ae))(o1:(List UInt8))(o2:(List M.af)):Option (Int×(List Int)×(List UInt8)×(List M.af)):=
 let q0:=(M.AB list)
 bif(!(Option.getD q0 default))then
 let q1:=(M.Ey list values enc (0:Int) o1 o2)
 bif((Option.isSome q1)&&((Option.isSome q0)&&true))then
 let q2:=(Option.getD q1 default).2
 let q3:=q2.2
 let q4:=q3.2
 some (q2.1,q3.1,q4.1,q4.2)
 else
 none
 else
 let q1:=(M.xN list)
 let q2:=(M.sr list)
 let q3:=(M.jZ (Option.getD q1 default) (Option.getD q2 default) enc (0:Int) o1 o2)
 let q4:=(Option.getD q3 default)
 let q5:=q4.1
 let q6:=q4.2
 let q7:=q6.2
 let q8:=q7.2
 let q9:=(M.oo (M.aa.mk (15:Int) [] [] list) (M.ae.mk (0:Int) (0:Int) [] values) q5 q6.1 q7.1 q8.1 q8.2)
 bif((Option.isSome q9)&&((Option.isSome q3)&&((Option.isSome q2)&&((Option.isSome q1)&&((Option.isSome q0)&&true)))))then
 let q10:=(Option.getD q9 default).2
 let q11:=q10.2
 some (q10.1,[q5],q11.1,q11.2)
 else
 none
def uM(m:M.aB)(enc:Int)(ts:(List M.aa))(vs:(List M.ae)):Option ((List UInt8)×Int×(List M.af)×(List Int)):=
 let q0:=(M.xn m enc ts)
 let q1:=(M.xC vs ts)
 bif((!(Option.getD q0 default))||(!(Option.getD q1 default)))then
 let q2:=(((Option.isSome q1)||(!((!(Option.getD q0 default))==false)))&&((Option.isSome q0)&&true))
 bif q2 then
 some ([],(1:Int),[],[])
 else
 none
 else
 let q2:=(M.xo m)
 let q3:=(M.uL enc ts vs (Option.getD q2 default).1 (Option.getD q2 default).2)
 let q4:=(Option.getD q3 default)
 let q5:=q4.1
 bif(q5 !=(0:Int))then
 let q6:=(((Option.isSome q1)||(!((!(Option.getD q0 default))==false)))&&((Option.isSome q0)&&true))
 let q7:=((Option.isSome q3)&&((Option.isSome q2)&&q6))
 bif q7 then
 some ([],q5,[],[])
 else
 none
 else
 let q6:=q4.2
 let q7:=q6.2
 let q8:=(M.xw (M.ig.mk q7.1 q7.2))
 let q9:=(((Option.isSome q1)||(!((!(Option.getD q0 default))==false)))&&((Option.isSome q0)&&true))
 let q10:=((Option.isSome q3)&&((Option.isSome q2)&&q9))
 bif((Option.isSome q8)&&q10)then
 let q11:=(Option.getD q8 default)
 some (q11.1,(0:Int),q11.2,q6.1)
 else
 none
def su(flat:(List Int))(o:(List UInt8))(o2:Int)(o3:Int)(o1:(List M.af)):Option ((List UInt8)×Int×(List UInt8)×Int×Int×(List M.af)×(List Int)×(List M.af)):=
 bif(o3 !=(0:Int))then
 some ([],o3,o,o2,o3,[],[],o1)
 else
 none
def sw(flat:(List Int))(o:(List UInt8))(o2:Int)(o3:Int)(o1:(List M.af)):Option ((List UInt8)×(List Int)×Int×(List UInt8)×Int×Int×(List M.af)):=
 bif(o3 !=(0:Int))then
 none
 else
 some (o,flat,(0:Int),o,o2,o3,o1)
def xO(ts:(List M.aa)):Nat->Int->Int->Int->(List Int)->Option (Int×Int×(List Int))
 |0,_,_,_,_=>none
 |fuel+1,at_,align,i,out=>
 bif(decide (i<((List.length ts):Int)))then
 let q0:=(M.gR (M.aa.re (List.getD ts (Int.toNat i) M.aa.zero)))
 let q1:=(Option.getD q0 default)
 let q2:=q1.2
 let q3:=(M.gQ align q2)
 let q4:=(M.iQ at_ q2)
 let q5:=(Option.getD q4 default)
 let q6:=[q5]
 bif((Option.isSome q3)&&((decide (((List.length out)+(List.length q6))<=1073741824))&&((Option.isSome q4)&&((Option.isSome q0)&&((Go.V.inB i (List.length ts))&&true)))))then
 M.xO ts fuel (Go.IntKind.wrap Go.IntKind.i64 (q5+q1.1)) (Option.getD q3 default) (Go.IntKind.wrap Go.IntKind.i64 (i+(1:Int))) (out++q6)
 else
 none
 else
 some ((at_,align,out))
def oD(ts:(List M.aa)):Option ((List Int)×Int×Int):=
 match(M.xO ts Go.V.ah (0:Int) (1:Int) (0:Int) [])with
 |none=>none
 |some y0=>
 let q1:=(M.iQ y0.1 y0.2.1)
 bif((Option.isSome q1)&&true)then
 some (y0.2.2,(Option.getD q1 default),y0.2.1)
 else
 none
def xQ(ts:(List M.aa))(vs:(List M.ae))(at_:Int)(places:(List Int)):Nat->Int->(List UInt8)->Int->Int->(List M.af)->Option ((List UInt8)×Int×Int×(List M.af))
 |0,_,_,_,_,_=>none
 |fuel+1,i,o,o2,o3,yg=>
 bif((decide (i<((List.length ts):Int)))&&(o3==(0:Int)))then
 let q0:=(M.ln (M.aa.re (List.getD ts (Int.toNat i) M.aa.zero)) (M.ae.re (List.getD vs (Int.toNat i) M.ae.zero)) (Go.IntKind.wrap Go.IntKind.i64 (at_+(List.getD places (Int.toNat i) (0:Int)))) o o2 o3 yg)
 bif((Option.isSome q0)&&((Go.V.inB i (List.length places))&&((Go.V.inB i (List.length vs))&&((Go.V.inB i (List.length ts))&&true))))then
 let q1:=(Option.getD q0 default)
 let q2:=q1.2
 let q3:=q2.2
 M.xQ ts vs at_ places fuel (Go.IntKind.wrap Go.IntKind.i64 (i+(1:Int))) q1.1 q2.1 q3.1 q3.2
 else
 none
 else
 some ((o,o2,o3,yg))
def qj(ts:(List M.aa))(vs:(List M.ae))(at_:Int)(o:(List UInt8))(o2:Int)(o3:Int)(o1:(List M.af)):Option ((List UInt8)×Int×Int×(List M.af)):=
 let q0:=(M.oD ts)
 match(M.xQ ts vs at_ (Option.getD q0 default).1 Go.V.ah (0:Int) o o2 o3 o1)with
 |none=>none
 |some y1=>
 bif((Option.isSome q0)&&true)then
 some (y1.1,y1.2.1,y1.2.2.1,y1.2.2.2)
 else
 none
def uN(m:M.aB)(enc:Int)(ts:(List M.aa))(vs:(List M.ae)):Option (M.aB×(List Int)×Int):=
 let q0:=(M.rJ m enc)
 let q1:=(M.rY ts)
 let q2:=((!(Option.getD q0 default))||(!(Option.getD q1 default)))
 let q3:=(M.rZ vs ts)
 bif(q2||(!(Option.getD q3 default)))then
 let q4:=(((Option.isSome q3)||(!(q2==false)))&&(((Option.isSome q1)||(!((!(Option.getD q0 default))==false)))&&((Option.isSome q0)&&true)))
 bif q4 then
 some ((M.aB.mk [] []),[],(1:Int))
 else
 none
 else
 let q4:=(M.sd ts)
 bif(!(Option.getD q4 default))then
 Go.V.sy (let q5:=(M.jm m)
 let q6:=(Option.getD q5 default).1
 let q7:=(Option.getD q5 default).2
 let q8:=(M.sf ts vs q6 enc (0:Int) q7)
 let q9:=(Option.getD q8 default)
 let q10:=q9.1
 let q11:=q9.2
 let q12:=q11.1
 let q13:=q11.2
 let dB:=q13.1
 let di:=q13.2
 let q16:=di.1
 let dJ:=di.2
 let dC:=(M.sw q10 q12 dB q16 dJ)
 let j6:=(((Option.isSome q3)||(!(q2==false)))&&(((Option.isSome q1)||(!((!(Option.getD q0 default))==false)))&&((Option.isSome q0)&&true)))
 let kF:=((Option.isSome q4)&&((Option.isSome q5)&&j6))
 let eB:=((Option.isSome q8)&&kF)
 bif((Option.isSome dC)&&eB)then
 let q22:=default
 let q23:=(Option.getD dC q22)
 let q24:=q23.2
 let eF:=q24.2
 some ((M.aB.mk q23.1 eF.2.2.2.2),q24.1,eF.1)
 else
 none) (let q5:=(M.jm m)
 let q6:=(Option.getD q5 default).1
 let q7:=(Option.getD q5 default).2
 let q8:=(M.sf ts vs q6 enc (0:Int) q7)
 let q9:=(Option.getD q8 default)
 let q10:=q9.1
 let q11:=q9.2
 let q12:=q11.1
 let q13:=q11.2
 let dB:=q13.1
 let di:=q13.2
 let q16:=di.1
 let dJ:=di.2
 let dC:=(M.su q10 q12 dB q16 dJ)
 let j6:=(((Option.isSome q3)||(!(q2==false)))&&(((Option.isSome q1)||(!((!(Option.getD q0 default))==false)))&&((Option.isSome q0)&&true)))
 let kF:=((Option.isSome q4)&&((Option.isSome q5)&&j6))
 let eB:=((Option.isSome q8)&&kF)
 bif((Option.isSome dC)&&eB)then
 let q22:=default
 let q23:=(Option.getD dC q22)
 let q24:=q23.2
 let eF:=q24.2.2.2.2
 some ((M.aB.mk q23.1 eF.1),eF.2.1,q24.1)
 else
 none)
 else
 let q5:=(M.oD ts)
 let q6:=(Option.getD q5 default).2
 let q7:=(M.jm m)
 let q8:=(Option.getD q7 default).1
 let q9:=(Option.getD q7 default).2
 let q10:=(M.jX q6.1 q6.2 q8 enc (0:Int) q9)
 let q11:=(Option.getD q10 default)
 let q12:=q11.2
 let q13:=q12.2
 let dB:=q13.2
 let di:=dB.1
 bif(di==(0:Int))then
 Go.V.sy (let q16:=q11.1
 let dJ:=[q16]
 let dC:=q12.1
 let j6:=q13.1
 let kF:=dB.2
 let eB:=(M.qj ts vs q16 dC j6 di kF)
 let q22:=(Option.getD eB default)
 let q23:=q22.1
 let q24:=q22.2
 let eF:=q24.1
 let eQ:=q24.2
 let fk:=eQ.1
 let eR:=eQ.2
 let fJ:=(M.sw dJ q23 eF fk eR)
 let q30:=(((Option.isSome q3)||(!(q2==false)))&&(((Option.isSome q1)||(!((!(Option.getD q0 default))==false)))&&((Option.isSome q0)&&true)))
 let gj:=((Option.isSome q4)&&((Option.isSome q7)&&q30))
 let q32:=((Option.isSome q10)&&((Option.isSome q5)&&gj))
 let jD:=((Option.isSome eB)&&q32)
 bif((Option.isSome fJ)&&jD)then
 let iG:=default
 let q35:=(Option.getD fJ iG)
 let ik:=q35.2
 let q37:=ik.2
 some ((M.aB.mk q35.1 q37.2.2.2.2),ik.1,q37.1)
 else
 none) (let q16:=q11.1
 let dJ:=[q16]
 let dC:=q12.1
 let j6:=q13.1
 let kF:=dB.2
 let eB:=(M.qj ts vs q16 dC j6 di kF)
 let q22:=(Option.getD eB default)
 let q23:=q22.1
 let q24:=q22.2
 let eF:=q24.1
 let eQ:=q24.2
 let fk:=eQ.1
 let eR:=eQ.2
 let fJ:=(M.su dJ q23 eF fk eR)
 let q30:=(((Option.isSome q3)||(!(q2==false)))&&(((Option.isSome q1)||(!((!(Option.getD q0 default))==false)))&&((Option.isSome q0)&&true)))
 let gj:=((Option.isSome q4)&&((Option.isSome q7)&&q30))
 let q32:=((Option.isSome q10)&&((Option.isSome q5)&&gj))
 let jD:=((Option.isSome eB)&&q32)
 bif((Option.isSome fJ)&&jD)then
 let iG:=default
 let q35:=(Option.getD fJ iG)
 let ik:=q35.2
 let q37:=ik.2.2.2.2
 some ((M.aB.mk q35.1 q37.1),q37.2.1,ik.1)
 else
 none)
 else
 Go.V.sy (let q16:=q11.1
 let dJ:=[q16]
 let dC:=q12.1
 let j6:=q13.1
 let kF:=dB.2
 let eB:=(M.sw dJ dC j6 di kF)
 let q22:=(((Option.isSome q3)||(!(q2==false)))&&(((Option.isSome q1)||(!((!(Option.getD q0 default))==false)))&&((Option.isSome q0)&&true)))
 let q23:=((Option.isSome q4)&&((Option.isSome q7)&&q22))
 let q24:=((Option.isSome q10)&&((Option.isSome q5)&&q23))
 bif((Option.isSome eB)&&q24)then
 let eF:=default
 let eQ:=(Option.getD eB eF)
 let fk:=eQ.2
 let eR:=fk.2
 some ((M.aB.mk eQ.1 eR.2.2.2.2),fk.1,eR.1)
 else
 none) (let q16:=q11.1
 let dJ:=[q16]
 let dC:=q12.1
 let j6:=q13.1
 let kF:=dB.2
 let eB:=(M.su dJ dC j6 di kF)
 let q22:=(((Option.isSome q3)||(!(q2==false)))&&(((Option.isSome q1)||(!((!(Option.getD q0 default))==false)))&&((Option.isSome q0)&&true)))
 let q23:=((Option.isSome q4)&&((Option.isSome q7)&&q22))
 let q24:=((Option.isSome q10)&&((Option.isSome q5)&&q23))
 bif((Option.isSome eB)&&q24)then
 let eF:=default
 let eQ:=(Option.getD eB eF)
 let fk:=eQ.2
 let eR:=fk.2.2.2.2
 some ((M.aB.mk eQ.1 eR.1),eR.2.1,fk.1)
 else
 none)
def xR(a:(List M.af))(left:Int):Option (Int):=
 bif(decide ((Go.IntKind.wrap Go.IntKind.i64 (left-((List.length a):Int)))<(0:Int)))then
 some (-(1:Int))
 else
 some (Go.IntKind.wrap Go.IntKind.i64 (left-((List.length a):Int)))
def xU(a:M.aB)(left:Int):Option (Int):=
 bif(decide ((Go.IntKind.wrap Go.IntKind.i64 (left-((List.length (M.aB.Bytes a)):Int)))<(0:Int)))then
 some (-(1:Int))
 else
 let q0:=(M.xR (M.aB.Free a) (Go.IntKind.wrap Go.IntKind.i64 (left-((List.length (M.aB.Bytes a)):Int))))
 let q1:=(Option.getD q0 default)
 bif(decide (q1<(0:Int)))then
 let q2:=((Option.isSome q0)&&true)
 bif q2 then
 some (-(1:Int))
 else
 none
 else
 let q2:=((Option.isSome q0)&&true)
 bif q2 then
 some q1
 else
 none
def AH(a:M.af):Option (M.af):=
 some a
def sx(a:(List M.af)):Nat->Int->(List M.af)->Option ((List M.af))
 |0,_,_=>none
 |fuel+1,i,out=>
 bif(decide (i<((List.length a):Int)))then
 bif((Go.V.inB i (List.length out))&&((Go.V.inB i (List.length a))&&true))then
 M.sx a fuel (Go.IntKind.wrap Go.IntKind.i64 (i+(1:Int))) (List.set out (Int.toNat i) (List.getD a (Int.toNat i) M.af.zero))
 else
 none
 else
 some (out)
def xW(a:(List M.af)):Option ((List M.af)):=
 match(M.sx a Go.V.ah (0:Int) (List.replicate (Int.toNat ((List.length a):Int)) (M.af.mk (0:Int) (0:Int))))with
 |none=>none
 |some y0=>
 bif(((decide (((List.length a):Int)<=((List.length a):Int)))&&(decide (((List.length a):Int)<=(1073741824:Int))))&&true)then
 some y0
 else
 none
def xX(a:M.aB):Option ((List UInt8)×(List M.af)):=
 let q0:=(M.xW (M.aB.Free a))
 bif((Option.isSome q0)&&true)then
 some ((M.aB.Bytes a),(Option.getD q0 default))
 else
 none
def xY(a:(List M.aa)):Nat->Int->Int->Option ((Int)⊕(Int))
 |0,_,_=>none
 |fuel+1,left,i=>
 bif(decide (i<((List.length a):Int)))then
 let q0:=(M.tP (M.aa.re (List.getD a (Int.toNat i) M.aa.zero)) left)
 let q1:=(Option.getD q0 default)
 bif(decide (q1<(0:Int)))then
 let q2:=((Option.isSome q0)&&((Go.V.inB i (List.length a))&&true))
 bif q2 then
 some (.inl (-(1:Int)))
 else
 none
 else
 let q2:=((Option.isSome q0)&&((Go.V.inB i (List.length a))&&true))
 bif q2 then
 M.xY a fuel q1 (Go.IntKind.wrap Go.IntKind.i64 (i+(1:Int)))
 else
 none
 else
 some ((.inr (left)))
def xZ(a:(List M.aa))(left:Int):Option (Int):=
 bif(decide ((Go.IntKind.wrap Go.IntKind.i64 (left-((List.length a):Int)))<(0:Int)))then
 some (-(1:Int))
 else
 match(M.xY a Go.V.ah (Go.IntKind.wrap Go.IntKind.i64 (left-((List.length a):Int))) (0:Int))with
 |none=>none
 |some y0=>
 (match y0 with
 |.inl a1=>
 some a1
 |.inr b1=>
 some b1)
def x5(a:(List M.ae)):Nat->Int->Int->Option ((Int)⊕(Int))
 |0,_,_=>none
 |fuel+1,left,i=>
 bif(decide (i<((List.length a):Int)))then
 let q0:=(M.uy (M.ae.re (List.getD a (Int.toNat i) M.ae.zero)) left)
 let q1:=(Option.getD q0 default)
 bif(decide (q1<(0:Int)))then
 let q2:=((Option.isSome q0)&&((Go.V.inB i (List.length a))&&true))
 bif q2 then
 some (.inl (-(1:Int)))
 else
 none
 else
 let q2:=((Option.isSome q0)&&((Go.V.inB i (List.length a))&&true))
 bif q2 then
 M.x5 a fuel q1 (Go.IntKind.wrap Go.IntKind.i64 (i+(1:Int)))
 else
 none
 else
 some ((.inr (left)))
def x6(a:(List M.ae))(left:Int):Option (Int):=
 bif(decide ((Go.IntKind.wrap Go.IntKind.i64 (left-((List.length a):Int)))<(0:Int)))then
 some (-(1:Int))
 else
 match(M.x5 a Go.V.ah (Go.IntKind.wrap Go.IntKind.i64 (left-((List.length a):Int))) (0:Int))with
 |none=>none
 |some y0=>
 (match y0 with
 |.inl a1=>
 some a1
 |.inr b1=>
 some b1)
def x7(a:(List M.aa)):Nat->Int->(List M.aa)->Option ((List M.aa))
 |0,_,_=>none
 |fuel+1,i,out=>
 bif(decide (i<((List.length a):Int)))then
 let q0:=(M.tR (M.aa.re (List.getD a (Int.toNat i) M.aa.zero)))
 bif((Go.V.inB i (List.length out))&&((Option.isSome q0)&&((Go.V.inB i (List.length a))&&true)))then
 let q1:=(Option.getD q0 default)
 let q2:=q1.2
 let q3:=q2.2
 M.x7 a fuel (Go.IntKind.wrap Go.IntKind.i64 (i+(1:Int))) (List.set out (Int.toNat i) (M.aa.mk q1.1 q2.1 q3.1 q3.2))
 else
 none
 else
 some (out)
def uO(a:(List M.aa)):Option ((List M.aa)):=
 match(M.x7 a Go.V.ah (0:Int) (List.replicate (Int.toNat ((List.length a):Int)) (M.aa.mk (0:Int) [] [] [])))with
 |none=>none
 |some y0=>
 bif(((decide (((List.length a):Int)<=((List.length a):Int)))&&(decide (((List.length a):Int)<=(1073741824:Int))))&&true)then
 some y0
 else
 none
def x8(a:(List M.ae)):Nat->Int->(List M.ae)->Option ((List M.ae))
 |0,_,_=>none
 |fuel+1,i,out=>
 bif(decide (i<((List.length a):Int)))then
 let q0:=(M.uA (M.ae.re (List.getD a (Int.toNat i) M.ae.zero)))
 bif((Go.V.inB i (List.length out))&&((Option.isSome q0)&&((Go.V.inB i (List.length a))&&true)))then
 let q1:=(Option.getD q0 default)
 let q2:=q1.2
 let q3:=q2.2
 M.x8 a fuel (Go.IntKind.wrap Go.IntKind.i64 (i+(1:Int))) (List.set out (Int.toNat i) (M.ae.mk q1.1 q2.1 q3.1 q3.2))
 else
 none
 else
 some (out)
def uP(a:(List M.ae)):Option ((List M.ae)):=
 match(M.x8 a Go.V.ah (0:Int) (List.replicate (Int.toNat ((List.length a):Int)) (M.ae.mk (0:Int) (0:Int) [] [])))with
 |none=>none
 |some y0=>
 bif(((decide (((List.length a):Int)<=((List.length a):Int)))&&(decide (((List.length a):Int)<=(1073741824:Int))))&&true)then
 some y0
 else
 none
def x9(a:M.af)(b:M.af):Option (Bool):=
 bif((M.af.At a) !=(M.af.At b))then
 some false
 else
 bif((M.af.Size a) !=(M.af.Size b))then
 some false
 else
 some true
def uQ(a:(List M.af))(b:(List M.af)):Nat->Int->Option ((Bool)⊕(Unit))
 |0,_=>none
 |fuel+1,i=>
 bif(decide (i<((List.length a):Int)))then
 let q0:=(M.x9 (List.getD a (Int.toNat i) M.af.zero) (List.getD b (Int.toNat i) M.af.zero))
 bif(!(Option.getD q0 default))then
 let q1:=((Option.isSome q0)&&((Go.V.inB i (List.length b))&&((Go.V.inB i (List.length a))&&true)))
 bif q1 then
 some (.inl false)
 else
 none
 else
 let q1:=((Option.isSome q0)&&((Go.V.inB i (List.length b))&&((Go.V.inB i (List.length a))&&true)))
 bif q1 then
 M.uQ a b fuel (Go.IntKind.wrap Go.IntKind.i64 (i+(1:Int)))
 else
 none
 else
 some ((.inr (())))
def ya(a:(List M.af))(b:(List M.af)):Option (Bool):=
 bif(((List.length a):Int) !=((List.length b):Int))then
 some false
 else
 match(M.uQ a b Go.V.ah (0:Int))with
 |none=>none
 |some y0=>
 (match y0 with
 |.inl a1=>
 some a1
 |.inr b1=>
 some true)
def qk(a:M.aB)(b:M.aB):Option (Bool):=
 bif(!((M.aB.Bytes a)==(M.aB.Bytes b)))then
 some false
 else
 let q0:=(M.ya (M.aB.Free a) (M.aB.Free b))
 bif(!(Option.getD q0 default))then
 bif((Option.isSome q0)&&true)then
 some false
 else
 none
 else
 bif((Option.isSome q0)&&true)then
 some true
 else
 none
def yb(a:(List M.aa))(b:(List M.aa)):Nat->Int->Option ((Bool)⊕(Unit))
 |0,_=>none
 |fuel+1,i=>
 bif(decide (i<((List.length a):Int)))then
 let q0:=(M.tW (M.aa.re (List.getD a (Int.toNat i) M.aa.zero)) (M.aa.re (List.getD b (Int.toNat i) M.aa.zero)))
 bif(!(Option.getD q0 default))then
 let q1:=((Option.isSome q0)&&((Go.V.inB i (List.length b))&&((Go.V.inB i (List.length a))&&true)))
 bif q1 then
 some (.inl false)
 else
 none
 else
 let q1:=((Option.isSome q0)&&((Go.V.inB i (List.length b))&&((Go.V.inB i (List.length a))&&true)))
 bif q1 then
 M.yb a b fuel (Go.IntKind.wrap Go.IntKind.i64 (i+(1:Int)))
 else
 none
 else
 some ((.inr (())))
def uR(a:(List M.aa))(b:(List M.aa)):Option (Bool):=
 bif(((List.length a):Int) !=((List.length b):Int))then
 some false
 else
 match(M.yb a b Go.V.ah (0:Int))with
 |none=>none
 |some y0=>
 (match y0 with
 |.inl a1=>
 some a1
 |.inr b1=>
 some true)
def yc(a:(List M.ae))(b:(List M.ae)):Nat->Int->Option ((Bool)⊕(Unit))
 |0,_=>none
 |fuel+1,i=>
 bif(decide (i<((List.length a):Int)))then
 let q0:=(M.tI (M.ae.re (List.getD a (Int.toNat i) M.ae.zero)) (M.ae.re (List.getD b (Int.toNat i) M.ae.zero)))
 bif(!(Option.getD q0 default))then
 let q1:=((Option.isSome q0)&&((Go.V.inB i (List.length b))&&((Go.V.inB i (List.length a))&&true)))
 bif q1 then
 some (.inl false)
 else
 none
 else
 let q1:=((Option.isSome q0)&&((Go.V.inB i (List.length b))&&((Go.V.inB i (List.length a))&&true)))
 bif q1 then
 M.yc a b fuel (Go.IntKind.wrap Go.IntKind.i64 (i+(1:Int)))
 else
 none
 else
 some ((.inr (())))
def uS(a:(List M.ae))(b:(List M.ae)):Option (Bool):=
 bif(((List.length a):Int) !=((List.length b):Int))then
 some false
 else
 match(M.yc a b Go.V.ah (0:Int))with
 |none=>none
 |some y0=>
 (match y0 with
 |.inl a1=>
 some a1
 |.inr b1=>
 some true)
def uT:Nat->Int->Int->(List M.af)->Option (Int×(List M.af))
 |0,_,_,_=>none
 |fuel+1,k,i,a=>
 bif(decide (i<((List.length a):Int)))then
 let q0:=(List.set a (Int.toNat i) (M.af.mk k (M.af.Size (List.getD a (Int.toNat i) M.af.zero))))
 bif((Go.V.inB i (List.length q0))&&((Go.V.inB i (List.length a))&&true))then
 M.uT fuel (Go.IntKind.wrap Go.IntKind.i64 ((Go.IntKind.wrap Go.IntKind.i64 (k+(1:Int)))+(1:Int))) (Go.IntKind.wrap Go.IntKind.i64 (i+(1:Int))) (List.set q0 (Int.toNat i) (M.af.mk (M.af.At (List.getD q0 (Int.toNat i) M.af.zero)) (Go.IntKind.wrap Go.IntKind.i64 (k+(1:Int)))))
 else
 none
 else
 some ((k,a))
def yd(k:Int)(a:(List M.af)):Option (Int×(List M.af)):=
 match(M.uT Go.V.ah k (0:Int) a)with
 |none=>none
 |some y0=>
 some (y0.1,y0.2)
def uU(a:(List UInt8))(k:Int)(o0:(List M.af)):Option (Int×(List M.af)):=
 let q0:=(M.yd k o0)
 bif(((Option.isSome q0)&&true)&&true)then
 some ((Option.getD q0 default).1,(Option.getD q0 default).2)
 else
 none
def uV(a:(List M.af)):Nat->Int->Int->Option ((Int)⊕(Int))
 |0,_,_=>none
 |fuel+1,k,i=>
 bif(decide (i<((List.length a):Int)))then
 bif((M.af.At (List.getD a (Int.toNat i) M.af.zero)) !=k)then
 bif((Go.V.inB i (List.length a))&&true)then
 some (.inl (-(1:Int)))
 else
 none
 else
 bif((M.af.Size (List.getD a (Int.toNat i) M.af.zero)) !=(Go.IntKind.wrap Go.IntKind.i64 (k+(1:Int))))then
 let q0:=((Go.V.inB i (List.length a))&&((Go.V.inB i (List.length a))&&true))
 bif q0 then
 some (.inl (-(1:Int)))
 else
 none
 else
 let q0:=((Go.V.inB i (List.length a))&&((Go.V.inB i (List.length a))&&true))
 bif q0 then
 M.uV a fuel (Go.IntKind.wrap Go.IntKind.i64 ((Go.IntKind.wrap Go.IntKind.i64 (k+(1:Int)))+(1:Int))) (Go.IntKind.wrap Go.IntKind.i64 (i+(1:Int)))
 else
 none
 else
 some ((.inr (k)))
def uW(a:(List M.af))(k:Int):Option (Int):=
 match(M.uV a Go.V.ah k (0:Int))with
 |none=>none
 |some y0=>
 (match y0 with
 |.inl a1=>
 some a1
 |.inr b1=>
 some b1)
def ye(a:M.aB)(k:Int):Option (Int):=
 let q0:=(M.uW (M.aB.Free a) k)
 bif(decide ((Option.getD q0 default)<(0:Int)))then
 bif((Option.isSome q0)&&true)then
 some (-(1:Int))
 else
 none
 else
 bif((Option.isSome q0)&&true)then
 some (Option.getD q0 default)
 else
 none
def ql(aM:M.aB)(WO:Int)(WQ:(List M.aa))(WR:(List M.ae)):Option (Bool):=
 let q0:=(M.xU aM (1048576:Int))
 bif(decide ((Option.getD q0 default)<(0:Int)))then
 bif((Option.isSome q0)&&true)then
 some true
 else
 none
 else
 let q1:=(M.xZ WQ (Option.getD q0 default))
 let q2:=(Option.getD q1 default)
 bif(decide (q2<(0:Int)))then
 let q3:=((Option.isSome q1)&&((Option.isSome q0)&&true))
 bif q3 then
 some true
 else
 none
 else
 let q3:=(M.x6 WR q2)
 bif(decide ((Option.getD q3 default)<(0:Int)))then
 let q4:=((Option.isSome q1)&&((Option.isSome q0)&&true))
 let q5:=((Option.isSome q3)&&q4)
 bif q5 then
 some true
 else
 none
 else
 let q4:=(M.xX aM)
 let q5:=(Option.getD q4 default).1
 let q6:=(Option.getD q4 default).2
 let q7:=(M.uO WQ)
 let q8:=(M.uP WR)
 let q9:=(M.uM (M.aB.mk q5 q6) WO (Option.getD q7 default) (Option.getD q8 default))
 let q10:=(Option.getD q9 default)
 let q11:=q10.1
 let q12:=q10.2
 let q13:=q12.2
 let dB:=q13.1
 let di:=(M.uN (M.aB.mk q5 q6) WO (Option.getD q7 default) (Option.getD q8 default))
 let q16:=(Option.getD di default)
 let dJ:=(M.qk (M.aB.mk q11 dB) q16.1)
 let dC:=(!(Option.getD dJ default))
 let j6:=q13.2
 let kF:=q16.2
 let eB:=(M.v8 j6 kF.1)
 let q22:=(!(Option.getD eB default))
 let q23:=(q12.1 !=kF.2)
 let q24:=((dC||q22)||q23)
 bif q24 then
 let eF:=(Option.isSome eB)
 let eQ:=(eF||(!(dC==false)))
 let fk:=(Option.isSome dJ)
 let eR:=(Option.isSome q9)
 let fJ:=((Option.isSome q1)&&((Option.isSome q0)&&true))
 let q30:=((Option.isSome q3)&&fJ)
 let gj:=(eQ&&(fk&&(eR&&((Option.isSome q8)&&((Option.isSome q7)&&((Option.isSome q4)&&((Option.isSome di)&&((Option.isSome q8)&&((Option.isSome q7)&&((Option.isSome q4)&&q30))))))))))
 bif gj then
 some false
 else
 none
 else
 let eF:=(M.qk (M.aB.mk q5 q6) (M.aB.mk q5 q6))
 bif(!(Option.getD eF default))then
 let eQ:=(Option.isSome eB)
 let fk:=(eQ||(!(dC==false)))
 let eR:=(Option.isSome dJ)
 let fJ:=(Option.isSome q9)
 let q30:=((Option.isSome q1)&&((Option.isSome q0)&&true))
 let gj:=((Option.isSome q3)&&q30)
 let q32:=(fk&&(eR&&(fJ&&((Option.isSome q8)&&((Option.isSome q7)&&((Option.isSome q4)&&((Option.isSome di)&&((Option.isSome q8)&&((Option.isSome q7)&&((Option.isSome q4)&&gj))))))))))
 let jD:=((Option.isSome eF)&&((Option.isSome q4)&&q32))
 bif jD then
 some false
 else
 none
 else
 let eQ:=(M.uR (Option.getD q7 default) (Option.getD q7 default))
 bif(!(Option.getD eQ default))then
 let fk:=(Option.isSome eB)
 let eR:=(fk||(!(dC==false)))
 let fJ:=(Option.isSome dJ)
 let q30:=(Option.isSome q9)
 let gj:=((Option.isSome q1)&&((Option.isSome q0)&&true))
 let q32:=((Option.isSome q3)&&gj)
 let jD:=(eR&&(fJ&&(q30&&((Option.isSome q8)&&((Option.isSome q7)&&((Option.isSome q4)&&((Option.isSome di)&&((Option.isSome q8)&&((Option.isSome q7)&&((Option.isSome q4)&&q32))))))))))
 let iG:=((Option.isSome eF)&&((Option.isSome q4)&&jD))
 let q35:=((Option.isSome eQ)&&((Option.isSome q7)&&iG))
 bif q35 then
 some false
 else
 none
 else
 let fk:=(M.uS (Option.getD q8 default) (Option.getD q8 default))
 bif(!(Option.getD fk default))then
 let eR:=(Option.isSome eB)
 let fJ:=(eR||(!(dC==false)))
 let q30:=(Option.isSome dJ)
 let gj:=(Option.isSome q9)
 let q32:=((Option.isSome q1)&&((Option.isSome q0)&&true))
 let jD:=((Option.isSome q3)&&q32)
 let iG:=(fJ&&(q30&&(gj&&((Option.isSome q8)&&((Option.isSome q7)&&((Option.isSome q4)&&((Option.isSome di)&&((Option.isSome q8)&&((Option.isSome q7)&&((Option.isSome q4)&&jD))))))))))
 let q35:=((Option.isSome eF)&&((Option.isSome q4)&&iG))
 let ik:=((Option.isSome eQ)&&((Option.isSome q7)&&q35))
 let q37:=((Option.isSome fk)&&((Option.isSome q8)&&ik))
 bif q37 then
 some false
 else
 none
 else
 let eR:=(M.uU q5 (1:Int) q6)
 let fJ:=(M.Ds (Option.getD eR default).1 (Option.getD q7 default))
 let q30:=(M.Du (Option.getD fJ default).1 (Option.getD q8 default))
 let gj:=((decide ((Option.getD q30 default).1<(0:Int)))||dC)
 bif((gj||q22)||q23)then
 let q32:=(Option.isSome eB)
 let jD:=(Option.isSome dJ)
 let iG:=(q32||(!(dC==false)))
 let q35:=(Option.isSome q9)
 let ik:=((Option.isSome q1)&&((Option.isSome q0)&&true))
 let q37:=((Option.isSome q3)&&ik)
 let lx:=(iG&&(jD&&(q35&&((Option.isSome q8)&&((Option.isSome q7)&&((Option.isSome q4)&&((Option.isSome di)&&((Option.isSome q8)&&((Option.isSome q7)&&((Option.isSome q4)&&q37))))))))))
 let sA:=((Option.isSome eF)&&((Option.isSome q4)&&lx))
 let sB:=((Option.isSome eQ)&&((Option.isSome q7)&&sA))
 let gm:=((Option.isSome fk)&&((Option.isSome q8)&&sB))
 let fV:=((q32||(!(gj==false)))&&((jD||(!((decide ((Option.getD q30 default).1<(0:Int)))==false)))&&((Option.isSome q30)&&((Option.isSome fJ)&&((Option.isSome eR)&&gm)))))
 bif fV then
 some false
 else
 none
 else
 let q32:=(M.uU q11 (1:Int) dB)
 let jD:=(Option.getD q32 default)
 let iG:=(M.ye (M.aB.mk q11 jD.2) (1:Int))
 let q35:=(Option.getD iG default)
 bif(decide (q35<(0:Int)))then
 let ik:=(Option.isSome iG)
 let q37:=(M.tL jD.1 j6)
 let lx:=(Option.isSome eB)
 let sA:=(Option.isSome dJ)
 let sB:=(lx||(!(dC==false)))
 let gm:=(Option.isSome q9)
 let fV:=((Option.isSome q1)&&((Option.isSome q0)&&true))
 let fW:=((Option.isSome q3)&&fV)
 let gn:=(sB&&(sA&&(gm&&((Option.isSome q8)&&((Option.isSome q7)&&((Option.isSome q4)&&((Option.isSome di)&&((Option.isSome q8)&&((Option.isSome q7)&&((Option.isSome q4)&&fW))))))))))
 let gp:=((Option.isSome eF)&&((Option.isSome q4)&&gn))
 let iY:=((Option.isSome eQ)&&((Option.isSome q7)&&gp))
 let j7:=((Option.isSome fk)&&((Option.isSome q8)&&iY))
 let j8:=((lx||(!(gj==false)))&&((sA||(!((decide ((Option.getD q30 default).1<(0:Int)))==false)))&&((Option.isSome q30)&&((Option.isSome fJ)&&((Option.isSome eR)&&j7)))))
 let j9:=(ik&&((Option.isSome q37)&&((Option.isSome q32)&&j8)))
 bif j9 then
 some false
 else
 none
 else
 let ik:=(M.tL jD.1 j6)
 let q37:=(Option.getD ik default)
 let lx:=(M.wa q37.2 q35)
 let sA:=(Option.getD lx default)
 bif(decide (sA<(0:Int)))then
 let sB:=(Option.isSome lx)
 let gm:=(Option.isSome iG)
 let fV:=(Option.isSome eB)
 let fW:=(Option.isSome dJ)
 let gn:=(fV||(!(dC==false)))
 let gp:=(Option.isSome q9)
 let iY:=((Option.isSome q1)&&((Option.isSome q0)&&true))
 let j7:=((Option.isSome q3)&&iY)
 let j8:=(gn&&(fW&&(gp&&((Option.isSome q8)&&((Option.isSome q7)&&((Option.isSome q4)&&((Option.isSome di)&&((Option.isSome q8)&&((Option.isSome q7)&&((Option.isSome q4)&&j7))))))))))
 let j9:=((Option.isSome eF)&&((Option.isSome q4)&&j8))
 let ly:=((Option.isSome eQ)&&((Option.isSome q7)&&j9))
 let lA:=((Option.isSome fk)&&((Option.isSome q8)&&ly))
 let lB:=((fV||(!(gj==false)))&&((fW||(!((decide ((Option.getD q30 default).1<(0:Int)))==false)))&&((Option.isSome q30)&&((Option.isSome fJ)&&((Option.isSome eR)&&lA)))))
 let lC:=(gm&&((Option.isSome ik)&&((Option.isSome q32)&&lB)))
 let lD:=(sB&&lC)
 bif lD then
 some false
 else
 none
 else
 let sB:=(sA !=q37.1)
 bif sB then
 let gm:=(Option.isSome lx)
 let fV:=(Option.isSome iG)
 let fW:=(Option.isSome eB)
 let gn:=(Option.isSome dJ)
 let gp:=(fW||(!(dC==false)))
 let iY:=(Option.isSome q9)
 let j7:=((Option.isSome q1)&&((Option.isSome q0)&&true))
 let j8:=((Option.isSome q3)&&j7)
 let j9:=(gp&&(gn&&(iY&&((Option.isSome q8)&&((Option.isSome q7)&&((Option.isSome q4)&&((Option.isSome di)&&((Option.isSome q8)&&((Option.isSome q7)&&((Option.isSome q4)&&j8))))))))))
 let ly:=((Option.isSome eF)&&((Option.isSome q4)&&j9))
 let lA:=((Option.isSome eQ)&&((Option.isSome q7)&&ly))
 let lB:=((Option.isSome fk)&&((Option.isSome q8)&&lA))
 let lC:=((fW||(!(gj==false)))&&((gn||(!((decide ((Option.getD q30 default).1<(0:Int)))==false)))&&((Option.isSome q30)&&((Option.isSome fJ)&&((Option.isSome eR)&&lB)))))
 let lD:=(fV&&((Option.isSome ik)&&((Option.isSome q32)&&lC)))
 let mR:=(gm&&lD)
 bif mR then
 some false
 else
 none
 else
 bif q24 then
 let gm:=(Option.isSome eB)
 let fV:=(gm||(!(dC==false)))
 let fW:=(Option.isSome dJ)
 let gn:=(Option.isSome q9)
 let gp:=(Option.isSome lx)
 let iY:=(Option.isSome iG)
 let j7:=((Option.isSome q1)&&((Option.isSome q0)&&true))
 let j8:=((Option.isSome q3)&&j7)
 let j9:=(fV&&(fW&&(gn&&((Option.isSome q8)&&((Option.isSome q7)&&((Option.isSome q4)&&((Option.isSome di)&&((Option.isSome q8)&&((Option.isSome q7)&&((Option.isSome q4)&&j8))))))))))
 let ly:=((Option.isSome eF)&&((Option.isSome q4)&&j9))
 let lA:=((Option.isSome eQ)&&((Option.isSome q7)&&ly))
 let lB:=((Option.isSome fk)&&((Option.isSome q8)&&lA))
 let lC:=((gm||(!(gj==false)))&&((fW||(!((decide ((Option.getD q30 default).1<(0:Int)))==false)))&&((Option.isSome q30)&&((Option.isSome fJ)&&((Option.isSome eR)&&lB)))))
 let lD:=(iY&&((Option.isSome ik)&&((Option.isSome q32)&&lC)))
 let mR:=(gp&&lD)
 let qp:=(fV&&(fW&&(gn&&((Option.isSome q8)&&((Option.isSome q7)&&((Option.isSome q4)&&mR))))))
 bif qp then
 some false
 else
 none
 else
 bif(decide (q35<(0:Int)))then
 let gm:=(Option.isSome iG)
 let fV:=(Option.isSome eB)
 let fW:=(fV||(!(dC==false)))
 let gn:=(Option.isSome dJ)
 let gp:=(Option.isSome q9)
 let iY:=(Option.isSome lx)
 let j7:=((Option.isSome q1)&&((Option.isSome q0)&&true))
 let j8:=((Option.isSome q3)&&j7)
 let j9:=(fW&&(gn&&(gp&&((Option.isSome q8)&&((Option.isSome q7)&&((Option.isSome q4)&&((Option.isSome di)&&((Option.isSome q8)&&((Option.isSome q7)&&((Option.isSome q4)&&j8))))))))))
 let ly:=((Option.isSome eF)&&((Option.isSome q4)&&j9))
 let lA:=((Option.isSome eQ)&&((Option.isSome q7)&&ly))
 let lB:=((Option.isSome fk)&&((Option.isSome q8)&&lA))
 let lC:=((fV||(!(gj==false)))&&((gn||(!((decide ((Option.getD q30 default).1<(0:Int)))==false)))&&((Option.isSome q30)&&((Option.isSome fJ)&&((Option.isSome eR)&&lB)))))
 let lD:=(gm&&((Option.isSome ik)&&((Option.isSome q32)&&lC)))
 let mR:=(iY&&lD)
 let qp:=(fW&&(gn&&(gp&&((Option.isSome q8)&&((Option.isSome q7)&&((Option.isSome q4)&&mR))))))
 let uZ:=(gm&&qp)
 bif uZ then
 some false
 else
 none
 else
 bif(decide (sA<(0:Int)))then
 let gm:=(Option.isSome lx)
 let fV:=(Option.isSome iG)
 let fW:=(Option.isSome eB)
 let gn:=(fW||(!(dC==false)))
 let gp:=(Option.isSome dJ)
 let iY:=(Option.isSome q9)
 let j7:=((Option.isSome q1)&&((Option.isSome q0)&&true))
 let j8:=((Option.isSome q3)&&j7)
 let j9:=(gn&&(gp&&(iY&&((Option.isSome q8)&&((Option.isSome q7)&&((Option.isSome q4)&&((Option.isSome di)&&((Option.isSome q8)&&((Option.isSome q7)&&((Option.isSome q4)&&j8))))))))))
 let ly:=((Option.isSome eF)&&((Option.isSome q4)&&j9))
 let lA:=((Option.isSome eQ)&&((Option.isSome q7)&&ly))
 let lB:=((Option.isSome fk)&&((Option.isSome q8)&&lA))
 let lC:=((fW||(!(gj==false)))&&((gp||(!((decide ((Option.getD q30 default).1<(0:Int)))==false)))&&((Option.isSome q30)&&((Option.isSome fJ)&&((Option.isSome eR)&&lB)))))
 let lD:=(fV&&((Option.isSome ik)&&((Option.isSome q32)&&lC)))
 let mR:=(gm&&lD)
 let qp:=(gn&&(gp&&(iY&&((Option.isSome q8)&&((Option.isSome q7)&&((Option.isSome q4)&&mR))))))
 let uZ:=(fV&&qp)
 let AL:=(gm&&uZ)
 bif AL then
 some false
 else
 none
 else
 bif sB then
 let gm:=(Option.isSome lx)
 let fV:=(Option.isSome iG)
 let fW:=(Option.isSome eB)
 let gn:=(fW||(!(dC==false)))
 let gp:=(Option.isSome dJ)
 let iY:=(Option.isSome q9)
 let j7:=((Option.isSome q1)&&((Option.isSome q0)&&true))
 let j8:=((Option.isSome q3)&&j7)
 let j9:=(gn&&(gp&&(iY&&((Option.isSome q8)&&((Option.isSome q7)&&((Option.isSome q4)&&((Option.isSome di)&&((Option.isSome q8)&&((Option.isSome q7)&&((Option.isSome q4)&&j8))))))))))
 let ly:=((Option.isSome eF)&&((Option.isSome q4)&&j9))
 let lA:=((Option.isSome eQ)&&((Option.isSome q7)&&ly))
 let lB:=((Option.isSome fk)&&((Option.isSome q8)&&lA))
 let lC:=((fW||(!(gj==false)))&&((gp||(!((decide ((Option.getD q30 default).1<(0:Int)))==false)))&&((Option.isSome q30)&&((Option.isSome fJ)&&((Option.isSome eR)&&lB)))))
 let lD:=(fV&&((Option.isSome ik)&&((Option.isSome q32)&&lC)))
 let mR:=(gm&&lD)
 let qp:=(gn&&(gp&&(iY&&((Option.isSome q8)&&((Option.isSome q7)&&((Option.isSome q4)&&mR))))))
 let uZ:=(fV&&qp)
 let AL:=(gm&&uZ)
 bif AL then
 some false
 else
 none
 else
 let gm:=(Option.isSome lx)
 let fV:=(Option.isSome iG)
 let fW:=(Option.isSome eB)
 let gn:=(fW||(!(dC==false)))
 let gp:=(Option.isSome dJ)
 let iY:=(Option.isSome q9)
 let j7:=((Option.isSome q1)&&((Option.isSome q0)&&true))
 let j8:=((Option.isSome q3)&&j7)
 let j9:=(gn&&(gp&&(iY&&((Option.isSome q8)&&((Option.isSome q7)&&((Option.isSome q4)&&((Option.isSome di)&&((Option.isSome q8)&&((Option.isSome q7)&&((Option.isSome q4)&&j8))))))))))
 let ly:=((Option.isSome eF)&&((Option.isSome q4)&&j9))
 let lA:=((Option.isSome eQ)&&((Option.isSome q7)&&ly))
 let lB:=((Option.isSome fk)&&((Option.isSome q8)&&lA))
 let lC:=((fW||(!(gj==false)))&&((gp||(!((decide ((Option.getD q30 default).1<(0:Int)))==false)))&&((Option.isSome q30)&&((Option.isSome fJ)&&((Option.isSome eR)&&lB)))))
 let lD:=(fV&&((Option.isSome ik)&&((Option.isSome q32)&&lC)))
 let mR:=(gm&&lD)
 let qp:=(gn&&(gp&&(iY&&((Option.isSome q8)&&((Option.isSome q7)&&((Option.isSome q4)&&mR))))))
 let uZ:=(fV&&qp)
 let AL:=(gm&&uZ)
 bif AL then
 some true
 else
 none
end M
