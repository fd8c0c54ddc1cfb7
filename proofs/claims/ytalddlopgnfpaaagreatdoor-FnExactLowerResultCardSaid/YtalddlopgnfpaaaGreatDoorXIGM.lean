/-
  Part of the proof of the claim.
-/
import Derived.Test.YtalddlopgnfpaaaGreatDoorXIdata
import Derived.Test.YtalddlopgnfpaaaGreatDoorXIhandA
set_option linter.unusedVariables false
set_option maxRecDepth 100000
noncomputable section
namespace M
def s7(db:M.ae->M.ae->Option (Bool))(a:(List M.ae))(b:(List M.ae)):Nat->Int->Option ((Bool)⊕(Unit))
 |0,_=>none
 |fuel+1,i=>
 bif(decide (i<((List.length a):Int)))then
 bif(!(Option.getD (db (M.ae.re (List.getD a (Int.toNat i) M.ae.zero)) (M.ae.re (List.getD b (Int.toNat i) M.ae.zero))) default))then
 let q0:=((Option.isSome (db (M.ae.re (List.getD a (Int.toNat i) M.ae.zero)) (M.ae.re (List.getD b (Int.toNat i) M.ae.zero))))&&((Go.V.inB i (List.length b))&&((Go.V.inB i (List.length a))&&true)))
 bif q0 then
 some (.inl false)
 else
 none
 else
 let q0:=((Option.isSome (db (M.ae.re (List.getD a (Int.toNat i) M.ae.zero)) (M.ae.re (List.getD b (Int.toNat i) M.ae.zero))))&&((Go.V.inB i (List.length b))&&((Go.V.inB i (List.length a))&&true)))
 bif q0 then
 M.s7 db a b fuel (Go.IntKind.wrap Go.IntKind.i64 (i+(1:Int)))
 else
 none
 else
 some ((.inr (())))
def vA(db:M.ae->M.ae->Option (Bool))(a:(List M.ae))(b:(List M.ae)):Option (Bool):=
 bif(((List.length a):Int) !=((List.length b):Int))then
 some false
 else
 match(M.s7 db a b Go.V.ah (0:Int))with
 |none=>none
 |some y0=>
 (match y0 with
 |.inl a1=>
 some a1
 |.inr b1=>
 some true)
def yT(db:M.ae->M.ae->Option (Bool))(a:M.ae)(b:M.ae):Option (Bool):=
 bif((M.ae.Kind a) !=(M.ae.Kind b))then
 some false
 else
 bif((M.ae.Num a) !=(M.ae.Num b))then
 some false
 else
 bif(!((M.ae.Text a)==(M.ae.Text b)))then
 some false
 else
 let q0:=(M.vA db (M.ae.Kids a) (M.ae.Kids b))
 bif(!(Option.getD q0 default))then
 bif((Option.isSome q0)&&true)then
 some false
 else
 none
 else
 bif((Option.isSome q0)&&true)then
 some true
 else
 none
def s8:Nat->M.ae->M.ae->Option (Bool)
 |0=>fun _ _=>none
 |n+1=>yT (s8 n)
def Bq:M.ae->M.ae->Option (Bool):=s8 Go.V.ah
def s9(a:(List Int))(b:(List Int)):Nat->Int->Option ((Bool)⊕(Unit))
 |0,_=>none
 |fuel+1,i=>
 bif(decide (i<((List.length a):Int)))then
 bif((List.getD a (Int.toNat i) (0:Int)) !=(List.getD b (Int.toNat i) (0:Int)))then
 let q0:=((Go.V.inB i (List.length b))&&((Go.V.inB i (List.length a))&&true))
 bif q0 then
 some (.inl false)
 else
 none
 else
 let q0:=((Go.V.inB i (List.length b))&&((Go.V.inB i (List.length a))&&true))
 bif q0 then
 M.s9 a b fuel (Go.IntKind.wrap Go.IntKind.i64 (i+(1:Int)))
 else
 none
 else
 some ((.inr (())))
def vB(a:(List Int))(b:(List Int)):Option (Bool):=
 bif(((List.length a):Int) !=((List.length b):Int))then
 some false
 else
 match(M.s9 a b Go.V.ah (0:Int))with
 |none=>none
 |some y0=>
 (match y0 with
 |.inl a1=>
 some a1
 |.inr b1=>
 some true)
def ta:Nat->Int->Int->(List Int)->Option (Int×(List Int))
 |0,_,_,_=>none
 |fuel+1,k,i,a=>
 bif(decide (i<((List.length a):Int)))then
 bif((Go.V.inB i (List.length a))&&true)then
 M.ta fuel (Go.IntKind.wrap Go.IntKind.i64 (k+(1:Int))) (Go.IntKind.wrap Go.IntKind.i64 (i+(1:Int))) (List.set a (Int.toNat i) k)
 else
 none
 else
 some ((k,a))
def tc(k:Int)(a:(List Int)):Option (Int×(List Int)):=
 match(M.ta Go.V.ah k (0:Int) a)with
 |none=>none
 |some y0=>
 some (y0.1,y0.2)
def td(a:(List Int)):Nat->Int->Int->Option ((Int)⊕(Int))
 |0,_,_=>none
 |fuel+1,k,i=>
 bif(decide (i<((List.length a):Int)))then
 bif((List.getD a (Int.toNat i) (0:Int)) !=k)then
 bif((Go.V.inB i (List.length a))&&true)then
 some (.inl (-(1:Int)))
 else
 none
 else
 bif((Go.V.inB i (List.length a))&&true)then
 M.td a fuel (Go.IntKind.wrap Go.IntKind.i64 (k+(1:Int))) (Go.IntKind.wrap Go.IntKind.i64 (i+(1:Int)))
 else
 none
 else
 some ((.inr (k)))
def vC(a:(List Int))(k:Int):Option (Int):=
 match(M.td a Go.V.ah k (0:Int))with
 |none=>none
 |some y0=>
 (match y0 with
 |.inl a1=>
 some a1
 |.inr b1=>
 some b1)
def te(a:(List (List UInt8))):Nat->Int->Int->Option ((Int)⊕(Int))
 |0,_,_=>none
 |fuel+1,left,i=>
 bif(decide (i<((List.length a):Int)))then
 let q0:=(Go.IntKind.wrap Go.IntKind.i64 (left-((List.length (List.getD a (Int.toNat i) [])):Int)))
 bif(decide (q0<(0:Int)))then
 bif((Go.V.inB i (List.length a))&&true)then
 some (.inl (-(1:Int)))
 else
 none
 else
 bif((Go.V.inB i (List.length a))&&true)then
 M.te a fuel q0 (Go.IntKind.wrap Go.IntKind.i64 (i+(1:Int)))
 else
 none
 else
 some ((.inr (left)))
def vD(a:(List (List UInt8)))(left:Int):Option (Int):=
 bif(decide ((Go.IntKind.wrap Go.IntKind.i64 (left-((List.length a):Int)))<(0:Int)))then
 some (-(1:Int))
 else
 match(M.te a Go.V.ah (Go.IntKind.wrap Go.IntKind.i64 (left-((List.length a):Int))) (0:Int))with
 |none=>none
 |some y0=>
 (match y0 with
 |.inl a1=>
 some a1
 |.inr b1=>
 some b1)
def tf(dc:M.aa->Int->Option (Int))(a:(List M.aa)):Nat->Int->Int->Option ((Int)⊕(Int))
 |0,_,_=>none
 |fuel+1,left,i=>
 bif(decide (i<((List.length a):Int)))then
 let q0:=(Option.getD (dc (M.aa.re (List.getD a (Int.toNat i) M.aa.zero)) left) default)
 bif(decide (q0<(0:Int)))then
 let q1:=((Option.isSome (dc (M.aa.re (List.getD a (Int.toNat i) M.aa.zero)) left))&&((Go.V.inB i (List.length a))&&true))
 bif q1 then
 some (.inl (-(1:Int)))
 else
 none
 else
 let q1:=((Option.isSome (dc (M.aa.re (List.getD a (Int.toNat i) M.aa.zero)) left))&&((Go.V.inB i (List.length a))&&true))
 bif q1 then
 M.tf dc a fuel q0 (Go.IntKind.wrap Go.IntKind.i64 (i+(1:Int)))
 else
 none
 else
 some ((.inr (left)))
def vE(dc:M.aa->Int->Option (Int))(a:(List M.aa))(left:Int):Option (Int):=
 bif(decide ((Go.IntKind.wrap Go.IntKind.i64 (left-((List.length a):Int)))<(0:Int)))then
 some (-(1:Int))
 else
 match(M.tf dc a Go.V.ah (Go.IntKind.wrap Go.IntKind.i64 (left-((List.length a):Int))) (0:Int))with
 |none=>none
 |some y0=>
 (match y0 with
 |.inl a1=>
 some a1
 |.inr b1=>
 some b1)
def yU(dc:M.aa->Int->Option (Int))(a:M.aa)(left:Int):Option (Int):=
 bif(decide ((Go.IntKind.wrap Go.IntKind.i64 (left-((List.length (M.aa.Name a)):Int)))<(0:Int)))then
 some (-(1:Int))
 else
 let q0:=(M.vD (M.aa.bp a) (Go.IntKind.wrap Go.IntKind.i64 (left-((List.length (M.aa.Name a)):Int))))
 let q1:=(Option.getD q0 default)
 bif(decide (q1<(0:Int)))then
 let q2:=((Option.isSome q0)&&true)
 bif q2 then
 some (-(1:Int))
 else
 none
 else
 let q2:=(M.vE dc (M.aa.Kids a) q1)
 let q3:=(Option.getD q2 default)
 bif(decide (q3<(0:Int)))then
 let q4:=((Option.isSome q0)&&true)
 let q5:=((Option.isSome q2)&&q4)
 bif q5 then
 some (-(1:Int))
 else
 none
 else
 let q4:=((Option.isSome q0)&&true)
 let q5:=((Option.isSome q2)&&q4)
 bif q5 then
 some q3
 else
 none
def tg:Nat->M.aa->Int->Option (Int)
 |0=>fun _ _=>none
 |n+1=>yU (tg n)
def BA:M.aa->Int->Option (Int):=tg Go.V.ah
def qP(a:(List (List UInt8))):Nat->Int->(List (List UInt8))->Option ((List (List UInt8)))
 |0,_,_=>none
 |fuel+1,i,out=>
 bif(decide (i<((List.length a):Int)))then
 bif((Go.V.inB i (List.length out))&&((Go.V.inB i (List.length a))&&true))then
 M.qP a fuel (Go.IntKind.wrap Go.IntKind.i64 (i+(1:Int))) (List.set out (Int.toNat i) (List.getD a (Int.toNat i) []))
 else
 none
 else
 some (out)
def vF(a:(List (List UInt8))):Option ((List (List UInt8))):=
 match(M.qP a Go.V.ah (0:Int) (List.replicate (Int.toNat ((List.length a):Int)) []))with
 |none=>none
 |some y0=>
 bif(((decide (((List.length a):Int)<=((List.length a):Int)))&&(decide (((List.length a):Int)<=(1073741824:Int))))&&true)then
 some y0
 else
 none
def qQ(dj:M.aa->Option (Int×(List UInt8)×(List (List UInt8))×(List M.aa)))(a:(List M.aa)):Nat->Int->(List M.aa)->Option ((List M.aa))
 |0,_,_=>none
 |fuel+1,i,out=>
 bif(decide (i<((List.length a):Int)))then
 bif((Go.V.inB i (List.length out))&&((Option.isSome (dj (M.aa.re (List.getD a (Int.toNat i) M.aa.zero))))&&((Go.V.inB i (List.length a))&&true)))then
 let q0:=(Option.getD (dj (M.aa.re (List.getD a (Int.toNat i) M.aa.zero))) default)
 let q1:=q0.2
 let q2:=q1.2
 M.qQ dj a fuel (Go.IntKind.wrap Go.IntKind.i64 (i+(1:Int))) (List.set out (Int.toNat i) (M.aa.mk q0.1 q1.1 q2.1 q2.2))
 else
 none
 else
 some (out)
def vG(dj:M.aa->Option (Int×(List UInt8)×(List (List UInt8))×(List M.aa)))(a:(List M.aa)):Option ((List M.aa)):=
 match(M.qQ dj a Go.V.ah (0:Int) (List.replicate (Int.toNat ((List.length a):Int)) (M.aa.mk (0:Int) [] [] [])))with
 |none=>none
 |some y0=>
 bif(((decide (((List.length a):Int)<=((List.length a):Int)))&&(decide (((List.length a):Int)<=(1073741824:Int))))&&true)then
 some y0
 else
 none
def yV(dj:M.aa->Option (Int×(List UInt8)×(List (List UInt8))×(List M.aa)))(a:M.aa):Option (Int×(List UInt8)×(List (List UInt8))×(List M.aa)):=
 let q0:=(M.vG dj (M.aa.Kids a))
 let q1:=(M.vF (M.aa.bp a))
 bif((Option.isSome q0)&&((Option.isSome q1)&&true))then
 some ((M.aa.Kind a),(M.aa.Name a),(Option.getD q1 default),(Option.getD q0 default))
 else
 none
def ti:Nat->M.aa->Option (Int×(List UInt8)×(List (List UInt8))×(List M.aa))
 |0=>fun _=>none
 |n+1=>yV (ti n)
def BD:M.aa->Option (Int×(List UInt8)×(List (List UInt8))×(List M.aa)):=ti Go.V.ah
def tj(a:(List (List UInt8)))(b:(List (List UInt8))):Nat->Int->Option ((Bool)⊕(Unit))
 |0,_=>none
 |fuel+1,i=>
 bif(decide (i<((List.length a):Int)))then
 bif(!((List.getD a (Int.toNat i) [])==(List.getD b (Int.toNat i) [])))then
 let q0:=((Go.V.inB i (List.length b))&&((Go.V.inB i (List.length a))&&true))
 bif q0 then
 some (.inl false)
 else
 none
 else
 let q0:=((Go.V.inB i (List.length b))&&((Go.V.inB i (List.length a))&&true))
 bif q0 then
 M.tj a b fuel (Go.IntKind.wrap Go.IntKind.i64 (i+(1:Int)))
 else
 none
 else
 some ((.inr (())))
def vH(a:(List (List UInt8)))(b:(List (List UInt8))):Option (Bool):=
 bif(((List.length a):Int) !=((List.length b):Int))then
 some false
 else
 match(M.tj a b Go.V.ah (0:Int))with
 |none=>none
 |some y0=>
 (match y0 with
 |.inl a1=>
 some a1
 |.inr b1=>
 some true)
def tn(de:M.aa->M.aa->Option (Bool))(a:(List M.aa))(b:(List M.aa)):Nat->Int->Option ((Bool)⊕(Unit))
 |0,_=>none
 |fuel+1,i=>
 bif(decide (i<((List.length a):Int)))then
 bif(!(Option.getD (de (M.aa.re (List.getD a (Int.toNat i) M.aa.zero)) (M.aa.re (List.getD b (Int.toNat i) M.aa.zero))) default))then
 let q0:=((Option.isSome (de (M.aa.re (List.getD a (Int.toNat i) M.aa.zero)) (M.aa.re (List.getD b (Int.toNat i) M.aa.zero))))&&((Go.V.inB i (List.length b))&&((Go.V.inB i (List.length a))&&true)))
 bif q0 then
 some (.inl false)
 else
 none
 else
 let q0:=((Option.isSome (de (M.aa.re (List.getD a (Int.toNat i) M.aa.zero)) (M.aa.re (List.getD b (Int.toNat i) M.aa.zero))))&&((Go.V.inB i (List.length b))&&((Go.V.inB i (List.length a))&&true)))
 bif q0 then
 M.tn de a b fuel (Go.IntKind.wrap Go.IntKind.i64 (i+(1:Int)))
 else
 none
 else
 some ((.inr (())))
def vI(de:M.aa->M.aa->Option (Bool))(a:(List M.aa))(b:(List M.aa)):Option (Bool):=
 bif(((List.length a):Int) !=((List.length b):Int))then
 some false
 else
 match(M.tn de a b Go.V.ah (0:Int))with
 |none=>none
 |some y0=>
 (match y0 with
 |.inl a1=>
 some a1
 |.inr b1=>
 some true)
def yW(de:M.aa->M.aa->Option (Bool))(a:M.aa)(b:M.aa):Option (Bool):=
 bif((M.aa.Kind a) !=(M.aa.Kind b))then
 some false
 else
 bif(!((M.aa.Name a)==(M.aa.Name b)))then
 some false
 else
 let q0:=(M.vH (M.aa.bp a) (M.aa.bp b))
 bif(!(Option.getD q0 default))then
 bif((Option.isSome q0)&&true)then
 some false
 else
 none
 else
 let q1:=(M.vI de (M.aa.Kids a) (M.aa.Kids b))
 bif(!(Option.getD q1 default))then
 bif((Option.isSome q1)&&((Option.isSome q0)&&true))then
 some false
 else
 none
 else
 bif((Option.isSome q1)&&((Option.isSome q0)&&true))then
 some true
 else
 none
def tp:Nat->M.aa->M.aa->Option (Bool)
 |0=>fun _ _=>none
 |n+1=>yW (tp n)
def BG:M.aa->M.aa->Option (Bool):=tp Go.V.ah
def il(a:Int)(b:Int):Option (Int):=
 bif(decide (b<a))then
 some a
 else
 some b
def qR(eI:M.aa->Int->Option (Int×Int))(deep:Int):Nat->Int->Int->Int->M.aa->Option ((Int×Int)⊕(Int×Int))
 |0,_,_,_,_=>none
 |fuel+1,most,parts,i,t=>
 bif(decide (i<((List.length (M.aa.Kids t)):Int)))then
 let q0:=(Option.getD (eI (M.aa.re (List.getD (M.aa.Kids t) (Int.toNat i) M.aa.zero)) (Go.IntKind.wrap Go.IntKind.i64 (deep+(1:Int)))) default)
 let q1:=(Go.IntKind.wrap Go.IntKind.i64 (parts+q0.2))
 bif(decide ((24:Int)<q1))then
 let q2:=(M.il most q0.1)
 let q3:=((Option.isSome q2)&&((Option.isSome (eI (M.aa.re (List.getD (M.aa.Kids t) (Int.toNat i) M.aa.zero)) (Go.IntKind.wrap Go.IntKind.i64 (deep+(1:Int)))))&&((Go.V.inB i (List.length (M.aa.Kids t)))&&true)))
 bif q3 then
 some (.inl ((5:Int),(25:Int)))
 else
 none
 else
 let q2:=(M.il most q0.1)
 let q3:=((Option.isSome q2)&&((Option.isSome (eI (M.aa.re (List.getD (M.aa.Kids t) (Int.toNat i) M.aa.zero)) (Go.IntKind.wrap Go.IntKind.i64 (deep+(1:Int)))))&&((Go.V.inB i (List.length (M.aa.Kids t)))&&true)))
 bif q3 then
 M.qR eI deep fuel (Option.getD q2 default) q1 (Go.IntKind.wrap Go.IntKind.i64 (i+(1:Int))) (M.aa.re t)
 else
 none
 else
 some ((.inr ((most,parts))))
def yX(eI:M.aa->Int->Option (Int×Int))(t:M.aa)(deep:Int):Option (Int×Int):=
 bif((decide ((4:Int)<deep))||(decide ((24:Int)<((List.length (M.aa.Kids t)):Int))))then
 some ((5:Int),(25:Int))
 else
 match(M.qR eI deep Go.V.ah (0:Int) (1:Int) (0:Int) (M.aa.re t))with
 |none=>none
 |some y0=>
 (match y0 with
 |.inl a1=>
 some (a1.1,a1.2)
 |.inr b1=>
 some ((Go.IntKind.wrap Go.IntKind.i64 (b1.1+(1:Int))),b1.2))
def qS:Nat->M.aa->Int->Option (Int×Int)
 |0=>fun _ _=>none
 |n+1=>yX (qS n)
def BJ:M.aa->Int->Option (Int×Int):=qS Go.V.ah
def qU(n:Int)(low:Int)(high:Int):Option (Bool):=
 some ((decide (low<=n))&&(decide (n<=high)))
def tq(s:(List UInt8)):Nat->Int->Option ((Bool)⊕(Unit))
 |0,_=>none
 |fuel+1,i=>
 bif(decide (i<((List.length s):Int)))then
 let q0:=((((decide (((UInt8.toNat (List.getD s (Int.toNat i) (0:UInt8))):Int)<(97:Int)))||(decide ((122:Int)<((UInt8.toNat (List.getD s (Int.toNat i) (0:UInt8))):Int))))&&((decide (((UInt8.toNat (List.getD s (Int.toNat i) (0:UInt8))):Int)<(48:Int)))||(decide ((57:Int)<((UInt8.toNat (List.getD s (Int.toNat i) (0:UInt8))):Int)))))&&(((UInt8.toNat (List.getD s (Int.toNat i) (0:UInt8))):Int) !=(45:Int)))
 let q1:=(((UInt8.toNat (List.getD s (Int.toNat i) (0:UInt8))):Int)==(45:Int))
 bif(q0||(q1&&(((UInt8.toNat (List.getD s (Int.toNat (Go.IntKind.wrap Go.IntKind.i64 (i-(1:Int)))) (0:UInt8))):Int)==(45:Int))))then
 let q2:=(((Go.V.inB (Go.IntKind.wrap Go.IntKind.i64 (i-(1:Int))) (List.length s))||(!((q0==false)&&(q1==true))))&&((Go.V.inB i (List.length s))&&true))
 bif q2 then
 some (.inl false)
 else
 none
 else
 let q2:=(((Go.V.inB (Go.IntKind.wrap Go.IntKind.i64 (i-(1:Int))) (List.length s))||(!((q0==false)&&(q1==true))))&&((Go.V.inB i (List.length s))&&true))
 bif q2 then
 M.tq s fuel (Go.IntKind.wrap Go.IntKind.i64 (i+(1:Int)))
 else
 none
 else
 some ((.inr (())))
def qV(s:(List UInt8)):Option (Bool):=
 let q0:=((decide (((List.length s):Int)<(1:Int)))||(decide ((12:Int)<((List.length s):Int))))
 let q1:=(q0||(decide (((UInt8.toNat (List.getD s (Int.toNat (0:Int)) (0:UInt8))):Int)<(97:Int))))
 let q2:=(q1||(decide ((122:Int)<((UInt8.toNat (List.getD s (Int.toNat (0:Int)) (0:UInt8))):Int))))
 bif(q2||(((UInt8.toNat (List.getD s (Int.toNat (Go.IntKind.wrap Go.IntKind.i64 (((List.length s):Int)-(1:Int)))) (0:UInt8))):Int)==(45:Int)))then
 let q3:=(((Go.V.inB (Go.IntKind.wrap Go.IntKind.i64 (((List.length s):Int)-(1:Int))) (List.length s))||(!(q2==false)))&&(((Go.V.inB (0:Int) (List.length s))||(!(q1==false)))&&(((Go.V.inB (0:Int) (List.length s))||(!(q0==false)))&&true)))
 bif q3 then
 some false
 else
 none
 else
 match(M.tq s Go.V.ah (0:Int))with
 |none=>none
 |some y3=>
 (match y3 with
 |.inl a4=>
 let q5:=(((Go.V.inB (Go.IntKind.wrap Go.IntKind.i64 (((List.length s):Int)-(1:Int))) (List.length s))||(!(q2==false)))&&(((Go.V.inB (0:Int) (List.length s))||(!(q1==false)))&&(((Go.V.inB (0:Int) (List.length s))||(!(q0==false)))&&true)))
 bif q5 then
 some a4
 else
 none
 |.inr b4=>
 let q5:=(((Go.V.inB (Go.IntKind.wrap Go.IntKind.i64 (((List.length s):Int)-(1:Int))) (List.length s))||(!(q2==false)))&&(((Go.V.inB (0:Int) (List.length s))||(!(q1==false)))&&(((Go.V.inB (0:Int) (List.length s))||(!(q0==false)))&&true)))
 bif q5 then
 some true
 else
 none)
def qW(list:(List (List UInt8)))(i:Int):Nat->Int->Option ((Bool)⊕((List (List UInt8))×Int))
 |0,_=>none
 |fuel+1,k=>
 bif(decide (k<i))then
 bif((List.getD list (Int.toNat k) [])==(List.getD list (Int.toNat i) []))then
 let q0:=((Go.V.inB i (List.length list))&&((Go.V.inB k (List.length list))&&true))
 bif q0 then
 some (.inl false)
 else
 none
 else
 let q0:=((Go.V.inB i (List.length list))&&((Go.V.inB k (List.length list))&&true))
 bif q0 then
 M.qW list i fuel (Go.IntKind.wrap Go.IntKind.i64 (k+(1:Int)))
 else
 none
 else
 some ((.inr ((list,i))))
def pn:Nat->(List (List UInt8))->Int->Option ((Bool)⊕(Unit))
 |0,_,_=>none
 |fuel+1,list,i=>
 bif(decide (i<((List.length list):Int)))then
 let q0:=(M.qV (List.getD list (Int.toNat i) []))
 bif(!(Option.getD q0 default))then
 let q1:=((Option.isSome q0)&&((Go.V.inB i (List.length list))&&true))
 bif q1 then
 some (.inl false)
 else
 none
 else
 match(M.qW list i Go.V.ah (0:Int))with
 |none=>none
 |some y1=>
 (match y1 with
 |.inl a2=>
 let q3:=((Option.isSome q0)&&((Go.V.inB i (List.length list))&&true))
 bif q3 then
 some (.inl a2)
 else
 none
 |.inr b2=>
 let q3:=((Option.isSome q0)&&((Go.V.inB i (List.length list))&&true))
 bif q3 then
 M.pn fuel b2.1 (Go.IntKind.wrap Go.IntKind.i64 (b2.2+(1:Int)))
 else
 none)
 else
 some ((.inr (())))
def vN(list:(List (List UInt8))):Option (Bool):=
 bif((decide (((List.length list):Int)<(1:Int)))||(decide ((16:Int)<((List.length list):Int))))then
 some false
 else
 match(M.pn Go.V.ah list (0:Int))with
 |none=>none
 |some y0=>
 (match y0 with
 |.inl a1=>
 some a1
 |.inr b1=>
 some true)
def nB:Nat->Int->M.aa->Option ((Bool)⊕(Unit))
 |0,_,_=>none
 |fuel+1,i,t=>
 bif(decide (i<((List.length (M.aa.Kids t)):Int)))then
 bif((M.aa.Kind (List.getD (M.aa.Kids t) (Int.toNat i) M.aa.zero))==(1:Int))then
 bif((Go.V.inB i (List.length (M.aa.Kids t)))&&true)then
 some (.inl true)
 else
 none
 else
 bif((Go.V.inB i (List.length (M.aa.Kids t)))&&true)then
 M.nB fuel (Go.IntKind.wrap Go.IntKind.i64 (i+(1:Int))) (M.aa.re t)
 else
 none
 else
 some ((.inr (())))
def qX(t:M.aa):Option (Bool):=
 match(M.nB Go.V.ah (0:Int) (M.aa.re t))with
 |none=>none
 |some y0=>
 (match y0 with
 |.inl a1=>
 some a1
 |.inr b1=>
 some false)
def nC(eJ:M.aa->Int->Int->Option (Bool))(low:Int)(high:Int):Nat->Int->M.aa->Option ((Bool)⊕(Unit))
 |0,_,_=>none
 |fuel+1,i,t=>
 bif(decide (i<((List.length (M.aa.Kids t)):Int)))then
 bif(Option.getD (eJ (M.aa.re (List.getD (M.aa.Kids t) (Int.toNat i) M.aa.zero)) low high) default)then
 let q0:=((Option.isSome (eJ (M.aa.re (List.getD (M.aa.Kids t) (Int.toNat i) M.aa.zero)) low high))&&((Go.V.inB i (List.length (M.aa.Kids t)))&&true))
 bif q0 then
 some (.inl true)
 else
 none
 else
 let q0:=((Option.isSome (eJ (M.aa.re (List.getD (M.aa.Kids t) (Int.toNat i) M.aa.zero)) low high))&&((Go.V.inB i (List.length (M.aa.Kids t)))&&true))
 bif q0 then
 M.nC eJ low high fuel (Go.IntKind.wrap Go.IntKind.i64 (i+(1:Int))) (M.aa.re t)
 else
 none
 else
 some ((.inr (())))
def yY(eJ:M.aa->Int->Int->Option (Bool))(t:M.aa)(low:Int)(high:Int):Option (Bool):=
 bif((decide (low<=(M.aa.Kind t)))&&(decide ((M.aa.Kind t)<=high)))then
 some true
 else
 match(M.nC eJ low high Go.V.ah (0:Int) (M.aa.re t))with
 |none=>none
 |some y0=>
 (match y0 with
 |.inl a1=>
 some a1
 |.inr b1=>
 some false)
def mE:Nat->M.aa->Int->Int->Option (Bool)
 |0=>fun _ _ _=>none
 |n+1=>yY (mE n)
def tr:M.aa->Int->Int->Option (Bool):=mE Go.V.ah
def vP(t:M.aa):Option (Bool):=
 let q0:=(((M.aa.Kind t)==(20:Int))||((M.aa.Kind t)==(21:Int)))
 let q1:=(!(q0==(!((M.aa.Name t)==[]))))
 let q2:=(M.qV (M.aa.Name t))
 let q3:=((decide ((16:Int)<=(M.aa.Kind t)))&&(decide ((M.aa.Kind t)<=(19:Int))))
 let q4:=((q1||(q0&&(!(Option.getD q2 default))))||(!(q3==(decide ((0:Int)<((List.length (M.aa.bp t)):Int))))))
 let q5:=(M.vN (M.aa.bp t))
 bif(q4||(q3&&(!(Option.getD q5 default))))then
 let q6:=(((Option.isSome q5)||(!((q4==false)&&(q3==true))))&&(((Option.isSome q2)||(!((q1==false)&&(q0==true))))&&true))
 bif q6 then
 some false
 else
 none
 else
 bif(bif((M.aa.Kind t)==(12:Int))then((M.aa.Kind t)==(12:Int))else((M.aa.Kind t)==(13:Int)))then
 let q6:=(M.qX (M.aa.re t))
 let q7:=(!((((List.length (M.aa.Kids t)):Int)==(1:Int))==true))
 let q8:=(((Option.isSome q5)||(!((q4==false)&&(q3==true))))&&(((Option.isSome q2)||(!((q1==false)&&(q0==true))))&&true))
 let q9:=((q8||(!((M.aa.Kind t)==(12:Int))))&&(q8||((M.aa.Kind t)==(12:Int))))
 bif(((Option.isSome q6)||q7)&&q9)then
 some ((((List.length (M.aa.Kids t)):Int)==(1:Int))&&(!(Option.getD q6 default)))
 else
 none
 else
 bif(bif((M.aa.Kind t)==(22:Int))then((M.aa.Kind t)==(22:Int))else((M.aa.Kind t)==(23:Int)))then
 let q6:=(M.tr (M.aa.re (List.getD (M.aa.Kids t) (Int.toNat (0:Int)) M.aa.zero)) (21:Int) (21:Int))
 let q7:=(!((((List.length (M.aa.Kids t)):Int)==(1:Int))==true))
 let q8:=(((Option.isSome q5)||(!((q4==false)&&(q3==true))))&&(((Option.isSome q2)||(!((q1==false)&&(q0==true))))&&true))
 let q9:=((q8||(!((M.aa.Kind t)==(12:Int))))&&(q8||((M.aa.Kind t)==(12:Int))))
 let q10:=((q9||(!((M.aa.Kind t)==(22:Int))))&&(q9||((M.aa.Kind t)==(22:Int))))
 bif(((Option.isSome q6)||q7)&&(((Go.V.inB (0:Int) (List.length (M.aa.Kids t)))||q7)&&q10))then
 some ((((List.length (M.aa.Kids t)):Int)==(1:Int))&&(!(Option.getD q6 default)))
 else
 none
 else
 bif((M.aa.Kind t)==(14:Int))then
 let q6:=(((Option.isSome q5)||(!((q4==false)&&(q3==true))))&&(((Option.isSome q2)||(!((q1==false)&&(q0==true))))&&true))
 let q7:=((q6||(!((M.aa.Kind t)==(12:Int))))&&(q6||((M.aa.Kind t)==(12:Int))))
 let q8:=((q7||(!((M.aa.Kind t)==(22:Int))))&&(q7||((M.aa.Kind t)==(22:Int))))
 bif q8 then
 some (((List.length (M.aa.Kids t)):Int)==(2:Int))
 else
 none
 else
 bif((M.aa.Kind t)==(15:Int))then
 let q6:=(M.qX (M.aa.re t))
 let q7:=((decide ((1:Int)<=((List.length (M.aa.Kids t)):Int)))&&(decide (((List.length (M.aa.Kids t)):Int)<=(6:Int))))
 let q8:=(((Option.isSome q5)||(!((q4==false)&&(q3==true))))&&(((Option.isSome q2)||(!((q1==false)&&(q0==true))))&&true))
 let q9:=((q8||(!((M.aa.Kind t)==(12:Int))))&&(q8||((M.aa.Kind t)==(12:Int))))
 let q10:=((q9||(!((M.aa.Kind t)==(22:Int))))&&(q9||((M.aa.Kind t)==(22:Int))))
 bif(((Option.isSome q6)||(!(q7==true)))&&q10)then
 some (q7&&(!(Option.getD q6 default)))
 else
 none
 else
 bif((M.aa.Kind t)==(16:Int))then
 let q6:=(M.qX (M.aa.re t))
 let q7:=(((Option.isSome q5)||(!((q4==false)&&(q3==true))))&&(((Option.isSome q2)||(!((q1==false)&&(q0==true))))&&true))
 let q8:=((q7||(!((M.aa.Kind t)==(12:Int))))&&(q7||((M.aa.Kind t)==(12:Int))))
 let q9:=((q8||(!((M.aa.Kind t)==(22:Int))))&&(q8||((M.aa.Kind t)==(22:Int))))
 bif(((Option.isSome q6)||(!((((List.length (M.aa.Kids t)):Int)==((List.length (M.aa.bp t)):Int))==true)))&&q9)then
 some ((((List.length (M.aa.Kids t)):Int)==((List.length (M.aa.bp t)):Int))&&(!(Option.getD q6 default)))
 else
 none
 else
 bif((M.aa.Kind t)==(17:Int))then
 let q6:=(((Option.isSome q5)||(!((q4==false)&&(q3==true))))&&(((Option.isSome q2)||(!((q1==false)&&(q0==true))))&&true))
 let q7:=((q6||(!((M.aa.Kind t)==(12:Int))))&&(q6||((M.aa.Kind t)==(12:Int))))
 let q8:=((q7||(!((M.aa.Kind t)==(22:Int))))&&(q7||((M.aa.Kind t)==(22:Int))))
 bif q8 then
 some (((List.length (M.aa.Kids t)):Int)==((List.length (M.aa.bp t)):Int))
 else
 none
 else
 let q6:=(((Option.isSome q5)||(!((q4==false)&&(q3==true))))&&(((Option.isSome q2)||(!((q1==false)&&(q0==true))))&&true))
 let q7:=((q6||(!((M.aa.Kind t)==(12:Int))))&&(q6||((M.aa.Kind t)==(12:Int))))
 let q8:=((q7||(!((M.aa.Kind t)==(22:Int))))&&(q7||((M.aa.Kind t)==(22:Int))))
 bif q8 then
 some (((decide ((1:Int)<=(M.aa.Kind t)))&&(decide ((M.aa.Kind t)<=(23:Int))))&&(((List.length (M.aa.Kids t)):Int)==(0:Int)))
 else
 none
def nD(eK:M.aa->Option (Bool)):Nat->Int->M.aa->Option ((Bool)⊕(Unit))
 |0,_,_=>none
 |fuel+1,i,t=>
 bif(decide (i<((List.length (M.aa.Kids t)):Int)))then
 bif(!(Option.getD (eK (M.aa.re (List.getD (M.aa.Kids t) (Int.toNat i) M.aa.zero))) default))then
 let q0:=((Option.isSome (eK (M.aa.re (List.getD (M.aa.Kids t) (Int.toNat i) M.aa.zero))))&&((Go.V.inB i (List.length (M.aa.Kids t)))&&true))
 bif q0 then
 some (.inl false)
 else
 none
 else
 let q0:=((Option.isSome (eK (M.aa.re (List.getD (M.aa.Kids t) (Int.toNat i) M.aa.zero))))&&((Go.V.inB i (List.length (M.aa.Kids t)))&&true))
 bif q0 then
 M.nD eK fuel (Go.IntKind.wrap Go.IntKind.i64 (i+(1:Int))) (M.aa.re t)
 else
 none
 else
 some ((.inr (())))
def yZ(eK:M.aa->Option (Bool))(t:M.aa):Option (Bool):=
 let q0:=(M.vP (M.aa.re t))
 bif(!(Option.getD q0 default))then
 bif((Option.isSome q0)&&true)then
 some false
 else
 none
 else
 match(M.nD eK Go.V.ah (0:Int) (M.aa.re t))with
 |none=>none
 |some y1=>
 (match y1 with
 |.inl a2=>
 bif((Option.isSome q0)&&true)then
 some a2
 else
 none
 |.inr b2=>
 bif((Option.isSome q0)&&true)then
 some true
 else
 none)
def nE:Nat->M.aa->Option (Bool)
 |0=>fun _=>none
 |n+1=>yZ (nE n)
def BP:M.aa->Option (Bool):=nE Go.V.ah
def qY(eP:M.aa->Int->Option (Int))(levels:Int)(t11:(List M.aa))(t12:Int):Nat->Int->Int->Option (Int)
 |0,_,_=>none
 |fuel+1,depth,t13=>
 bif(decide (t13<t12))then
 bif((Option.isSome (eP (M.aa.re (List.getD t11 (Int.toNat t13) M.aa.zero)) (Go.IntKind.wrap Go.IntKind.i64 (levels-(1:Int)))))&&((Go.V.inB t13 (List.length t11))&&true))then
 let q0:=(Option.getD (eP (M.aa.re (List.getD t11 (Int.toNat t13) M.aa.zero)) (Go.IntKind.wrap Go.IntKind.i64 (levels-(1:Int)))) default)
 M.qY eP levels t11 t12 fuel (bif(decide (depth<q0))then q0 else depth) (Go.IntKind.wrap Go.IntKind.i64 (t13+(1:Int)))
 else
 none
 else
 some (depth)
def y4(eP:M.aa->Int->Option (Int))(t:M.aa)(levels:Int):Option (Int):=
 bif(levels==(0:Int))then
 some (1:Int)
 else
 match(M.qY eP levels (M.aa.Kids t) ((List.length (M.aa.Kids t)):Int) Go.V.ah (0:Int) (0:Int))with
 |none=>none
 |some y0=>
 some (Go.IntKind.wrap Go.IntKind.i64 (y0+(1:Int)))
def qZ:Nat->M.aa->Int->Option (Int)
 |0=>fun _ _=>none
 |n+1=>y4 (qZ n)
def BR:M.aa->Int->Option (Int):=qZ Go.V.ah
def rf(eQ:M.aa->Option (Int))(t7:(List M.aa))(t8:Int):Nat->Int->Int->Option (Int)
 |0,_,_=>none
 |fuel+1,many,t9=>
 bif(decide (t9<t8))then
 bif((Option.isSome (eQ (M.aa.re (List.getD t7 (Int.toNat t9) M.aa.zero))))&&((Go.V.inB t9 (List.length t7))&&true))then
 M.rf eQ t7 t8 fuel (Go.IntKind.wrap Go.IntKind.i64 (many+(Option.getD (eQ (M.aa.re (List.getD t7 (Int.toNat t9) M.aa.zero))) default))) (Go.IntKind.wrap Go.IntKind.i64 (t9+(1:Int)))
 else
 none
 else
 some (many)
def y7(eQ:M.aa->Option (Int))(t:M.aa):Option (Int):=
 match(M.rf eQ (M.aa.Kids t) ((List.length (M.aa.Kids t)):Int) Go.V.ah (1:Int) (0:Int))with
 |none=>none
 |some y0=>
 some y0
def rh:Nat->M.aa->Option (Int)
 |0=>fun _=>none
 |n+1=>y7 (rh n)
def BU:M.aa->Option (Int):=rh Go.V.ah
def vT(cb:M.aa->Option (Bool))(kid:M.aa):Option (Bool):=
 bif((Option.isSome (cb (M.aa.re kid)))&&true)then
 some (!(Option.getD (cb (M.aa.re kid)) default))
 else
 none
def tu(cb:M.aa->Option (Bool))(s:(List M.aa))(t7:Int):Nat->Int->Option ((Int)⊕(Unit))
 |0,_=>none
 |fuel+1,t8=>
 bif(decide (t8<t7))then
 let q0:=(M.vT cb (M.aa.re (List.getD s (Int.toNat t8) M.aa.zero)))
 bif(Option.getD q0 default)then
 let q1:=((Option.isSome q0)&&((Go.V.inB t8 (List.length s))&&true))
 bif q1 then
 some (.inl t8)
 else
 none
 else
 let q1:=((Option.isSome q0)&&((Go.V.inB t8 (List.length s))&&true))
 bif q1 then
 M.tu cb s t7 fuel (Go.IntKind.wrap Go.IntKind.i64 (t8+(1:Int)))
 else
 none
 else
 some ((.inr (())))
def y9(cb:M.aa->Option (Bool))(s:(List M.aa)):Option (Int):=
 match(M.tu cb s ((List.length s):Int) Go.V.ah (0:Int))with
 |none=>none
 |some y0=>
 (match y0 with
 |.inl a1=>
 some a1
 |.inr b1=>
 some (-(1:Int)))
def tw(cb:M.aa->Option (Bool))(s:(List M.aa)):Option (Bool):=
 let q0:=(M.y9 cb s)
 bif((Option.isSome q0)&&true)then
 some (decide ((0:Int)<=(Option.getD q0 default)))
 else
 none
def rj(n:Int)(low:Int)(high:Int):Option (Bool):=
 some ((decide (low<=n))&&(decide (n<=high)))
def vW(list:(List (List UInt8))):Option (Int):=
 some ((List.length list):Int)
def rk(s:(List UInt8))(t7:Int):Nat->Int->Option ((Bool)⊕((List UInt8)))
 |0,_=>none
 |fuel+1,t8=>
 bif(decide (t8<t7))then
 bif((decide ((97:Int)<=((UInt8.toNat (List.getD s (Int.toNat t8) (0:UInt8))):Int)))&&(decide (((UInt8.toNat (List.getD s (Int.toNat t8) (0:UInt8))):Int)<=(122:Int))))then
 let q0:=(((Go.V.inB t8 (List.length s))||(!((decide ((48:Int)<=((UInt8.toNat (List.getD s (Int.toNat t8) (0:UInt8))):Int)))==true)))&&((Go.V.inB t8 (List.length s))&&(((Go.V.inB t8 (List.length s))||(!((decide ((97:Int)<=((UInt8.toNat (List.getD s (Int.toNat t8) (0:UInt8))):Int)))==true)))&&((Go.V.inB t8 (List.length s))&&true))))
 bif q0 then
 M.rk s t7 fuel (Go.IntKind.wrap Go.IntKind.i64 (t8+(1:Int)))
 else
 none
 else
 let q0:=(!((decide ((48:Int)<=((UInt8.toNat (List.getD s (Int.toNat t8) (0:UInt8))):Int)))&&(decide (((UInt8.toNat (List.getD s (Int.toNat t8) (0:UInt8))):Int)<=(57:Int)))))
 bif((t8==(0:Int))||(q0&&(((UInt8.toNat (List.getD s (Int.toNat t8) (0:UInt8))):Int) !=(45:Int))))then
 let q1:=(((Go.V.inB t8 (List.length s))||(!((decide ((48:Int)<=((UInt8.toNat (List.getD s (Int.toNat t8) (0:UInt8))):Int)))==true)))&&((Go.V.inB t8 (List.length s))&&(((Go.V.inB t8 (List.length s))||(!((decide ((97:Int)<=((UInt8.toNat (List.getD s (Int.toNat t8) (0:UInt8))):Int)))==true)))&&((Go.V.inB t8 (List.length s))&&true))))
 let q2:=(((Go.V.inB t8 (List.length s))||(!(((t8==(0:Int))==false)&&(q0==true))))&&q1)
 bif q2 then
 some (.inl false)
 else
 none
 else
 let q1:=(((UInt8.toNat (List.getD s (Int.toNat t8) (0:UInt8))):Int)==(45:Int))
 bif(q1&&(((UInt8.toNat (List.getD s (Int.toNat (Go.IntKind.wrap Go.IntKind.i64 (t8-(1:Int)))) (0:UInt8))):Int)==(45:Int)))then
 let q2:=(((Go.V.inB t8 (List.length s))||(!((decide ((48:Int)<=((UInt8.toNat (List.getD s (Int.toNat t8) (0:UInt8))):Int)))==true)))&&((Go.V.inB t8 (List.length s))&&(((Go.V.inB t8 (List.length s))||(!((decide ((97:Int)<=((UInt8.toNat (List.getD s (Int.toNat t8) (0:UInt8))):Int)))==true)))&&((Go.V.inB t8 (List.length s))&&true))))
 let q3:=(((Go.V.inB t8 (List.length s))||(!(((t8==(0:Int))==false)&&(q0==true))))&&q2)
 let q4:=(((Go.V.inB (Go.IntKind.wrap Go.IntKind.i64 (t8-(1:Int))) (List.length s))||(!(q1==true)))&&((Go.V.inB t8 (List.length s))&&q3))
 bif q4 then
 some (.inl false)
 else
 none
 else
 let q2:=(((Go.V.inB t8 (List.length s))||(!((decide ((48:Int)<=((UInt8.toNat (List.getD s (Int.toNat t8) (0:UInt8))):Int)))==true)))&&((Go.V.inB t8 (List.length s))&&(((Go.V.inB t8 (List.length s))||(!((decide ((97:Int)<=((UInt8.toNat (List.getD s (Int.toNat t8) (0:UInt8))):Int)))==true)))&&((Go.V.inB t8 (List.length s))&&true))))
 let q3:=(((Go.V.inB t8 (List.length s))||(!(((t8==(0:Int))==false)&&(q0==true))))&&q2)
 let q4:=(((Go.V.inB (Go.IntKind.wrap Go.IntKind.i64 (t8-(1:Int))) (List.length s))||(!(q1==true)))&&((Go.V.inB t8 (List.length s))&&q3))
 bif q4 then
 M.rk s t7 fuel (Go.IntKind.wrap Go.IntKind.i64 (t8+(1:Int)))
 else
 none
 else
 some ((.inr (s)))
def rl(s:(List UInt8)):Option (Bool):=
 match(M.rk s ((List.length s):Int) Go.V.ah (0:Int))with
 |none=>none
 |some y0=>
 (match y0 with
 |.inl a1=>
 some a1
 |.inr b1=>
 let q2:=((decide ((1:Int)<=((List.length b1):Int)))&&(decide (((List.length b1):Int)<=(12:Int))))
 bif(((Go.V.inB (Go.IntKind.wrap Go.IntKind.i64 (((List.length b1):Int)-(1:Int))) (List.length b1))||(!(q2==true)))&&true)then
 some (q2&&(((UInt8.toNat (List.getD b1 (Int.toNat (Go.IntKind.wrap Go.IntKind.i64 (((List.length b1):Int)-(1:Int)))) (0:UInt8))):Int) !=(45:Int)))
 else
 none)
def vX(name:(List UInt8)):Option (Bool):=
 let q0:=(M.rl name)
 bif((Option.isSome q0)&&true)then
 some (!(Option.getD q0 default))
 else
 none
def tz(s:(List (List UInt8)))(t7:Int):Nat->Int->Option ((Int)⊕(Unit))
 |0,_=>none
 |fuel+1,t8=>
 bif(decide (t8<t7))then
 let q0:=(M.vX (List.getD s (Int.toNat t8) []))
 bif(Option.getD q0 default)then
 let q1:=((Option.isSome q0)&&((Go.V.inB t8 (List.length s))&&true))
 bif q1 then
 some (.inl t8)
 else
 none
 else
 let q1:=((Option.isSome q0)&&((Go.V.inB t8 (List.length s))&&true))
 bif q1 then
 M.tz s t7 fuel (Go.IntKind.wrap Go.IntKind.i64 (t8+(1:Int)))
 else
 none
 else
 some ((.inr (())))
def za(s:(List (List UInt8))):Option (Int):=
 match(M.tz s ((List.length s):Int) Go.V.ah (0:Int))with
 |none=>none
 |some y0=>
 (match y0 with
 |.inl a1=>
 some a1
 |.inr b1=>
 some (-(1:Int)))
def vY(s:(List (List UInt8))):Option (Bool):=
 let q0:=(M.za s)
 bif((Option.isSome q0)&&true)then
 some (decide ((0:Int)<=(Option.getD q0 default)))
 else
 none
def vZ(labels:(List (List UInt8))):Option (Bool):=
 let q0:=(M.vY labels)
 let q1:=((decide ((1:Int)<=((List.length labels):Int)))&&(decide (((List.length labels):Int)<=(16:Int))))
 let q2:=(M.rm labels)
 let q3:=(q1&&(Option.getD q2 default))
 bif(((Option.isSome q0)||(!(q3==true)))&&(((Option.isSome q2)||(!(q1==true)))&&true))then
 some (q3&&(!(Option.getD q0 default)))
 else
 none
def zc(list:(List M.aa)):Option (Int):=
 some ((List.length list):Int)
def B5(t:M.aa):Option (Bool):=
 some ((M.aa.Kind t)==(1:Int))
def tA(s:(List M.aa))(t7:Int):Nat->Int->Option ((Int)⊕(Unit))
 |0,_=>none
 |fuel+1,t8=>
 bif(decide (t8<t7))then
 bif((M.aa.Kind (List.getD s (Int.toNat t8) M.aa.zero))==(1:Int))then
 bif((Go.V.inB t8 (List.length s))&&true)then
 some (.inl t8)
 else
 none
 else
 bif((Go.V.inB t8 (List.length s))&&true)then
 M.tA s t7 fuel (Go.IntKind.wrap Go.IntKind.i64 (t8+(1:Int)))
 else
 none
 else
 some ((.inr (())))
def zd(s:(List M.aa)):Option (Int):=
 match(M.tA s ((List.length s):Int) Go.V.ah (0:Int))with
 |none=>none
 |some y0=>
 (match y0 with
 |.inl a1=>
 some a1
 |.inr b1=>
 some (-(1:Int)))
def v7(s:(List M.aa)):Option (Bool):=
 let q0:=(M.zd s)
 bif((Option.isSome q0)&&true)then
 some (decide ((0:Int)<=(Option.getD q0 default)))
 else
 none
def pv(t:M.aa)(many:Int):Option (Bool):=
 let q0:=(M.v7 (M.aa.Kids t))
 bif(((Option.isSome q0)||(!((((List.length (M.aa.Kids t)):Int)==many)==true)))&&true)then
 some ((((List.length (M.aa.Kids t)):Int)==many)&&(!(Option.getD q0 default)))
 else
 none
def tB(s:(List Int))(v:Int)(t7:Int):Nat->Int->Option ((Int)⊕(Unit))
 |0,_=>none
 |fuel+1,t8=>
 bif(decide (t8<t7))then
 bif(v==(List.getD s (Int.toNat t8) (0:Int)))then
 bif((Go.V.inB t8 (List.length s))&&true)then
 some (.inl t8)
 else
 none
 else
 bif((Go.V.inB t8 (List.length s))&&true)then
 M.tB s v t7 fuel (Go.IntKind.wrap Go.IntKind.i64 (t8+(1:Int)))
 else
 none
 else
 some ((.inr (())))
def ze(s:(List Int))(v:Int):Option (Int):=
 match(M.tB s v ((List.length s):Int) Go.V.ah (0:Int))with
 |none=>none
 |some y0=>
 (match y0 with
 |.inl a1=>
 some a1
 |.inr b1=>
 some (-(1:Int)))
def v8(s:(List Int))(v:Int):Option (Bool):=
 let q0:=(M.ze s v)
 bif((Option.isSome q0)&&true)then
 some (decide ((0:Int)<=(Option.getD q0 default)))
 else
 none
def wa(cg:M.aa->(List Int)->Option (Bool))(kid:M.aa)(t1:(List Int)):Option (Bool):=
 bif((Option.isSome (cg (M.aa.re kid) t1))&&true)then
 some (Option.getD (cg (M.aa.re kid) t1) default)
 else
 none
def tC(cg:M.aa->(List Int)->Option (Bool))(s:(List M.aa))(f:(List Int))(t7:Int):Nat->Int->Option ((Int)⊕(Unit))
 |0,_=>none
 |fuel+1,t8=>
 bif(decide (t8<t7))then
 let q0:=(M.wa cg (M.aa.re (List.getD s (Int.toNat t8) M.aa.zero)) f)
 bif(Option.getD q0 default)then
 let q1:=((Option.isSome q0)&&((Go.V.inB t8 (List.length s))&&true))
 bif q1 then
 some (.inl t8)
 else
 none
 else
 let q1:=((Option.isSome q0)&&((Go.V.inB t8 (List.length s))&&true))
 bif q1 then
 M.tC cg s f t7 fuel (Go.IntKind.wrap Go.IntKind.i64 (t8+(1:Int)))
 else
 none
 else
 some ((.inr (())))
def zf(cg:M.aa->(List Int)->Option (Bool))(s:(List M.aa))(f:(List Int)):Option (Int):=
 match(M.tC cg s f ((List.length s):Int) Go.V.ah (0:Int))with
 |none=>none
 |some y0=>
 (match y0 with
 |.inl a1=>
 some a1
 |.inr b1=>
 some (-(1:Int)))
def wb(cg:M.aa->(List Int)->Option (Bool))(s:(List M.aa))(f:(List Int)):Option (Bool):=
 let q0:=(M.zf cg s f)
 bif((Option.isSome q0)&&true)then
 some (decide ((0:Int)<=(Option.getD q0 default)))
 else
 none
def zg(cg:M.aa->(List Int)->Option (Bool))(t:M.aa)(kinds:(List Int)):Option (Bool):=
 let q0:=(M.wb cg (M.aa.Kids t) kinds)
 let q1:=(M.v8 kinds (M.aa.Kind t))
 bif(((Option.isSome q0)||(!((Option.getD q1 default)==false)))&&((Option.isSome q1)&&true))then
 some ((Option.getD q1 default)||(Option.getD q0 default))
 else
 none
def nF:Nat->M.aa->(List Int)->Option (Bool)
 |0=>fun _ _=>none
 |n+1=>zg (nF n)
def tD:M.aa->(List Int)->Option (Bool):=nF Go.V.ah
def wc(cb:M.aa->Option (Bool))(t:M.aa):Option (Bool):=
 let q0:=(M.tw cb (M.aa.Kids t))
 bif(Option.getD q0 default)then
 bif((Option.isSome q0)&&true)then
 some false
 else
 none
 else
 let q1:=((decide ((16:Int)<=(M.aa.Kind t)))&&(decide ((M.aa.Kind t)<=(19:Int))))
 let q2:=(M.vZ (M.aa.bp t))
 let q3:=((q1&&(!(Option.getD q2 default)))||((!q1)&&(decide ((0:Int)<((List.length (M.aa.bp t)):Int)))))
 let q4:=(((M.aa.Kind t)==(20:Int))||((M.aa.Kind t)==(21:Int)))
 let q5:=(M.rl (M.aa.Name t))
 bif((q3||(q4&&(!(Option.getD q5 default))))||((!q4)&&(!((M.aa.Name t)==[]))))then
 let q6:=(((Option.isSome q5)||(!((q3==false)&&(q4==true))))&&(((Option.isSome q2)||(!(q1==true)))&&((Option.isSome q0)&&true)))
 bif q6 then
 some false
 else
 none
 else
 bif(bif((M.aa.Kind t)==(12:Int))then((M.aa.Kind t)==(12:Int))else((M.aa.Kind t)==(13:Int)))then
 let q6:=(M.pv (M.aa.re t) (1:Int))
 let q7:=(((Option.isSome q5)||(!((q3==false)&&(q4==true))))&&(((Option.isSome q2)||(!(q1==true)))&&((Option.isSome q0)&&true)))
 let q8:=((q7||(!((M.aa.Kind t)==(12:Int))))&&(q7||((M.aa.Kind t)==(12:Int))))
 bif((Option.isSome q6)&&q8)then
 some (Option.getD q6 default)
 else
 none
 else
 bif((M.aa.Kind t)==(14:Int))then
 let q6:=(((Option.isSome q5)||(!((q3==false)&&(q4==true))))&&(((Option.isSome q2)||(!(q1==true)))&&((Option.isSome q0)&&true)))
 let q7:=((q6||(!((M.aa.Kind t)==(12:Int))))&&(q6||((M.aa.Kind t)==(12:Int))))
 bif q7 then
 some (((List.length (M.aa.Kids t)):Int)==(2:Int))
 else
 none
 else
 bif((M.aa.Kind t)==(15:Int))then
 let q6:=(M.pv (M.aa.re t) ((List.length (M.aa.Kids t)):Int))
 let q7:=((decide ((1:Int)<=((List.length (M.aa.Kids t)):Int)))&&(decide (((List.length (M.aa.Kids t)):Int)<=(6:Int))))
 let q8:=(((Option.isSome q5)||(!((q3==false)&&(q4==true))))&&(((Option.isSome q2)||(!(q1==true)))&&((Option.isSome q0)&&true)))
 let q9:=((q8||(!((M.aa.Kind t)==(12:Int))))&&(q8||((M.aa.Kind t)==(12:Int))))
 bif(((Option.isSome q6)||(!(q7==true)))&&q9)then
 some (q7&&(Option.getD q6 default))
 else
 none
 else
 bif((M.aa.Kind t)==(16:Int))then
 let q6:=(M.pv (M.aa.re t) ((List.length (M.aa.bp t)):Int))
 let q7:=(((Option.isSome q5)||(!((q3==false)&&(q4==true))))&&(((Option.isSome q2)||(!(q1==true)))&&((Option.isSome q0)&&true)))
 let q8:=((q7||(!((M.aa.Kind t)==(12:Int))))&&(q7||((M.aa.Kind t)==(12:Int))))
 bif((Option.isSome q6)&&q8)then
 some (Option.getD q6 default)
 else
 none
 else
 bif((M.aa.Kind t)==(17:Int))then
 let q6:=(((Option.isSome q5)||(!((q3==false)&&(q4==true))))&&(((Option.isSome q2)||(!(q1==true)))&&((Option.isSome q0)&&true)))
 let q7:=((q6||(!((M.aa.Kind t)==(12:Int))))&&(q6||((M.aa.Kind t)==(12:Int))))
 bif q7 then
 some (((List.length (M.aa.Kids t)):Int)==((List.length (M.aa.bp t)):Int))
 else
 none
 else
 bif(bif((M.aa.Kind t)==(22:Int))then((M.aa.Kind t)==(22:Int))else((M.aa.Kind t)==(23:Int)))then
 let q6:=(M.tD (M.aa.re (List.getD (M.aa.Kids t) (Int.toNat (0:Int)) M.aa.zero)) [(21:Int)])
 let q7:=(!((((List.length (M.aa.Kids t)):Int)==(1:Int))==true))
 let q8:=(((Option.isSome q5)||(!((q3==false)&&(q4==true))))&&(((Option.isSome q2)||(!(q1==true)))&&((Option.isSome q0)&&true)))
 let q9:=((q8||(!((M.aa.Kind t)==(12:Int))))&&(q8||((M.aa.Kind t)==(12:Int))))
 let q10:=((q9||(!((M.aa.Kind t)==(22:Int))))&&(q9||((M.aa.Kind t)==(22:Int))))
 bif(((Option.isSome q6)||q7)&&(((Go.V.inB (0:Int) (List.length (M.aa.Kids t)))||q7)&&q10))then
 some ((((List.length (M.aa.Kids t)):Int)==(1:Int))&&(!(Option.getD q6 default)))
 else
 none
 else
 let q6:=(((Option.isSome q5)||(!((q3==false)&&(q4==true))))&&(((Option.isSome q2)||(!(q1==true)))&&((Option.isSome q0)&&true)))
 let q7:=((q6||(!((M.aa.Kind t)==(12:Int))))&&(q6||((M.aa.Kind t)==(12:Int))))
 let q8:=((q7||(!((M.aa.Kind t)==(22:Int))))&&(q7||((M.aa.Kind t)==(22:Int))))
 bif q8 then
 some (((decide ((1:Int)<=(M.aa.Kind t)))&&(decide ((M.aa.Kind t)<=(23:Int))))&&(((List.length (M.aa.Kids t)):Int)==(0:Int)))
 else
 none
def pw:Nat->M.aa->Option (Bool)
 |0=>fun _=>none
 |n+1=>wc (pw n)
def B9:M.aa->Option (Bool):=pw Go.V.ah
def we(t:M.aa):Option (Bool):=
 let q0:=(M.BP (M.aa.re t))
 let q1:=(M.BJ (M.aa.re t) (1:Int))
 let q2:=((decide ((Option.getD q1 default).1<=(4:Int)))&&(decide ((Option.getD q1 default).2<=(24:Int))))
 bif(((Option.isSome q0)||(!(q2==true)))&&((Option.isSome q1)&&true))then
 some (q2&&(Option.getD q0 default))
 else
 none
def wh(t:M.aa):Option (Bool):=
 let q0:=(M.we (M.aa.re t))
 bif((Option.isSome q0)&&true)then
 some (Option.getD q0 default)
 else
 none
def tG(bz:M.ae->M.aa->Option (Bool))(kids:(List M.ae))(t:M.aa):Option (Bool):=
 bif((M.aa.Kind t)==(1:Int))then
 some (((List.length kids):Int)==(0:Int))
 else
 let q0:=(!((((List.length kids):Int)==(1:Int))==true))
 bif(((Option.isSome (bz (M.ae.re (List.getD kids (Int.toNat (0:Int)) M.ae.zero)) (M.aa.re t)))||q0)&&(((Go.V.inB (0:Int) (List.length kids))||q0)&&true))then
 some ((((List.length kids):Int)==(1:Int))&&(Option.getD (bz (M.ae.re (List.getD kids (Int.toNat (0:Int)) M.ae.zero)) (M.aa.re t)) default))
 else
 none
def nG(bz:M.ae->M.aa->Option (Bool))(kids:(List M.ae)):Nat->Int->M.aa->Option ((Bool)⊕(Unit))
 |0,_,_=>none
 |fuel+1,i,t=>
 bif(decide (i<((List.length kids):Int)))then
 bif(!(Option.getD (bz (M.ae.re (List.getD kids (Int.toNat i) M.ae.zero)) (M.aa.re t)) default))then
 let q0:=((Option.isSome (bz (M.ae.re (List.getD kids (Int.toNat i) M.ae.zero)) (M.aa.re t)))&&((Go.V.inB i (List.length kids))&&true))
 bif q0 then
 some (.inl false)
 else
 none
 else
 let q0:=((Option.isSome (bz (M.ae.re (List.getD kids (Int.toNat i) M.ae.zero)) (M.aa.re t)))&&((Go.V.inB i (List.length kids))&&true))
 bif q0 then
 M.nG bz kids fuel (Go.IntKind.wrap Go.IntKind.i64 (i+(1:Int))) (M.aa.re t)
 else
 none
 else
 some ((.inr (())))
def tH(bz:M.ae->M.aa->Option (Bool))(kids:(List M.ae))(most:Int)(t:M.aa):Option (Bool):=
 bif(decide (most<((List.length kids):Int)))then
 some false
 else
 match(M.nG bz kids Go.V.ah (0:Int) (M.aa.re t))with
 |none=>none
 |some y0=>
 (match y0 with
 |.inl a1=>
 some a1
 |.inr b1=>
 some true)
def jv(n:Int):Option (Bool):=
 some (((decide ((0:Int)<=n))&&(decide (n<=(55295:Int))))||((decide ((57344:Int)<=n))&&(decide (n<=(1114111:Int)))))
def rn(s:(List UInt8))(many:Int):Nat->Int->Int->Option ((List UInt8)×Int×Int)
 |0,_,_=>none
 |fuel+1,n,i=>
 bif(decide (i<many))then
 bif((Go.V.inB i (List.length s))&&true)then
 M.rn s many fuel (Go.V.dQ Go.BinOp.or Go.IntKind.i64 (Go.V.lr Go.IntKind.i64 n (6:Int)) (Go.IntKind.wrap Go.IntKind.i64 (Go.V.dQ Go.BinOp.and Go.IntKind.u8 ((UInt8.toNat (List.getD s (Int.toNat i) (0:UInt8))):Int) (63:Int)))) (Go.IntKind.wrap Go.IntKind.i64 (i+(1:Int)))
 else
 none
 else
 some ((s,many,n))
def px(n:Int):Option ((List UInt8)):=
 bif(decide (n<(128:Int)))then
 bif(((Go.V.fB (Go.IntKind.wrap Go.IntKind.u8 n))&&true)&&true)then
 some (List.map (fun a=>a) [(Go.V.eu (Go.IntKind.wrap Go.IntKind.u8 n))])
 else
 none
 else
 bif(decide (n<(2048:Int)))then
 let q0:=(Go.IntKind.wrap Go.IntKind.u8 (Go.IntKind.wrap Go.IntKind.i64 ((192:Int)+(Go.V.fX Go.IntKind.i64 n (6:Int)))))
 let q1:=(Go.IntKind.wrap Go.IntKind.u8 (Go.IntKind.wrap Go.IntKind.i64 ((128:Int)+(Go.V.dQ Go.BinOp.and Go.IntKind.i64 n (63:Int)))))
 let q2:=((Go.V.fB q1)&&true)
 bif(((Go.V.fB q0)&&q2)&&true)then
 let q3:=[(Go.V.eu q1)]
 some (List.map (fun a=>a) [(Go.V.eu q0),(Go.V.eu q1)])
 else
 none
 else
 bif(decide (n<(65536:Int)))then
 let q0:=(Go.IntKind.wrap Go.IntKind.u8 (Go.IntKind.wrap Go.IntKind.i64 ((224:Int)+(Go.V.fX Go.IntKind.i64 n (12:Int)))))
 let q1:=(Go.IntKind.wrap Go.IntKind.u8 (Go.IntKind.wrap Go.IntKind.i64 ((128:Int)+(Go.V.dQ Go.BinOp.and Go.IntKind.i64 (Go.V.fX Go.IntKind.i64 n (6:Int)) (63:Int)))))
 let q2:=(Go.IntKind.wrap Go.IntKind.u8 (Go.IntKind.wrap Go.IntKind.i64 ((128:Int)+(Go.V.dQ Go.BinOp.and Go.IntKind.i64 n (63:Int)))))
 let q3:=((Go.V.fB q2)&&true)
 let q4:=((Go.V.fB q1)&&q3)
 bif(((Go.V.fB q0)&&q4)&&true)then
 let q5:=[(Go.V.eu q2)]
 let q6:=[(Go.V.eu q1),(Go.V.eu q2)]
 some (List.map (fun a=>a) [(Go.V.eu q0),(Go.V.eu q1),(Go.V.eu q2)])
 else
 none
 else
 let q0:=(Go.IntKind.wrap Go.IntKind.u8 (Go.IntKind.wrap Go.IntKind.i64 ((240:Int)+(Go.V.fX Go.IntKind.i64 n (18:Int)))))
 let q1:=(Go.IntKind.wrap Go.IntKind.u8 (Go.IntKind.wrap Go.IntKind.i64 ((128:Int)+(Go.V.dQ Go.BinOp.and Go.IntKind.i64 (Go.V.fX Go.IntKind.i64 n (12:Int)) (63:Int)))))
 let q2:=(Go.IntKind.wrap Go.IntKind.u8 (Go.IntKind.wrap Go.IntKind.i64 ((128:Int)+(Go.V.dQ Go.BinOp.and Go.IntKind.i64 (Go.V.fX Go.IntKind.i64 n (6:Int)) (63:Int)))))
 let q3:=(Go.IntKind.wrap Go.IntKind.u8 (Go.IntKind.wrap Go.IntKind.i64 ((128:Int)+(Go.V.dQ Go.BinOp.and Go.IntKind.i64 n (63:Int)))))
 let q4:=((Go.V.fB q3)&&true)
 let q5:=((Go.V.fB q2)&&q4)
 bif(((Go.V.fB q0)&&((Go.V.fB q1)&&q5))&&true)then
 let q6:=[(Go.V.eu q3)]
 let q7:=[(Go.V.eu q2),(Go.V.eu q3)]
 some (List.map (fun a=>a) [(Go.V.eu q0),(Go.V.eu q1),(Go.V.eu q2),(Go.V.eu q3)])
 else
 none
def wi(s:(List UInt8)):Option (Int×Int):=
 bif(s==[])then
 some ((0:Int),(0:Int))
 else
 let q0:=(bif(decide ((240:Int)<=((UInt8.toNat (List.getD s (Int.toNat (0:Int)) (0:UInt8))):Int)))then(4:Int)else(bif(decide ((224:Int)<=((UInt8.toNat (List.getD s (Int.toNat (0:Int)) (0:UInt8))):Int)))then(3:Int)else(bif(decide ((192:Int)<=((UInt8.toNat (List.getD s (Int.toNat (0:Int)) (0:UInt8))):Int)))then(2:Int)else(1:Int))))
 bif(decide (((List.length s):Int)<q0))then
 let q1:=((Go.V.inB (0:Int) (List.length s))&&((Go.V.inB (0:Int) (List.length s))&&((Go.V.inB (0:Int) (List.length s))&&true)))
 let q2:=((Go.V.inB (0:Int) (List.length s))&&q1)
 let q3:=((q1||(!(decide ((240:Int)<=((UInt8.toNat (List.getD s (Int.toNat (0:Int)) (0:UInt8))):Int)))))&&(((q2||(!(decide ((224:Int)<=((UInt8.toNat (List.getD s (Int.toNat (0:Int)) (0:UInt8))):Int)))))&&(((((Go.V.inB (0:Int) (List.length s))&&q2)||(!(decide ((192:Int)<=((UInt8.toNat (List.getD s (Int.toNat (0:Int)) (0:UInt8))):Int)))))&&(q2||(decide ((192:Int)<=((UInt8.toNat (List.getD s (Int.toNat (0:Int)) (0:UInt8))):Int)))))||(decide ((224:Int)<=((UInt8.toNat (List.getD s (Int.toNat (0:Int)) (0:UInt8))):Int)))))||(decide ((240:Int)<=((UInt8.toNat (List.getD s (Int.toNat (0:Int)) (0:UInt8))):Int)))))
 bif q3 then
 some ((0:Int),(0:Int))
 else
 none
 else
 let q1:=(Go.IntKind.wrap Go.IntKind.i64 ((UInt8.toNat (List.getD s (Int.toNat (0:Int)) (0:UInt8))):Int))
 match(M.rn s q0 Go.V.ah (bif(decide ((240:Int)<=((UInt8.toNat (List.getD s (Int.toNat (0:Int)) (0:UInt8))):Int)))then(Go.IntKind.wrap Go.IntKind.i64 (q1-(240:Int)))else(bif(decide ((224:Int)<=((UInt8.toNat (List.getD s (Int.toNat (0:Int)) (0:UInt8))):Int)))then(Go.IntKind.wrap Go.IntKind.i64 (q1-(224:Int)))else(bif(decide ((192:Int)<=((UInt8.toNat (List.getD s (Int.toNat (0:Int)) (0:UInt8))):Int)))then(Go.IntKind.wrap Go.IntKind.i64 (q1-(192:Int)))else q1))) (1:Int))with
 |none=>none
 |some y2=>
 let q3:=(M.jv y2.2.2)
 let q4:=(!(Option.getD q3 default))
 let q5:=(M.px y2.2.2)
 bif(q4||(!((Option.getD q5 default)==(List.drop (Int.toNat (0:Int)) (List.take (Int.toNat y2.2.1) y2.1)))))then
 let q6:=(!(q4==false))
 let q7:=((Go.V.inB (0:Int) (List.length s))&&((Go.V.inB (0:Int) (List.length s))&&((Go.V.inB (0:Int) (List.length s))&&true)))
 let q8:=((Go.V.inB (0:Int) (List.length s))&&q7)
 let q9:=((q7||(!(decide ((240:Int)<=((UInt8.toNat (List.getD s (Int.toNat (0:Int)) (0:UInt8))):Int)))))&&(((q8||(!(decide ((224:Int)<=((UInt8.toNat (List.getD s (Int.toNat (0:Int)) (0:UInt8))):Int)))))&&(((((Go.V.inB (0:Int) (List.length s))&&q8)||(!(decide ((192:Int)<=((UInt8.toNat (List.getD s (Int.toNat (0:Int)) (0:UInt8))):Int)))))&&(q8||(decide ((192:Int)<=((UInt8.toNat (List.getD s (Int.toNat (0:Int)) (0:UInt8))):Int)))))||(decide ((224:Int)<=((UInt8.toNat (List.getD s (Int.toNat (0:Int)) (0:UInt8))):Int)))))||(decide ((240:Int)<=((UInt8.toNat (List.getD s (Int.toNat (0:Int)) (0:UInt8))):Int)))))
 let q10:=(((Go.V.bK (0:Int) y2.2.1 (List.length y2.1))||q6)&&(((Option.isSome q5)||q6)&&((Option.isSome q3)&&q9)))
 bif q10 then
 some ((0:Int),(0:Int))
 else
 none
 else
 let q6:=(!(q4==false))
 let q7:=((Go.V.inB (0:Int) (List.length s))&&((Go.V.inB (0:Int) (List.length s))&&((Go.V.inB (0:Int) (List.length s))&&true)))
 let q8:=((Go.V.inB (0:Int) (List.length s))&&q7)
 let q9:=((q7||(!(decide ((240:Int)<=((UInt8.toNat (List.getD s (Int.toNat (0:Int)) (0:UInt8))):Int)))))&&(((q8||(!(decide ((224:Int)<=((UInt8.toNat (List.getD s (Int.toNat (0:Int)) (0:UInt8))):Int)))))&&(((((Go.V.inB (0:Int) (List.length s))&&q8)||(!(decide ((192:Int)<=((UInt8.toNat (List.getD s (Int.toNat (0:Int)) (0:UInt8))):Int)))))&&(q8||(decide ((192:Int)<=((UInt8.toNat (List.getD s (Int.toNat (0:Int)) (0:UInt8))):Int)))))||(decide ((224:Int)<=((UInt8.toNat (List.getD s (Int.toNat (0:Int)) (0:UInt8))):Int)))))||(decide ((240:Int)<=((UInt8.toNat (List.getD s (Int.toNat (0:Int)) (0:UInt8))):Int)))))
 let q10:=(((Go.V.bK (0:Int) y2.2.1 (List.length y2.1))||q6)&&(((Option.isSome q5)||q6)&&((Option.isSome q3)&&q9)))
 bif q10 then
 some (y2.2.2,y2.2.1)
 else
 none
def py:Nat->(List UInt8)->(List Int)->Option ((Bool×(List Int))⊕((List Int)))
 |0,_,_=>none
 |fuel+1,s,out=>
 bif(decide ((0:Int)<((List.length s):Int)))then
 let q0:=(M.wi s)
 bif((Option.getD q0 default).2==(0:Int))then
 bif((Option.isSome q0)&&true)then
 some (.inl (false,[]))
 else
 none
 else
 let q1:=[(Option.getD q0 default).1]
 bif((Go.V.bK (Option.getD q0 default).2 ((List.length s):Int) (List.length s))&&((decide (((List.length out)+(List.length q1))<=1073741824))&&((Option.isSome q0)&&true)))then
 M.py fuel (List.drop (Int.toNat (Option.getD q0 default).2) (List.take (Int.toNat ((List.length s):Int)) s)) (out++q1)
 else
 none
 else
 some ((.inr (out)))
def nH(s:(List UInt8)):Option ((List Int)×Bool):=
 match(M.py Go.V.ah s [])with
 |none=>none
 |some y0=>
 (match y0 with
 |.inl a1=>
 some (a1.2,a1.1)
 |.inr b1=>
 some (b1,true))
def wj(s:(List UInt8)):Option (Bool):=
 bif(decide ((24:Int)<((List.length s):Int)))then
 some false
 else
 let q0:=(M.nH s)
 bif((Option.isSome q0)&&true)then
 some (Option.getD q0 default).2
 else
 none
def nI(bz:M.ae->M.aa->Option (Bool))(kids:(List M.ae))(ts:(List M.aa)):Nat->Int->Option ((Bool)⊕(Unit))
 |0,_=>none
 |fuel+1,i=>
 bif(decide (i<((List.length kids):Int)))then
 bif(!(Option.getD (bz (M.ae.re (List.getD kids (Int.toNat i) M.ae.zero)) (M.aa.re (List.getD ts (Int.toNat i) M.aa.zero))) default))then
 let q0:=((Option.isSome (bz (M.ae.re (List.getD kids (Int.toNat i) M.ae.zero)) (M.aa.re (List.getD ts (Int.toNat i) M.aa.zero))))&&((Go.V.inB i (List.length ts))&&((Go.V.inB i (List.length kids))&&true)))
 bif q0 then
 some (.inl false)
 else
 none
 else
 let q0:=((Option.isSome (bz (M.ae.re (List.getD kids (Int.toNat i) M.ae.zero)) (M.aa.re (List.getD ts (Int.toNat i) M.aa.zero))))&&((Go.V.inB i (List.length ts))&&((Go.V.inB i (List.length kids))&&true)))
 bif q0 then
 M.nI bz kids ts fuel (Go.IntKind.wrap Go.IntKind.i64 (i+(1:Int)))
 else
 none
 else
 some ((.inr (())))
def wk(bz:M.ae->M.aa->Option (Bool))(kids:(List M.ae))(ts:(List M.aa)):Option (Bool):=
 bif(((List.length kids):Int) !=((List.length ts):Int))then
 some false
 else
 match(M.nI bz kids ts Go.V.ah (0:Int))with
 |none=>none
 |some y0=>
 (match y0 with
 |.inl a1=>
 some a1
 |.inr b1=>
 some true)
def zh(kind:Int):Option (Int×Int×Bool):=
 bif(kind==(3:Int))then
 some ((0:Int),(255:Int),true)
 else
 bif(kind==(4:Int))then
 some ((-(128:Int)),(127:Int),true)
 else
 bif(kind==(5:Int))then
 some ((0:Int),(65535:Int),true)
 else
 bif(kind==(6:Int))then
 some ((-(32768:Int)),(32767:Int),true)
 else
 bif(kind==(7:Int))then
 some ((0:Int),(4294967295:Int),true)
 else
 bif(kind==(8:Int))then
 some ((-(2147483648:Int)),(2147483647:Int),true)
 else
 bif(kind==(9:Int))then
 some ((-(9223372036854775808:Int)),(9223372036854775807:Int),true)
 else
 some ((0:Int),(0:Int),false)
def pz(bz:M.ae->M.aa->Option (Bool))(v:M.ae)(t:M.aa):Option (Bool):=
 bif(((M.ae.Kind v) !=(M.aa.Kind t))||(((M.aa.Kind t) !=(11:Int))&&(!((M.ae.Text v)==[]))))then
 some false
 else
 bif(bif((M.aa.Kind t)==(2:Int))then((M.aa.Kind t)==(2:Int))else((M.aa.Kind t)==(14:Int)))then
 bif(!((decide ((0:Int)<=(M.ae.Num v)))&&(decide ((M.ae.Num v)<=(1:Int)))))then
 some false
 else
 let q0:=(((M.aa.Kind t)==(14:Int))||((M.aa.Kind t)==(17:Int)))
 bif q0 then
 let q1:=(M.tG bz (M.ae.Kids v) (M.aa.re (List.getD (M.aa.Kids t) (Int.toNat (M.ae.Num v)) M.aa.zero)))
 let q2:=(Option.isSome q1)
 bif(q2&&((Go.V.inB (M.ae.Num v) (List.length (M.aa.Kids t)))&&true))then
 let q3:=(Option.getD q1 default)
 some q3
 else
 none
 else
 some (((List.length (M.ae.Kids v)):Int)==(0:Int))
 else
 bif((M.aa.Kind t)==(13:Int))then
 let q0:=(M.tH bz (M.ae.Kids v) (1:Int) (M.aa.re (List.getD (M.aa.Kids t) (Int.toNat (0:Int)) M.aa.zero)))
 let q1:=(!(((M.ae.Num v)==((List.length (M.ae.Kids v)):Int))==true))
 bif(((Option.isSome q0)||q1)&&(((Go.V.inB (0:Int) (List.length (M.aa.Kids t)))||q1)&&true))then
 some (((M.ae.Num v)==((List.length (M.ae.Kids v)):Int))&&(Option.getD q0 default))
 else
 none
 else
 bif((M.aa.Kind t)==(10:Int))then
 some ((Option.getD (M.jv (M.ae.Num v)) default)&&(((List.length (M.ae.Kids v)):Int)==(0:Int)))
 else
 bif((M.aa.Kind t)==(11:Int))then
 let q0:=(M.wj (M.ae.Text v))
 bif((Option.isSome q0)&&true)then
 some (((Option.getD q0 default)&&((M.ae.Num v)==(0:Int)))&&(((List.length (M.ae.Kids v)):Int)==(0:Int)))
 else
 none
 else
 bif((M.aa.Kind t)==(12:Int))then
 let q0:=(M.tH bz (M.ae.Kids v) (8:Int) (M.aa.re (List.getD (M.aa.Kids t) (Int.toNat (0:Int)) M.aa.zero)))
 let q1:=(!(((M.ae.Num v)==(0:Int))==true))
 bif(((Option.isSome q0)||q1)&&(((Go.V.inB (0:Int) (List.length (M.aa.Kids t)))||q1)&&true))then
 some (((M.ae.Num v)==(0:Int))&&(Option.getD q0 default))
 else
 none
 else
 bif(bif((M.aa.Kind t)==(15:Int))then((M.aa.Kind t)==(15:Int))else((M.aa.Kind t)==(16:Int)))then
 let q0:=(M.wk bz (M.ae.Kids v) (M.aa.Kids t))
 let q1:=(!(((M.ae.Num v)==(0:Int))==true))
 bif(((Option.isSome q0)||q1)&&true)then
 some (((M.ae.Num v)==(0:Int))&&(Option.getD q0 default))
 else
 none
 else
 let q0:=(bif((M.aa.Kind t)==(17:Int))then((M.aa.Kind t)==(17:Int))else((M.aa.Kind t)==(18:Int)))
 let q1:=(bif((M.aa.Kind t)==(20:Int))then((M.aa.Kind t)==(20:Int))else(bif((M.aa.Kind t)==(21:Int))then((M.aa.Kind t)==(21:Int))else(bif((M.aa.Kind t)==(22:Int))then((M.aa.Kind t)==(22:Int))else((M.aa.Kind t)==(23:Int)))))
 let q2:=(M.zh (M.aa.Kind t))
 bif(!((decide ((bif q0 then(0:Int)else(bif((M.aa.Kind t)==(19:Int))then(0:Int)else(bif q1 then(0:Int)else(Option.getD q2 default).1)))<=(M.ae.Num v)))&&(decide ((M.ae.Num v)<=(bif q0 then(Go.IntKind.wrap Go.IntKind.i64 (((List.length (M.aa.bp t)):Int)-(1:Int)))else(bif((M.aa.Kind t)==(19:Int))then(Go.IntKind.wrap Go.IntKind.i64 ((Go.V.lr Go.IntKind.i64 (1:Int) (Go.IntKind.wrap Go.IntKind.u64 ((List.length (M.aa.bp t)):Int)))-(1:Int)))else(bif q1 then(2147483647:Int)else(Option.getD q2 default).2.1)))))))then
 let q3:=(((((Option.isSome q2)&&true)||q1)||((M.aa.Kind t)==(19:Int)))||q0)
 bif q3 then
 some false
 else
 none
 else
 let q3:=(((M.aa.Kind t)==(14:Int))||((M.aa.Kind t)==(17:Int)))
 bif q3 then
 let q4:=(M.tG bz (M.ae.Kids v) (M.aa.re (List.getD (M.aa.Kids t) (Int.toNat (M.ae.Num v)) M.aa.zero)))
 let q5:=(Option.isSome q4)
 let q6:=(((((Option.isSome q2)&&true)||q1)||((M.aa.Kind t)==(19:Int)))||q0)
 bif(q5&&((Go.V.inB (M.ae.Num v) (List.length (M.aa.Kids t)))&&q6))then
 let q7:=(Option.getD q4 default)
 some q7
 else
 none
 else
 let q4:=(((((Option.isSome q2)&&true)||q1)||((M.aa.Kind t)==(19:Int)))||q0)
 bif q4 then
 some (((List.length (M.ae.Kids v)):Int)==(0:Int))
 else
 none
def tI:Nat->M.ae->M.aa->Option (Bool)
 |0=>fun _ _=>none
 |n+1=>pz (tI n)
def Cj:M.ae->M.aa->Option (Bool):=tI Go.V.ah
def rq(v:M.ae)(t:M.aa):Option (Bool):=
 let q0:=(M.Cj (M.ae.re v) (M.aa.re t))
 let q1:=(M.wh (M.aa.re t))
 bif(((Option.isSome q0)||(!((Option.getD q1 default)==true)))&&((Option.isSome q1)&&true))then
 some ((Option.getD q1 default)&&(Option.getD q0 default))
 else
 none
def wo(t:M.aa):Option (Bool):=
 let q0:=(M.B9 (M.aa.re t))
 let q1:=(M.BR (M.aa.re t) (4:Int))
 let q2:=(M.BU (M.aa.re t))
 let q3:=((decide ((Option.getD q1 default)<=(4:Int)))&&(decide ((Option.getD q2 default)<=(24:Int))))
 bif(((Option.isSome q0)||(!(q3==true)))&&(((Option.isSome q2)||(!((decide ((Option.getD q1 default)<=(4:Int)))==true)))&&((Option.isSome q1)&&true)))then
 some (q3&&(Option.getD q0 default))
 else
 none
def CB(list:(List M.ae)):Option (Int):=
 some ((List.length list):Int)
def nJ(kind:Int):Option (Int×Int×Bool):=
 bif(kind==(3:Int))then
 some ((0:Int),(255:Int),true)
 else
 bif(kind==(4:Int))then
 some ((-(128:Int)),(127:Int),true)
 else
 bif(kind==(5:Int))then
 some ((0:Int),(65535:Int),true)
 else
 bif(kind==(6:Int))then
 some ((-(32768:Int)),(32767:Int),true)
 else
 bif(kind==(7:Int))then
 some ((0:Int),(4294967295:Int),true)
 else
 bif(kind==(8:Int))then
 some ((-(2147483648:Int)),(2147483647:Int),true)
 else
 bif(kind==(9:Int))then
 some ((-(9223372036854775808:Int)),(9223372036854775807:Int),true)
 else
 some ((0:Int),(0:Int),false)
def CE(n:Int):Option (Bool):=
 some (((decide ((0:Int)<=n))&&(decide (n<=(55295:Int))))||((decide ((57344:Int)<=n))&&(decide (n<=(1114111:Int)))))
def wq(v:M.ae)(t:M.aa):Option (Bool):=
 bif(bif((M.aa.Kind t)==(2:Int))then((M.aa.Kind t)==(2:Int))else(bif((M.aa.Kind t)==(13:Int))then((M.aa.Kind t)==(13:Int))else((M.aa.Kind t)==(14:Int))))then
 some ((decide ((0:Int)<=(M.ae.Num v)))&&(decide ((M.ae.Num v)<=(1:Int))))
 else
 bif(bif((M.aa.Kind t)==(3:Int))then((M.aa.Kind t)==(3:Int))else(bif((M.aa.Kind t)==(4:Int))then((M.aa.Kind t)==(4:Int))else(bif((M.aa.Kind t)==(5:Int))then((M.aa.Kind t)==(5:Int))else(bif((M.aa.Kind t)==(6:Int))then((M.aa.Kind t)==(6:Int))else(bif((M.aa.Kind t)==(7:Int))then((M.aa.Kind t)==(7:Int))else(bif((M.aa.Kind t)==(8:Int))then((M.aa.Kind t)==(8:Int))else((M.aa.Kind t)==(9:Int))))))))then
 let q0:=(M.nJ (M.aa.Kind t))
 bif((Option.isSome q0)&&true)then
 some ((decide ((Option.getD q0 default).1<=(M.ae.Num v)))&&(decide ((M.ae.Num v)<=(Option.getD q0 default).2.1)))
 else
 none
 else
 bif((M.aa.Kind t)==(10:Int))then
 some (Option.getD (M.CE (M.ae.Num v)) default)
 else
 some ((decide ((0:Int)<=(M.ae.Num v)))&&(decide ((M.ae.Num v)<=(bif(bif((M.aa.Kind t)==(17:Int))then((M.aa.Kind t)==(17:Int))else((M.aa.Kind t)==(18:Int)))then(Go.IntKind.wrap Go.IntKind.i64 (((List.length (M.aa.bp t)):Int)-(1:Int)))else(bif((M.aa.Kind t)==(19:Int))then(Go.IntKind.wrap Go.IntKind.i64 ((Go.V.lr Go.IntKind.i64 (1:Int) ((List.length (M.aa.bp t)):Int))-(1:Int)))else(bif(bif((M.aa.Kind t)==(20:Int))then((M.aa.Kind t)==(20:Int))else(bif((M.aa.Kind t)==(21:Int))then((M.aa.Kind t)==(21:Int))else(bif((M.aa.Kind t)==(22:Int))then((M.aa.Kind t)==(22:Int))else((M.aa.Kind t)==(23:Int)))))then(2147483647:Int)else(0:Int)))))))
def wu(s:(List UInt8)):Option (Bool):=
 let q0:=(M.ru s)
 bif(((Option.isSome q0)||(!((decide (((List.length s):Int)<=(24:Int)))==true)))&&true)then
 some ((decide (((List.length s):Int)<=(24:Int)))&&(Option.getD q0 default))
 else
 none
def k7(t:M.aa)(num:Int):Option (M.aa×Bool):=
 bif((M.aa.Kind t)==(13:Int))then
 bif(num==(0:Int))then
 some ((M.aa.mk (1:Int) [] [] []),true)
 else
 bif(!((decide ((0:Int)<=(Go.IntKind.wrap Go.IntKind.i64 (num-(1:Int)))))&&(decide ((Go.IntKind.wrap Go.IntKind.i64 (num-(1:Int)))<=(Go.IntKind.wrap Go.IntKind.i64 (((List.length (M.aa.Kids t)):Int)-(1:Int)))))))then
 some ((M.aa.mk (0:Int) [] [] []),false)
 else
 bif((Go.V.inB (Go.IntKind.wrap Go.IntKind.i64 (num-(1:Int))) (List.length (M.aa.Kids t)))&&true)then
 some ((M.aa.re (List.getD (M.aa.Kids t) (Int.toNat (Go.IntKind.wrap Go.IntKind.i64 (num-(1:Int)))) M.aa.zero)),true)
 else
 none
 else
 bif(!((decide ((0:Int)<=num))&&(decide (num<=(Go.IntKind.wrap Go.IntKind.i64 (((List.length (M.aa.Kids t)):Int)-(1:Int)))))))then
 some ((M.aa.mk (0:Int) [] [] []),false)
 else
 bif((Go.V.inB num (List.length (M.aa.Kids t)))&&true)then
 some ((M.aa.re (List.getD (M.aa.Kids t) (Int.toNat num) M.aa.zero)),true)
 else
 none
def wv(v:M.ae)(t:M.aa):Option ((List M.aa)×Bool):=
 bif((M.aa.Kind t)==(12:Int))then
 let q0:=(M.rx (M.aa.Kids t) (bif(decide ((8:Int)<((List.length (M.ae.Kids v)):Int)))then(8:Int)else((List.length (M.ae.Kids v)):Int)))
 bif((Option.isSome q0)&&true)then
 some ((Option.getD q0 default),true)
 else
 none
 else
 bif(bif((M.aa.Kind t)==(15:Int))then((M.aa.Kind t)==(15:Int))else((M.aa.Kind t)==(16:Int)))then
 some ((M.aa.Kids t),true)
 else
 bif(bif((M.aa.Kind t)==(13:Int))then((M.aa.Kind t)==(13:Int))else(bif((M.aa.Kind t)==(14:Int))then((M.aa.Kind t)==(14:Int))else((M.aa.Kind t)==(17:Int))))then
 let q0:=(M.k7 (M.aa.re t) (M.ae.Num v))
 bif((M.aa.Kind (Option.getD q0 default).1)==(1:Int))then
 bif((Option.isSome q0)&&true)then
 some ([],(Option.getD q0 default).2)
 else
 none
 else
 bif((Option.isSome q0)&&true)then
 some ([(M.aa.re (Option.getD q0 default).1)],(Option.getD q0 default).2)
 else
 none
 else
 some ([],true)
def nK(eL:M.ae->M.aa->Option (Bool))(kids:(List M.aa))(t53:(List M.ae))(t54:Int):Nat->Int->Option ((Bool)⊕(Unit))
 |0,_=>none
 |fuel+1,t55=>
 bif(decide (t55<t54))then
 bif(!(Option.getD (eL (M.ae.re (List.getD t53 (Int.toNat t55) M.ae.zero)) (M.aa.re (List.getD kids (Int.toNat t55) M.aa.zero))) default))then
 let q0:=((Option.isSome (eL (M.ae.re (List.getD t53 (Int.toNat t55) M.ae.zero)) (M.aa.re (List.getD kids (Int.toNat t55) M.aa.zero))))&&((Go.V.inB t55 (List.length kids))&&((Go.V.inB t55 (List.length t53))&&true)))
 bif q0 then
 some (.inl false)
 else
 none
 else
 let q0:=((Option.isSome (eL (M.ae.re (List.getD t53 (Int.toNat t55) M.ae.zero)) (M.aa.re (List.getD kids (Int.toNat t55) M.aa.zero))))&&((Go.V.inB t55 (List.length kids))&&((Go.V.inB t55 (List.length t53))&&true)))
 bif q0 then
 M.nK eL kids t53 t54 fuel (Go.IntKind.wrap Go.IntKind.i64 (t55+(1:Int)))
 else
 none
 else
 some ((.inr (())))
def zk(eL:M.ae->M.aa->Option (Bool))(v:M.ae)(t:M.aa):Option (Bool):=
 let q0:=(M.wq (M.ae.re v) (M.aa.re t))
 let q1:=((((M.ae.Kind v) !=(M.aa.Kind t))||(!(Option.getD q0 default)))||((!((M.ae.Text v)==[]))&&((M.aa.Kind t) !=(11:Int))))
 let q2:=(M.wu (M.ae.Text v))
 bif(q1||(!(Option.getD q2 default)))then
 let q3:=(((Option.isSome q2)||(!(q1==false)))&&(((Option.isSome q0)||(!(((M.ae.Kind v) !=(M.aa.Kind t))==false)))&&true))
 bif q3 then
 some false
 else
 none
 else
 let q3:=(M.wv (M.ae.re v) (M.aa.re t))
 let q4:=(Option.getD q3 default).1
 bif((!(Option.getD q3 default).2)||(((List.length q4):Int) !=((List.length (M.ae.Kids v)):Int)))then
 let q5:=(((Option.isSome q2)||(!(q1==false)))&&(((Option.isSome q0)||(!(((M.ae.Kind v) !=(M.aa.Kind t))==false)))&&true))
 let q6:=((Option.isSome q3)&&q5)
 bif q6 then
 some false
 else
 none
 else
 match(M.nK eL q4 (M.ae.Kids v) ((List.length (M.ae.Kids v)):Int) Go.V.ah (0:Int))with
 |none=>none
 |some y5=>
 (match y5 with
 |.inl a6=>
 let q7:=(((Option.isSome q2)||(!(q1==false)))&&(((Option.isSome q0)||(!(((M.ae.Kind v) !=(M.aa.Kind t))==false)))&&true))
 let q8:=((Option.isSome q3)&&q7)
 bif q8 then
 some a6
 else
 none
 |.inr b6=>
 let q7:=(((Option.isSome q2)||(!(q1==false)))&&(((Option.isSome q0)||(!(((M.ae.Kind v) !=(M.aa.Kind t))==false)))&&true))
 let q8:=((Option.isSome q3)&&q7)
 bif q8 then
 some true
 else
 none)
def nL:Nat->M.ae->M.aa->Option (Bool)
 |0=>fun _ _=>none
 |n+1=>zk (nL n)
def CH:M.ae->M.aa->Option (Bool):=nL Go.V.ah
def tJ:Nat->Int->(List UInt8)->Option ((List UInt8))
 |0,_,_=>none
 |fuel+1,k,out=>
 bif(decide ((0:Int)<k))then
 let q0:=(Go.IntKind.wrap Go.IntKind.u8 (Go.IntKind.wrap Go.IntKind.i64 ((48:Int)+(Int.tmod k (10:Int)))))
 let q1:=(List.map (fun a=>a) [(Go.V.eu q0)])
 bif(((10:Int) !=(0:Int))&&((Go.V.eA q1 out)&&(((Go.V.fB q0)&&true)&&(((10:Int) !=(0:Int))&&true))))then
 M.tJ fuel (Go.IntKind.wrap Go.IntKind.i64 (Int.tdiv k (10:Int))) (q1++out)
 else
 none
 else
 some (out)
def lW(k:Int):Option ((List UInt8)):=
 bif(decide (k<=(0:Int)))then
 some [(109:UInt8),(48:UInt8)]
 else
 match(M.tJ Go.V.ah k [])with
 |none=>none
 |some y0=>
 bif((Go.V.eA [(109:UInt8)] y0)&&true)then
 some ([(109:UInt8)]++y0)
 else
 none
def tK:Nat->Int->Int->(List (List UInt8))->Option (Int×(List (List UInt8)))
 |0,_,_,_=>none
 |fuel+1,k,i,a=>
 bif(decide (i<((List.length a):Int)))then
 let q0:=(M.lW k)
 bif((Go.V.inB i (List.length a))&&(((Option.isSome q0)&&true)&&true))then
 M.tK fuel (Go.IntKind.wrap Go.IntKind.i64 (k+(1:Int))) (Go.IntKind.wrap Go.IntKind.i64 (i+(1:Int))) (List.set a (Int.toNat i) (Option.getD q0 default))
 else
 none
 else
 some ((k,a))
def ry(k:Int)(a:(List (List UInt8))):Option (Int×(List (List UInt8))):=
 match(M.tK Go.V.ah k (0:Int) a)with
 |none=>none
 |some y0=>
 some (y0.1,y0.2)
def tL(eR:Int->(List M.aa)->Option (Int×(List M.aa))):Nat->Int->Int->(List M.aa)->Option (Int×(List M.aa))
 |0,_,_,_=>none
 |fuel+1,k,i,a=>
 bif(decide (i<((List.length a):Int)))then
 let q0:=(List.set a (Int.toNat i) (M.aa.mk k (M.aa.Name (List.getD a (Int.toNat i) M.aa.zero)) (M.aa.bp (List.getD a (Int.toNat i) M.aa.zero)) (M.aa.Kids (List.getD a (Int.toNat i) M.aa.zero))))
 let q1:=(List.getD q0 (Int.toNat i) M.aa.zero)
 let q2:=(M.lW (Go.IntKind.wrap Go.IntKind.i64 (k+(1:Int))))
 let q3:=(List.set q0 (Int.toNat i) (M.aa.mk (M.aa.Kind q1) (Option.getD q2 default) (M.aa.bp q1) (M.aa.Kids q1)))
 let q4:=(List.getD q3 (Int.toNat i) M.aa.zero)
 let q5:=(M.ry (Go.IntKind.wrap Go.IntKind.i64 ((Go.IntKind.wrap Go.IntKind.i64 (k+(1:Int)))+(1:Int))) (M.aa.bp q4))
 let q6:=(Option.getD q5 default)
 let q7:=(List.set q3 (Int.toNat i) (M.aa.mk (M.aa.Kind q4) (M.aa.Name q4) q6.2 (M.aa.Kids q4)))
 let q8:=(List.getD q7 (Int.toNat i) M.aa.zero)
 bif(((Option.isSome (eR q6.1 (M.aa.Kids q8)))&&true)&&((Go.V.inB i (List.length q7))&&(((Option.isSome q5)&&true)&&((Go.V.inB i (List.length q3))&&((Go.V.inB i (List.length q0))&&(((Option.isSome q2)&&true)&&((Go.V.inB i (List.length a))&&true)))))))then
 let q9:=(Option.getD (eR q6.1 (M.aa.Kids q8)) default)
 M.tL eR fuel q9.1 (Go.IntKind.wrap Go.IntKind.i64 (i+(1:Int))) (List.set q7 (Int.toNat i) (M.aa.mk (M.aa.Kind q8) (M.aa.Name q8) (M.aa.bp q8) q9.2))
 else
 none
 else
 some ((k,a))
def zm(eR:Int->(List M.aa)->Option (Int×(List M.aa)))(k:Int)(a:(List M.aa)):Option (Int×(List M.aa)):=
 match(M.tL eR Go.V.ah k (0:Int) a)with
 |none=>none
 |some y0=>
 some (y0.1,y0.2)
def tM:Nat->Int->(List M.aa)->Option (Int×(List M.aa))
 |0=>fun _ _=>none
 |n+1=>zm (tM n)
def CO:Int->(List M.aa)->Option (Int×(List M.aa)):=tM Go.V.ah
def wA(a:Int)(a2:(List UInt8))(k:Int)(o0:(List (List UInt8)))(o1:(List M.aa)):Option (Int×(List (List UInt8))×(List M.aa)):=
 let q0:=(M.ry k o0)
 let q1:=(M.CO (Option.getD q0 default).1 o1)
 bif(((Option.isSome q1)&&true)&&(((Option.isSome q0)&&true)&&true))then
 let q2:=(Option.getD q1 default)
 some (q2.1,(Option.getD q0 default).2,q2.2)
 else
 none
def tN(eS:Int->(List M.ae)->Option (Int×(List M.ae))):Nat->Int->Int->(List M.ae)->Option (Int×(List M.ae))
 |0,_,_,_=>none
 |fuel+1,k,i,a=>
 bif(decide (i<((List.length a):Int)))then
 let q0:=(Go.IntKind.wrap Go.IntKind.i64 ((Go.IntKind.wrap Go.IntKind.i64 (k+(1:Int)))+(1:Int)))
 let q1:=(List.set a (Int.toNat i) (M.ae.mk k (M.ae.Num (List.getD a (Int.toNat i) M.ae.zero)) (M.ae.Text (List.getD a (Int.toNat i) M.ae.zero)) (M.ae.Kids (List.getD a (Int.toNat i) M.ae.zero))))
 let q2:=(List.getD q1 (Int.toNat i) M.ae.zero)
 let q3:=(List.set q1 (Int.toNat i) (M.ae.mk (M.ae.Kind q2) (Go.IntKind.wrap Go.IntKind.i64 (k+(1:Int))) (M.ae.Text q2) (M.ae.Kids q2)))
 let q4:=(List.getD q3 (Int.toNat i) M.ae.zero)
 let q5:=(M.lW q0)
 let q6:=(List.set q3 (Int.toNat i) (M.ae.mk (M.ae.Kind q4) (M.ae.Num q4) (Option.getD q5 default) (M.ae.Kids q4)))
 let q7:=(List.getD q6 (Int.toNat i) M.ae.zero)
 bif(((Option.isSome (eS (Go.IntKind.wrap Go.IntKind.i64 (q0+(1:Int))) (M.ae.Kids q7)))&&true)&&((Go.V.inB i (List.length q6))&&((Go.V.inB i (List.length q3))&&(((Option.isSome q5)&&true)&&((Go.V.inB i (List.length q1))&&((Go.V.inB i (List.length a))&&true))))))then
 let q8:=(Option.getD (eS (Go.IntKind.wrap Go.IntKind.i64 (q0+(1:Int))) (M.ae.Kids q7)) default)
 M.tN eS fuel q8.1 (Go.IntKind.wrap Go.IntKind.i64 (i+(1:Int))) (List.set q6 (Int.toNat i) (M.ae.mk (M.ae.Kind q7) (M.ae.Num q7) (M.ae.Text q7) q8.2))
 else
 none
 else
 some ((k,a))
def zn(eS:Int->(List M.ae)->Option (Int×(List M.ae)))(k:Int)(a:(List M.ae)):Option (Int×(List M.ae)):=
 match(M.tN eS Go.V.ah k (0:Int) a)with
 |none=>none
 |some y0=>
 some (y0.1,y0.2)
def tO:Nat->Int->(List M.ae)->Option (Int×(List M.ae))
 |0=>fun _ _=>none
 |n+1=>zn (tO n)
def CQ:Int->(List M.ae)->Option (Int×(List M.ae)):=tO Go.V.ah
def tP(df:M.ae->Int->Option (Int))(a:(List M.ae)):Nat->Int->Int->Option ((Int)⊕(Int))
 |0,_,_=>none
 |fuel+1,left,i=>
 bif(decide (i<((List.length a):Int)))then
 let q0:=(Option.getD (df (M.ae.re (List.getD a (Int.toNat i) M.ae.zero)) left) default)
 bif(decide (q0<(0:Int)))then
 let q1:=((Option.isSome (df (M.ae.re (List.getD a (Int.toNat i) M.ae.zero)) left))&&((Go.V.inB i (List.length a))&&true))
 bif q1 then
 some (.inl (-(1:Int)))
 else
 none
 else
 let q1:=((Option.isSome (df (M.ae.re (List.getD a (Int.toNat i) M.ae.zero)) left))&&((Go.V.inB i (List.length a))&&true))
 bif q1 then
 M.tP df a fuel q0 (Go.IntKind.wrap Go.IntKind.i64 (i+(1:Int)))
 else
 none
 else
 some ((.inr (left)))
def wC(df:M.ae->Int->Option (Int))(a:(List M.ae))(left:Int):Option (Int):=
 bif(decide ((Go.IntKind.wrap Go.IntKind.i64 (left-((List.length a):Int)))<(0:Int)))then
 some (-(1:Int))
 else
 match(M.tP df a Go.V.ah (Go.IntKind.wrap Go.IntKind.i64 (left-((List.length a):Int))) (0:Int))with
 |none=>none
 |some y0=>
 (match y0 with
 |.inl a1=>
 some a1
 |.inr b1=>
 some b1)
def zo(df:M.ae->Int->Option (Int))(a:M.ae)(left:Int):Option (Int):=
 bif(decide ((Go.IntKind.wrap Go.IntKind.i64 (left-((List.length (M.ae.Text a)):Int)))<(0:Int)))then
 some (-(1:Int))
 else
 let q0:=(M.wC df (M.ae.Kids a) (Go.IntKind.wrap Go.IntKind.i64 (left-((List.length (M.ae.Text a)):Int))))
 let q1:=(Option.getD q0 default)
 bif(decide (q1<(0:Int)))then
 let q2:=((Option.isSome q0)&&true)
 bif q2 then
 some (-(1:Int))
 else
 none
 else
 let q2:=((Option.isSome q0)&&true)
 bif q2 then
 some q1
 else
 none
def tQ:Nat->M.ae->Int->Option (Int)
 |0=>fun _ _=>none
 |n+1=>zo (tQ n)
def CU:M.ae->Int->Option (Int):=tQ Go.V.ah
def rz(dk:M.ae->Option (Int×Int×(List UInt8)×(List M.ae)))(a:(List M.ae)):Nat->Int->(List M.ae)->Option ((List M.ae))
 |0,_,_=>none
 |fuel+1,i,out=>
 bif(decide (i<((List.length a):Int)))then
 bif((Go.V.inB i (List.length out))&&((Option.isSome (dk (M.ae.re (List.getD a (Int.toNat i) M.ae.zero))))&&((Go.V.inB i (List.length a))&&true)))then
 let q0:=(Option.getD (dk (M.ae.re (List.getD a (Int.toNat i) M.ae.zero))) default)
 let q1:=q0.2
 let q2:=q1.2
 M.rz dk a fuel (Go.IntKind.wrap Go.IntKind.i64 (i+(1:Int))) (List.set out (Int.toNat i) (M.ae.mk q0.1 q1.1 q2.1 q2.2))
 else
 none
 else
 some (out)
def wE(dk:M.ae->Option (Int×Int×(List UInt8)×(List M.ae)))(a:(List M.ae)):Option ((List M.ae)):=
 match(M.rz dk a Go.V.ah (0:Int) (List.replicate (Int.toNat ((List.length a):Int)) (M.ae.mk (0:Int) (0:Int) [] [])))with
 |none=>none
 |some y0=>
 bif(((decide (((List.length a):Int)<=((List.length a):Int)))&&(decide (((List.length a):Int)<=(1073741824:Int))))&&true)then
 some y0
 else
 none
def zp(dk:M.ae->Option (Int×Int×(List UInt8)×(List M.ae)))(a:M.ae):Option (Int×Int×(List UInt8)×(List M.ae)):=
 let q0:=(M.wE dk (M.ae.Kids a))
 bif((Option.isSome q0)&&true)then
 some ((M.ae.Kind a),(M.ae.Num a),(M.ae.Text a),(Option.getD q0 default))
 else
 none
def tR:Nat->M.ae->Option (Int×Int×(List UInt8)×(List M.ae))
 |0=>fun _=>none
 |n+1=>zp (tR n)
def CW:M.ae->Option (Int×Int×(List UInt8)×(List M.ae)):=tR Go.V.ah
def nO(n:Int)(m:M.aB):Nat->Int->Int->Option ((Bool)⊕(Unit))
 |0,_,_=>none
 |fuel+1,last,i=>
 bif(decide (i<((List.length (M.aB.Free m)):Int)))then
 bif((((decide ((M.af.Size (List.getD (M.aB.Free m) (Int.toNat i) M.af.zero))<(1:Int)))||(decide ((M.af.At (List.getD (M.aB.Free m) (Int.toNat i) M.af.zero))<=last)))||(decide (n<(M.af.At (List.getD (M.aB.Free m) (Int.toNat i) M.af.zero)))))||(decide ((Go.IntKind.wrap Go.IntKind.i64 (n-(M.af.At (List.getD (M.aB.Free m) (Int.toNat i) M.af.zero))))<(M.af.Size (List.getD (M.aB.Free m) (Int.toNat i) M.af.zero)))))then
 bif((Go.V.inB i (List.length (M.aB.Free m)))&&true)then
 some (.inl false)
 else
 none
 else
 bif((Go.V.inB i (List.length (M.aB.Free m)))&&true)then
 M.nO n m fuel (Go.IntKind.wrap Go.IntKind.i64 ((M.af.At (List.getD (M.aB.Free m) (Int.toNat i) M.af.zero))+(M.af.Size (List.getD (M.aB.Free m) (Int.toNat i) M.af.zero)))) (Go.IntKind.wrap Go.IntKind.i64 (i+(1:Int)))
 else
 none
 else
 some ((.inr (())))
def wF(m:M.aB):Option (Bool):=
 bif((decide ((4096:Int)<((List.length (M.aB.Bytes m)):Int)))||(decide ((4096:Int)<((List.length (M.aB.Free m)):Int))))then
 some false
 else
 match(M.nO ((List.length (M.aB.Bytes m)):Int) m Go.V.ah (7:Int) (0:Int))with
 |none=>none
 |some y0=>
 (match y0 with
 |.inl a1=>
 some a1
 |.inr b1=>
 some true)
def Hq(enc:Int):Option (Bool):=
 some ((decide ((1:Int)<=enc))&&(decide (enc<=(3:Int))))
def rA(m:M.aB)(enc:Int):Option (Bool):=
 let q0:=(M.wF m)
 bif((Option.isSome q0)&&true)then
 some ((Option.getD q0 default)&&((decide ((1:Int)<=enc))&&(decide (enc<=(3:Int)))))
 else
 none
def wG(kind:Int):Option (Int):=
 bif(bif(kind==(2:Int))then(kind==(2:Int))else(bif(kind==(3:Int))then(kind==(3:Int))else(kind==(4:Int))))then
 some (1:Int)
 else
 bif(bif(kind==(5:Int))then(kind==(5:Int))else(kind==(6:Int)))then
 some (2:Int)
 else
 bif(bif(kind==(7:Int))then(kind==(7:Int))else(bif(kind==(8:Int))then(kind==(8:Int))else(bif(kind==(10:Int))then(kind==(10:Int))else(bif(kind==(20:Int))then(kind==(20:Int))else(bif(kind==(21:Int))then(kind==(21:Int))else(bif(kind==(22:Int))then(kind==(22:Int))else(kind==(23:Int))))))))then
 some (4:Int)
 else
 bif(kind==(9:Int))then
 some (8:Int)
 else
 some (0:Int)
def jR(at_:Int)(align:Int):Option (Int):=
 bif((align !=(0:Int))&&true)then
 some (Go.IntKind.wrap Go.IntKind.i64 ((Go.IntKind.wrap Go.IntKind.i64 (Int.tdiv (Go.IntKind.wrap Go.IntKind.i64 ((Go.IntKind.wrap Go.IntKind.i64 (at_+align))-(1:Int))) align))*align))
 else
 none
def nP(ca:M.aa->Option (Int×Int))(ts:(List M.aa)):Nat->Int->Int->Int->(List Int)->Option (Int×Int×(List Int))
 |0,_,_,_,_=>none
 |fuel+1,at_,align,i,out=>
 bif(decide (i<((List.length ts):Int)))then
 let q0:=(Option.getD (ca (M.aa.re (List.getD ts (Int.toNat i) M.aa.zero))) default)
 let q1:=q0.2
 let q2:=(M.il align q1)
 let q3:=(M.jR at_ q1)
 let q4:=(Option.getD q3 default)
 let q5:=[q4]
 bif((Option.isSome q2)&&((decide (((List.length out)+(List.length q5))<=1073741824))&&((Option.isSome q3)&&((Option.isSome (ca (M.aa.re (List.getD ts (Int.toNat i) M.aa.zero))))&&((Go.V.inB i (List.length ts))&&true)))))then
 M.nP ca ts fuel (Go.IntKind.wrap Go.IntKind.i64 (q4+q0.1)) (Option.getD q2 default) (Go.IntKind.wrap Go.IntKind.i64 (i+(1:Int))) (out++q5)
 else
 none
 else
 some ((at_,align,out))
def pD(ca:M.aa->Option (Int×Int))(ts:(List M.aa)):Option ((List Int)×Int×Int):=
 match(M.nP ca ts Go.V.ah (0:Int) (1:Int) (0:Int) [])with
 |none=>none
 |some y0=>
 let q1:=(M.jR y0.1 y0.2.1)
 bif((Option.isSome q1)&&true)then
 some (y0.2.2,(Option.getD q1 default),y0.2.1)
 else
 none
def iJ(t:M.aa):Option ((List M.aa)):=
 bif((M.aa.Kind t)==(13:Int))then
 bif((Go.V.inB (0:Int) (List.length (M.aa.Kids t)))&&true)then
 some [(M.aa.mk (1:Int) [] [] []),(M.aa.re (List.getD (M.aa.Kids t) (Int.toNat (0:Int)) M.aa.zero))]
 else
 none
 else
 bif(bif((M.aa.Kind t)==(14:Int))then((M.aa.Kind t)==(14:Int))else((M.aa.Kind t)==(17:Int)))then
 some (M.aa.Kids t)
 else
 some []
def nQ(ca:M.aa->Option (Int×Int))(ts:(List M.aa)):Nat->Int->Int->Int->Option (Int×Int)
 |0,_,_,_=>none
 |fuel+1,size,align,i=>
 bif(decide (i<((List.length ts):Int)))then
 let q0:=(Option.getD (ca (M.aa.re (List.getD ts (Int.toNat i) M.aa.zero))) default)
 let q1:=(M.il align q0.2)
 let q2:=(M.il size q0.1)
 bif((Option.isSome q1)&&((Option.isSome q2)&&((Option.isSome (ca (M.aa.re (List.getD ts (Int.toNat i) M.aa.zero))))&&((Go.V.inB i (List.length ts))&&true))))then
 M.nQ ca ts fuel (Option.getD q2 default) (Option.getD q1 default) (Go.IntKind.wrap Go.IntKind.i64 (i+(1:Int)))
 else
 none
 else
 some ((size,align))
def rB(ca:M.aa->Option (Int×Int))(ts:(List M.aa)):Option (Int×Int):=
 match(M.nQ ca ts Go.V.ah (0:Int) (1:Int) (0:Int))with
 |none=>none
 |some y0=>
 some (y0.1,y0.2)
def zr(ca:M.aa->Option (Int×Int))(t:M.aa):Option (Int×Int):=
 let q0:=(M.wG (M.aa.Kind t))
 bif(decide ((0:Int)<(Option.getD q0 default)))then
 bif((Option.isSome q0)&&true)then
 some ((Option.getD q0 default),(Option.getD q0 default))
 else
 none
 else
 bif(bif((M.aa.Kind t)==(11:Int))then((M.aa.Kind t)==(11:Int))else((M.aa.Kind t)==(12:Int)))then
 let q1:=((((Option.isSome q0)&&true)||(!((M.aa.Kind t)==(11:Int))))&&(((Option.isSome q0)&&true)||((M.aa.Kind t)==(11:Int))))
 bif q1 then
 some ((8:Int),(4:Int))
 else
 none
 else
 bif((M.aa.Kind t)==(18:Int))then
 let q1:=((((Option.isSome q0)&&true)||(!((M.aa.Kind t)==(11:Int))))&&(((Option.isSome q0)&&true)||((M.aa.Kind t)==(11:Int))))
 bif q1 then
 some ((1:Int),(1:Int))
 else
 none
 else
 bif((M.aa.Kind t)==(19:Int))then
 bif(decide ((8:Int)<((List.length (M.aa.bp t)):Int)))then
 let q1:=((((Option.isSome q0)&&true)||(!((M.aa.Kind t)==(11:Int))))&&(((Option.isSome q0)&&true)||((M.aa.Kind t)==(11:Int))))
 bif q1 then
 some ((2:Int),(2:Int))
 else
 none
 else
 let q1:=((((Option.isSome q0)&&true)||(!((M.aa.Kind t)==(11:Int))))&&(((Option.isSome q0)&&true)||((M.aa.Kind t)==(11:Int))))
 bif q1 then
 some ((1:Int),(1:Int))
 else
 none
 else
 bif(bif((M.aa.Kind t)==(15:Int))then((M.aa.Kind t)==(15:Int))else((M.aa.Kind t)==(16:Int)))then
 let q1:=(M.pD ca (M.aa.Kids t))
 let q2:=((((Option.isSome q0)&&true)||(!((M.aa.Kind t)==(11:Int))))&&(((Option.isSome q0)&&true)||((M.aa.Kind t)==(11:Int))))
 let q3:=((q2||(!((M.aa.Kind t)==(15:Int))))&&(q2||((M.aa.Kind t)==(15:Int))))
 bif((Option.isSome q1)&&q3)then
 let q4:=(Option.getD q1 default).2
 some (q4.1,q4.2)
 else
 none
 else
 bif(bif((M.aa.Kind t)==(13:Int))then((M.aa.Kind t)==(13:Int))else(bif((M.aa.Kind t)==(14:Int))then((M.aa.Kind t)==(14:Int))else((M.aa.Kind t)==(17:Int))))then
 let q1:=(M.iJ (M.aa.re t))
 let q2:=(M.rB ca (Option.getD q1 default))
 let q3:=(Option.getD q2 default)
 let q4:=q3.2
 let q5:=(M.jR (1:Int) q4)
 let q6:=(M.jR (Go.IntKind.wrap Go.IntKind.i64 ((Option.getD q5 default)+q3.1)) q4)
 let q7:=((((Option.isSome q0)&&true)||(!((M.aa.Kind t)==(11:Int))))&&(((Option.isSome q0)&&true)||((M.aa.Kind t)==(11:Int))))
 let q8:=((q7||(!((M.aa.Kind t)==(15:Int))))&&(q7||((M.aa.Kind t)==(15:Int))))
 let q9:=((q8||(!((M.aa.Kind t)==(13:Int))))&&(((q8||(!((M.aa.Kind t)==(14:Int))))&&(q8||((M.aa.Kind t)==(14:Int))))||((M.aa.Kind t)==(13:Int))))
 bif((Option.isSome q6)&&((Option.isSome q5)&&((Option.isSome q2)&&((Option.isSome q1)&&q9))))then
 some ((Option.getD q6 default),q4)
 else
 none
 else
 let q1:=((((Option.isSome q0)&&true)||(!((M.aa.Kind t)==(11:Int))))&&(((Option.isSome q0)&&true)||((M.aa.Kind t)==(11:Int))))
 let q2:=((q1||(!((M.aa.Kind t)==(15:Int))))&&(q1||((M.aa.Kind t)==(15:Int))))
 let q3:=((q2||(!((M.aa.Kind t)==(13:Int))))&&(((q2||(!((M.aa.Kind t)==(14:Int))))&&(q2||((M.aa.Kind t)==(14:Int))))||((M.aa.Kind t)==(13:Int))))
 bif q3 then
 some ((0:Int),(1:Int))
 else
 none
def pF:Nat->M.aa->Option (Int×Int)
 |0=>fun _=>none
 |n+1=>zr (pF n)
def je:M.aa->Option (Int×Int):=pF Go.V.ah
def wI(m:M.aB)(at_:Int)(n:Int):Option (Bool):=
 some ((((decide ((0:Int)<=n))&&(decide ((0:Int)<=at_)))&&(decide (at_<=((List.length (M.aB.Bytes m)):Int))))&&(decide (n<=(Go.IntKind.wrap Go.IntKind.i64 (((List.length (M.aB.Bytes m)):Int)-at_)))))
def jw(m:M.aB):Option ((List UInt8)×(List M.af)):=
 bif((decide ((0+(List.length (M.aB.Free m)))<=1073741824))&&true)then
 some ((M.aB.Bytes m),([]++(M.aB.Free m)))
 else
 none
def nR(many:Int):Nat->Int->Int->(List UInt8)->Option ((List UInt8))
 |0,_,_,_=>none
 |fuel+1,n,i,b=>
 bif((decide (i<many))&&((decide ((0:Int)<=many))&&(decide (many<=(8:Int)))))then
 let q0:=[(Go.V.eu (Go.IntKind.wrap Go.IntKind.u8 (Go.V.dQ Go.BinOp.and Go.IntKind.i64 n (255:Int))))]
 bif((decide (((List.length b)+(List.length q0))<=1073741824))&&(((Go.V.fB (Go.IntKind.wrap Go.IntKind.u8 (Go.V.dQ Go.BinOp.and Go.IntKind.i64 n (255:Int))))&&true)&&true))then
 M.nR many fuel (Go.V.fX Go.IntKind.i64 n (8:Int)) (Go.IntKind.wrap Go.IntKind.i64 (i+(1:Int))) (b++q0)
 else
 none
 else
 some (b)
def nS(n:Int)(many:Int):Option ((List UInt8)):=
 match(M.nR many Go.V.ah n (0:Int) [])with
 |none=>none
 |some y0=>
 some (List.map (fun a=>a) y0)
def wJ(n:Int):Option ((List UInt8)):=
 bif(decide (n<(65536:Int)))then
 let q0:=(M.nS n (2:Int))
 bif((Option.isSome q0)&&true)then
 some (Option.getD q0 default)
 else
 none
 else
 let q0:=(M.nS (Go.IntKind.wrap Go.IntKind.i64 ((55296:Int)+(Go.V.fX Go.IntKind.i64 (Go.IntKind.wrap Go.IntKind.i64 (n-(65536:Int))) (10:Int)))) (2:Int))
 let q1:=(Option.getD q0 default)
 let q2:=(M.nS (Go.IntKind.wrap Go.IntKind.i64 ((56320:Int)+(Go.V.dQ Go.BinOp.and Go.IntKind.i64 (Go.IntKind.wrap Go.IntKind.i64 (n-(65536:Int))) (1023:Int)))) (2:Int))
 let q3:=(Option.getD q2 default)
 bif((Go.V.eA q1 q3)&&((Option.isSome q2)&&((Option.isSome q0)&&true)))then
 some (q1++q3)
 else
 none
def mH(enc:Int)(points:(List Int)):Nat->(List UInt8)->Int->Option (((List UInt8)×Int)⊕((List UInt8)))
 |0,_,_=>none
 |fuel+1,out,i=>
 bif(decide (i<((List.length points):Int)))then
 bif(enc==(2:Int))then
 let q0:=(M.wJ (List.getD points (Int.toNat i) (0:Int)))
 let q1:=(Option.getD q0 default)
 bif((Go.V.eA out q1)&&((Option.isSome q0)&&((Go.V.inB i (List.length points))&&true)))then
 M.mH enc points fuel (out++q1) (Go.IntKind.wrap Go.IntKind.i64 (i+(1:Int)))
 else
 none
 else
 bif(decide ((255:Int)<(List.getD points (Int.toNat i) (0:Int))))then
 bif((Go.V.inB i (List.length points))&&true)then
 some (.inl ([],(19:Int)))
 else
 none
 else
 let q0:=(List.map (fun a=>a) [(Go.V.eu (Go.IntKind.wrap Go.IntKind.u8 (List.getD points (Int.toNat i) (0:Int))))])
 bif((Go.V.eA out q0)&&(((Go.V.fB (Go.IntKind.wrap Go.IntKind.u8 (List.getD points (Int.toNat i) (0:Int))))&&true)&&((Go.V.inB i (List.length points))&&((Go.V.inB i (List.length points))&&true))))then
 M.mH enc points fuel (out++q0) (Go.IntKind.wrap Go.IntKind.i64 (i+(1:Int)))
 else
 none
 else
 some ((.inr (out)))
def wK(enc:Int)(s:(List UInt8)):Option ((List UInt8)×Int):=
 bif(enc==(1:Int))then
 some (s,(0:Int))
 else
 let q0:=(M.nH s)
 match(M.mH enc (Option.getD q0 default).1 Go.V.ah [] (0:Int))with
 |none=>none
 |some y1=>
 (match y1 with
 |.inl a2=>
 bif((Option.isSome q0)&&true)then
 some (a2.1,a2.2)
 else
 none
 |.inr b2=>
 bif((Option.isSome q0)&&true)then
 some (b2,(0:Int))
 else
 none)
def zw(enc:Int):Option (Int):=
 bif(bif(enc==(1:Int))then(enc==(1:Int))else(enc==(3:Int)))then
 some (1:Int)
 else
 bif(enc==(2:Int))then
 some (2:Int)
 else
 some (0:Int)
def nU(size:Int)(align:Int)(m:M.aB)(t6:(List UInt8))(o3:(List M.af)):Nat->Int->Option ((Int×Int×(List UInt8)×(List M.af))⊕((List UInt8)×(List M.af)))
 |0,_=>none
 |fuel+1,i=>
 bif(decide (i<((List.length (M.aB.Free m)):Int)))then
 let q0:=(M.jR (M.af.At (List.getD (M.aB.Free m) (Int.toNat i) M.af.zero)) align)
 let q1:=(Option.getD q0 default)
 let q2:=(Go.IntKind.wrap Go.IntKind.i64 (q1-(M.af.At (List.getD (M.aB.Free m) (Int.toNat i) M.af.zero))))
 bif((decide ((M.af.Size (List.getD (M.aB.Free m) (Int.toNat i) M.af.zero))<size))||(decide ((Go.IntKind.wrap Go.IntKind.i64 ((M.af.Size (List.getD (M.aB.Free m) (Int.toNat i) M.af.zero))-size))<q2)))then
 let q3:=((Option.isSome q0)&&((Go.V.inB i (List.length (M.aB.Free m)))&&true))
 bif q3 then
 M.nU size align m t6 o3 fuel (Go.IntKind.wrap Go.IntKind.i64 (i+(1:Int)))
 else
 none
 else
 bif(decide ((M.af.At (List.getD (M.aB.Free m) (Int.toNat i) M.af.zero))<q1))then
 let q3:=(Go.IntKind.wrap Go.IntKind.i64 ((Go.IntKind.wrap Go.IntKind.i64 ((Go.IntKind.wrap Go.IntKind.i64 ((M.af.At (List.getD (M.aB.Free m) (Int.toNat i) M.af.zero))+(M.af.Size (List.getD (M.aB.Free m) (Int.toNat i) M.af.zero))))-q1))-size))
 bif(decide ((0:Int)<q3))then
 let q4:=([]++(List.drop (Int.toNat (0:Int)) (List.take (Int.toNat i) (M.aB.Free m))))
 let q5:=[(M.af.mk (M.af.At (List.getD (M.aB.Free m) (Int.toNat i) M.af.zero)) q2)]
 let q6:=(q4++q5)
 let q7:=[(M.af.mk (Go.IntKind.wrap Go.IntKind.i64 (q1+size)) q3)]
 let q8:=(q6++q7)
 let q9:=(List.drop (Int.toNat (Go.IntKind.wrap Go.IntKind.i64 (i+(1:Int)))) (List.take (Int.toNat ((List.length (M.aB.Free m)):Int)) (M.aB.Free m)))
 let q10:=(List.length q9)
 let q11:=(Go.V.bK (Go.IntKind.wrap Go.IntKind.i64 (i+(1:Int))) ((List.length (M.aB.Free m)):Int) (List.length (M.aB.Free m)))
 let q12:=(List.length q6)
 let q13:=(List.length q7)
 let dL:=(List.length q4)
 let cA:=((Option.isSome q0)&&((Go.V.inB i (List.length (M.aB.Free m)))&&true))
 let q16:=((decide ((0+(List.length (List.drop (Int.toNat (0:Int)) (List.take (Int.toNat i) (M.aB.Free m)))))<=1073741824))&&((Go.V.bK (0:Int) i (List.length (M.aB.Free m)))&&cA))
 let fY:=((decide ((dL+(List.length q5))<=1073741824))&&q16)
 bif((decide (((List.length q8)+q10)<=1073741824))&&(q11&&((decide ((q12+q13)<=1073741824))&&fY)))then
 some (.inl (q1,(0:Int),(M.aB.Bytes m),(q8++q9)))
 else
 none
 else
 let q4:=([]++(List.drop (Int.toNat (0:Int)) (List.take (Int.toNat i) (M.aB.Free m))))
 let q5:=[(M.af.mk (M.af.At (List.getD (M.aB.Free m) (Int.toNat i) M.af.zero)) q2)]
 let q6:=(q4++q5)
 let q7:=(List.length q6)
 let q8:=(List.drop (Int.toNat (Go.IntKind.wrap Go.IntKind.i64 (i+(1:Int)))) (List.take (Int.toNat ((List.length (M.aB.Free m)):Int)) (M.aB.Free m)))
 let q9:=(List.length q8)
 let q10:=(Go.V.bK (Go.IntKind.wrap Go.IntKind.i64 (i+(1:Int))) ((List.length (M.aB.Free m)):Int) (List.length (M.aB.Free m)))
 let q11:=(List.length q4)
 let q12:=((Option.isSome q0)&&((Go.V.inB i (List.length (M.aB.Free m)))&&true))
 let q13:=((decide ((0+(List.length (List.drop (Int.toNat (0:Int)) (List.take (Int.toNat i) (M.aB.Free m)))))<=1073741824))&&((Go.V.bK (0:Int) i (List.length (M.aB.Free m)))&&q12))
 let dL:=((decide ((q11+(List.length q5))<=1073741824))&&q13)
 bif((decide ((q7+q9)<=1073741824))&&(q10&&dL))then
 some (.inl (q1,(0:Int),(M.aB.Bytes m),(q6++q8)))
 else
 none
 else
 let q3:=(Go.IntKind.wrap Go.IntKind.i64 ((Go.IntKind.wrap Go.IntKind.i64 ((Go.IntKind.wrap Go.IntKind.i64 ((M.af.At (List.getD (M.aB.Free m) (Int.toNat i) M.af.zero))+(M.af.Size (List.getD (M.aB.Free m) (Int.toNat i) M.af.zero))))-q1))-size))
 bif(decide ((0:Int)<q3))then
 let q4:=([]++(List.drop (Int.toNat (0:Int)) (List.take (Int.toNat i) (M.aB.Free m))))
 let q5:=[(M.af.mk (Go.IntKind.wrap Go.IntKind.i64 (q1+size)) q3)]
 let q6:=(q4++q5)
 let q7:=(List.drop (Int.toNat (Go.IntKind.wrap Go.IntKind.i64 (i+(1:Int)))) (List.take (Int.toNat ((List.length (M.aB.Free m)):Int)) (M.aB.Free m)))
 let q8:=(List.length q7)
 let q9:=(Go.V.bK (Go.IntKind.wrap Go.IntKind.i64 (i+(1:Int))) ((List.length (M.aB.Free m)):Int) (List.length (M.aB.Free m)))
 let q10:=(List.length q4)
 let q11:=(List.length q5)
 let q12:=((Option.isSome q0)&&((Go.V.inB i (List.length (M.aB.Free m)))&&true))
 let q13:=((decide ((0+(List.length (List.drop (Int.toNat (0:Int)) (List.take (Int.toNat i) (M.aB.Free m)))))<=1073741824))&&((Go.V.bK (0:Int) i (List.length (M.aB.Free m)))&&q12))
 bif((decide (((List.length q6)+q8)<=1073741824))&&(q9&&((decide ((q10+q11)<=1073741824))&&q13)))then
 some (.inl (q1,(0:Int),(M.aB.Bytes m),(q6++q7)))
 else
 none
 else
 let q4:=([]++(List.drop (Int.toNat (0:Int)) (List.take (Int.toNat i) (M.aB.Free m))))
 let q5:=(List.length q4)
 let q6:=(List.drop (Int.toNat (Go.IntKind.wrap Go.IntKind.i64 (i+(1:Int)))) (List.take (Int.toNat ((List.length (M.aB.Free m)):Int)) (M.aB.Free m)))
 let q7:=(List.length q6)
 let q8:=(Go.V.bK (Go.IntKind.wrap Go.IntKind.i64 (i+(1:Int))) ((List.length (M.aB.Free m)):Int) (List.length (M.aB.Free m)))
 let q9:=((Option.isSome q0)&&((Go.V.inB i (List.length (M.aB.Free m)))&&true))
 let q10:=((decide ((0+(List.length (List.drop (Int.toNat (0:Int)) (List.take (Int.toNat i) (M.aB.Free m)))))<=1073741824))&&((Go.V.bK (0:Int) i (List.length (M.aB.Free m)))&&q9))
 bif((decide ((q5+q7)<=1073741824))&&(q8&&q10))then
 some (.inl (q1,(0:Int),(M.aB.Bytes m),(q4++q6)))
 else
 none
 else
 some ((.inr ((t6,o3))))
def wL(m:M.aB)(size:Int)(align:Int):Option ((List UInt8)×Int×Int×(List M.af)):=
 bif(size==(0:Int))then
 let q0:=(M.jw m)
 bif((Option.isSome q0)&&true)then
 some ((Option.getD q0 default).1,(0:Int),(0:Int),(Option.getD q0 default).2)
 else
 none
 else
 match(M.nU size align m [] [] Go.V.ah (0:Int))with
 |none=>none
 |some y0=>
 (match y0 with
 |.inl a1=>
 some (a1.2.2.1,a1.1,a1.2.1,a1.2.2.2)
 |.inr b1=>
 some ([],(0:Int),(4:Int),[]))
def nV(size:Int)(align:Int)(o:(List UInt8))(o2:Int)(o3:Int)(o1:(List M.af)):Option (Int×(List UInt8)×Int×Int×(List M.af)):=
 let q0:=(M.wL (M.aB.mk o o1) size align)
 let q1:=(Option.getD q0 default)
 let q2:=q1.2
 let q3:=q2.2
 let q4:=q3.1
 bif(q4 !=(0:Int))then
 let q5:=((Option.isSome q0)&&true)
 bif q5 then
 some ((0:Int),o,o2,q4,o1)
 else
 none
 else
 let q5:=((Option.isSome q0)&&true)
 bif q5 then
 some (q2.1,q1.1,o2,o3,q3.2)
 else
 none
def rC(m:M.aB)(at_:Int)(bytes:(List UInt8)):Option ((List UInt8)×Int×(List M.af)):=
 let q0:=(M.wI m at_ ((List.length bytes):Int))
 bif(!(Option.getD q0 default))then
 some ([],(10:Int),[])
 else
 let q1:=((List.drop (Int.toNat (0:Int)) (List.take (Int.toNat at_) (M.aB.Bytes m)))++bytes)
 let q2:=(List.drop (Int.toNat (Go.IntKind.wrap Go.IntKind.i64 (at_+((List.length bytes):Int)))) (List.take (Int.toNat ((List.length (M.aB.Bytes m)):Int)) (M.aB.Bytes m)))
 let q3:=(M.jw m)
 bif((Go.V.eA q1 q2)&&((Go.V.bK (Go.IntKind.wrap Go.IntKind.i64 (at_+((List.length bytes):Int))) ((List.length (M.aB.Bytes m)):Int) (List.length (M.aB.Bytes m)))&&((Go.V.eA (List.drop (Int.toNat (0:Int)) (List.take (Int.toNat at_) (M.aB.Bytes m))) bytes)&&((Go.V.bK (0:Int) at_ (List.length (M.aB.Bytes m)))&&((Option.isSome q3)&&((Option.isSome q0)&&true))))))then
 some ((q1++q2),(0:Int),(Option.getD q3 default).2)
 else
 none
def rD(s:(List UInt8))(o:(List UInt8))(o2:Int)(o3:Int)(o1:(List M.af)):Option (Int×Int×(List UInt8)×Int×Int×(List M.af)):=
 let q0:=(M.wK o2 s)
 let q1:=(Option.getD q0 default).2
 bif(q1 !=(0:Int))then
 bif((Option.isSome q0)&&true)then
 some ((0:Int),(0:Int),o,o2,q1,o1)
 else
 none
 else
 let q2:=(Option.getD q0 default).1
 let q3:=(M.zw o2)
 let q4:=(M.nV ((List.length q2):Int) (Option.getD q3 default) o o2 o3 o1)
 let q5:=(Option.getD q4 default)
 let q6:=q5.2
 let q7:=q6.2
 let q8:=q7.2
 let q9:=q8.1
 bif((q9 !=(0:Int))||(q2==[]))then
 let q10:=((Option.isSome q4)&&((Option.isSome q3)&&((Option.isSome q0)&&true)))
 bif q10 then
 let q11:=q5.1
 let q12:=q6.1
 let q13:=q7.1
 let dL:=q8.2
 some (q11,(0:Int),q12,q13,q9,dL)
 else
 none
 else
 let q10:=q6.1
 let q11:=q8.2
 let q12:=q5.1
 let q13:=(M.rC (M.aB.mk q10 q11) q12 q2)
 let dL:=((Option.isSome q4)&&((Option.isSome q3)&&((Option.isSome q0)&&true)))
 bif(((Option.getD q3 default) !=(0:Int))&&((Option.isSome q13)&&dL))then
 let cA:=(Option.getD q13 default)
 let q16:=q7.1
 some (q12,(Go.IntKind.wrap Go.IntKind.i64 (Int.tdiv ((List.length q2):Int) (Option.getD q3 default))),cA.1,q16,q9,cA.2.2)
 else
 none
def lX(bE:M.aa->M.ae->Int->(List UInt8)->Int->Int->(List M.af)->Option ((List UInt8)×Int×Int×(List M.af)))(kids:(List M.ae))(size:Int)(many:Int)(at_:Int):Nat->Int->(List UInt8)->Int->Int->M.aa->(List M.af)->Option (Int×Int×(List UInt8)×Int×Int×(List M.af))
 |0,_,_,_,_,_,_=>none
 |fuel+1,i,o,o2,o3,t,o32=>
 bif((decide (i<many))&&(o3==(0:Int)))then
 bif((Option.isSome (bE (M.aa.re t) (M.ae.re (List.getD kids (Int.toNat i) M.ae.zero)) (Go.IntKind.wrap Go.IntKind.i64 (at_+(Go.IntKind.wrap Go.IntKind.i64 (i*size)))) o o2 o3 o32))&&((Go.V.inB i (List.length kids))&&true))then
 let q0:=(Option.getD (bE (M.aa.re t) (M.ae.re (List.getD kids (Int.toNat i) M.ae.zero)) (Go.IntKind.wrap Go.IntKind.i64 (at_+(Go.IntKind.wrap Go.IntKind.i64 (i*size)))) o o2 o3 o32) default)
 let q1:=q0.2
 let q2:=q1.2
 M.lX bE kids size many at_ fuel (Go.IntKind.wrap Go.IntKind.i64 (i+(1:Int))) q0.1 q1.1 q2.1 (M.aa.re t) q2.2
 else
 none
 else
 some ((many,at_,o,o2,o3,o32))
def tW(bE:M.aa->M.ae->Int->(List UInt8)->Int->Int->(List M.af)->Option ((List UInt8)×Int×Int×(List M.af)))(t:M.aa)(kids:(List M.ae))(o:(List UInt8))(o2:Int)(o3:Int)(o1:(List M.af)):Option (Int×Int×(List UInt8)×Int×Int×(List M.af)):=
 let q0:=(M.je (M.aa.re t))
 let q1:=(M.nV (Go.IntKind.wrap Go.IntKind.i64 (((List.length kids):Int)*(Option.getD q0 default).1)) (Option.getD q0 default).2 o o2 o3 o1)
 let q2:=(Option.getD q1 default)
 let q3:=q2.2
 let q4:=q3.2
 let q5:=q4.2
 match(M.lX bE kids (Option.getD q0 default).1 ((List.length kids):Int) q2.1 Go.V.ah (0:Int) q3.1 q4.1 q5.1 (M.aa.re t) q5.2)with
 |none=>none
 |some y6=>
 bif((Option.isSome q1)&&((Option.isSome q0)&&true))then
 let q7:=y6.2.2
 let q8:=q7.2
 let q9:=q8.2
 some (y6.2.1,y6.1,q7.1,q8.1,q9.1,q9.2)
 else
 none
def rE(bE:M.aa->M.ae->Int->(List UInt8)->Int->Int->(List M.af)->Option ((List UInt8)×Int×Int×(List M.af)))(t:M.aa)(v:M.ae)(o:(List UInt8))(o2:Int)(o3:Int)(o1:(List M.af)):Option (Int×Int×(List UInt8)×Int×Int×(List M.af)):=
 bif((M.aa.Kind t)==(11:Int))then
 let q0:=(M.rD (M.ae.Text v) o o2 o3 o1)
 bif((Option.isSome q0)&&true)then
 let q1:=default
 let q2:=(Option.getD q0 q1)
 let q3:=q2.2
 let q4:=q3.2
 let q5:=q4.2
 let q6:=q5.2
 some (q2.1,q3.1,q4.1,q5.1,q6.1,q6.2)
 else
 none
 else
 let q0:=(M.tW bE (M.aa.re (List.getD (M.aa.Kids t) (Int.toNat (0:Int)) M.aa.zero)) (M.ae.Kids v) o o2 o3 o1)
 bif((Option.isSome q0)&&((Go.V.inB (0:Int) (List.length (M.aa.Kids t)))&&true))then
 let q1:=default
 let q2:=(Option.getD q0 q1)
 let q3:=q2.2
 let q4:=q3.2
 let q5:=q4.2
 let q6:=q5.2
 some (q2.1,q3.1,q4.1,q5.1,q6.1,q6.2)
 else
 none
def mI(at_:Int)(n:Int)(many:Int)(o:(List UInt8))(o2:Int)(o3:Int)(o1:(List M.af)):Option ((List UInt8)×Int×Int×(List M.af)):=
 let q0:=(M.nS n many)
 let q1:=(M.rC (M.aB.mk o o1) at_ (Option.getD q0 default))
 let q2:=(Option.getD q1 default)
 let q3:=q2.2
 bif(q3.1==(0:Int))then
 let q4:=((Option.isSome q1)&&((Option.isSome q0)&&true))
 bif q4 then
 some (q2.1,o2,o3,q3.2)
 else
 none
 else
 let q4:=((Option.isSome q1)&&((Option.isSome q0)&&true))
 bif q4 then
 some (o,o2,o3,o1)
 else
 none
def nW(bE:M.aa->M.ae->Int->(List UInt8)->Int->Int->(List M.af)->Option ((List UInt8)×Int×Int×(List M.af)))(ts:(List M.aa))(vs:(List M.ae))(at_:Int)(places:(List Int)):Nat->Int->(List UInt8)->Int->Int->(List M.af)->Option ((List UInt8)×Int×Int×(List M.af))
 |0,_,_,_,_,_=>none
 |fuel+1,i,o,o2,o3,IM=>
 bif((decide (i<((List.length ts):Int)))&&(o3==(0:Int)))then
 bif((Option.isSome (bE (M.aa.re (List.getD ts (Int.toNat i) M.aa.zero)) (M.ae.re (List.getD vs (Int.toNat i) M.ae.zero)) (Go.IntKind.wrap Go.IntKind.i64 (at_+(List.getD places (Int.toNat i) (0:Int)))) o o2 o3 IM))&&((Go.V.inB i (List.length places))&&((Go.V.inB i (List.length vs))&&((Go.V.inB i (List.length ts))&&true))))then
 let q0:=(Option.getD (bE (M.aa.re (List.getD ts (Int.toNat i) M.aa.zero)) (M.ae.re (List.getD vs (Int.toNat i) M.ae.zero)) (Go.IntKind.wrap Go.IntKind.i64 (at_+(List.getD places (Int.toNat i) (0:Int)))) o o2 o3 IM) default)
 let q1:=q0.2
 let q2:=q1.2
 M.nW bE ts vs at_ places fuel (Go.IntKind.wrap Go.IntKind.i64 (i+(1:Int))) q0.1 q1.1 q2.1 q2.2
 else
 none
 else
 some ((o,o2,o3,IM))
def zy(bE:M.aa->M.ae->Int->(List UInt8)->Int->Int->(List M.af)->Option ((List UInt8)×Int×Int×(List M.af)))(ts:(List M.aa))(vs:(List M.ae))(at_:Int)(o:(List UInt8))(o2:Int)(o3:Int)(o1:(List M.af)):Option ((List UInt8)×Int×Int×(List M.af)):=
 let q0:=(M.pD M.je ts)
 match(M.nW bE ts vs at_ (Option.getD q0 default).1 Go.V.ah (0:Int) o o2 o3 o1)with
 |none=>none
 |some y1=>
 bif((Option.isSome q0)&&true)then
 some (y1.1,y1.2.1,y1.2.2.1,y1.2.2.2)
 else
 none
def wM(t:M.aa):Option (Int):=
 let q0:=(M.iJ (M.aa.re t))
 let q1:=(M.rB M.je (Option.getD q0 default))
 let q2:=(M.jR (1:Int) (Option.getD q1 default).2)
 bif((Option.isSome q2)&&((Option.isSome q1)&&((Option.isSome q0)&&true)))then
 some (Option.getD q2 default)
 else
 none
def zz(bE:M.aa->M.ae->Int->(List UInt8)->Int->Int->(List M.af)->Option ((List UInt8)×Int×Int×(List M.af)))(t:M.aa)(v:M.ae)(at_:Int)(o:(List UInt8))(o2:Int)(o3:Int)(o1:(List M.af)):Option ((List UInt8)×Int×Int×(List M.af)):=
 bif((M.aa.Kind t)==(1:Int))then
 some (o,o2,o3,o1)
 else
 bif(bif((M.aa.Kind t)==(11:Int))then((M.aa.Kind t)==(11:Int))else((M.aa.Kind t)==(12:Int)))then
 let q0:=(M.rE bE (M.aa.re t) (M.ae.re v) o o2 o3 o1)
 let q1:=(Option.getD q0 default)
 let q2:=q1.2
 let q3:=q2.2
 let q4:=q3.2
 let q5:=q4.2
 let q6:=q5.1
 bif(q6==(0:Int))then
 let q7:=q3.1
 let q8:=q4.1
 let q9:=q5.2
 let q10:=(M.mI at_ q1.1 (4:Int) q7 q8 q6 q9)
 let q11:=(Option.getD q10 default)
 let q12:=q11.2
 let q13:=q12.2
 let dL:=(M.mI (Go.IntKind.wrap Go.IntKind.i64 (at_+(4:Int))) q2.1 (4:Int) q11.1 q12.1 q13.1 q13.2)
 let cA:=((Option.isSome q0)&&true)
 bif((Option.isSome dL)&&((Option.isSome q10)&&cA))then
 let q16:=(Option.getD dL default)
 let fY:=q16.2
 let jh:=fY.2
 some (q16.1,fY.1,jh.1,jh.2)
 else
 none
 else
 let q7:=((Option.isSome q0)&&true)
 bif q7 then
 let q8:=q3.1
 let q9:=q4.1
 let q10:=q5.2
 some (q8,q9,q6,q10)
 else
 none
 else
 bif(bif((M.aa.Kind t)==(15:Int))then((M.aa.Kind t)==(15:Int))else((M.aa.Kind t)==(16:Int)))then
 let q0:=(M.zy bE (M.aa.Kids t) (M.ae.Kids v) at_ o o2 o3 o1)
 bif((Option.isSome q0)&&true)then
 let q1:=(Option.getD q0 default)
 let q2:=q1.2
 let q3:=q2.2
 some (q1.1,q2.1,q3.1,q3.2)
 else
 none
 else
 bif(bif((M.aa.Kind t)==(13:Int))then((M.aa.Kind t)==(13:Int))else(bif((M.aa.Kind t)==(14:Int))then((M.aa.Kind t)==(14:Int))else((M.aa.Kind t)==(17:Int))))then
 bif(decide ((0:Int)<((List.length (M.ae.Kids v)):Int)))then
 let q0:=(M.iJ (M.aa.re t))
 let q1:=(M.wM (M.aa.re t))
 let q2:=(M.mI at_ (M.ae.Num v) (1:Int) o o2 o3 o1)
 let q3:=(Option.getD q2 default)
 let q4:=q3.1
 let q5:=q3.2
 let q6:=q5.1
 let q7:=q5.2
 let q8:=q7.1
 let q9:=q7.2
 let q10:=((Option.isSome q2)&&true)
 bif((Option.isSome (bE (M.aa.re (List.getD (Option.getD q0 default) (Int.toNat (M.ae.Num v)) M.aa.zero)) (M.ae.re (List.getD (M.ae.Kids v) (Int.toNat (0:Int)) M.ae.zero)) (Go.IntKind.wrap Go.IntKind.i64 (at_+(Option.getD q1 default))) q4 q6 q8 q9))&&((Option.isSome q1)&&((Go.V.inB (0:Int) (List.length (M.ae.Kids v)))&&((Go.V.inB (M.ae.Num v) (List.length (Option.getD q0 default)))&&((Option.isSome q0)&&q10)))))then
 let q11:=(Option.getD (bE (M.aa.re (List.getD (Option.getD q0 default) (Int.toNat (M.ae.Num v)) M.aa.zero)) (M.ae.re (List.getD (M.ae.Kids v) (Int.toNat (0:Int)) M.ae.zero)) (Go.IntKind.wrap Go.IntKind.i64 (at_+(Option.getD q1 default))) q4 q6 q8 q9) default)
 let q12:=q11.2
 let q13:=q12.2
 some (q11.1,q12.1,q13.1,q13.2)
 else
 none
 else
 let q0:=(M.mI at_ (M.ae.Num v) (1:Int) o o2 o3 o1)
 let q1:=((Option.isSome q0)&&true)
 bif q1 then
 let q2:=(Option.getD q0 default)
 let q3:=q2.1
 let q4:=q2.2
 let q5:=q4.1
 let q6:=q4.2
 let q7:=q6.1
 let q8:=q6.2
 some (q3,q5,q7,q8)
 else
 none
 else
 let q0:=(M.je (M.aa.re t))
 let q1:=(M.mI at_ (M.ae.Num v) (Option.getD q0 default).1 o o2 o3 o1)
 bif((Option.isSome q1)&&((Option.isSome q0)&&true))then
 let q2:=(Option.getD q1 default)
 let q3:=q2.2
 let q4:=q3.2
 some (q2.1,q3.1,q4.1,q4.2)
 else
 none
def rF:Nat->M.aa->M.ae->Int->(List UInt8)->Int->Int->(List M.af)->Option ((List UInt8)×Int×Int×(List M.af))
 |0=>fun _ _ _ _ _ _ _=>none
 |n+1=>zz (rF n)
def wN:M.aa->M.ae->Int->(List UInt8)->Int->Int->(List M.af)->Option ((List UInt8)×Int×Int×(List M.af)):=rF Go.V.ah
def wP(s:(List UInt8)):Option (Int):=
 some ((List.length s):Int)
def nX(end_:Int)(t8:(List M.af))(t9:Int):Nat->Int->Int->Option ((Bool)⊕(Unit))
 |0,_,_=>none
 |fuel+1,last,t10=>
 bif(decide (t10<t9))then
 bif((((decide ((M.af.Size (List.getD t8 (Int.toNat t10) M.af.zero))<=(0:Int)))||(decide ((M.af.At (List.getD t8 (Int.toNat t10) M.af.zero))<=last)))||(decide (end_<(M.af.At (List.getD t8 (Int.toNat t10) M.af.zero)))))||(decide ((Go.IntKind.wrap Go.IntKind.i64 (end_-(M.af.At (List.getD t8 (Int.toNat t10) M.af.zero))))<(M.af.Size (List.getD t8 (Int.toNat t10) M.af.zero)))))then
 bif((Go.V.inB t10 (List.length t8))&&true)then
 some (.inl false)
 else
 none
 else
 bif((Go.V.inB t10 (List.length t8))&&true)then
 M.nX end_ t8 t9 fuel (Go.IntKind.wrap Go.IntKind.i64 ((M.af.At (List.getD t8 (Int.toNat t10) M.af.zero))+(M.af.Size (List.getD t8 (Int.toNat t10) M.af.zero)))) (Go.IntKind.wrap Go.IntKind.i64 (t10+(1:Int)))
 else
 none
 else
 some ((.inr (())))
def wQ(free:(List M.af))(end_:Int):Option (Bool):=
 match(M.nX end_ free ((List.length free):Int) Go.V.ah (7:Int) (0:Int))with
 |none=>none
 |some y0=>
 (match y0 with
 |.inl a1=>
 some a1
 |.inr b1=>
 some true)
def wR(m:M.aB):Option (Bool):=
 let q0:=(M.wQ (M.aB.Free m) ((List.length (M.aB.Bytes m)):Int))
 bif(((Option.isSome q0)||(!((decide (((List.length (M.aB.Bytes m)):Int)<=(4096:Int)))==true)))&&true)then
 some ((decide (((List.length (M.aB.Bytes m)):Int)<=(4096:Int)))&&(Option.getD q0 default))
 else
 none
def HM(enc:Int):Option (Bool):=
 some ((decide ((1:Int)<=enc))&&(decide (enc<=(3:Int))))
def wS(t:M.aa):Option (Bool):=
 let q0:=(M.wo (M.aa.re t))
 bif((Option.isSome q0)&&true)then
 some (!(Option.getD q0 default))
 else
 none
def tX(s:(List M.aa))(t7:Int):Nat->Int->Option ((Int)⊕(Unit))
 |0,_=>none
 |fuel+1,t8=>
 bif(decide (t8<t7))then
 let q0:=(M.wS (M.aa.re (List.getD s (Int.toNat t8) M.aa.zero)))
 bif(Option.getD q0 default)then
 let q1:=((Option.isSome q0)&&((Go.V.inB t8 (List.length s))&&true))
 bif q1 then
 some (.inl t8)
 else
 none
 else
 let q1:=((Option.isSome q0)&&((Go.V.inB t8 (List.length s))&&true))
 bif q1 then
 M.tX s t7 fuel (Go.IntKind.wrap Go.IntKind.i64 (t8+(1:Int)))
 else
 none
 else
 some ((.inr (())))
def zA(s:(List M.aa)):Option (Int):=
 match(M.tX s ((List.length s):Int) Go.V.ah (0:Int))with
 |none=>none
 |some y0=>
 (match y0 with
 |.inl a1=>
 some a1
 |.inr b1=>
 some (-(1:Int)))
def wT(s:(List M.aa)):Option (Bool):=
 let q0:=(M.zA s)
 bif((Option.isSome q0)&&true)then
 some (decide ((0:Int)<=(Option.getD q0 default)))
 else
 none
def wU(list:(List M.aa)):Option (Bool):=
 let q0:=(M.wT list)
 bif(((Option.isSome q0)||(!((decide (((List.length list):Int)<=(24:Int)))==true)))&&true)then
 some ((decide (((List.length list):Int)<=(24:Int)))&&(!(Option.getD q0 default)))
 else
 none
def wV(m:M.aB)(enc:Int)(list:(List M.aa)):Option (Bool):=
 let q0:=(M.wU list)
 let q1:=(M.wR m)
 let q2:=(((Option.getD q1 default)&&((decide ((1:Int)<=enc))&&(decide (enc<=(3:Int)))))&&(decide (((List.length list):Int)<=(6:Int))))
 bif(((Option.isSome q0)||(!(q2==true)))&&((Option.isSome q1)&&true))then
 some (q2&&(Option.getD q0 default))
 else
 none
def wW(m:M.aB):Option ((List UInt8)×(List M.af)):=
 let q0:=(M.mJ (M.aB.Free m))
 bif((Option.isSome q0)&&((decide ((List.length (M.aB.Bytes m))<=1073741824))&&true))then
 some ((List.map (fun a=>a) (M.aB.Bytes m)),(Option.getD q0 default))
 else
 none
def rG(t:M.aa):Option (Int):=
 some (Go.IntKind.wrap Go.IntKind.i64 (Int.tdiv (Go.IntKind.wrap Go.IntKind.i64 (((List.length (M.aa.bp t)):Int)+(7:Int))) (8:Int)))
def nY(dh:M.aa->Option (Int))(t6:(List M.aa))(t7:Int):Nat->Int->Int->Option (Int)
 |0,_,_=>none
 |fuel+1,greatest,t8=>
 bif(decide (t8<t7))then
 bif((Option.isSome (dh (M.aa.re (List.getD t6 (Int.toNat t8) M.aa.zero))))&&((Go.V.inB t8 (List.length t6))&&true))then
 let q0:=(Option.getD (dh (M.aa.re (List.getD t6 (Int.toNat t8) M.aa.zero))) default)
 M.nY dh t6 t7 fuel (bif(decide (greatest<q0))then q0 else greatest) (Go.IntKind.wrap Go.IntKind.i64 (t8+(1:Int)))
 else
 none
 else
 some (greatest)
def k9(dh:M.aa->Option (Int))(list:(List M.aa)):Option (Int):=
 match(M.nY dh list ((List.length list):Int) Go.V.ah (1:Int) (0:Int))with
 |none=>none
 |some y0=>
 some y0
def lY(t:M.aa):Option ((List M.aa)):=
 bif((M.aa.Kind t)==(13:Int))then
 bif((Go.V.inB (0:Int) (List.length (M.aa.Kids t)))&&true)then
 some [(M.aa.mk (1:Int) [] [] []),(M.aa.re (List.getD (M.aa.Kids t) (Int.toNat (0:Int)) M.aa.zero))]
 else
 none
 else
 bif(bif((M.aa.Kind t)==(14:Int))then((M.aa.Kind t)==(14:Int))else((M.aa.Kind t)==(17:Int)))then
 some (M.aa.Kids t)
 else
 some []
def tY(kind:Int):Option (Int):=
 bif(bif(kind==(2:Int))then(kind==(2:Int))else(bif(kind==(3:Int))then(kind==(3:Int))else(kind==(4:Int))))then
 some (1:Int)
 else
 bif(bif(kind==(5:Int))then(kind==(5:Int))else(kind==(6:Int)))then
 some (2:Int)
 else
 bif(bif(kind==(7:Int))then(kind==(7:Int))else(bif(kind==(8:Int))then(kind==(8:Int))else(bif(kind==(10:Int))then(kind==(10:Int))else(bif(kind==(20:Int))then(kind==(20:Int))else(bif(kind==(21:Int))then(kind==(21:Int))else(bif(kind==(22:Int))then(kind==(22:Int))else(kind==(23:Int))))))))then
 some (4:Int)
 else
 bif(kind==(9:Int))then
 some (8:Int)
 else
 some (0:Int)
def zC(dh:M.aa->Option (Int))(t:M.aa):Option (Int):=
 bif(bif((M.aa.Kind t)==(1:Int))then((M.aa.Kind t)==(1:Int))else((M.aa.Kind t)==(18:Int)))then
 some (1:Int)
 else
 bif(bif((M.aa.Kind t)==(11:Int))then((M.aa.Kind t)==(11:Int))else((M.aa.Kind t)==(12:Int)))then
 some (4:Int)
 else
 bif((M.aa.Kind t)==(19:Int))then
 some (Option.getD (M.rG (M.aa.re t)) default)
 else
 bif(bif((M.aa.Kind t)==(15:Int))then((M.aa.Kind t)==(15:Int))else((M.aa.Kind t)==(16:Int)))then
 let q0:=(M.k9 dh (M.aa.Kids t))
 bif((Option.isSome q0)&&true)then
 some (Option.getD q0 default)
 else
 none
 else
 bif(bif((M.aa.Kind t)==(13:Int))then((M.aa.Kind t)==(13:Int))else(bif((M.aa.Kind t)==(14:Int))then((M.aa.Kind t)==(14:Int))else((M.aa.Kind t)==(17:Int))))then
 let q0:=(M.lY (M.aa.re t))
 let q1:=(M.k9 dh (Option.getD q0 default))
 bif((Option.isSome q1)&&((Option.isSome q0)&&true))then
 some (Option.getD q1 default)
 else
 none
 else
 let q0:=(M.tY (M.aa.Kind t))
 bif((Option.isSome q0)&&true)then
 some (Option.getD q0 default)
 else
 none
def pG:Nat->M.aa->Option (Int)
 |0=>fun _=>none
 |n+1=>zC (pG n)
def im:M.aa->Option (Int):=pG Go.V.ah
def jx(x:Int)(a:Int):Option (Int):=
 bif((a !=(0:Int))&&true)then
 some (Go.IntKind.wrap Go.IntKind.i64 ((Go.IntKind.wrap Go.IntKind.i64 (Int.tdiv (Go.IntKind.wrap Go.IntKind.i64 ((Go.IntKind.wrap Go.IntKind.i64 (x+a))-(1:Int))) a))*a))
 else
 none
def od(bF:M.aa->Option (Int))(t10:(List M.aa))(t11:Int):Nat->Int->Int->(List Int)->Option (Int×(List Int))
 |0,_,_,_=>none
 |fuel+1,end_,t12,offsets=>
 bif(decide (t12<t11))then
 let q0:=(M.im (M.aa.re (List.getD t10 (Int.toNat t12) M.aa.zero)))
 let q1:=(M.jx end_ (Option.getD q0 default))
 let q2:=(Option.getD q1 default)
 let q3:=[q2]
 bif((Option.isSome (bF (M.aa.re (List.getD t10 (Int.toNat t12) M.aa.zero))))&&((decide (((List.length offsets)+(List.length q3))<=1073741824))&&((Option.isSome q1)&&((Option.isSome q0)&&((Go.V.inB t12 (List.length t10))&&true)))))then
 M.od bF t10 t11 fuel (Go.IntKind.wrap Go.IntKind.i64 (q2+(Option.getD (bF (M.aa.re (List.getD t10 (Int.toNat t12) M.aa.zero))) default))) (Go.IntKind.wrap Go.IntKind.i64 (t12+(1:Int))) (offsets++q3)
 else
 none
 else
 some ((end_,offsets))
def rH(bF:M.aa->Option (Int))(list:(List M.aa)):Option ((List Int)×Int):=
 match(M.od bF list ((List.length list):Int) Go.V.ah (0:Int) (0:Int) [])with
 |none=>none
 |some y0=>
 some (y0.2,y0.1)
def ua(bF:M.aa->Option (Int))(list:(List M.aa)):Option (Int):=
 let q0:=(M.rH bF list)
 let q1:=(M.k9 M.im list)
 let q2:=(M.jx (Option.getD q0 default).2 (Option.getD q1 default))
 bif((Option.isSome q2)&&((Option.isSome q1)&&((Option.isSome q0)&&true)))then
 some (Option.getD q2 default)
 else
 none
def pH(t:M.aa):Option (Int):=
 let q0:=(M.lY (M.aa.re t))
 let q1:=(M.k9 M.im (Option.getD q0 default))
 let q2:=(M.jx (1:Int) (Option.getD q1 default))
 bif((Option.isSome q2)&&((Option.isSome q1)&&((Option.isSome q0)&&true)))then
 some (Option.getD q2 default)
 else
 none
def oe(bF:M.aa->Option (Int))(t6:(List M.aa))(t7:Int):Nat->Int->Int->Option (Int)
 |0,_,_=>none
 |fuel+1,greatest,t8=>
 bif(decide (t8<t7))then
 bif((Option.isSome (bF (M.aa.re (List.getD t6 (Int.toNat t8) M.aa.zero))))&&((Go.V.inB t8 (List.length t6))&&true))then
 let q0:=(Option.getD (bF (M.aa.re (List.getD t6 (Int.toNat t8) M.aa.zero))) default)
 M.oe bF t6 t7 fuel (bif(decide (greatest<q0))then q0 else greatest) (Go.IntKind.wrap Go.IntKind.i64 (t8+(1:Int)))
 else
 none
 else
 some (greatest)
def rI(bF:M.aa->Option (Int))(list:(List M.aa)):Option (Int):=
 match(M.oe bF list ((List.length list):Int) Go.V.ah (0:Int) (0:Int))with
 |none=>none
 |some y0=>
 some y0
def zE(bF:M.aa->Option (Int))(t:M.aa):Option (Int):=
 bif((M.aa.Kind t)==(1:Int))then
 some (0:Int)
 else
 bif((M.aa.Kind t)==(18:Int))then
 some (1:Int)
 else
 bif(bif((M.aa.Kind t)==(11:Int))then((M.aa.Kind t)==(11:Int))else((M.aa.Kind t)==(12:Int)))then
 some (8:Int)
 else
 bif((M.aa.Kind t)==(19:Int))then
 some (Option.getD (M.rG (M.aa.re t)) default)
 else
 bif(bif((M.aa.Kind t)==(15:Int))then((M.aa.Kind t)==(15:Int))else((M.aa.Kind t)==(16:Int)))then
 let q0:=(M.ua bF (M.aa.Kids t))
 bif((Option.isSome q0)&&true)then
 some (Option.getD q0 default)
 else
 none
 else
 bif(bif((M.aa.Kind t)==(13:Int))then((M.aa.Kind t)==(13:Int))else(bif((M.aa.Kind t)==(14:Int))then((M.aa.Kind t)==(14:Int))else((M.aa.Kind t)==(17:Int))))then
 let q0:=(M.pH (M.aa.re t))
 let q1:=(M.lY (M.aa.re t))
 let q2:=(M.rI bF (Option.getD q1 default))
 let q3:=(M.im (M.aa.re t))
 let q4:=(M.jx (Go.IntKind.wrap Go.IntKind.i64 ((Option.getD q0 default)+(Option.getD q2 default))) (Option.getD q3 default))
 bif((Option.isSome q4)&&((Option.isSome q3)&&((Option.isSome q2)&&((Option.isSome q1)&&((Option.isSome q0)&&true)))))then
 some (Option.getD q4 default)
 else
 none
 else
 let q0:=(M.tY (M.aa.Kind t))
 bif((Option.isSome q0)&&true)then
 some (Option.getD q0 default)
 else
 none
def oh:Nat->M.aa->Option (Int)
 |0=>fun _=>none
 |n+1=>zE (oh n)
def kq:M.aa->Option (Int):=oh Go.V.ah
def H3(list:(List UInt8)):Option (Int):=
 some ((List.length list):Int)
def ub(s:M.hC)(at_:Int)(n:Int):Option (Bool):=
 some ((((decide ((0:Int)<=at_))&&(decide ((0:Int)<=n)))&&(decide (at_<=((List.length (M.hC.bytes s)):Int))))&&(decide (n<=(Go.IntKind.wrap Go.IntKind.i64 (((List.length (M.hC.bytes s)):Int)-at_)))))
def oi(t7:Int):Nat->Int->Int->(List UInt8)->Option ((List UInt8))
 |0,_,_,_=>none
 |fuel+1,n,t8,b=>
 bif(decide (t8<t7))then
 let q0:=[(Go.V.eu (Go.IntKind.wrap Go.IntKind.u8 n))]
 bif((decide (((List.length b)+(List.length q0))<=1073741824))&&(((Go.V.fB (Go.IntKind.wrap Go.IntKind.u8 n))&&true)&&true))then
 M.oi t7 fuel (Go.V.fX Go.IntKind.i64 n (8:Int)) (Go.IntKind.wrap Go.IntKind.i64 (t8+(1:Int))) (b++q0)
 else
 none
 else
 some (b)
def jf(n:Int)(many:Int):Option ((List UInt8)):=
 match(M.oi many Go.V.ah n (0:Int) [])with
 |none=>none
 |some y0=>
 some (List.map (fun a=>a) y0)
def wZ(n:Int):Option ((List UInt8)):=
 bif(decide (n<(65536:Int)))then
 let q0:=(M.jf n (2:Int))
 bif((Option.isSome q0)&&true)then
 some (Option.getD q0 default)
 else
 none
 else
 let q0:=(M.jf (Go.IntKind.wrap Go.IntKind.i64 ((55296:Int)+(Go.V.fX Go.IntKind.i64 (Go.IntKind.wrap Go.IntKind.i64 (n-(65536:Int))) (10:Int)))) (2:Int))
 let q1:=(Option.getD q0 default)
 let q2:=(M.jf (Go.IntKind.wrap Go.IntKind.i64 ((56320:Int)+(Go.V.dQ Go.BinOp.and Go.IntKind.i64 (Go.IntKind.wrap Go.IntKind.i64 (n-(65536:Int))) (1023:Int)))) (2:Int))
 let q3:=(Option.getD q2 default)
 bif((Go.V.eA q1 q3)&&((Option.isSome q2)&&((Option.isSome q0)&&true)))then
 some (q1++q3)
 else
 none
def mK(enc:Int)(t14:Int)(t13:(List Int)):Nat->(List UInt8)->Int->Option (((List UInt8)×Int)⊕((List UInt8)))
 |0,_,_=>none
 |fuel+1,bytes,t15=>
 bif(decide (t15<t14))then
 bif(enc==(2:Int))then
 let q0:=(M.wZ (List.getD t13 (Int.toNat t15) (0:Int)))
 let q1:=(Option.getD q0 default)
 bif((Go.V.eA bytes q1)&&((Option.isSome q0)&&((Go.V.inB t15 (List.length t13))&&true)))then
 M.mK enc t14 t13 fuel (bytes++q1) (Go.IntKind.wrap Go.IntKind.i64 (t15+(1:Int)))
 else
 none
 else
 bif(decide ((List.getD t13 (Int.toNat t15) (0:Int))<(256:Int)))then
 let q0:=(M.jf (List.getD t13 (Int.toNat t15) (0:Int)) (1:Int))
 let q1:=(Option.getD q0 default)
 bif((Go.V.eA bytes q1)&&((Option.isSome q0)&&((Go.V.inB t15 (List.length t13))&&true)))then
 M.mK enc t14 t13 fuel (bytes++q1) (Go.IntKind.wrap Go.IntKind.i64 (t15+(1:Int)))
 else
 none
 else
 bif((Go.V.inB t15 (List.length t13))&&true)then
 some (.inl ([],(19:Int)))
 else
 none
 else
 some ((.inr (bytes)))
def rK(enc:Int)(s:(List UInt8)):Option ((List UInt8)×Int):=
 bif(enc==(1:Int))then
 some (s,(0:Int))
 else
 let q0:=(M.rJ s)
 match(M.mK enc ((List.length (Option.getD q0 default)):Int) (Option.getD q0 default) Go.V.ah [] (0:Int))with
 |none=>none
 |some y1=>
 (match y1 with
 |.inl a2=>
 bif((Option.isSome q0)&&true)then
 some (a2.1,a2.2)
 else
 none
 |.inr b2=>
 bif((Option.isSome q0)&&true)then
 some (b2,(0:Int))
 else
 none)
def oj(enc:Int):Option (Int):=
 bif(enc==(2:Int))then
 some (2:Int)
 else
 some (1:Int)
def pI(slices:(List (List M.af)))(t9:(List (List M.af)))(t10:Int):Nat->Int->Int->Option ((List (List M.af))×Int)
 |0,_,_=>none
 |fuel+1,size,t11=>
 bif(decide (t11<t10))then
 let q0:=(Go.IntKind.wrap Go.IntKind.i64 (size+((List.length (List.getD t9 (Int.toNat t11) [])):Int)))
 bif(decide (q0<(0:Int)))then
 none
 else
 bif((Go.V.inB t11 (List.length t9))&&true)then
 M.pI slices t9 t10 fuel q0 (Go.IntKind.wrap Go.IntKind.i64 (t11+(1:Int)))
 else
 none
 else
 some ((slices,size))
def pJ(t25:(List (List M.af)))(t26:Int):Nat->Int->(List M.af)->Option ((List M.af))
 |0,_,_=>none
 |fuel+1,t27,IN=>
 bif(decide (t27<t26))then
 bif((decide (((List.length IN)+(List.length (List.getD t25 (Int.toNat t27) [])))<=1073741824))&&((Go.V.inB t27 (List.length t25))&&true))then
 M.pJ t25 t26 fuel (Go.IntKind.wrap Go.IntKind.i64 (t27+(1:Int))) (IN++(List.getD t25 (Int.toNat t27) []))
 else
 none
 else
 some (IN)
def pK(slices:(List (List M.af))):Option ((List M.af)):=
 match(M.pI slices slices ((List.length slices):Int) Go.V.ah (0:Int) (0:Int))with
 |none=>none
 |some y0=>
 let q1:=(M.rL y0.2)
 match(M.pJ y0.1 ((List.length y0.1):Int) Go.V.ah (0:Int) (Option.getD q1 default))with
 |none=>none
 |some y2=>
 bif((Option.isSome q1)&&true)then
 some y2
 else
 none
def om(many:Int)(alignment:Int)(t20:Int)(t19:(List M.af))(o4:(List UInt8)):Nat->Int->Option ((Int×Int×(List UInt8)×(List M.af))⊕((List UInt8)×(List M.af)))
 |0,_=>none
 |fuel+1,t21=>
 bif(decide (t21<t20))then
 let q0:=(Go.IntKind.wrap Go.IntKind.i64 ((M.af.At (List.getD t19 (Int.toNat t21) M.af.zero))+(M.af.Size (List.getD t19 (Int.toNat t21) M.af.zero))))
 let q1:=(M.jx (M.af.At (List.getD t19 (Int.toNat t21) M.af.zero)) alignment)
 let q2:=(Option.getD q1 default)
 bif(decide ((Go.IntKind.wrap Go.IntKind.i64 (q0-q2))<many))then
 let q3:=((Option.isSome q1)&&((Go.V.inB t21 (List.length t19))&&true))
 bif q3 then
 M.om many alignment t20 t19 o4 fuel (Go.IntKind.wrap Go.IntKind.i64 (t21+(1:Int)))
 else
 none
 else
 bif(decide ((M.af.At (List.getD t19 (Int.toNat t21) M.af.zero))<q2))then
 let q3:=(Go.IntKind.wrap Go.IntKind.i64 (q2+many))
 bif(decide (q3<q0))then
 let q4:=([]++[(M.af.mk (M.af.At (List.getD t19 (Int.toNat t21) M.af.zero)) (Go.IntKind.wrap Go.IntKind.i64 (q2-(M.af.At (List.getD t19 (Int.toNat t21) M.af.zero)))))])
 let q5:=[(M.af.mk q3 (Go.IntKind.wrap Go.IntKind.i64 (q0-q3)))]
 let q6:=[(List.drop (Int.toNat (Go.IntKind.wrap Go.IntKind.i64 (t21+(1:Int)))) (List.take (Int.toNat ((List.length t19):Int)) t19))]
 let q7:=(M.pK [(List.drop (Int.toNat (0:Int)) (List.take (Int.toNat t21) t19)),(q4++q5),(List.drop (Int.toNat (Go.IntKind.wrap Go.IntKind.i64 (t21+(1:Int)))) (List.take (Int.toNat ((List.length t19):Int)) t19))])
 let q8:=((Option.isSome q1)&&((Go.V.inB t21 (List.length t19))&&true))
 let q9:=((Go.V.bK (Go.IntKind.wrap Go.IntKind.i64 (t21+(1:Int))) ((List.length t19):Int) (List.length t19))&&((Go.V.bK (0:Int) t21 (List.length t19))&&q8))
 bif((Option.isSome q7)&&q9)then
 some (.inl (q2,(0:Int),o4,(Option.getD q7 default)))
 else
 none
 else
 let q4:=([]++[(M.af.mk (M.af.At (List.getD t19 (Int.toNat t21) M.af.zero)) (Go.IntKind.wrap Go.IntKind.i64 (q2-(M.af.At (List.getD t19 (Int.toNat t21) M.af.zero)))))])
 let q5:=[(List.drop (Int.toNat (Go.IntKind.wrap Go.IntKind.i64 (t21+(1:Int)))) (List.take (Int.toNat ((List.length t19):Int)) t19))]
 let q6:=(M.pK [(List.drop (Int.toNat (0:Int)) (List.take (Int.toNat t21) t19)),q4,(List.drop (Int.toNat (Go.IntKind.wrap Go.IntKind.i64 (t21+(1:Int)))) (List.take (Int.toNat ((List.length t19):Int)) t19))])
 let q7:=((Option.isSome q1)&&((Go.V.inB t21 (List.length t19))&&true))
 let q8:=((Go.V.bK (Go.IntKind.wrap Go.IntKind.i64 (t21+(1:Int))) ((List.length t19):Int) (List.length t19))&&((Go.V.bK (0:Int) t21 (List.length t19))&&q7))
 bif((Option.isSome q6)&&q8)then
 some (.inl (q2,(0:Int),o4,(Option.getD q6 default)))
 else
 none
 else
 let q3:=(Go.IntKind.wrap Go.IntKind.i64 (q2+many))
 bif(decide (q3<q0))then
 let q4:=[(M.af.mk q3 (Go.IntKind.wrap Go.IntKind.i64 (q0-q3)))]
 let q5:=[(List.drop (Int.toNat (Go.IntKind.wrap Go.IntKind.i64 (t21+(1:Int)))) (List.take (Int.toNat ((List.length t19):Int)) t19))]
 let q6:=(M.pK [(List.drop (Int.toNat (0:Int)) (List.take (Int.toNat t21) t19)),([]++q4),(List.drop (Int.toNat (Go.IntKind.wrap Go.IntKind.i64 (t21+(1:Int)))) (List.take (Int.toNat ((List.length t19):Int)) t19))])
 let q7:=((Option.isSome q1)&&((Go.V.inB t21 (List.length t19))&&true))
 let q8:=((Go.V.bK (Go.IntKind.wrap Go.IntKind.i64 (t21+(1:Int))) ((List.length t19):Int) (List.length t19))&&((Go.V.bK (0:Int) t21 (List.length t19))&&q7))
 bif((Option.isSome q6)&&q8)then
 some (.inl (q2,(0:Int),o4,(Option.getD q6 default)))
 else
 none
 else
 let q4:=[(List.drop (Int.toNat (Go.IntKind.wrap Go.IntKind.i64 (t21+(1:Int)))) (List.take (Int.toNat ((List.length t19):Int)) t19))]
 let q5:=(M.pK [(List.drop (Int.toNat (0:Int)) (List.take (Int.toNat t21) t19)),[],(List.drop (Int.toNat (Go.IntKind.wrap Go.IntKind.i64 (t21+(1:Int)))) (List.take (Int.toNat ((List.length t19):Int)) t19))])
 let q6:=((Option.isSome q1)&&((Go.V.inB t21 (List.length t19))&&true))
 let q7:=((Go.V.bK (Go.IntKind.wrap Go.IntKind.i64 (t21+(1:Int))) ((List.length t19):Int) (List.length t19))&&((Go.V.bK (0:Int) t21 (List.length t19))&&q6))
 bif((Option.isSome q5)&&q7)then
 some (.inl (q2,(0:Int),o4,(Option.getD q5 default)))
 else
 none
 else
 some ((.inr ((o4,t19))))
def w9(many:Int)(alignment:Int)(o1:(List UInt8))(o2:(List M.af)):Option (Int×Int×(List UInt8)×(List M.af)):=
 bif(many==(0:Int))then
 some ((0:Int),(0:Int),o1,o2)
 else
 match(M.om many alignment ((List.length o2):Int) o2 o1 Go.V.ah (0:Int))with
 |none=>none
 |some y0=>
 (match y0 with
 |.inl a1=>
 some (a1.1,a1.2.1,a1.2.2.1,a1.2.2.2)
 |.inr b1=>
 some ((0:Int),(4:Int),b1.1,b1.2))
def lZ(many:Int)(alignment:Int)(x:Int)(x2:Int)(o2:(List UInt8))(o3:(List M.af)):Option (Int×Int×Int×(List UInt8)×(List M.af)):=
 bif(x2 !=(0:Int))then
 some ((0:Int),x,x2,o2,o3)
 else
 let q0:=(M.w9 many alignment o2 o3)
 bif((Option.isSome q0)&&true)then
 let q1:=(Option.getD q0 default)
 let q2:=q1.2
 let q3:=q2.2
 some (q1.1,x,q2.1,q3.1,q3.2)
 else
 none
def xa(at_:Int)(bytes:(List UInt8))(o1:(List UInt8))(o2:(List M.af)):Option (Bool×(List UInt8)×(List M.af)):=
 let q0:=(M.ub (M.hC.mk o1 o2) at_ ((List.length bytes):Int))
 bif(!(Option.getD q0 default))then
 some (false,o1,o2)
 else
 bif(((decide ((Int.toNat ((List.length o1):Int))<=(List.length o1)))&&(decide ((List.length bytes)<=((Int.toNat ((List.length o1):Int))-(Int.toNat at_)))))&&((Go.V.bK at_ ((List.length o1):Int) (List.length o1))&&((Option.isSome q0)&&true)))then
 some (true,(((List.take (Int.toNat at_) o1)++(List.map (fun a=>a) bytes))++(List.drop ((Int.toNat at_)+(List.length bytes)) o1)),o2)
 else
 none
def jS(at_:Int)(bytes:(List UInt8))(x:Int)(x2:Int)(o2:(List UInt8))(o3:(List M.af)):Option (Int×Int×(List UInt8)×(List M.af)):=
 bif(x2==(0:Int))then
 let q0:=(M.xa at_ bytes o2 o3)
 bif((Option.isSome q0)&&true)then
 let q1:=(Option.getD q0 default).2
 some (x,x2,q1.1,q1.2)
 else
 none
 else
 some (x,x2,o2,o3)
def iL(cC:M.aa->M.ae->Int->Int->Int->(List UInt8)->(List M.af)->Option (Int×Int×(List UInt8)×(List M.af)))(at_:Int)(t74:(List M.ae))(t75:Int):Nat->Int->Int->Int->M.ae->M.aa->(List UInt8)->(List M.af)->Option (Int×Int×Int×M.ae×(List UInt8)×(List M.af))
 |0,_,_,_,_,_,_,_=>none
 |fuel+1,t76,x,x2,v,kid,o6,o7=>
 bif(decide (t76<t75))then
 let q0:=(M.kq (M.aa.re kid))
 bif((Option.isSome (cC (M.aa.re kid) (M.ae.re (List.getD t74 (Int.toNat t76) M.ae.zero)) (Go.IntKind.wrap Go.IntKind.i64 (at_+(Go.IntKind.wrap Go.IntKind.i64 (t76*(Option.getD q0 default))))) x x2 o6 o7))&&((Option.isSome q0)&&((Go.V.inB t76 (List.length t74))&&true)))then
 let q1:=(Option.getD (cC (M.aa.re kid) (M.ae.re (List.getD t74 (Int.toNat t76) M.ae.zero)) (Go.IntKind.wrap Go.IntKind.i64 (at_+(Go.IntKind.wrap Go.IntKind.i64 (t76*(Option.getD q0 default))))) x x2 o6 o7) default)
 let q2:=q1.2
 let q3:=q2.2
 M.iL cC at_ t74 t75 fuel (Go.IntKind.wrap Go.IntKind.i64 (t76+(1:Int))) q1.1 q2.1 (M.ae.re v) (M.aa.re kid) q3.1 q3.2
 else
 none
 else
 some ((at_,x,x2,(M.ae.re v),o6,o7))
def rM(cC:M.aa->M.ae->Int->Int->Int->(List UInt8)->(List M.af)->Option (Int×Int×(List UInt8)×(List M.af)))(t:M.aa)(v:M.ae)(x:Int)(x2:Int)(o2:(List UInt8))(o3:(List M.af)):Option (Int×Int×Int×Int×(List UInt8)×(List M.af)):=
 bif(x2 !=(0:Int))then
 some ((0:Int),(0:Int),x,x2,o2,o3)
 else
 bif((M.aa.Kind t)==(11:Int))then
 let q0:=(M.rK x (M.ae.Text v))
 let q1:=(Option.getD q0 default).1
 let q2:=(M.oj x)
 let q3:=(M.lZ ((List.length q1):Int) (Option.getD q2 default) x (Option.getD q0 default).2 o2 o3)
 let q4:=default
 let q5:=(Option.getD q3 q4)
 let q6:=q5.1
 let q7:=q5.2
 let q8:=q7.2
 let q9:=q8.2
 let q10:=(M.jS q6 q1 q7.1 q8.1 q9.1 q9.2)
 let q11:=(Option.getD q10 default)
 let q12:=q11.1
 let q13:=(M.oj q12)
 let dL:=(Option.getD q13 default)
 bif((dL !=(0:Int))&&((Option.isSome q13)&&((Option.isSome q10)&&((Option.isSome q3)&&((Option.isSome q2)&&((Option.isSome q0)&&true))))))then
 let cA:=q11.2
 let q16:=cA.2
 some (q6,(Go.IntKind.wrap Go.IntKind.i64 (Int.tdiv ((List.length q1):Int) dL)),q12,cA.1,q16.1,q16.2)
 else
 none
 else
 let q0:=(M.kq (M.aa.re (List.getD (M.aa.Kids t) (Int.toNat (0:Int)) M.aa.zero)))
 let q1:=(M.im (M.aa.re (List.getD (M.aa.Kids t) (Int.toNat (0:Int)) M.aa.zero)))
 let q2:=(M.lZ (Go.IntKind.wrap Go.IntKind.i64 (((List.length (M.ae.Kids v)):Int)*(Option.getD q0 default))) (Option.getD q1 default) x x2 o2 o3)
 let q3:=default
 let q4:=(Option.getD q2 q3)
 let q5:=q4.2
 let q6:=q5.2
 let q7:=q6.2
 match(M.iL cC q4.1 (M.ae.Kids v) ((List.length (M.ae.Kids v)):Int) Go.V.ah (0:Int) q5.1 q6.1 (M.ae.re v) (M.aa.re (List.getD (M.aa.Kids t) (Int.toNat (0:Int)) M.aa.zero)) q7.1 q7.2)with
 |none=>none
 |some y8=>
 bif((Option.isSome q2)&&((Option.isSome q1)&&((Option.isSome q0)&&((Go.V.inB (0:Int) (List.length (M.aa.Kids t)))&&true))))then
 let q9:=y8.2
 let q10:=q9.2
 let q11:=q10.2
 let q12:=q11.2
 some (y8.1,((List.length (M.ae.Kids q11.1)):Int),q9.1,q10.1,q12.1,q12.2)
 else
 none
def oo(cC:M.aa->M.ae->Int->Int->Int->(List UInt8)->(List M.af)->Option (Int×Int×(List UInt8)×(List M.af)))(at_:Int)(offsets:(List Int))(t59:(List M.aa))(t60:Int):Nat->Int->Int->Int->M.ae->(List UInt8)->(List M.af)->Option (Int×Int×(List UInt8)×(List M.af))
 |0,_,_,_,_,_,_=>none
 |fuel+1,t61,x,x2,v,o5,o6=>
 bif(decide (t61<t60))then
 bif((Option.isSome (cC (M.aa.re (List.getD t59 (Int.toNat t61) M.aa.zero)) (M.ae.re (List.getD (M.ae.Kids v) (Int.toNat t61) M.ae.zero)) (Go.IntKind.wrap Go.IntKind.i64 (at_+(List.getD offsets (Int.toNat t61) (0:Int)))) x x2 o5 o6))&&((Go.V.inB t61 (List.length offsets))&&((Go.V.inB t61 (List.length (M.ae.Kids v)))&&((Go.V.inB t61 (List.length t59))&&true))))then
 let q0:=(Option.getD (cC (M.aa.re (List.getD t59 (Int.toNat t61) M.aa.zero)) (M.ae.re (List.getD (M.ae.Kids v) (Int.toNat t61) M.ae.zero)) (Go.IntKind.wrap Go.IntKind.i64 (at_+(List.getD offsets (Int.toNat t61) (0:Int)))) x x2 o5 o6) default)
 let q1:=q0.2
 let q2:=q1.2
 M.oo cC at_ offsets t59 t60 fuel (Go.IntKind.wrap Go.IntKind.i64 (t61+(1:Int))) q0.1 q1.1 (M.ae.re v) q2.1 q2.2
 else
 none
 else
 some ((x,x2,o5,o6))
def pL(cC:M.aa->M.ae->Int->Int->Int->(List UInt8)->(List M.af)->Option (Int×Int×(List UInt8)×(List M.af)))(t:M.aa)(v:M.ae)(at_:Int)(x:Int)(x2:Int)(o2:(List UInt8))(o3:(List M.af)):Option (Int×Int×(List UInt8)×(List M.af)):=
 bif(x2 !=(0:Int))then
 some (x,x2,o2,o3)
 else
 bif(bif((M.aa.Kind t)==(11:Int))then((M.aa.Kind t)==(11:Int))else((M.aa.Kind t)==(12:Int)))then
 let q0:=(M.rM cC (M.aa.re t) (M.ae.re v) x x2 o2 o3)
 let q1:=(Option.getD q0 default)
 let q2:=(M.jf q1.1 (4:Int))
 let q3:=(Option.getD q2 default)
 let q4:=q1.2
 let q5:=(M.jf q4.1 (4:Int))
 let q6:=(Option.getD q5 default)
 let q7:=q4.2
 let q8:=q7.2
 let q9:=q8.2
 let q10:=(M.jS at_ (q3++q6) q7.1 q8.1 q9.1 q9.2)
 bif((Option.isSome q10)&&((Go.V.eA q3 q6)&&((Option.isSome q5)&&((Option.isSome q2)&&((Option.isSome q0)&&true)))))then
 let q11:=default
 let q12:=(Option.getD q10 q11)
 let q13:=q12.2
 let dL:=q13.2
 some (q12.1,q13.1,dL.1,dL.2)
 else
 none
 else
 bif(bif((M.aa.Kind t)==(15:Int))then((M.aa.Kind t)==(15:Int))else((M.aa.Kind t)==(16:Int)))then
 let q0:=(M.rH M.kq (M.aa.Kids t))
 match(M.oo cC at_ (Option.getD q0 default).1 (M.aa.Kids t) ((List.length (M.aa.Kids t)):Int) Go.V.ah (0:Int) x x2 (M.ae.re v) o2 o3)with
 |none=>none
 |some y1=>
 bif((Option.isSome q0)&&true)then
 some (y1.1,y1.2.1,y1.2.2.1,y1.2.2.2)
 else
 none
 else
 bif(bif((M.aa.Kind t)==(13:Int))then((M.aa.Kind t)==(13:Int))else(bif((M.aa.Kind t)==(14:Int))then((M.aa.Kind t)==(14:Int))else((M.aa.Kind t)==(17:Int))))then
 bif(decide ((0:Int)<((List.length (M.ae.Kids v)):Int)))then
 let q0:=(M.k7 (M.aa.re t) (M.ae.Num v))
 let q1:=(M.pH (M.aa.re t))
 let q2:=(M.jf (M.ae.Num v) (1:Int))
 let q3:=(M.jS at_ (Option.getD q2 default) x x2 o2 o3)
 let q4:=default
 let q5:=(Option.getD q3 q4)
 let q6:=q5.1
 let q7:=q5.2
 let q8:=q7.1
 let q9:=q7.2
 let q10:=q9.1
 let q11:=q9.2
 let q12:=((Option.isSome q3)&&((Option.isSome q2)&&true))
 bif((Option.isSome (cC (M.aa.re (Option.getD q0 default).1) (M.ae.re (List.getD (M.ae.Kids v) (Int.toNat (0:Int)) M.ae.zero)) (Go.IntKind.wrap Go.IntKind.i64 (at_+(Option.getD q1 default))) q6 q8 q10 q11))&&((Option.isSome q1)&&((Go.V.inB (0:Int) (List.length (M.ae.Kids v)))&&((Option.isSome q0)&&q12))))then
 let q13:=(Option.getD (cC (M.aa.re (Option.getD q0 default).1) (M.ae.re (List.getD (M.ae.Kids v) (Int.toNat (0:Int)) M.ae.zero)) (Go.IntKind.wrap Go.IntKind.i64 (at_+(Option.getD q1 default))) q6 q8 q10 q11) q4)
 let dL:=q13.2
 let cA:=dL.2
 some (q13.1,dL.1,cA.1,cA.2)
 else
 none
 else
 let q0:=(M.jf (M.ae.Num v) (1:Int))
 let q1:=(M.jS at_ (Option.getD q0 default) x x2 o2 o3)
 let q2:=((Option.isSome q1)&&((Option.isSome q0)&&true))
 bif q2 then
 let q3:=default
 let q4:=(Option.getD q1 q3)
 let q5:=q4.1
 let q6:=q4.2
 let q7:=q6.1
 let q8:=q6.2
 let q9:=q8.1
 let q10:=q8.2
 some (q5,q7,q9,q10)
 else
 none
 else
 let q0:=(M.kq (M.aa.re t))
 let q1:=(M.jf (M.ae.Num v) (Option.getD q0 default))
 let q2:=(M.jS at_ (Option.getD q1 default) x x2 o2 o3)
 bif((Option.isSome q2)&&((Option.isSome q1)&&((Option.isSome q0)&&true)))then
 let q3:=default
 let q4:=(Option.getD q2 q3)
 let q5:=q4.2
 let q6:=q5.2
 some (q4.1,q5.1,q6.1,q6.2)
 else
 none
def l4:Nat->M.aa->M.ae->Int->Int->Int->(List UInt8)->(List M.af)->Option (Int×Int×(List UInt8)×(List M.af))
 |0=>fun _ _ _ _ _ _ _=>none
 |n+1=>pL (l4 n)
def xb:M.aa->M.ae->Int->Int->Int->(List UInt8)->(List M.af)->Option (Int×Int×(List UInt8)×(List M.af)):=l4 Go.V.ah
def xc(s:M.hC):Option ((List UInt8)×(List M.af)):=
 let q0:=(M.mJ (M.hC.free s))
 bif((Option.isSome q0)&&true)then
 some ((List.map (fun a=>a) (M.hC.bytes s)),(Option.getD q0 default))
 else
 none
def ot(a:(List Int))(b:(List Int)):Nat->Int->(List Int)->Option ((List Int))
 |0,_,_=>none
 |fuel+1,i,out=>
 bif((decide (i<((List.length a):Int)))||(decide (i<((List.length b):Int))))then
 bif(decide (((List.length b):Int)<=i))then
 let q0:=(List.length out)
 let q1:=[(List.getD a (Int.toNat i) (0:Int))]
 bif((decide ((q0+(List.length q1))<=1073741824))&&((Go.V.inB i (List.length a))&&true))then
 M.ot a b fuel (Go.IntKind.wrap Go.IntKind.i64 (i+(1:Int))) (out++q1)
 else
 none
 else
 bif(decide (((List.length a):Int)<=i))then
 let q0:=(List.length out)
 let q1:=[(List.getD b (Int.toNat i) (0:Int))]
 bif((decide ((q0+(List.length q1))<=1073741824))&&((Go.V.inB i (List.length b))&&true))then
 M.ot a b fuel (Go.IntKind.wrap Go.IntKind.i64 (i+(1:Int))) (out++q1)
 else
 none
 else
 let q0:=(List.length out)
 let q1:=(M.il (List.getD a (Int.toNat i) (0:Int)) (List.getD b (Int.toNat i) (0:Int)))
 let q2:=[(Option.getD q1 default)]
 bif((decide ((q0+(List.length q2))<=1073741824))&&((Option.isSome q1)&&((Go.V.inB i (List.length b))&&((Go.V.inB i (List.length a))&&true))))then
 M.ot a b fuel (Go.IntKind.wrap Go.IntKind.i64 (i+(1:Int))) (out++q2)
 else
 none
 else
 some (out)
def rN(a:(List Int))(b:(List Int)):Option ((List Int)):=
 match(M.ot a b Go.V.ah (0:Int) [])with
 |none=>none
 |some y0=>
 some y0
def ou(eU:M.aa->Option ((List Int)))(cases:(List M.aa)):Nat->Int->(List Int)->Option ((List Int))
 |0,_,_=>none
 |fuel+1,i,out=>
 bif(decide (i<((List.length cases):Int)))then
 let q0:=(M.rN out (Option.getD (eU (M.aa.re (List.getD cases (Int.toNat i) M.aa.zero))) default))
 bif((Option.isSome q0)&&((Option.isSome (eU (M.aa.re (List.getD cases (Int.toNat i) M.aa.zero))))&&((Go.V.inB i (List.length cases))&&true)))then
 M.ou eU cases fuel (Go.IntKind.wrap Go.IntKind.i64 (i+(1:Int))) (Option.getD q0 default)
 else
 none
 else
 some (out)
def uc(cu:(List M.aa)->Option ((List Int)))(eU:M.aa->Option ((List Int)))(t:M.aa):Option ((List Int)):=
 bif((M.aa.Kind t)==(1:Int))then
 some []
 else
 bif((M.aa.Kind t)==(9:Int))then
 some [(2:Int)]
 else
 bif(bif((M.aa.Kind t)==(11:Int))then((M.aa.Kind t)==(11:Int))else((M.aa.Kind t)==(12:Int)))then
 let q0:=[(1:Int)]
 some [(1:Int),(1:Int)]
 else
 bif(bif((M.aa.Kind t)==(15:Int))then((M.aa.Kind t)==(15:Int))else((M.aa.Kind t)==(16:Int)))then
 bif((Option.isSome (cu (M.aa.Kids t)))&&true)then
 some (Option.getD (cu (M.aa.Kids t)) default)
 else
 none
 else
 bif(bif((M.aa.Kind t)==(13:Int))then((M.aa.Kind t)==(13:Int))else(bif((M.aa.Kind t)==(14:Int))then((M.aa.Kind t)==(14:Int))else((M.aa.Kind t)==(17:Int))))then
 let q0:=(M.iJ (M.aa.re t))
 match(M.ou eU (Option.getD q0 default) Go.V.ah (0:Int) [])with
 |none=>none
 |some y1=>
 let q2:=[(1:Int)]
 bif((decide (((List.length q2)+(List.length y1))<=1073741824))&&((Option.isSome q0)&&true))then
 some (q2++y1)
 else
 none
 else
 let q0:=[(1:Int)]
 some q0
def lh(cu:(List M.aa)->Option ((List Int))):Nat->M.aa->Option ((List Int))
 |0=>fun _=>none
 |n+1=>uc cu (lh cu n)
def pM(cu:(List M.aa)->Option ((List Int))):M.aa->Option ((List Int)):=lh cu Go.V.ah
def rO(cu:(List M.aa)->Option ((List Int)))(ts:(List M.aa)):Nat->Int->(List Int)->Option ((List Int))
 |0,_,_=>none
 |fuel+1,i,out=>
 bif(decide (i<((List.length ts):Int)))then
 let q0:=(M.pM cu (M.aa.re (List.getD ts (Int.toNat i) M.aa.zero)))
 let q1:=(Option.getD q0 default)
 bif((decide (((List.length out)+(List.length q1))<=1073741824))&&((Option.isSome q0)&&((Go.V.inB i (List.length ts))&&true)))then
 M.rO cu ts fuel (Go.IntKind.wrap Go.IntKind.i64 (i+(1:Int))) (out++q1)
 else
 none
 else
 some (out)
def zH(cu:(List M.aa)->Option ((List Int)))(ts:(List M.aa)):Option ((List Int)):=
 match(M.rO cu ts Go.V.ah (0:Int) [])with
 |none=>none
 |some y0=>
 some y0
def pN:Nat->(List M.aa)->Option ((List Int))
 |0=>fun _=>none
 |n+1=>zH (pN n)
def jy:(List M.aa)->Option ((List Int)):=pN Go.V.ah
def xe(kids:(List M.ae))(size:Int)(many:Int)(at_:Int):Nat->Int->(List UInt8)->Int->Int->M.aa->(List M.af)->Option (Int×Int×(List UInt8)×Int×Int×(List M.af))
 |0,_,_,_,_,_,_=>none
 |fuel+1,i,o,o2,o3,t,o32=>
 bif((decide (i<many))&&(o3==(0:Int)))then
 let q0:=(M.wN (M.aa.re t) (M.ae.re (List.getD kids (Int.toNat i) M.ae.zero)) (Go.IntKind.wrap Go.IntKind.i64 (at_+(Go.IntKind.wrap Go.IntKind.i64 (i*size)))) o o2 o3 o32)
 bif((Option.isSome q0)&&((Go.V.inB i (List.length kids))&&true))then
 let q1:=(Option.getD q0 default)
 let q2:=q1.2
 let q3:=q2.2
 M.xe kids size many at_ fuel (Go.IntKind.wrap Go.IntKind.i64 (i+(1:Int))) q1.1 q2.1 q3.1 (M.aa.re t) q3.2
 else
 none
 else
 some ((many,at_,o,o2,o3,o32))
def zI(t:M.aa)(kids:(List M.ae))(o:(List UInt8))(o2:Int)(o3:Int)(o1:(List M.af)):Option (Int×Int×(List UInt8)×Int×Int×(List M.af)):=
 let q0:=(M.je (M.aa.re t))
 let q1:=(M.nV (Go.IntKind.wrap Go.IntKind.i64 (((List.length kids):Int)*(Option.getD q0 default).1)) (Option.getD q0 default).2 o o2 o3 o1)
 let q2:=(Option.getD q1 default)
 let q3:=q2.2
 let q4:=q3.2
 let q5:=q4.2
 match(M.xe kids (Option.getD q0 default).1 ((List.length kids):Int) q2.1 Go.V.ah (0:Int) q3.1 q4.1 q5.1 (M.aa.re t) q5.2)with
 |none=>none
 |some y6=>
 bif((Option.isSome q1)&&((Option.isSome q0)&&true))then
 let q7:=y6.2.2
 let q8:=q7.2
 let q9:=q8.2
 some (y6.2.1,y6.1,q7.1,q8.1,q9.1,q9.2)
 else
 none
def rP(t:M.aa)(v:M.ae)(o:(List UInt8))(o2:Int)(o3:Int)(o1:(List M.af)):Option (Int×Int×(List UInt8)×Int×Int×(List M.af)):=
 bif((M.aa.Kind t)==(11:Int))then
 let q0:=(M.rD (M.ae.Text v) o o2 o3 o1)
 bif((Option.isSome q0)&&true)then
 let q1:=default
 let q2:=(Option.getD q0 q1)
 let q3:=q2.2
 let q4:=q3.2
 let q5:=q4.2
 let q6:=q5.2
 some (q2.1,q3.1,q4.1,q5.1,q6.1,q6.2)
 else
 none
 else
 let q0:=(M.zI (M.aa.re (List.getD (M.aa.Kids t) (Int.toNat (0:Int)) M.aa.zero)) (M.ae.Kids v) o o2 o3 o1)
 bif((Option.isSome q0)&&((Go.V.inB (0:Int) (List.length (M.aa.Kids t)))&&true))then
 let q1:=default
 let q2:=(Option.getD q0 q1)
 let q3:=q2.2
 let q4:=q3.2
 let q5:=q4.2
 let q6:=q5.2
 some (q2.1,q3.1,q4.1,q5.1,q6.1,q6.2)
 else
 none
def DR(n:Int):Option (Int):=
 some (Go.V.dQ Go.BinOp.and Go.IntKind.i64 n (4294967295:Int))
def ov:Nat->M.aa->(List Int)->Option ((List Int))
 |0,_,_=>none
 |fuel+1,t,out=>
 let q0:=(M.pM M.jy (M.aa.re t))
 bif(decide (((List.length out):Int)<((List.length (Option.getD q0 default)):Int)))then
 let q1:=[(0:Int)]
 bif((decide (((List.length out)+(List.length q1))<=1073741824))&&((Option.isSome q0)&&true))then
 M.ov fuel (M.aa.re t) (out++q1)
 else
 none
 else
 bif((Option.isSome q0)&&true)then
 some (out)
 else
 none
def ud(cy:(List M.aa)->(List M.ae)->(List UInt8)->Int->Int->(List M.af)->Option ((List Int)×(List UInt8)×Int×Int×(List M.af)))(iq:M.aa->M.ae->(List UInt8)->Int->Int->(List M.af)->Option ((List Int)×(List UInt8)×Int×Int×(List M.af)))(t:M.aa)(v:M.ae)(o:(List UInt8))(o2:Int)(o3:Int)(o1:(List M.af)):Option ((List Int)×(List UInt8)×Int×Int×(List M.af)):=
 bif((M.aa.Kind t)==(1:Int))then
 some ([],o,o2,o3,o1)
 else
 bif((M.aa.Kind t)==(9:Int))then
 let q0:=[(M.ae.Num v)]
 some (q0,o,o2,o3,o1)
 else
 bif(bif((M.aa.Kind t)==(11:Int))then((M.aa.Kind t)==(11:Int))else((M.aa.Kind t)==(12:Int)))then
 let q0:=(M.rP (M.aa.re t) (M.ae.re v) o o2 o3 o1)
 bif((Option.isSome q0)&&true)then
 let q1:=(Option.getD q0 default)
 let q2:=q1.2
 let q3:=q2.2
 let q4:=q3.2
 let q5:=q4.2
 some ([q1.1,q2.1],q3.1,q4.1,q5.1,q5.2)
 else
 none
 else
 bif(bif((M.aa.Kind t)==(15:Int))then((M.aa.Kind t)==(15:Int))else((M.aa.Kind t)==(16:Int)))then
 bif((Option.isSome (cy (M.aa.Kids t) (M.ae.Kids v) o o2 o3 o1))&&true)then
 let q0:=default
 let q1:=(Option.getD (cy (M.aa.Kids t) (M.ae.Kids v) o o2 o3 o1) q0)
 let q2:=q1.2
 let q3:=q2.2
 let q4:=q3.2
 some (q1.1,q2.1,q3.1,q4.1,q4.2)
 else
 none
 else
 bif(bif((M.aa.Kind t)==(13:Int))then((M.aa.Kind t)==(13:Int))else(bif((M.aa.Kind t)==(14:Int))then((M.aa.Kind t)==(14:Int))else((M.aa.Kind t)==(17:Int))))then
 bif(decide ((0:Int)<((List.length (M.ae.Kids v)):Int)))then
 let q0:=[(M.ae.Num v)]
 let q1:=(M.iJ (M.aa.re t))
 let q2:=default
 let q3:=(Option.getD (iq (M.aa.re (List.getD (Option.getD q1 default) (Int.toNat (M.ae.Num v)) M.aa.zero)) (M.ae.re (List.getD (M.ae.Kids v) (Int.toNat (0:Int)) M.ae.zero)) o o2 o3 o1) q2)
 let q4:=q3.1
 match(M.ov Go.V.ah (M.aa.re t) (q0++q4))with
 |none=>none
 |some y5=>
 bif((decide (((List.length q0)+(List.length q4))<=1073741824))&&((Option.isSome (iq (M.aa.re (List.getD (Option.getD q1 default) (Int.toNat (M.ae.Num v)) M.aa.zero)) (M.ae.re (List.getD (M.ae.Kids v) (Int.toNat (0:Int)) M.ae.zero)) o o2 o3 o1))&&((Go.V.inB (0:Int) (List.length (M.ae.Kids v)))&&((Go.V.inB (M.ae.Num v) (List.length (Option.getD q1 default)))&&((Option.isSome q1)&&true)))))then
 let q6:=q3.2
 let q7:=q6.2
 let q8:=q7.2
 some (y5,q6.1,q7.1,q8.1,q8.2)
 else
 none
 else
 let q0:=[(M.ae.Num v)]
 match(M.ov Go.V.ah (M.aa.re t) q0)with
 |none=>none
 |some y1=>
 some (y1,o,o2,o3,o1)
 else
 some ([(Go.V.dQ Go.BinOp.and Go.IntKind.i64 (M.ae.Num v) (4294967295:Int))],o,o2,o3,o1)
def ow(cy:(List M.aa)->(List M.ae)->(List UInt8)->Int->Int->(List M.af)->Option ((List Int)×(List UInt8)×Int×Int×(List M.af))):Nat->M.aa->M.ae->(List UInt8)->Int->Int->(List M.af)->Option ((List Int)×(List UInt8)×Int×Int×(List M.af))
 |0=>fun _ _ _ _ _ _=>none
 |n+1=>ud cy (ow cy n)
def ue(cy:(List M.aa)->(List M.ae)->(List UInt8)->Int->Int->(List M.af)->Option ((List Int)×(List UInt8)×Int×Int×(List M.af))):M.aa->M.ae->(List UInt8)->Int->Int->(List M.af)->Option ((List Int)×(List UInt8)×Int×Int×(List M.af)):=ow cy Go.V.ah
def pP(cy:(List M.aa)->(List M.ae)->(List UInt8)->Int->Int->(List M.af)->Option ((List Int)×(List UInt8)×Int×Int×(List M.af)))(ts:(List M.aa))(vs:(List M.ae)):Nat->Int->(List UInt8)->Int->Int->(List Int)->(List M.af)->Option ((List UInt8)×Int×Int×(List Int)×(List M.af))
 |0,_,_,_,_,_,_=>none
 |fuel+1,i,o,o2,o3,out,o4=>
 bif((decide (i<((List.length ts):Int)))&&(o3==(0:Int)))then
 let q0:=(M.ue cy (M.aa.re (List.getD ts (Int.toNat i) M.aa.zero)) (M.ae.re (List.getD vs (Int.toNat i) M.ae.zero)) o o2 o3 o4)
 let q1:=(Option.getD q0 default)
 let q2:=q1.1
 bif((decide (((List.length out)+(List.length q2))<=1073741824))&&((Option.isSome q0)&&((Go.V.inB i (List.length vs))&&((Go.V.inB i (List.length ts))&&true))))then
 let q3:=q1.2
 let q4:=q3.2
 let q5:=q4.2
 M.pP cy ts vs fuel (Go.IntKind.wrap Go.IntKind.i64 (i+(1:Int))) q3.1 q4.1 q5.1 (out++q2) q5.2
 else
 none
 else
 some ((o,o2,o3,out,o4))
def zJ(cy:(List M.aa)->(List M.ae)->(List UInt8)->Int->Int->(List M.af)->Option ((List Int)×(List UInt8)×Int×Int×(List M.af)))(ts:(List M.aa))(vs:(List M.ae))(o:(List UInt8))(o2:Int)(o3:Int)(o1:(List M.af)):Option ((List Int)×(List UInt8)×Int×Int×(List M.af)):=
 match(M.pP cy ts vs Go.V.ah (0:Int) o o2 o3 [] o1)with
 |none=>none
 |some y0=>
 let q1:=y0.2.2
 let q2:=q1.2
 some (q2.1,y0.1,y0.2.1,q1.1,q2.2)
def ox:Nat->(List M.aa)->(List M.ae)->(List UInt8)->Int->Int->(List M.af)->Option ((List Int)×(List UInt8)×Int×Int×(List M.af))
 |0=>fun _ _ _ _ _ _=>none
 |n+1=>zJ (ox n)
def mL:(List M.aa)->(List M.ae)->(List UInt8)->Int->Int->(List M.af)->Option ((List Int)×(List UInt8)×Int×Int×(List M.af)):=ox Go.V.ah
def rQ(a:(List Int))(b:(List Int))(t13:Int):Nat->Int->(List Int)->Option ((List Int))
 |0,_,_=>none
 |fuel+1,t14,out=>
 bif(decide (t14<t13))then
 let q0:=((decide (t14<((List.length a):Int)))&&((List.getD a (Int.toNat t14) (0:Int))==(2:Int)))
 let q1:=(q0||((decide (t14<((List.length b):Int)))&&((List.getD b (Int.toNat t14) (0:Int))==(2:Int))))
 let q2:=[(bif q1 then(2:Int)else(1:Int))]
 let q3:=(((Go.V.inB t14 (List.length b))||(!((q0==false)&&((decide (t14<((List.length b):Int)))==true))))&&(((Go.V.inB t14 (List.length a))||(!((decide (t14<((List.length a):Int)))==true)))&&true))
 bif((decide (((List.length out)+(List.length q2))<=1073741824))&&((q3||(!q1))&&(q3||q1)))then
 M.rQ a b t13 fuel (Go.IntKind.wrap Go.IntKind.i64 (t14+(1:Int))) (out++q2)
 else
 none
 else
 some (out)
def xg(a:(List Int))(b:(List Int)):Option ((List Int)):=
 match(M.rQ a b (bif(decide (((List.length a):Int)<((List.length b):Int)))then((List.length b):Int)else((List.length a):Int)) Go.V.ah (0:Int) [])with
 |none=>none
 |some y0=>
 some y0
def rR(eX:M.aa->Option ((List Int)))(t30:(List M.aa))(t31:Int):Nat->Int->(List Int)->Option ((List Int))
 |0,_,_=>none
 |fuel+1,t32,join=>
 bif(decide (t32<t31))then
 let q0:=(M.xg join (Option.getD (eX (M.aa.re (List.getD t30 (Int.toNat t32) M.aa.zero))) default))
 bif((Option.isSome q0)&&((Option.isSome (eX (M.aa.re (List.getD t30 (Int.toNat t32) M.aa.zero))))&&((Go.V.inB t32 (List.length t30))&&true)))then
 M.rR eX t30 t31 fuel (Go.IntKind.wrap Go.IntKind.i64 (t32+(1:Int))) (Option.getD q0 default)
 else
 none
 else
 some (join)
def zK(cz:(List M.aa)->Option ((List Int)))(eX:M.aa->Option ((List Int)))(t:M.aa):Option ((List Int)):=
 bif((M.aa.Kind t)==(1:Int))then
 some []
 else
 bif((M.aa.Kind t)==(9:Int))then
 some [(2:Int)]
 else
 bif(bif((M.aa.Kind t)==(11:Int))then((M.aa.Kind t)==(11:Int))else((M.aa.Kind t)==(12:Int)))then
 let q0:=[(1:Int)]
 some [(1:Int),(1:Int)]
 else
 bif(bif((M.aa.Kind t)==(15:Int))then((M.aa.Kind t)==(15:Int))else((M.aa.Kind t)==(16:Int)))then
 bif((Option.isSome (cz (M.aa.Kids t)))&&true)then
 some (Option.getD (cz (M.aa.Kids t)) default)
 else
 none
 else
 bif(bif((M.aa.Kind t)==(13:Int))then((M.aa.Kind t)==(13:Int))else(bif((M.aa.Kind t)==(14:Int))then((M.aa.Kind t)==(14:Int))else((M.aa.Kind t)==(17:Int))))then
 let q0:=(M.lY (M.aa.re t))
 match(M.rR eX (Option.getD q0 default) ((List.length (Option.getD q0 default)):Int) Go.V.ah (0:Int) [])with
 |none=>none
 |some y1=>
 let q2:=[(1:Int)]
 bif((decide (((List.length q2)+(List.length y1))<=1073741824))&&((Option.isSome q0)&&true))then
 some (q2++y1)
 else
 none
 else
 let q0:=[(1:Int)]
 some q0
def rS(cz:(List M.aa)->Option ((List Int))):Nat->M.aa->Option ((List Int))
 |0=>fun _=>none
 |n+1=>zK cz (rS cz n)
def rT(cz:(List M.aa)->Option ((List Int))):M.aa->Option ((List Int)):=rS cz Go.V.ah
def rU(cz:(List M.aa)->Option ((List Int)))(t7:(List M.aa))(t8:Int):Nat->Int->(List Int)->Option ((List Int))
 |0,_,_=>none
 |fuel+1,t9,kinds=>
 bif(decide (t9<t8))then
 let q0:=(M.rT cz (M.aa.re (List.getD t7 (Int.toNat t9) M.aa.zero)))
 let q1:=(Option.getD q0 default)
 bif((decide (((List.length kinds)+(List.length q1))<=1073741824))&&((Option.isSome q0)&&((Go.V.inB t9 (List.length t7))&&true)))then
 M.rU cz t7 t8 fuel (Go.IntKind.wrap Go.IntKind.i64 (t9+(1:Int))) (kinds++q1)
 else
 none
 else
 some (kinds)
def zL(cz:(List M.aa)->Option ((List Int)))(list:(List M.aa)):Option ((List Int)):=
 match(M.rU cz list ((List.length list):Int) Go.V.ah (0:Int) [])with
 |none=>none
 |some y0=>
 some y0
def pQ:Nat->(List M.aa)->Option ((List Int))
 |0=>fun _=>none
 |n+1=>zL (pQ n)
def uf:(List M.aa)->Option ((List Int)):=pQ Go.V.ah
def xi(at_:Int)(t74:(List M.ae))(t75:Int):Nat->Int->Int->Int->M.ae->M.aa->(List UInt8)->(List M.af)->Option (Int×Int×Int×M.ae×(List UInt8)×(List M.af))
 |0,_,_,_,_,_,_,_=>none
 |fuel+1,t76,x,x2,v,kid,o6,o7=>
 bif(decide (t76<t75))then
 let q0:=(M.kq (M.aa.re kid))
 let q1:=(M.xb (M.aa.re kid) (M.ae.re (List.getD t74 (Int.toNat t76) M.ae.zero)) (Go.IntKind.wrap Go.IntKind.i64 (at_+(Go.IntKind.wrap Go.IntKind.i64 (t76*(Option.getD q0 default))))) x x2 o6 o7)
 bif((Option.isSome q1)&&((Option.isSome q0)&&((Go.V.inB t76 (List.length t74))&&true)))then
 let q2:=(Option.getD q1 default)
 let q3:=q2.2
 let q4:=q3.2
 M.xi at_ t74 t75 fuel (Go.IntKind.wrap Go.IntKind.i64 (t76+(1:Int))) q2.1 q3.1 (M.ae.re v) (M.aa.re kid) q4.1 q4.2
 else
 none
 else
 some ((at_,x,x2,(M.ae.re v),o6,o7))
def xj(t:M.aa)(v:M.ae)(x:Int)(x2:Int)(o2:(List UInt8))(o3:(List M.af)):Option (Int×Int×Int×Int×(List UInt8)×(List M.af)):=
 bif(x2 !=(0:Int))then
 some ((0:Int),(0:Int),x,x2,o2,o3)
 else
 bif((M.aa.Kind t)==(11:Int))then
 let q0:=(M.rK x (M.ae.Text v))
 let q1:=(Option.getD q0 default).1
 let q2:=(M.oj x)
 let q3:=(M.lZ ((List.length q1):Int) (Option.getD q2 default) x (Option.getD q0 default).2 o2 o3)
 let q4:=default
 let q5:=(Option.getD q3 q4)
 let q6:=q5.1
 let q7:=q5.2
 let q8:=q7.2
 let q9:=q8.2
 let q10:=(M.jS q6 q1 q7.1 q8.1 q9.1 q9.2)
 let q11:=(Option.getD q10 default)
 let q12:=q11.1
 let q13:=(M.oj q12)
 let dL:=(Option.getD q13 default)
 bif((dL !=(0:Int))&&((Option.isSome q13)&&((Option.isSome q10)&&((Option.isSome q3)&&((Option.isSome q2)&&((Option.isSome q0)&&true))))))then
 let cA:=q11.2
 let q16:=cA.2
 some (q6,(Go.IntKind.wrap Go.IntKind.i64 (Int.tdiv ((List.length q1):Int) dL)),q12,cA.1,q16.1,q16.2)
 else
 none
 else
 let q0:=(M.kq (M.aa.re (List.getD (M.aa.Kids t) (Int.toNat (0:Int)) M.aa.zero)))
 let q1:=(M.im (M.aa.re (List.getD (M.aa.Kids t) (Int.toNat (0:Int)) M.aa.zero)))
 let q2:=(M.lZ (Go.IntKind.wrap Go.IntKind.i64 (((List.length (M.ae.Kids v)):Int)*(Option.getD q0 default))) (Option.getD q1 default) x x2 o2 o3)
 let q3:=default
 let q4:=(Option.getD q2 q3)
 let q5:=q4.2
 let q6:=q5.2
 let q7:=q6.2
 match(M.xi q4.1 (M.ae.Kids v) ((List.length (M.ae.Kids v)):Int) Go.V.ah (0:Int) q5.1 q6.1 (M.ae.re v) (M.aa.re (List.getD (M.aa.Kids t) (Int.toNat (0:Int)) M.aa.zero)) q7.1 q7.2)with
 |none=>none
 |some y8=>
 bif((Option.isSome q2)&&((Option.isSome q1)&&((Option.isSome q0)&&((Go.V.inB (0:Int) (List.length (M.aa.Kids t)))&&true))))then
 let q9:=y8.2
 let q10:=q9.2
 let q11:=q10.2
 let q12:=q11.2
 some (y8.1,((List.length (M.ae.Kids q11.1)):Int),q9.1,q10.1,q12.1,q12.2)
 else
 none
def Io(n:Int):Option (Int):=
 some (Go.V.dQ Go.BinOp.and Go.IntKind.i64 n (4294967295:Int))
def zM(cG:(List M.aa)->(List M.ae)->Int->Int->(List UInt8)->(List M.af)->Option (Int×Int×(List Int)×(List UInt8)×(List M.af)))(ln:M.aa->M.ae->Int->Int->(List UInt8)->(List M.af)->Option (Int×Int×(List Int)×(List UInt8)×(List M.af)))(t:M.aa)(v:M.ae)(x:Int)(x2:Int)(o2:(List UInt8))(o3:(List M.af)):Option (Int×Int×(List Int)×(List UInt8)×(List M.af)):=
 bif(x2 !=(0:Int))then
 some (x,x2,[],o2,o3)
 else
 bif((M.aa.Kind t)==(1:Int))then
 some (x,x2,[],o2,o3)
 else
 bif(bif((M.aa.Kind t)==(11:Int))then((M.aa.Kind t)==(11:Int))else((M.aa.Kind t)==(12:Int)))then
 let q0:=(M.xj (M.aa.re t) (M.ae.re v) x x2 o2 o3)
 bif((Option.isSome q0)&&true)then
 let q1:=(Option.getD q0 default)
 let q2:=q1.2
 let q3:=q2.2
 let q4:=q3.2
 let q5:=q4.2
 some (q3.1,q4.1,[q1.1,q2.1],q5.1,q5.2)
 else
 none
 else
 bif(bif((M.aa.Kind t)==(15:Int))then((M.aa.Kind t)==(15:Int))else((M.aa.Kind t)==(16:Int)))then
 bif((Option.isSome (cG (M.aa.Kids t) (M.ae.Kids v) x x2 o2 o3))&&true)then
 let q0:=default
 let q1:=(Option.getD (cG (M.aa.Kids t) (M.ae.Kids v) x x2 o2 o3) q0)
 let q2:=q1.2
 let q3:=q2.2
 let q4:=q3.2
 some (q1.1,q2.1,q3.1,q4.1,q4.2)
 else
 none
 else
 bif(bif((M.aa.Kind t)==(13:Int))then((M.aa.Kind t)==(13:Int))else(bif((M.aa.Kind t)==(14:Int))then((M.aa.Kind t)==(14:Int))else((M.aa.Kind t)==(17:Int))))then
 bif(decide ((0:Int)<((List.length (M.ae.Kids v)):Int)))then
 let q0:=(M.rT M.uf (M.aa.re t))
 let q1:=[(M.ae.Num v)]
 let q2:=(M.k7 (M.aa.re t) (M.ae.Num v))
 let q3:=default
 let q4:=(Option.getD (ln (M.aa.re (Option.getD q2 default).1) (M.ae.re (List.getD (M.ae.Kids v) (Int.toNat (0:Int)) M.ae.zero)) x x2 o2 o3) q3)
 let q5:=q4.2
 let q6:=q5.2
 let q7:=q6.1
 let q8:=(q1++q7)
 let q9:=(List.length q8)
 let q10:=(Go.IntKind.wrap Go.IntKind.i64 (((List.length (Option.getD q0 default)):Int)-(q9:Int)))
 let q11:=(bif(decide ((0:Int)<q10))then q10 else(0:Int))
 let q12:=(Int.toNat q11)
 let q13:=(List.length q1)
 bif(((decide ((0:Int)<=q11))&&(decide ((q9+q12)<=1073741824)))&&((Option.isSome q0)&&((decide ((q13+(List.length q7))<=1073741824))&&((Option.isSome (ln (M.aa.re (Option.getD q2 default).1) (M.ae.re (List.getD (M.ae.Kids v) (Int.toNat (0:Int)) M.ae.zero)) x x2 o2 o3))&&((Go.V.inB (0:Int) (List.length (M.ae.Kids v)))&&((Option.isSome q2)&&true))))))then
 let dL:=q6.2
 some (q4.1,q5.1,(q8++(List.replicate q12 (0:Int))),dL.1,dL.2)
 else
 none
 else
 let q0:=(M.rT M.uf (M.aa.re t))
 let q1:=[(M.ae.Num v)]
 let q2:=(List.length q1)
 let q3:=(Go.IntKind.wrap Go.IntKind.i64 (((List.length (Option.getD q0 default)):Int)-(q2:Int)))
 let q4:=(bif(decide ((0:Int)<q3))then q3 else(0:Int))
 let q5:=(Int.toNat q4)
 bif(((decide ((0:Int)<=q4))&&(decide ((q2+q5)<=1073741824)))&&((Option.isSome q0)&&true))then
 some (x,x2,(q1++(List.replicate q5 (0:Int))),o2,o3)
 else
 none
 else
 let q0:=(M.nJ (M.aa.Kind t))
 bif((Option.getD q0 default).2.2&&((M.aa.Kind t) !=(9:Int)))then
 bif((Option.isSome q0)&&true)then
 some (x,x2,[(Go.V.dQ Go.BinOp.and Go.IntKind.i64 (M.ae.Num v) (4294967295:Int))],o2,o3)
 else
 none
 else
 bif((Option.isSome q0)&&true)then
 let q1:=[(M.ae.Num v)]
 some (x,x2,q1,o2,o3)
 else
 none
def xk(cG:(List M.aa)->(List M.ae)->Int->Int->(List UInt8)->(List M.af)->Option (Int×Int×(List Int)×(List UInt8)×(List M.af))):Nat->M.aa->M.ae->Int->Int->(List UInt8)->(List M.af)->Option (Int×Int×(List Int)×(List UInt8)×(List M.af))
 |0=>fun _ _ _ _ _ _=>none
 |n+1=>zM cG (xk cG n)
def rV(cG:(List M.aa)->(List M.ae)->Int->Int->(List UInt8)->(List M.af)->Option (Int×Int×(List Int)×(List UInt8)×(List M.af))):M.aa->M.ae->Int->Int->(List UInt8)->(List M.af)->Option (Int×Int×(List Int)×(List UInt8)×(List M.af)):=xk cG Go.V.ah
def rW(cG:(List M.aa)->(List M.ae)->Int->Int->(List UInt8)->(List M.af)->Option (Int×Int×(List Int)×(List UInt8)×(List M.af)))(values:(List M.ae))(t11:(List M.aa))(t12:Int):Nat->Int->Int->Int->(List Int)->(List UInt8)->(List M.af)->Option (Int×Int×(List Int)×(List UInt8)×(List M.af))
 |0,_,_,_,_,_,_=>none
 |fuel+1,t13,x,x2,flat,o6,o7=>
 bif(decide (t13<t12))then
 let q0:=(M.rV cG (M.aa.re (List.getD t11 (Int.toNat t13) M.aa.zero)) (M.ae.re (List.getD values (Int.toNat t13) M.ae.zero)) x x2 o6 o7)
 let q1:=(Option.getD q0 default)
 let q2:=q1.2
 let q3:=q2.2
 let q4:=q3.1
 bif((decide (((List.length flat)+(List.length q4))<=1073741824))&&((Option.isSome q0)&&((Go.V.inB t13 (List.length values))&&((Go.V.inB t13 (List.length t11))&&true))))then
 let q5:=q3.2
 M.rW cG values t11 t12 fuel (Go.IntKind.wrap Go.IntKind.i64 (t13+(1:Int))) q1.1 q2.1 (flat++q4) q5.1 q5.2
 else
 none
 else
 some ((x,x2,flat,o6,o7))
def zN(cG:(List M.aa)->(List M.ae)->Int->Int->(List UInt8)->(List M.af)->Option (Int×Int×(List Int)×(List UInt8)×(List M.af)))(list:(List M.aa))(values:(List M.ae))(x:Int)(x2:Int)(o2:(List UInt8))(o3:(List M.af)):Option (Int×Int×(List Int)×(List UInt8)×(List M.af)):=
 match(M.rW cG values list ((List.length list):Int) Go.V.ah (0:Int) x x2 [] o2 o3)with
 |none=>none
 |some y0=>
 let q1:=y0.2.2
 let q2:=q1.2
 some (y0.1,y0.2.1,q1.1,q2.1,q2.2)
def oz:Nat->(List M.aa)->(List M.ae)->Int->Int->(List UInt8)->(List M.af)->Option (Int×Int×(List Int)×(List UInt8)×(List M.af))
 |0=>fun _ _ _ _ _ _=>none
 |n+1=>zN (oz n)
def ug:(List M.aa)->(List M.ae)->Int->Int->(List UInt8)->(List M.af)->Option (Int×Int×(List Int)×(List UInt8)×(List M.af)):=oz Go.V.ah
def ajk(enc:Int)(t:M.aa)(v:M.ae)(o1:(List UInt8))(o2:(List M.af)):Option ((List Int)×Int×(List UInt8)×(List M.af)):=
 let q0:=(M.rT M.uf (M.aa.re t))
 bif(decide (((List.length (Option.getD q0 default)):Int)<=(1:Int)))then
 let q1:=(M.rV M.ug (M.aa.re t) (M.ae.re v) enc (0:Int) o1 o2)
 bif((Option.isSome q1)&&((Option.isSome q0)&&true))then
 let q2:=(Option.getD q1 default).2
 let q3:=q2.2
 let q4:=q3.2
 some (q3.1,q2.1,q4.1,q4.2)
 else
 none
 else
 let q1:=(M.kq (M.aa.re t))
 let q2:=(M.im (M.aa.re t))
 let q3:=(M.lZ (Option.getD q1 default) (Option.getD q2 default) enc (0:Int) o1 o2)
 let q4:=(Option.getD q3 default)
 let q5:=q4.1
 let q6:=q4.2
 let q7:=q6.2
 let q8:=q7.2
 let q9:=(M.xb (M.aa.re t) (M.ae.re v) q5 q6.1 q7.1 q8.1 q8.2)
 bif((Option.isSome q9)&&((Option.isSome q3)&&((Option.isSome q2)&&((Option.isSome q1)&&((Option.isSome q0)&&true)))))then
 let q10:=(Option.getD q9 default).2
 let q11:=q10.2
 some ([q5],q10.1,q11.1,q11.2)
 else
 none
def xl(eY:M.aa->Option ((List Int)))(cases:(List M.aa)):Nat->Int->(List Int)->Option ((List Int))
 |0,_,_=>none
 |fuel+1,i,out=>
 bif(decide (i<((List.length cases):Int)))then
 let q0:=(M.rN out (Option.getD (eY (M.aa.re (List.getD cases (Int.toNat i) M.aa.zero))) default))
 bif((Option.isSome q0)&&((Option.isSome (eY (M.aa.re (List.getD cases (Int.toNat i) M.aa.zero))))&&((Go.V.inB i (List.length cases))&&true)))then
 M.xl eY cases fuel (Go.IntKind.wrap Go.IntKind.i64 (i+(1:Int))) (Option.getD q0 default)
 else
 none
 else
 some (out)
def zO(eY:M.aa->Option ((List Int)))(t:M.aa):Option ((List Int)):=
 bif((M.aa.Kind t)==(1:Int))then
 some []
 else
 bif((M.aa.Kind t)==(9:Int))then
 some [(2:Int)]
 else
 bif(bif((M.aa.Kind t)==(11:Int))then((M.aa.Kind t)==(11:Int))else((M.aa.Kind t)==(12:Int)))then
 let q0:=[(1:Int)]
 some [(1:Int),(1:Int)]
 else
 bif(bif((M.aa.Kind t)==(15:Int))then((M.aa.Kind t)==(15:Int))else((M.aa.Kind t)==(16:Int)))then
 let q0:=(M.jy (M.aa.Kids t))
 bif((Option.isSome q0)&&true)then
 some (Option.getD q0 default)
 else
 none
 else
 bif(bif((M.aa.Kind t)==(13:Int))then((M.aa.Kind t)==(13:Int))else(bif((M.aa.Kind t)==(14:Int))then((M.aa.Kind t)==(14:Int))else((M.aa.Kind t)==(17:Int))))then
 let q0:=(M.iJ (M.aa.re t))
 match(M.xl eY (Option.getD q0 default) Go.V.ah (0:Int) [])with
 |none=>none
 |some y1=>
 let q2:=[(1:Int)]
 bif((decide (((List.length q2)+(List.length y1))<=1073741824))&&((Option.isSome q0)&&true))then
 some (q2++y1)
 else
 none
 else
 let q0:=[(1:Int)]
 some q0
def ui:Nat->M.aa->Option ((List Int))
 |0=>fun _=>none
 |n+1=>zO (ui n)
def D2:M.aa->Option ((List Int)):=ui Go.V.ah
def uj:Nat->M.aa->(List Int)->Option ((List Int))
 |0,_,_=>none
 |fuel+1,t,out=>
 let q0:=(M.D2 (M.aa.re t))
 bif(decide (((List.length out):Int)<((List.length (Option.getD q0 default)):Int)))then
 let q1:=[(0:Int)]
 bif((decide (((List.length out)+(List.length q1))<=1073741824))&&((Option.isSome q0)&&true))then
 M.uj fuel (M.aa.re t) (out++q1)
 else
 none
 else
 bif((Option.isSome q0)&&true)then
 some (out)
 else
 none
def zP(iu:M.aa->M.ae->(List UInt8)->Int->Int->(List M.af)->Option ((List Int)×(List UInt8)×Int×Int×(List M.af)))(t:M.aa)(v:M.ae)(o:(List UInt8))(o2:Int)(o3:Int)(o1:(List M.af)):Option ((List Int)×(List UInt8)×Int×Int×(List M.af)):=
 bif((M.aa.Kind t)==(1:Int))then
 some ([],o,o2,o3,o1)
 else
 bif((M.aa.Kind t)==(9:Int))then
 let q0:=[(M.ae.Num v)]
 some (q0,o,o2,o3,o1)
 else
 bif(bif((M.aa.Kind t)==(11:Int))then((M.aa.Kind t)==(11:Int))else((M.aa.Kind t)==(12:Int)))then
 let q0:=(M.rP (M.aa.re t) (M.ae.re v) o o2 o3 o1)
 bif((Option.isSome q0)&&true)then
 let q1:=(Option.getD q0 default)
 let q2:=q1.2
 let q3:=q2.2
 let q4:=q3.2
 let q5:=q4.2
 some ([q1.1,q2.1],q3.1,q4.1,q5.1,q5.2)
 else
 none
 else
 bif(bif((M.aa.Kind t)==(15:Int))then((M.aa.Kind t)==(15:Int))else((M.aa.Kind t)==(16:Int)))then
 let q0:=(M.mL (M.aa.Kids t) (M.ae.Kids v) o o2 o3 o1)
 bif((Option.isSome q0)&&true)then
 let q1:=default
 let q2:=(Option.getD q0 q1)
 let q3:=q2.2
 let q4:=q3.2
 let q5:=q4.2
 some (q2.1,q3.1,q4.1,q5.1,q5.2)
 else
 none
 else
 bif(bif((M.aa.Kind t)==(13:Int))then((M.aa.Kind t)==(13:Int))else(bif((M.aa.Kind t)==(14:Int))then((M.aa.Kind t)==(14:Int))else((M.aa.Kind t)==(17:Int))))then
 bif(decide ((0:Int)<((List.length (M.ae.Kids v)):Int)))then
 let q0:=[(M.ae.Num v)]
 let q1:=(M.iJ (M.aa.re t))
 let q2:=default
 let q3:=(Option.getD (iu (M.aa.re (List.getD (Option.getD q1 default) (Int.toNat (M.ae.Num v)) M.aa.zero)) (M.ae.re (List.getD (M.ae.Kids v) (Int.toNat (0:Int)) M.ae.zero)) o o2 o3 o1) q2)
 let q4:=q3.1
 match(M.uj Go.V.ah (M.aa.re t) (q0++q4))with
 |none=>none
 |some y5=>
 bif((decide (((List.length q0)+(List.length q4))<=1073741824))&&((Option.isSome (iu (M.aa.re (List.getD (Option.getD q1 default) (Int.toNat (M.ae.Num v)) M.aa.zero)) (M.ae.re (List.getD (M.ae.Kids v) (Int.toNat (0:Int)) M.ae.zero)) o o2 o3 o1))&&((Go.V.inB (0:Int) (List.length (M.ae.Kids v)))&&((Go.V.inB (M.ae.Num v) (List.length (Option.getD q1 default)))&&((Option.isSome q1)&&true)))))then
 let q6:=q3.2
 let q7:=q6.2
 let q8:=q7.2
 some (y5,q6.1,q7.1,q8.1,q8.2)
 else
 none
 else
 let q0:=[(M.ae.Num v)]
 match(M.uj Go.V.ah (M.aa.re t) q0)with
 |none=>none
 |some y1=>
 some (y1,o,o2,o3,o1)
 else
 some ([(Go.V.dQ Go.BinOp.and Go.IntKind.i64 (M.ae.Num v) (4294967295:Int))],o,o2,o3,o1)
def uk:Nat->M.aa->M.ae->(List UInt8)->Int->Int->(List M.af)->Option ((List Int)×(List UInt8)×Int×Int×(List M.af))
 |0=>fun _ _ _ _ _ _=>none
 |n+1=>zP (uk n)
def um:M.aa->M.ae->(List UInt8)->Int->Int->(List M.af)->Option ((List Int)×(List UInt8)×Int×Int×(List M.af)):=uk Go.V.ah
def xo(flat:(List Int))(o:(List UInt8))(o2:Int)(o3:Int)(o1:(List M.af)):Option ((List UInt8)×Int×(List UInt8)×Int×Int×(List M.af)×(List Int)×(List M.af)):=
 bif(o3 !=(0:Int))then
 some ([],o3,o,o2,o3,[],[],o1)
 else
 none
def xp(flat:(List Int))(o:(List UInt8))(o2:Int)(o3:Int)(o1:(List M.af)):Option ((List UInt8)×(List Int)×Int×(List UInt8)×Int×Int×(List M.af)):=
 bif(o3 !=(0:Int))then
 none
 else
 some (o,flat,(0:Int),o,o2,o3,o1)
def uo(m:M.aB)(enc:Int)(t:M.aa)(v:M.ae):Option (M.aB×(List Int)×Int):=
 let q0:=(M.rA m enc)
 let q1:=(M.rq (M.ae.re v) (M.aa.re t))
 bif((!(Option.getD q0 default))||(!(Option.getD q1 default)))then
 let q2:=(((Option.isSome q1)||(!((!(Option.getD q0 default))==false)))&&((Option.isSome q0)&&true))
 bif q2 then
 some ((M.aB.mk [] []),[],(1:Int))
 else
 none
 else
 Go.V.xC (let q2:=(M.jw m)
 let q3:=(M.um (M.aa.re t) (M.ae.re v) (Option.getD q2 default).1 enc (0:Int) (Option.getD q2 default).2)
 let q4:=(Option.getD q3 default)
 let q5:=q4.1
 let q6:=q4.2
 let q7:=q6.1
 let q8:=q6.2
 let q9:=q8.1
 let q10:=q8.2
 let q11:=q10.1
 let q12:=q10.2
 let q13:=(M.xp q5 q7 q9 q11 q12)
 let dL:=(((Option.isSome q1)||(!((!(Option.getD q0 default))==false)))&&((Option.isSome q0)&&true))
 let cA:=((Option.isSome q3)&&((Option.isSome q2)&&dL))
 bif((Option.isSome q13)&&cA)then
 let q16:=(Option.getD q13 default)
 let fY:=q16.2
 let jh:=fY.2
 some ((M.aB.mk q16.1 jh.2.2.2.2),fY.1,jh.1)
 else
 none) (let q2:=(M.jw m)
 let q3:=(M.um (M.aa.re t) (M.ae.re v) (Option.getD q2 default).1 enc (0:Int) (Option.getD q2 default).2)
 let q4:=(Option.getD q3 default)
 let q5:=q4.1
 let q6:=q4.2
 let q7:=q6.1
 let q8:=q6.2
 let q9:=q8.1
 let q10:=q8.2
 let q11:=q10.1
 let q12:=q10.2
 let q13:=(M.xo q5 q7 q9 q11 q12)
 let dL:=(((Option.isSome q1)||(!((!(Option.getD q0 default))==false)))&&((Option.isSome q0)&&true))
 let cA:=((Option.isSome q3)&&((Option.isSome q2)&&dL))
 bif((Option.isSome q13)&&cA)then
 let q16:=(Option.getD q13 default)
 let fY:=q16.2
 let jh:=fY.2.2.2.2
 some ((M.aB.mk q16.1 jh.1),jh.2.1,fY.1)
 else
 none)
def ajB(m:M.aB)(enc:Int)(t:M.aa)(v:M.ae):Option (M.aB×(List Int)×Int):=
 let q0:=(M.rA m enc)
 let q1:=(M.rq (M.ae.re v) (M.aa.re t))
 bif((!(Option.getD q0 default))||(!(Option.getD q1 default)))then
 let q2:=(((Option.isSome q1)||(!((!(Option.getD q0 default))==false)))&&((Option.isSome q0)&&true))
 bif q2 then
 some ((M.aB.mk [] []),[],(1:Int))
 else
 none
 else
 let q2:=(M.D2 (M.aa.re t))
 bif(decide (((List.length (Option.getD q2 default)):Int)<=(1:Int)))then
 let q3:=(M.uo m enc (M.aa.re t) (M.ae.re v))
 let q4:=(((Option.isSome q1)||(!((!(Option.getD q0 default))==false)))&&((Option.isSome q0)&&true))
 let q5:=((Option.isSome q2)&&q4)
 bif((Option.isSome q3)&&q5)then
 let q6:=(Option.getD q3 default)
 let q7:=q6.2
 some (q6.1,q7.1,q7.2)
 else
 none
 else
 let q3:=(M.je (M.aa.re t))
 let q4:=(M.jw m)
 let q5:=(M.nV (Option.getD q3 default).1 (Option.getD q3 default).2 (Option.getD q4 default).1 enc (0:Int) (Option.getD q4 default).2)
 let q6:=(Option.getD q5 default)
 let q7:=q6.2
 let q8:=q7.2
 let q9:=q8.2
 let q10:=q9.1
 bif(q10==(0:Int))then
 Go.V.xC (let q11:=q6.1
 let q12:=[q11]
 let q13:=q7.1
 let dL:=q8.1
 let cA:=q9.2
 let q16:=(M.wN (M.aa.re t) (M.ae.re v) q11 q13 dL q10 cA)
 let fY:=(Option.getD q16 default)
 let jh:=fY.1
 let zT:=fY.2
 let U2:=zT.1
 let zU:=zT.2
 let q22:=zU.1
 let q23:=zU.2
 let q24:=(M.xp q12 jh U2 q22 q23)
 let IP:=(((Option.isSome q1)||(!((!(Option.getD q0 default))==false)))&&((Option.isSome q0)&&true))
 let U3:=((Option.isSome q2)&&IP)
 let U4:=((Option.isSome q5)&&((Option.isSome q4)&&((Option.isSome q3)&&U3)))
 let U5:=((Option.isSome q16)&&U4)
 bif((Option.isSome q24)&&U5)then
 let kz:=default
 let q30:=(Option.getD q24 kz)
 let kA:=q30.2
 let q32:=kA.2
 some ((M.aB.mk q30.1 q32.2.2.2.2),kA.1,q32.1)
 else
 none) (let q11:=q6.1
 let q12:=[q11]
 let q13:=q7.1
 let dL:=q8.1
 let cA:=q9.2
 let q16:=(M.wN (M.aa.re t) (M.ae.re v) q11 q13 dL q10 cA)
 let fY:=(Option.getD q16 default)
 let jh:=fY.1
 let zT:=fY.2
 let U2:=zT.1
 let zU:=zT.2
 let q22:=zU.1
 let q23:=zU.2
 let q24:=(M.xo q12 jh U2 q22 q23)
 let IP:=(((Option.isSome q1)||(!((!(Option.getD q0 default))==false)))&&((Option.isSome q0)&&true))
 let U3:=((Option.isSome q2)&&IP)
 let U4:=((Option.isSome q5)&&((Option.isSome q4)&&((Option.isSome q3)&&U3)))
 let U5:=((Option.isSome q16)&&U4)
 bif((Option.isSome q24)&&U5)then
 let kz:=default
 let q30:=(Option.getD q24 kz)
 let kA:=q30.2
 let q32:=kA.2.2.2.2
 some ((M.aB.mk q30.1 q32.1),q32.2.1,kA.1)
 else
 none)
 else
 Go.V.xC (let q11:=q6.1
 let q12:=[q11]
 let q13:=q7.1
 let dL:=q8.1
 let cA:=q9.2
 let q16:=(M.xp q12 q13 dL q10 cA)
 let fY:=(((Option.isSome q1)||(!((!(Option.getD q0 default))==false)))&&((Option.isSome q0)&&true))
 let jh:=((Option.isSome q2)&&fY)
 let zT:=((Option.isSome q5)&&((Option.isSome q4)&&((Option.isSome q3)&&jh)))
 bif((Option.isSome q16)&&zT)then
 let U2:=default
 let zU:=(Option.getD q16 U2)
 let q22:=zU.2
 let q23:=q22.2
 some ((M.aB.mk zU.1 q23.2.2.2.2),q22.1,q23.1)
 else
 none) (let q11:=q6.1
 let q12:=[q11]
 let q13:=q7.1
 let dL:=q8.1
 let cA:=q9.2
 let q16:=(M.xo q12 q13 dL q10 cA)
 let fY:=(((Option.isSome q1)||(!((!(Option.getD q0 default))==false)))&&((Option.isSome q0)&&true))
 let jh:=((Option.isSome q2)&&fY)
 let zT:=((Option.isSome q5)&&((Option.isSome q4)&&((Option.isSome q3)&&jh)))
 bif((Option.isSome q16)&&zT)then
 let U2:=default
 let zU:=(Option.getD q16 U2)
 let q22:=zU.2
 let q23:=q22.2.2.2.2
 some ((M.aB.mk zU.1 q23.1),q23.2.1,q22.1)
 else
 none)
def ajR(m:M.aB)(enc:Int)(t:M.aa)(v:M.ae):Option ((List UInt8)×Int×(List M.af)×(List Int)):=
 let q0:=(M.wV m enc [(M.aa.re t)])
 let q1:=(!(Option.getD q0 default))
 let q2:=(M.CH (M.ae.re v) (M.aa.re t))
 bif(q1||(!(Option.getD q2 default)))then
 let q3:=(((Option.isSome q2)||(!(q1==false)))&&((Option.isSome q0)&&true))
 bif q3 then
 some ([],(1:Int),[],[])
 else
 none
 else
 let q3:=(M.wW m)
 let q4:=(M.ajk enc (M.aa.re t) (M.ae.re v) (Option.getD q3 default).1 (Option.getD q3 default).2)
 let q5:=(Option.getD q4 default)
 let q6:=q5.2
 let q7:=q6.1
 bif(q7 !=(0:Int))then
 let q8:=(((Option.isSome q2)||(!(q1==false)))&&((Option.isSome q0)&&true))
 let q9:=((Option.isSome q4)&&((Option.isSome q3)&&q8))
 bif q9 then
 some ([],q7,[],[])
 else
 none
 else
 let q8:=(M.IV q5.1)
 let q9:=q6.2
 let q10:=(M.xc (M.hC.mk q9.1 q9.2))
 let q11:=(((Option.isSome q2)||(!(q1==false)))&&((Option.isSome q0)&&true))
 let q12:=((Option.isSome q4)&&((Option.isSome q3)&&q11))
 bif((Option.isSome q8)&&((Option.isSome q10)&&q12))then
 let q13:=(Option.getD q10 default)
 some (q13.1,(0:Int),q13.2,(Option.getD q8 default))
 else
 none
def xq(a:(List M.af))(left:Int):Option (Int):=
 bif(decide ((Go.IntKind.wrap Go.IntKind.i64 (left-((List.length a):Int)))<(0:Int)))then
 some (-(1:Int))
 else
 some (Go.IntKind.wrap Go.IntKind.i64 (left-((List.length a):Int)))
def xr(a:M.aB)(left:Int):Option (Int):=
 bif(decide ((Go.IntKind.wrap Go.IntKind.i64 (left-((List.length (M.aB.Bytes a)):Int)))<(0:Int)))then
 some (-(1:Int))
 else
 let q0:=(M.xq (M.aB.Free a) (Go.IntKind.wrap Go.IntKind.i64 (left-((List.length (M.aB.Bytes a)):Int))))
 let q1:=(Option.getD q0 default)
 bif(decide (q1<(0:Int)))then
 let q2:=((Option.isSome q0)&&true)
 bif q2 then
 some (-(1:Int))
 else
 none
 else
 let q2:=((Option.isSome q0)&&true)
 bif q2 then
 some q1
 else
 none
def zQ(a:M.af):Option (M.af):=
 some a
def rX(a:(List M.af)):Nat->Int->(List M.af)->Option ((List M.af))
 |0,_,_=>none
 |fuel+1,i,out=>
 bif(decide (i<((List.length a):Int)))then
 bif((Go.V.inB i (List.length out))&&((Go.V.inB i (List.length a))&&true))then
 M.rX a fuel (Go.IntKind.wrap Go.IntKind.i64 (i+(1:Int))) (List.set out (Int.toNat i) (List.getD a (Int.toNat i) M.af.zero))
 else
 none
 else
 some (out)
def xt(a:(List M.af)):Option ((List M.af)):=
 match(M.rX a Go.V.ah (0:Int) (List.replicate (Int.toNat ((List.length a):Int)) (M.af.mk (0:Int) (0:Int))))with
 |none=>none
 |some y0=>
 bif(((decide (((List.length a):Int)<=((List.length a):Int)))&&(decide (((List.length a):Int)<=(1073741824:Int))))&&true)then
 some y0
 else
 none
def xu(a:M.aB):Option ((List UInt8)×(List M.af)):=
 let q0:=(M.xt (M.aB.Free a))
 bif((Option.isSome q0)&&true)then
 some ((M.aB.Bytes a),(Option.getD q0 default))
 else
 none
def xw(a:M.af)(b:M.af):Option (Bool):=
 bif((M.af.At a) !=(M.af.At b))then
 some false
 else
 bif((M.af.Size a) !=(M.af.Size b))then
 some false
 else
 some true
def uu(a:(List M.af))(b:(List M.af)):Nat->Int->Option ((Bool)⊕(Unit))
 |0,_=>none
 |fuel+1,i=>
 bif(decide (i<((List.length a):Int)))then
 let q0:=(M.xw (List.getD a (Int.toNat i) M.af.zero) (List.getD b (Int.toNat i) M.af.zero))
 bif(!(Option.getD q0 default))then
 let q1:=((Option.isSome q0)&&((Go.V.inB i (List.length b))&&((Go.V.inB i (List.length a))&&true)))
 bif q1 then
 some (.inl false)
 else
 none
 else
 let q1:=((Option.isSome q0)&&((Go.V.inB i (List.length b))&&((Go.V.inB i (List.length a))&&true)))
 bif q1 then
 M.uu a b fuel (Go.IntKind.wrap Go.IntKind.i64 (i+(1:Int)))
 else
 none
 else
 some ((.inr (())))
def xx(a:(List M.af))(b:(List M.af)):Option (Bool):=
 bif(((List.length a):Int) !=((List.length b):Int))then
 some false
 else
 match(M.uu a b Go.V.ah (0:Int))with
 |none=>none
 |some y0=>
 (match y0 with
 |.inl a1=>
 some a1
 |.inr b1=>
 some true)
def pT(a:M.aB)(b:M.aB):Option (Bool):=
 bif(!((M.aB.Bytes a)==(M.aB.Bytes b)))then
 some false
 else
 let q0:=(M.xx (M.aB.Free a) (M.aB.Free b))
 bif(!(Option.getD q0 default))then
 bif((Option.isSome q0)&&true)then
 some false
 else
 none
 else
 bif((Option.isSome q0)&&true)then
 some true
 else
 none
def uv:Nat->Int->Int->(List M.af)->Option (Int×(List M.af))
 |0,_,_,_=>none
 |fuel+1,k,i,a=>
 bif(decide (i<((List.length a):Int)))then
 let q0:=(List.set a (Int.toNat i) (M.af.mk k (M.af.Size (List.getD a (Int.toNat i) M.af.zero))))
 bif((Go.V.inB i (List.length q0))&&((Go.V.inB i (List.length a))&&true))then
 M.uv fuel (Go.IntKind.wrap Go.IntKind.i64 ((Go.IntKind.wrap Go.IntKind.i64 (k+(1:Int)))+(1:Int))) (Go.IntKind.wrap Go.IntKind.i64 (i+(1:Int))) (List.set q0 (Int.toNat i) (M.af.mk (M.af.At (List.getD q0 (Int.toNat i) M.af.zero)) (Go.IntKind.wrap Go.IntKind.i64 (k+(1:Int)))))
 else
 none
 else
 some ((k,a))
def xy(k:Int)(a:(List M.af)):Option (Int×(List M.af)):=
 match(M.uv Go.V.ah k (0:Int) a)with
 |none=>none
 |some y0=>
 some (y0.1,y0.2)
def uw(a:(List UInt8))(k:Int)(o0:(List M.af)):Option (Int×(List M.af)):=
 let q0:=(M.xy k o0)
 bif(((Option.isSome q0)&&true)&&true)then
 some ((Option.getD q0 default).1,(Option.getD q0 default).2)
 else
 none
def ux(a:(List M.af)):Nat->Int->Int->Option ((Int)⊕(Int))
 |0,_,_=>none
 |fuel+1,k,i=>
 bif(decide (i<((List.length a):Int)))then
 bif((M.af.At (List.getD a (Int.toNat i) M.af.zero)) !=k)then
 bif((Go.V.inB i (List.length a))&&true)then
 some (.inl (-(1:Int)))
 else
 none
 else
 bif((M.af.Size (List.getD a (Int.toNat i) M.af.zero)) !=(Go.IntKind.wrap Go.IntKind.i64 (k+(1:Int))))then
 let q0:=((Go.V.inB i (List.length a))&&((Go.V.inB i (List.length a))&&true))
 bif q0 then
 some (.inl (-(1:Int)))
 else
 none
 else
 let q0:=((Go.V.inB i (List.length a))&&((Go.V.inB i (List.length a))&&true))
 bif q0 then
 M.ux a fuel (Go.IntKind.wrap Go.IntKind.i64 ((Go.IntKind.wrap Go.IntKind.i64 (k+(1:Int)))+(1:Int))) (Go.IntKind.wrap Go.IntKind.i64 (i+(1:Int)))
 else
 none
 else
 some ((.inr (k)))
def uy(a:(List M.af))(k:Int):Option (Int):=
 match(M.ux a Go.V.ah k (0:Int))with
 |none=>none
 |some y0=>
 (match y0 with
 |.inl a1=>
 some a1
 |.inr b1=>
 some b1)
def xz(a:M.aB)(k:Int):Option (Int):=
 let q0:=(M.uy (M.aB.Free a) k)
 bif(decide ((Option.getD q0 default)<(0:Int)))then
 bif((Option.isSome q0)&&true)then
 some (-(1:Int))
 else
 none
 else
 bif((Option.isSome q0)&&true)then
 some (Option.getD q0 default)
 else
 none
def xA(a:Int)(a2:Int)(a3:(List UInt8))(k:Int)(o0:(List M.ae)):Option (Int×(List M.ae)):=
 let q0:=(M.CQ k o0)
 bif(((Option.isSome q0)&&true)&&true)then
 some ((Option.getD q0 default).1,(Option.getD q0 default).2)
 else
 none
def aim(aM:M.aB)(U1:Int)(aT:M.aa)(aV:M.ae):Option (Bool):=
 let q0:=(M.xr aM (1048576:Int))
 bif(decide ((Option.getD q0 default)<(0:Int)))then
 bif((Option.isSome q0)&&true)then
 some true
 else
 none
 else
 let q1:=(M.BA (M.aa.re aT) (Option.getD q0 default))
 let q2:=(Option.getD q1 default)
 bif(decide (q2<(0:Int)))then
 let q3:=((Option.isSome q1)&&((Option.isSome q0)&&true))
 bif q3 then
 some true
 else
 none
 else
 let q3:=(M.CU (M.ae.re aV) q2)
 bif(decide ((Option.getD q3 default)<(0:Int)))then
 let q4:=((Option.isSome q1)&&((Option.isSome q0)&&true))
 let q5:=((Option.isSome q3)&&q4)
 bif q5 then
 some true
 else
 none
 else
 let q4:=(M.xu aM)
 let q5:=(Option.getD q4 default).1
 let q6:=(Option.getD q4 default).2
 let q7:=(M.BD (M.aa.re aT))
 let q8:=(Option.getD q7 default)
 let q9:=q8.1
 let q10:=q8.2
 let q11:=q10.1
 let q12:=q10.2
 let q13:=q12.1
 let dL:=q12.2
 let cA:=(M.CW (M.ae.re aV))
 let q16:=(Option.getD cA default)
 let fY:=q16.1
 let jh:=q16.2
 let zT:=jh.1
 let U2:=jh.2
 let zU:=U2.1
 let q22:=U2.2
 let q23:=(M.ajR (M.aB.mk q5 q6) U1 (M.aa.mk q9 q11 q13 dL) (M.ae.mk fY zT zU q22))
 let q24:=(Option.getD q23 default)
 let IP:=q24.1
 let U3:=q24.2
 let U4:=U3.2
 let U5:=U4.1
 let kz:=(M.ajB (M.aB.mk q5 q6) U1 (M.aa.mk q9 q11 q13 dL) (M.ae.mk fY zT zU q22))
 let q30:=(Option.getD kz default)
 let kA:=(M.pT (M.aB.mk IP U5) q30.1)
 let q32:=(!(Option.getD kA default))
 let IQ:=U4.2
 let U6:=q30.2
 let q35:=(M.vB IQ U6.1)
 let U7:=(!(Option.getD q35 default))
 let q37:=(U3.1 !=U6.2)
 let U8:=((q32||U7)||q37)
 bif U8 then
 let jW:=(Option.isSome q35)
 let jz:=(jW||(!(q32==false)))
 let ji:=(Option.isSome kA)
 let iP:=(Option.isSome q23)
 let iQ:=((Option.isSome q1)&&((Option.isSome q0)&&true))
 let eZ:=((Option.isSome q3)&&iQ)
 let iR:=(jz&&(ji&&(iP&&((Option.isSome cA)&&((Option.isSome q7)&&((Option.isSome q4)&&((Option.isSome kz)&&((Option.isSome cA)&&((Option.isSome q7)&&((Option.isSome q4)&&eZ))))))))))
 bif iR then
 some false
 else
 none
 else
 let jW:=(M.pT (M.aB.mk q5 q6) (M.aB.mk q5 q6))
 bif(!(Option.getD jW default))then
 let jz:=(Option.isSome q35)
 let ji:=(jz||(!(q32==false)))
 let iP:=(Option.isSome kA)
 let iQ:=(Option.isSome q23)
 let eZ:=((Option.isSome q1)&&((Option.isSome q0)&&true))
 let iR:=((Option.isSome q3)&&eZ)
 let iS:=(ji&&(iP&&(iQ&&((Option.isSome cA)&&((Option.isSome q7)&&((Option.isSome q4)&&((Option.isSome kz)&&((Option.isSome cA)&&((Option.isSome q7)&&((Option.isSome q4)&&iR))))))))))
 let l7:=((Option.isSome jW)&&((Option.isSome q4)&&iS))
 bif l7 then
 some false
 else
 none
 else
 let jz:=(M.BG (M.aa.mk q9 q11 q13 dL) (M.aa.mk q9 q11 q13 dL))
 bif(!(Option.getD jz default))then
 let ji:=(Option.isSome q35)
 let iP:=(ji||(!(q32==false)))
 let iQ:=(Option.isSome kA)
 let eZ:=(Option.isSome q23)
 let iR:=((Option.isSome q1)&&((Option.isSome q0)&&true))
 let iS:=((Option.isSome q3)&&iR)
 let l7:=(iP&&(iQ&&(eZ&&((Option.isSome cA)&&((Option.isSome q7)&&((Option.isSome q4)&&((Option.isSome kz)&&((Option.isSome cA)&&((Option.isSome q7)&&((Option.isSome q4)&&iS))))))))))
 let jX:=((Option.isSome jW)&&((Option.isSome q4)&&l7))
 let pY:=((Option.isSome jz)&&((Option.isSome q7)&&jX))
 bif pY then
 some false
 else
 none
 else
 let ji:=(M.Bq (M.ae.mk fY zT zU q22) (M.ae.mk fY zT zU q22))
 bif(!(Option.getD ji default))then
 let iP:=(Option.isSome q35)
 let iQ:=(iP||(!(q32==false)))
 let eZ:=(Option.isSome kA)
 let iR:=(Option.isSome q23)
 let iS:=((Option.isSome q1)&&((Option.isSome q0)&&true))
 let l7:=((Option.isSome q3)&&iS)
 let jX:=(iQ&&(eZ&&(iR&&((Option.isSome cA)&&((Option.isSome q7)&&((Option.isSome q4)&&((Option.isSome kz)&&((Option.isSome cA)&&((Option.isSome q7)&&((Option.isSome q4)&&l7))))))))))
 let pY:=((Option.isSome jW)&&((Option.isSome q4)&&jX))
 let kB:=((Option.isSome jz)&&((Option.isSome q7)&&pY))
 let rY:=((Option.isSome ji)&&((Option.isSome cA)&&kB))
 bif rY then
 some false
 else
 none
 else
 let iP:=(M.uw q5 (1:Int) q6)
 let iQ:=(M.wA q9 q11 (Option.getD iP default).1 q13 dL)
 let eZ:=(M.xA fY zT zU (Option.getD iQ default).1 q22)
 let iR:=((decide ((Option.getD eZ default).1<(0:Int)))||q32)
 bif((iR||U7)||q37)then
 let iS:=(Option.isSome q35)
 let l7:=(Option.isSome kA)
 let jX:=(iS||(!(q32==false)))
 let pY:=(Option.isSome q23)
 let kB:=((Option.isSome q1)&&((Option.isSome q0)&&true))
 let rY:=((Option.isSome q3)&&kB)
 let lu:=(jX&&(l7&&(pY&&((Option.isSome cA)&&((Option.isSome q7)&&((Option.isSome q4)&&((Option.isSome kz)&&((Option.isSome cA)&&((Option.isSome q7)&&((Option.isSome q4)&&rY))))))))))
 let rZ:=((Option.isSome jW)&&((Option.isSome q4)&&lu))
 let r5:=((Option.isSome jz)&&((Option.isSome q7)&&rZ))
 let fZ:=((Option.isSome ji)&&((Option.isSome cA)&&r5))
 let fN:=((iS||(!(iR==false)))&&((l7||(!((decide ((Option.getD eZ default).1<(0:Int)))==false)))&&((Option.isSome eZ)&&((Option.isSome iQ)&&((Option.isSome iP)&&fZ)))))
 bif fN then
 some false
 else
 none
 else
 let iS:=(M.uw IP (1:Int) U5)
 let l7:=(Option.getD iS default)
 let jX:=(M.xz (M.aB.mk IP l7.2) (1:Int))
 let pY:=(Option.getD jX default)
 bif(decide (pY<(0:Int)))then
 let kB:=(Option.isSome jX)
 let rY:=(M.tc l7.1 IQ)
 let lu:=(Option.isSome q35)
 let rZ:=(Option.isSome kA)
 let r5:=(lu||(!(q32==false)))
 let fZ:=(Option.isSome q23)
 let fN:=((Option.isSome q1)&&((Option.isSome q0)&&true))
 let fO:=((Option.isSome q3)&&fN)
 let f0:=(r5&&(rZ&&(fZ&&((Option.isSome cA)&&((Option.isSome q7)&&((Option.isSome q4)&&((Option.isSome kz)&&((Option.isSome cA)&&((Option.isSome q7)&&((Option.isSome q4)&&fO))))))))))
 let ga:=((Option.isSome jW)&&((Option.isSome q4)&&f0))
 let iT:=((Option.isSome jz)&&((Option.isSome q7)&&ga))
 let jY:=((Option.isSome ji)&&((Option.isSome cA)&&iT))
 let jZ:=((lu||(!(iR==false)))&&((rZ||(!((decide ((Option.getD eZ default).1<(0:Int)))==false)))&&((Option.isSome eZ)&&((Option.isSome iQ)&&((Option.isSome iP)&&jY)))))
 let j0:=(kB&&((Option.isSome rY)&&((Option.isSome iS)&&jZ)))
 bif j0 then
 some false
 else
 none
 else
 let kB:=(M.tc l7.1 IQ)
 let rY:=(Option.getD kB default)
 let lu:=(M.vC rY.2 pY)
 let rZ:=(Option.getD lu default)
 bif(decide (rZ<(0:Int)))then
 let r5:=(Option.isSome lu)
 let fZ:=(Option.isSome jX)
 let fN:=(Option.isSome q35)
 let fO:=(Option.isSome kA)
 let f0:=(fN||(!(q32==false)))
 let ga:=(Option.isSome q23)
 let iT:=((Option.isSome q1)&&((Option.isSome q0)&&true))
 let jY:=((Option.isSome q3)&&iT)
 let jZ:=(f0&&(fO&&(ga&&((Option.isSome cA)&&((Option.isSome q7)&&((Option.isSome q4)&&((Option.isSome kz)&&((Option.isSome cA)&&((Option.isSome q7)&&((Option.isSome q4)&&jY))))))))))
 let j0:=((Option.isSome jW)&&((Option.isSome q4)&&jZ))
 let lv:=((Option.isSome jz)&&((Option.isSome q7)&&j0))
 let lx:=((Option.isSome ji)&&((Option.isSome cA)&&lv))
 let ly:=((fN||(!(iR==false)))&&((fO||(!((decide ((Option.getD eZ default).1<(0:Int)))==false)))&&((Option.isSome eZ)&&((Option.isSome iQ)&&((Option.isSome iP)&&lx)))))
 let lA:=(fZ&&((Option.isSome kB)&&((Option.isSome iS)&&ly)))
 let lB:=(r5&&lA)
 bif lB then
 some false
 else
 none
 else
 let r5:=(rZ !=rY.1)
 bif r5 then
 let fZ:=(Option.isSome lu)
 let fN:=(Option.isSome jX)
 let fO:=(Option.isSome q35)
 let f0:=(Option.isSome kA)
 let ga:=(fO||(!(q32==false)))
 let iT:=(Option.isSome q23)
 let jY:=((Option.isSome q1)&&((Option.isSome q0)&&true))
 let jZ:=((Option.isSome q3)&&jY)
 let j0:=(ga&&(f0&&(iT&&((Option.isSome cA)&&((Option.isSome q7)&&((Option.isSome q4)&&((Option.isSome kz)&&((Option.isSome cA)&&((Option.isSome q7)&&((Option.isSome q4)&&jZ))))))))))
 let lv:=((Option.isSome jW)&&((Option.isSome q4)&&j0))
 let lx:=((Option.isSome jz)&&((Option.isSome q7)&&lv))
 let ly:=((Option.isSome ji)&&((Option.isSome cA)&&lx))
 let lA:=((fO||(!(iR==false)))&&((f0||(!((decide ((Option.getD eZ default).1<(0:Int)))==false)))&&((Option.isSome eZ)&&((Option.isSome iQ)&&((Option.isSome iP)&&ly)))))
 let lB:=(fN&&((Option.isSome kB)&&((Option.isSome iS)&&lA)))
 let mN:=(fZ&&lB)
 bif mN then
 some false
 else
 none
 else
 bif U8 then
 let fZ:=(Option.isSome q35)
 let fN:=(fZ||(!(q32==false)))
 let fO:=(Option.isSome kA)
 let f0:=(Option.isSome q23)
 let ga:=(Option.isSome lu)
 let iT:=(Option.isSome jX)
 let jY:=((Option.isSome q1)&&((Option.isSome q0)&&true))
 let jZ:=((Option.isSome q3)&&jY)
 let j0:=(fN&&(fO&&(f0&&((Option.isSome cA)&&((Option.isSome q7)&&((Option.isSome q4)&&((Option.isSome kz)&&((Option.isSome cA)&&((Option.isSome q7)&&((Option.isSome q4)&&jZ))))))))))
 let lv:=((Option.isSome jW)&&((Option.isSome q4)&&j0))
 let lx:=((Option.isSome jz)&&((Option.isSome q7)&&lv))
 let ly:=((Option.isSome ji)&&((Option.isSome cA)&&lx))
 let lA:=((fZ||(!(iR==false)))&&((fO||(!((decide ((Option.getD eZ default).1<(0:Int)))==false)))&&((Option.isSome eZ)&&((Option.isSome iQ)&&((Option.isSome iP)&&ly)))))
 let lB:=(iT&&((Option.isSome kB)&&((Option.isSome iS)&&lA)))
 let mN:=(ga&&lB)
 let pZ:=(fN&&(fO&&(f0&&((Option.isSome cA)&&((Option.isSome q7)&&((Option.isSome q4)&&mN))))))
 bif pZ then
 some false
 else
 none
 else
 bif(decide (pY<(0:Int)))then
 let fZ:=(Option.isSome jX)
 let fN:=(Option.isSome q35)
 let fO:=(fN||(!(q32==false)))
 let f0:=(Option.isSome kA)
 let ga:=(Option.isSome q23)
 let iT:=(Option.isSome lu)
 let jY:=((Option.isSome q1)&&((Option.isSome q0)&&true))
 let jZ:=((Option.isSome q3)&&jY)
 let j0:=(fO&&(f0&&(ga&&((Option.isSome cA)&&((Option.isSome q7)&&((Option.isSome q4)&&((Option.isSome kz)&&((Option.isSome cA)&&((Option.isSome q7)&&((Option.isSome q4)&&jZ))))))))))
 let lv:=((Option.isSome jW)&&((Option.isSome q4)&&j0))
 let lx:=((Option.isSome jz)&&((Option.isSome q7)&&lv))
 let ly:=((Option.isSome ji)&&((Option.isSome cA)&&lx))
 let lA:=((fN||(!(iR==false)))&&((f0||(!((decide ((Option.getD eZ default).1<(0:Int)))==false)))&&((Option.isSome eZ)&&((Option.isSome iQ)&&((Option.isSome iP)&&ly)))))
 let lB:=(fZ&&((Option.isSome kB)&&((Option.isSome iS)&&lA)))
 let mN:=(iT&&lB)
 let pZ:=(fO&&(f0&&(ga&&((Option.isSome cA)&&((Option.isSome q7)&&((Option.isSome q4)&&mN))))))
 let uB:=(fZ&&pZ)
 bif uB then
 some false
 else
 none
 else
 bif(decide (rZ<(0:Int)))then
 let fZ:=(Option.isSome lu)
 let fN:=(Option.isSome jX)
 let fO:=(Option.isSome q35)
 let f0:=(fO||(!(q32==false)))
 let ga:=(Option.isSome kA)
 let iT:=(Option.isSome q23)
 let jY:=((Option.isSome q1)&&((Option.isSome q0)&&true))
 let jZ:=((Option.isSome q3)&&jY)
 let j0:=(f0&&(ga&&(iT&&((Option.isSome cA)&&((Option.isSome q7)&&((Option.isSome q4)&&((Option.isSome kz)&&((Option.isSome cA)&&((Option.isSome q7)&&((Option.isSome q4)&&jZ))))))))))
 let lv:=((Option.isSome jW)&&((Option.isSome q4)&&j0))
 let lx:=((Option.isSome jz)&&((Option.isSome q7)&&lv))
 let ly:=((Option.isSome ji)&&((Option.isSome cA)&&lx))
 let lA:=((fO||(!(iR==false)))&&((ga||(!((decide ((Option.getD eZ default).1<(0:Int)))==false)))&&((Option.isSome eZ)&&((Option.isSome iQ)&&((Option.isSome iP)&&ly)))))
 let lB:=(fN&&((Option.isSome kB)&&((Option.isSome iS)&&lA)))
 let mN:=(fZ&&lB)
 let pZ:=(f0&&(ga&&(iT&&((Option.isSome cA)&&((Option.isSome q7)&&((Option.isSome q4)&&mN))))))
 let uB:=(fN&&pZ)
 let zV:=(fZ&&uB)
 bif zV then
 some false
 else
 none
 else
 bif r5 then
 let fZ:=(Option.isSome lu)
 let fN:=(Option.isSome jX)
 let fO:=(Option.isSome q35)
 let f0:=(fO||(!(q32==false)))
 let ga:=(Option.isSome kA)
 let iT:=(Option.isSome q23)
 let jY:=((Option.isSome q1)&&((Option.isSome q0)&&true))
 let jZ:=((Option.isSome q3)&&jY)
 let j0:=(f0&&(ga&&(iT&&((Option.isSome cA)&&((Option.isSome q7)&&((Option.isSome q4)&&((Option.isSome kz)&&((Option.isSome cA)&&((Option.isSome q7)&&((Option.isSome q4)&&jZ))))))))))
 let lv:=((Option.isSome jW)&&((Option.isSome q4)&&j0))
 let lx:=((Option.isSome jz)&&((Option.isSome q7)&&lv))
 let ly:=((Option.isSome ji)&&((Option.isSome cA)&&lx))
 let lA:=((fO||(!(iR==false)))&&((ga||(!((decide ((Option.getD eZ default).1<(0:Int)))==false)))&&((Option.isSome eZ)&&((Option.isSome iQ)&&((Option.isSome iP)&&ly)))))
 let lB:=(fN&&((Option.isSome kB)&&((Option.isSome iS)&&lA)))
 let mN:=(fZ&&lB)
 let pZ:=(f0&&(ga&&(iT&&((Option.isSome cA)&&((Option.isSome q7)&&((Option.isSome q4)&&mN))))))
 let uB:=(fN&&pZ)
 let zV:=(fZ&&uB)
 bif zV then
 some false
 else
 none
 else
 let fZ:=(Option.isSome lu)
 let fN:=(Option.isSome jX)
 let fO:=(Option.isSome q35)
 let f0:=(fO||(!(q32==false)))
 let ga:=(Option.isSome kA)
 let iT:=(Option.isSome q23)
 let jY:=((Option.isSome q1)&&((Option.isSome q0)&&true))
 let jZ:=((Option.isSome q3)&&jY)
 let j0:=(f0&&(ga&&(iT&&((Option.isSome cA)&&((Option.isSome q7)&&((Option.isSome q4)&&((Option.isSome kz)&&((Option.isSome cA)&&((Option.isSome q7)&&((Option.isSome q4)&&jZ))))))))))
 let lv:=((Option.isSome jW)&&((Option.isSome q4)&&j0))
 let lx:=((Option.isSome jz)&&((Option.isSome q7)&&lv))
 let ly:=((Option.isSome ji)&&((Option.isSome cA)&&lx))
 let lA:=((fO||(!(iR==false)))&&((ga||(!((decide ((Option.getD eZ default).1<(0:Int)))==false)))&&((Option.isSome eZ)&&((Option.isSome iQ)&&((Option.isSome iP)&&ly)))))
 let lB:=(fN&&((Option.isSome kB)&&((Option.isSome iS)&&lA)))
 let mN:=(fZ&&lB)
 let pZ:=(f0&&(ga&&(iT&&((Option.isSome cA)&&((Option.isSome q7)&&((Option.isSome q4)&&mN))))))
 let uB:=(fN&&pZ)
 let zV:=(fZ&&uB)
 bif zV then
 some true
 else
 none
end M
