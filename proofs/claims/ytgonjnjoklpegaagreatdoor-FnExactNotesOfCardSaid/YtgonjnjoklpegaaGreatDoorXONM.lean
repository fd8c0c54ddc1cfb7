/-
  Part of the proof of the claim.
-/
import Derived.Test.YtgonjnjoklpegaaGreatDoorXOdata
import Derived.Test.YtgonjnjoklpegaaGreatDoorXOhand3
import Derived.Test.YtgonjnjoklpegaaGreatDoorXOHdKNote
set_option linter.unusedVariables false
set_option maxRecDepth 100000
noncomputable section
namespace M
def po(cN:M.ae->M.ae->Option (Bool))(a:(List M.ae))(b:(List M.ae)):Nat->Int->Option ((Bool)⊕(Unit))
 |0,_=>none
 |fuel+1,i=>
 bif(decide (i<((List.length a):Int)))then
 bif(!(Option.getD (cN (M.ae.re (List.getD a (Int.toNat i) M.ae.zero)) (M.ae.re (List.getD b (Int.toNat i) M.ae.zero))) default))then
 let q0:=((Option.isSome (cN (M.ae.re (List.getD a (Int.toNat i) M.ae.zero)) (M.ae.re (List.getD b (Int.toNat i) M.ae.zero))))&&((Go.V.inB i (List.length b))&&((Go.V.inB i (List.length a))&&true)))
 bif q0 then
 some (.inl false)
 else
 none
 else
 let q0:=((Option.isSome (cN (M.ae.re (List.getD a (Int.toNat i) M.ae.zero)) (M.ae.re (List.getD b (Int.toNat i) M.ae.zero))))&&((Go.V.inB i (List.length b))&&((Go.V.inB i (List.length a))&&true)))
 bif q0 then
 M.po cN a b fuel (Go.IntKind.wrap Go.IntKind.i64 (i+(1:Int)))
 else
 none
 else
 some ((.inr (())))
def rH(cN:M.ae->M.ae->Option (Bool))(a:(List M.ae))(b:(List M.ae)):Option (Bool):=
 bif(((List.length a):Int) !=((List.length b):Int))then
 some false
 else
 match(M.po cN a b Go.V.al (0:Int))with
 |none=>none
 |some y0=>
 (match y0 with
 |.inl a1=>
 some a1
 |.inr b1=>
 some true)
def vg(cN:M.ae->M.ae->Option (Bool))(a:M.ae)(b:M.ae):Option (Bool):=
 bif((M.ae.Kind a) !=(M.ae.Kind b))then
 some false
 else
 bif((M.ae.Num a) !=(M.ae.Num b))then
 some false
 else
 bif(!((M.ae.Text a)==(M.ae.Text b)))then
 some false
 else
 let q0:=(M.rH cN (M.ae.Kids a) (M.ae.Kids b))
 bif(!(Option.getD q0 default))then
 bif((Option.isSome q0)&&true)then
 some false
 else
 none
 else
 bif((Option.isSome q0)&&true)then
 some true
 else
 none
def pq:Nat->M.ae->M.ae->Option (Bool)
 |0=>fun _ _=>none
 |n+1=>vg (pq n)
def xe:M.ae->M.ae->Option (Bool):=pq Go.V.al
def rI(a:(List M.aG))(left:Int):Option (Int):=
 bif(decide ((Go.IntKind.wrap Go.IntKind.i64 (left-((List.length a):Int)))<(0:Int)))then
 some (-(1:Int))
 else
 some (Go.IntKind.wrap Go.IntKind.i64 (left-((List.length a):Int)))
def rJ(a:M.aD)(left:Int):Option (Int):=
 let q0:=(M.rI (M.aD.Ops a) left)
 bif(decide ((Option.getD q0 default)<(0:Int)))then
 bif((Option.isSome q0)&&true)then
 some (-(1:Int))
 else
 none
 else
 bif((Option.isSome q0)&&true)then
 some (Option.getD q0 default)
 else
 none
def pr(a:(List M.aD)):Nat->Int->Int->Option ((Int)⊕(Int))
 |0,_,_=>none
 |fuel+1,left,i=>
 bif(decide (i<((List.length a):Int)))then
 let q0:=(M.rJ (List.getD a (Int.toNat i) M.aD.zero) left)
 let q1:=(Option.getD q0 default)
 bif(decide (q1<(0:Int)))then
 let q2:=((Option.isSome q0)&&((Go.V.inB i (List.length a))&&true))
 bif q2 then
 some (.inl (-(1:Int)))
 else
 none
 else
 let q2:=((Option.isSome q0)&&((Go.V.inB i (List.length a))&&true))
 bif q2 then
 M.pr a fuel q1 (Go.IntKind.wrap Go.IntKind.i64 (i+(1:Int)))
 else
 none
 else
 some ((.inr (left)))
def rK(a:(List M.aD))(left:Int):Option (Int):=
 bif(decide ((Go.IntKind.wrap Go.IntKind.i64 (left-((List.length a):Int)))<(0:Int)))then
 some (-(1:Int))
 else
 match(M.pr a Go.V.al (Go.IntKind.wrap Go.IntKind.i64 (left-((List.length a):Int))) (0:Int))with
 |none=>none
 |some y0=>
 (match y0 with
 |.inl a1=>
 some a1
 |.inr b1=>
 some b1)
def vh(a:M.aG):Option (M.aG):=
 some a
def m8(a:(List M.aG)):Nat->Int->(List M.aG)->Option ((List M.aG))
 |0,_,_=>none
 |fuel+1,i,out=>
 bif(decide (i<((List.length a):Int)))then
 bif((Go.V.inB i (List.length out))&&((Go.V.inB i (List.length a))&&true))then
 M.m8 a fuel (Go.IntKind.wrap Go.IntKind.i64 (i+(1:Int))) (List.set out (Int.toNat i) (List.getD a (Int.toNat i) M.aG.zero))
 else
 none
 else
 some (out)
def rL(a:(List M.aG)):Option ((List M.aG)):=
 match(M.m8 a Go.V.al (0:Int) (List.replicate (Int.toNat ((List.length a):Int)) (M.aG.mk (0:Int) (0:Int) (0:Int))))with
 |none=>none
 |some y0=>
 bif(((decide (((List.length a):Int)<=((List.length a):Int)))&&(decide (((List.length a):Int)<=(1073741824:Int))))&&true)then
 some y0
 else
 none
def rM(a:M.aD):Option (Int×(List M.aG)):=
 let q0:=(M.rL (M.aD.Ops a))
 bif((Option.isSome q0)&&true)then
 some ((M.aD.fp a),(Option.getD q0 default))
 else
 none
def m9(a:(List M.aD)):Nat->Int->(List M.aD)->Option ((List M.aD))
 |0,_,_=>none
 |fuel+1,i,out=>
 bif(decide (i<((List.length a):Int)))then
 let q0:=(M.rM (List.getD a (Int.toNat i) M.aD.zero))
 bif((Go.V.inB i (List.length out))&&((Option.isSome q0)&&((Go.V.inB i (List.length a))&&true)))then
 let q1:=(Option.getD q0 default)
 M.m9 a fuel (Go.IntKind.wrap Go.IntKind.i64 (i+(1:Int))) (List.set out (Int.toNat i) (M.aD.mk q1.1 q1.2))
 else
 none
 else
 some (out)
def rN(a:(List M.aD)):Option ((List M.aD)):=
 match(M.m9 a Go.V.al (0:Int) (List.replicate (Int.toNat ((List.length a):Int)) (M.aD.mk (0:Int) [])))with
 |none=>none
 |some y0=>
 bif(((decide (((List.length a):Int)<=((List.length a):Int)))&&(decide (((List.length a):Int)<=(1073741824:Int))))&&true)then
 some y0
 else
 none
def na(a:(List Int)):Nat->Int->(List Int)->Option ((List Int))
 |0,_,_=>none
 |fuel+1,i,out=>
 bif(decide (i<((List.length a):Int)))then
 bif((Go.V.inB i (List.length out))&&((Go.V.inB i (List.length a))&&true))then
 M.na a fuel (Go.IntKind.wrap Go.IntKind.i64 (i+(1:Int))) (List.set out (Int.toNat i) (List.getD a (Int.toNat i) (0:Int)))
 else
 none
 else
 some (out)
def lO(a:(List Int)):Option ((List Int)):=
 match(M.na a Go.V.al (0:Int) (List.replicate (Int.toNat ((List.length a):Int)) (0:Int)))with
 |none=>none
 |some y0=>
 bif(((decide (((List.length a):Int)<=((List.length a):Int)))&&(decide (((List.length a):Int)<=(1073741824:Int))))&&true)then
 some y0
 else
 none
def xl(list:(List M.aD)):Option (Int):=
 some ((List.length list):Int)
def rO(a:M.aG)(b:M.aG):Option (Bool):=
 bif((M.aG.Kind a) !=(M.aG.Kind b))then
 some false
 else
 bif((M.aG.A a) !=(M.aG.A b))then
 some false
 else
 bif((M.aG.B a) !=(M.aG.B b))then
 some false
 else
 some true
def pt(a:(List M.aG))(b:(List M.aG)):Nat->Int->Option ((Bool)⊕(Unit))
 |0,_=>none
 |fuel+1,i=>
 bif(decide (i<((List.length a):Int)))then
 let q0:=(M.rO (List.getD a (Int.toNat i) M.aG.zero) (List.getD b (Int.toNat i) M.aG.zero))
 bif(!(Option.getD q0 default))then
 let q1:=((Option.isSome q0)&&((Go.V.inB i (List.length b))&&((Go.V.inB i (List.length a))&&true)))
 bif q1 then
 some (.inl false)
 else
 none
 else
 let q1:=((Option.isSome q0)&&((Go.V.inB i (List.length b))&&((Go.V.inB i (List.length a))&&true)))
 bif q1 then
 M.pt a b fuel (Go.IntKind.wrap Go.IntKind.i64 (i+(1:Int)))
 else
 none
 else
 some ((.inr (())))
def rP(a:(List M.aG))(b:(List M.aG)):Option (Bool):=
 bif(((List.length a):Int) !=((List.length b):Int))then
 some false
 else
 match(M.pt a b Go.V.al (0:Int))with
 |none=>none
 |some y0=>
 (match y0 with
 |.inl a1=>
 some a1
 |.inr b1=>
 some true)
def rQ(a:M.aD)(b:M.aD):Option (Bool):=
 bif((M.aD.fp a) !=(M.aD.fp b))then
 some false
 else
 let q0:=(M.rP (M.aD.Ops a) (M.aD.Ops b))
 bif(!(Option.getD q0 default))then
 bif((Option.isSome q0)&&true)then
 some false
 else
 none
 else
 bif((Option.isSome q0)&&true)then
 some true
 else
 none
def pv(a:(List M.aD))(b:(List M.aD)):Nat->Int->Option ((Bool)⊕(Unit))
 |0,_=>none
 |fuel+1,i=>
 bif(decide (i<((List.length a):Int)))then
 let q0:=(M.rQ (List.getD a (Int.toNat i) M.aD.zero) (List.getD b (Int.toNat i) M.aD.zero))
 bif(!(Option.getD q0 default))then
 let q1:=((Option.isSome q0)&&((Go.V.inB i (List.length b))&&((Go.V.inB i (List.length a))&&true)))
 bif q1 then
 some (.inl false)
 else
 none
 else
 let q1:=((Option.isSome q0)&&((Go.V.inB i (List.length b))&&((Go.V.inB i (List.length a))&&true)))
 bif q1 then
 M.pv a b fuel (Go.IntKind.wrap Go.IntKind.i64 (i+(1:Int)))
 else
 none
 else
 some ((.inr (())))
def rR(a:(List M.aD))(b:(List M.aD)):Option (Bool):=
 bif(((List.length a):Int) !=((List.length b):Int))then
 some false
 else
 match(M.pv a b Go.V.al (0:Int))with
 |none=>none
 |some y0=>
 (match y0 with
 |.inl a1=>
 some a1
 |.inr b1=>
 some true)
def pw(a:(List Int))(b:(List Int)):Nat->Int->Option ((Bool)⊕(Unit))
 |0,_=>none
 |fuel+1,i=>
 bif(decide (i<((List.length a):Int)))then
 bif((List.getD a (Int.toNat i) (0:Int)) !=(List.getD b (Int.toNat i) (0:Int)))then
 let q0:=((Go.V.inB i (List.length b))&&((Go.V.inB i (List.length a))&&true))
 bif q0 then
 some (.inl false)
 else
 none
 else
 let q0:=((Go.V.inB i (List.length b))&&((Go.V.inB i (List.length a))&&true))
 bif q0 then
 M.pw a b fuel (Go.IntKind.wrap Go.IntKind.i64 (i+(1:Int)))
 else
 none
 else
 some ((.inr (())))
def lP(a:(List Int))(b:(List Int)):Option (Bool):=
 bif(((List.length a):Int) !=((List.length b):Int))then
 some false
 else
 match(M.pw a b Go.V.al (0:Int))with
 |none=>none
 |some y0=>
 (match y0 with
 |.inl a1=>
 some a1
 |.inr b1=>
 some true)
def rS(a:M.af)(b:M.af):Option (Bool):=
 bif((M.af.Id a) !=(M.af.Id b))then
 some false
 else
 bif((M.af.Prog a) !=(M.af.Prog b))then
 some false
 else
 bif((M.af.PC a) !=(M.af.PC b))then
 some false
 else
 bif((M.af.dI a) !=(M.af.dI b))then
 some false
 else
 bif((M.af.Status a) !=(M.af.Status b))then
 some false
 else
 bif((M.af.Result a) !=(M.af.Result b))then
 some false
 else
 bif(!((M.af.cJ a)==(M.af.cJ b)))then
 some false
 else
 bif(!((M.af.Asked a)==(M.af.Asked b)))then
 some false
 else
 bif(!((M.af.Told a)==(M.af.Told b)))then
 some false
 else
 let q0:=(M.lP (M.af.aZ a) (M.af.aZ b))
 bif(!(Option.getD q0 default))then
 bif((Option.isSome q0)&&true)then
 some false
 else
 none
 else
 let q1:=(M.lP (M.af.Set a) (M.af.Set b))
 bif(!(Option.getD q1 default))then
 bif((Option.isSome q1)&&((Option.isSome q0)&&true))then
 some false
 else
 none
 else
 bif((Option.isSome q1)&&((Option.isSome q0)&&true))then
 some true
 else
 none
def px(a:(List M.af))(b:(List M.af)):Nat->Int->Option ((Bool)⊕(Unit))
 |0,_=>none
 |fuel+1,i=>
 bif(decide (i<((List.length a):Int)))then
 let q0:=(M.rS (List.getD a (Int.toNat i) M.af.zero) (List.getD b (Int.toNat i) M.af.zero))
 bif(!(Option.getD q0 default))then
 let q1:=((Option.isSome q0)&&((Go.V.inB i (List.length b))&&((Go.V.inB i (List.length a))&&true)))
 bif q1 then
 some (.inl false)
 else
 none
 else
 let q1:=((Option.isSome q0)&&((Go.V.inB i (List.length b))&&((Go.V.inB i (List.length a))&&true)))
 bif q1 then
 M.px a b fuel (Go.IntKind.wrap Go.IntKind.i64 (i+(1:Int)))
 else
 none
 else
 some ((.inr (())))
def rT(a:(List M.af))(b:(List M.af)):Option (Bool):=
 bif(((List.length a):Int) !=((List.length b):Int))then
 some false
 else
 match(M.px a b Go.V.al (0:Int))with
 |none=>none
 |some y0=>
 (match y0 with
 |.inl a1=>
 some a1
 |.inr b1=>
 some true)
def rU(a:M.ay)(b:M.ay):Option (Bool):=
 bif((M.ay.Task a) !=(M.ay.Task b))then
 some false
 else
 bif((M.ay.Kind a) !=(M.ay.Kind b))then
 some false
 else
 bif((M.ay.A a) !=(M.ay.A b))then
 some false
 else
 bif((M.ay.B a) !=(M.ay.B b))then
 some false
 else
 some true
def py(a:(List M.ay))(b:(List M.ay)):Nat->Int->Option ((Bool)⊕(Unit))
 |0,_=>none
 |fuel+1,i=>
 bif(decide (i<((List.length a):Int)))then
 let q0:=(M.rU (List.getD a (Int.toNat i) M.ay.zero) (List.getD b (Int.toNat i) M.ay.zero))
 bif(!(Option.getD q0 default))then
 let q1:=((Option.isSome q0)&&((Go.V.inB i (List.length b))&&((Go.V.inB i (List.length a))&&true)))
 bif q1 then
 some (.inl false)
 else
 none
 else
 let q1:=((Option.isSome q0)&&((Go.V.inB i (List.length b))&&((Go.V.inB i (List.length a))&&true)))
 bif q1 then
 M.py a b fuel (Go.IntKind.wrap Go.IntKind.i64 (i+(1:Int)))
 else
 none
 else
 some ((.inr (())))
def nb(a:(List M.ay))(b:(List M.ay)):Option (Bool):=
 bif(((List.length a):Int) !=((List.length b):Int))then
 some false
 else
 match(M.py a b Go.V.al (0:Int))with
 |none=>none
 |some y0=>
 (match y0 with
 |.inl a1=>
 some a1
 |.inr b1=>
 some true)
def o7:Nat->Int->Int->(List M.aG)->Option (Int×(List M.aG))
 |0,_,_,_=>none
 |fuel+1,k,i,a=>
 bif(decide (i<((List.length a):Int)))then
 let q0:=(List.set a (Int.toNat i) (M.aG.mk k (M.aG.A (List.getD a (Int.toNat i) M.aG.zero)) (M.aG.B (List.getD a (Int.toNat i) M.aG.zero))))
 let q1:=(List.getD q0 (Int.toNat i) M.aG.zero)
 let q2:=(List.set q0 (Int.toNat i) (M.aG.mk (M.aG.Kind q1) (Go.IntKind.wrap Go.IntKind.i64 (k+(1:Int))) (M.aG.B q1)))
 bif((Go.V.inB i (List.length q2))&&((Go.V.inB i (List.length q0))&&((Go.V.inB i (List.length a))&&true)))then
 let q3:=(Go.IntKind.wrap Go.IntKind.i64 ((Go.IntKind.wrap Go.IntKind.i64 (k+(1:Int)))+(1:Int)))
 let q4:=(List.getD q2 (Int.toNat i) M.aG.zero)
 M.o7 fuel (Go.IntKind.wrap Go.IntKind.i64 (q3+(1:Int))) (Go.IntKind.wrap Go.IntKind.i64 (i+(1:Int))) (List.set q2 (Int.toNat i) (M.aG.mk (M.aG.Kind q4) (M.aG.A q4) q3))
 else
 none
 else
 some ((k,a))
def rq(k:Int)(a:(List M.aG)):Option (Int×(List M.aG)):=
 match(M.o7 Go.V.al k (0:Int) a)with
 |none=>none
 |some y0=>
 some (y0.1,y0.2)
def o8:Nat->Int->Int->(List M.aD)->Option (Int×(List M.aD))
 |0,_,_,_=>none
 |fuel+1,k,i,a=>
 bif(decide (i<((List.length a):Int)))then
 let q0:=(List.set a (Int.toNat i) (M.aD.mk k (M.aD.Ops (List.getD a (Int.toNat i) M.aD.zero))))
 let q1:=(List.getD q0 (Int.toNat i) M.aD.zero)
 let q2:=(M.rq (Go.IntKind.wrap Go.IntKind.i64 (k+(1:Int))) (M.aD.Ops q1))
 bif(((Option.isSome q2)&&true)&&((Go.V.inB i (List.length q0))&&((Go.V.inB i (List.length a))&&true)))then
 let q3:=(Option.getD q2 default)
 M.o8 fuel q3.1 (Go.IntKind.wrap Go.IntKind.i64 (i+(1:Int))) (List.set q0 (Int.toNat i) (M.aD.mk (M.aD.fp q1) q3.2))
 else
 none
 else
 some ((k,a))
def ru(k:Int)(a:(List M.aD)):Option (Int×(List M.aD)):=
 match(M.o8 Go.V.al k (0:Int) a)with
 |none=>none
 |some y0=>
 some (y0.1,y0.2)
def o6:Nat->Int->Int->(List Int)->Option (Int×(List Int))
 |0,_,_,_=>none
 |fuel+1,k,i,a=>
 bif(decide (i<((List.length a):Int)))then
 bif((Go.V.inB i (List.length a))&&true)then
 M.o6 fuel (Go.IntKind.wrap Go.IntKind.i64 (k+(1:Int))) (Go.IntKind.wrap Go.IntKind.i64 (i+(1:Int))) (List.set a (Int.toNat i) k)
 else
 none
 else
 some ((k,a))
def lM(k:Int)(a:(List Int)):Option (Int×(List Int)):=
 match(M.o6 Go.V.al k (0:Int) a)with
 |none=>none
 |some y0=>
 some (y0.1,y0.2)
def pd:Nat->Int->Int->(List M.af)->Option (Int×(List M.af))
 |0,_,_,_=>none
 |fuel+1,k,i,a=>
 bif(decide (i<((List.length a):Int)))then
 let q0:=(Go.IntKind.wrap Go.IntKind.i64 ((Go.IntKind.wrap Go.IntKind.i64 (k+(1:Int)))+(1:Int)))
 let q1:=(Go.IntKind.wrap Go.IntKind.i64 (q0+(1:Int)))
 let q2:=(Go.IntKind.wrap Go.IntKind.i64 (q1+(1:Int)))
 let q3:=(Go.IntKind.wrap Go.IntKind.i64 (q2+(1:Int)))
 let q4:=(Go.IntKind.wrap Go.IntKind.i64 (q3+(1:Int)))
 let q5:=(Go.IntKind.wrap Go.IntKind.i64 (q4+(1:Int)))
 let q6:=(Go.IntKind.wrap Go.IntKind.i64 (q5+(1:Int)))
 let q7:=(List.set a (Int.toNat i) (M.af.mk k (M.af.Prog (List.getD a (Int.toNat i) M.af.zero)) (M.af.PC (List.getD a (Int.toNat i) M.af.zero)) (M.af.dI (List.getD a (Int.toNat i) M.af.zero)) (M.af.Status (List.getD a (Int.toNat i) M.af.zero)) (M.af.Result (List.getD a (Int.toNat i) M.af.zero)) (M.af.cJ (List.getD a (Int.toNat i) M.af.zero)) (M.af.Asked (List.getD a (Int.toNat i) M.af.zero)) (M.af.Told (List.getD a (Int.toNat i) M.af.zero)) (M.af.aZ (List.getD a (Int.toNat i) M.af.zero)) (M.af.Set (List.getD a (Int.toNat i) M.af.zero))))
 let q8:=(List.getD q7 (Int.toNat i) M.af.zero)
 let q9:=(List.set q7 (Int.toNat i) (M.af.mk (M.af.Id q8) (Go.IntKind.wrap Go.IntKind.i64 (k+(1:Int))) (M.af.PC q8) (M.af.dI q8) (M.af.Status q8) (M.af.Result q8) (M.af.cJ q8) (M.af.Asked q8) (M.af.Told q8) (M.af.aZ q8) (M.af.Set q8)))
 let q10:=(List.getD q9 (Int.toNat i) M.af.zero)
 let q11:=(List.set q9 (Int.toNat i) (M.af.mk (M.af.Id q10) (M.af.Prog q10) q0 (M.af.dI q10) (M.af.Status q10) (M.af.Result q10) (M.af.cJ q10) (M.af.Asked q10) (M.af.Told q10) (M.af.aZ q10) (M.af.Set q10)))
 let q12:=(List.getD q11 (Int.toNat i) M.af.zero)
 let q13:=(List.set q11 (Int.toNat i) (M.af.mk (M.af.Id q12) (M.af.Prog q12) (M.af.PC q12) q1 (M.af.Status q12) (M.af.Result q12) (M.af.cJ q12) (M.af.Asked q12) (M.af.Told q12) (M.af.aZ q12) (M.af.Set q12)))
 let dy:=(List.getD q13 (Int.toNat i) M.af.zero)
 let hQ:=(List.set q13 (Int.toNat i) (M.af.mk (M.af.Id dy) (M.af.Prog dy) (M.af.PC dy) (M.af.dI dy) q2 (M.af.Result dy) (M.af.cJ dy) (M.af.Asked dy) (M.af.Told dy) (M.af.aZ dy) (M.af.Set dy)))
 let q16:=(List.getD hQ (Int.toNat i) M.af.zero)
 let eg:=(List.set hQ (Int.toNat i) (M.af.mk (M.af.Id q16) (M.af.Prog q16) (M.af.PC q16) (M.af.dI q16) (M.af.Status q16) q3 (M.af.cJ q16) (M.af.Asked q16) (M.af.Told q16) (M.af.aZ q16) (M.af.Set q16)))
 let dr:=(List.getD eg (Int.toNat i) M.af.zero)
 let ja:=(List.set eg (Int.toNat i) (M.af.mk (M.af.Id dr) (M.af.Prog dr) (M.af.PC dr) (M.af.dI dr) (M.af.Status dr) (M.af.Result dr) ((Int.tmod q4 (3:Int))==(0:Int)) (M.af.Asked dr) (M.af.Told dr) (M.af.aZ dr) (M.af.Set dr)))
 let eF:=(List.getD ja (Int.toNat i) M.af.zero)
 let jb:=(List.set ja (Int.toNat i) (M.af.mk (M.af.Id eF) (M.af.Prog eF) (M.af.PC eF) (M.af.dI eF) (M.af.Status eF) (M.af.Result eF) (M.af.cJ eF) ((Int.tmod q5 (3:Int))==(0:Int)) (M.af.Told eF) (M.af.aZ eF) (M.af.Set eF)))
 let q22:=(List.getD jb (Int.toNat i) M.af.zero)
 let q23:=(List.set jb (Int.toNat i) (M.af.mk (M.af.Id q22) (M.af.Prog q22) (M.af.PC q22) (M.af.dI q22) (M.af.Status q22) (M.af.Result q22) (M.af.cJ q22) (M.af.Asked q22) ((Int.tmod q6 (3:Int))==(0:Int)) (M.af.aZ q22) (M.af.Set q22)))
 let q24:=(List.getD q23 (Int.toNat i) M.af.zero)
 let eG:=(M.lM (Go.IntKind.wrap Go.IntKind.i64 (q6+(1:Int))) (M.af.aZ q24))
 let gp:=(Option.getD eG default)
 let fG:=(List.set q23 (Int.toNat i) (M.af.mk (M.af.Id q24) (M.af.Prog q24) (M.af.PC q24) (M.af.dI q24) (M.af.Status q24) (M.af.Result q24) (M.af.cJ q24) (M.af.Asked q24) (M.af.Told q24) gp.2 (M.af.Set q24)))
 let dJ:=(List.getD fG (Int.toNat i) M.af.zero)
 let hU:=(M.lM gp.1 (M.af.Set dJ))
 bif(((Option.isSome hU)&&true)&&((Go.V.inB i (List.length fG))&&(((Option.isSome eG)&&true)&&((Go.V.inB i (List.length q23))&&((Go.V.inB i (List.length jb))&&(((3:Int) !=(0:Int))&&((Go.V.inB i (List.length ja))&&(((3:Int) !=(0:Int))&&((Go.V.inB i (List.length eg))&&(((3:Int) !=(0:Int))&&((Go.V.inB i (List.length hQ))&&((Go.V.inB i (List.length q13))&&((Go.V.inB i (List.length q11))&&((Go.V.inB i (List.length q9))&&((Go.V.inB i (List.length q7))&&((Go.V.inB i (List.length a))&&true))))))))))))))))then
 let q30:=(Option.getD hU default)
 M.pd fuel q30.1 (Go.IntKind.wrap Go.IntKind.i64 (i+(1:Int))) (List.set fG (Int.toNat i) (M.af.mk (M.af.Id dJ) (M.af.Prog dJ) (M.af.PC dJ) (M.af.dI dJ) (M.af.Status dJ) (M.af.Result dJ) (M.af.cJ dJ) (M.af.Asked dJ) (M.af.Told dJ) (M.af.aZ dJ) q30.2))
 else
 none
 else
 some ((k,a))
def ry(k:Int)(a:(List M.af)):Option (Int×(List M.af)):=
 match(M.pd Go.V.al k (0:Int) a)with
 |none=>none
 |some y0=>
 some (y0.1,y0.2)
def rz:Nat->Int->Int->(List M.ay)->Option (Int×(List M.ay))
 |0,_,_,_=>none
 |fuel+1,k,i,a=>
 bif(decide (i<((List.length a):Int)))then
 let q0:=(List.set a (Int.toNat i) (M.ay.mk k (M.ay.Kind (List.getD a (Int.toNat i) M.ay.zero)) (M.ay.A (List.getD a (Int.toNat i) M.ay.zero)) (M.ay.B (List.getD a (Int.toNat i) M.ay.zero))))
 let q1:=(List.getD q0 (Int.toNat i) M.ay.zero)
 let q2:=(List.set q0 (Int.toNat i) (M.ay.mk (M.ay.Task q1) (Go.IntKind.wrap Go.IntKind.i64 (k+(1:Int))) (M.ay.A q1) (M.ay.B q1)))
 let q3:=(List.getD q2 (Int.toNat i) M.ay.zero)
 let q4:=(Go.IntKind.wrap Go.IntKind.i64 ((Go.IntKind.wrap Go.IntKind.i64 (k+(1:Int)))+(1:Int)))
 let q5:=(List.set q2 (Int.toNat i) (M.ay.mk (M.ay.Task q3) (M.ay.Kind q3) q4 (M.ay.B q3)))
 bif((Go.V.inB i (List.length q5))&&((Go.V.inB i (List.length q2))&&((Go.V.inB i (List.length q0))&&((Go.V.inB i (List.length a))&&true))))then
 let q6:=(Go.IntKind.wrap Go.IntKind.i64 (q4+(1:Int)))
 let q7:=(List.getD q5 (Int.toNat i) M.ay.zero)
 M.rz fuel (Go.IntKind.wrap Go.IntKind.i64 (q6+(1:Int))) (Go.IntKind.wrap Go.IntKind.i64 (i+(1:Int))) (List.set q5 (Int.toNat i) (M.ay.mk (M.ay.Task q7) (M.ay.Kind q7) (M.ay.A q7) q6))
 else
 none
 else
 some ((k,a))
def mV(k:Int)(a:(List M.ay)):Option (Int×(List M.ay)):=
 match(M.rz Go.V.al k (0:Int) a)with
 |none=>none
 |some y0=>
 some (y0.1,y0.2)
def rB(a:(List M.ay)):Nat->Int->Int->Option ((Int)⊕(Int))
 |0,_,_=>none
 |fuel+1,k,i=>
 bif(decide (i<((List.length a):Int)))then
 bif((M.ay.Task (List.getD a (Int.toNat i) M.ay.zero)) !=k)then
 bif((Go.V.inB i (List.length a))&&true)then
 some (.inl (-(1:Int)))
 else
 none
 else
 bif((M.ay.Kind (List.getD a (Int.toNat i) M.ay.zero)) !=(Go.IntKind.wrap Go.IntKind.i64 (k+(1:Int))))then
 let q0:=((Go.V.inB i (List.length a))&&((Go.V.inB i (List.length a))&&true))
 bif q0 then
 some (.inl (-(1:Int)))
 else
 none
 else
 let q0:=(Go.IntKind.wrap Go.IntKind.i64 ((Go.IntKind.wrap Go.IntKind.i64 (k+(1:Int)))+(1:Int)))
 bif((M.ay.A (List.getD a (Int.toNat i) M.ay.zero)) !=q0)then
 let q1:=((Go.V.inB i (List.length a))&&((Go.V.inB i (List.length a))&&true))
 let q2:=((Go.V.inB i (List.length a))&&q1)
 bif q2 then
 some (.inl (-(1:Int)))
 else
 none
 else
 let q1:=(Go.IntKind.wrap Go.IntKind.i64 (q0+(1:Int)))
 bif((M.ay.B (List.getD a (Int.toNat i) M.ay.zero)) !=q1)then
 let q2:=((Go.V.inB i (List.length a))&&((Go.V.inB i (List.length a))&&true))
 let q3:=((Go.V.inB i (List.length a))&&q2)
 let q4:=((Go.V.inB i (List.length a))&&q3)
 bif q4 then
 some (.inl (-(1:Int)))
 else
 none
 else
 let q2:=((Go.V.inB i (List.length a))&&((Go.V.inB i (List.length a))&&true))
 let q3:=((Go.V.inB i (List.length a))&&q2)
 let q4:=((Go.V.inB i (List.length a))&&q3)
 bif q4 then
 M.rB a fuel (Go.IntKind.wrap Go.IntKind.i64 (q1+(1:Int))) (Go.IntKind.wrap Go.IntKind.i64 (i+(1:Int)))
 else
 none
 else
 some ((.inr (k)))
def rA(a:(List M.ay))(k:Int):Option (Int):=
 match(M.rB a Go.V.al k (0:Int))with
 |none=>none
 |some y0=>
 (match y0 with
 |.inl a1=>
 some a1
 |.inr b1=>
 some b1)
def pz(a:(List (List UInt8))):Nat->Int->Int->Option ((Int)⊕(Int))
 |0,_,_=>none
 |fuel+1,left,i=>
 bif(decide (i<((List.length a):Int)))then
 let q0:=(Go.IntKind.wrap Go.IntKind.i64 (left-((List.length (List.getD a (Int.toNat i) [])):Int)))
 bif(decide (q0<(0:Int)))then
 bif((Go.V.inB i (List.length a))&&true)then
 some (.inl (-(1:Int)))
 else
 none
 else
 bif((Go.V.inB i (List.length a))&&true)then
 M.pz a fuel q0 (Go.IntKind.wrap Go.IntKind.i64 (i+(1:Int)))
 else
 none
 else
 some ((.inr (left)))
def rV(a:(List (List UInt8)))(left:Int):Option (Int):=
 bif(decide ((Go.IntKind.wrap Go.IntKind.i64 (left-((List.length a):Int)))<(0:Int)))then
 some (-(1:Int))
 else
 match(M.pz a Go.V.al (Go.IntKind.wrap Go.IntKind.i64 (left-((List.length a):Int))) (0:Int))with
 |none=>none
 |some y0=>
 (match y0 with
 |.inl a1=>
 some a1
 |.inr b1=>
 some b1)
def pA(cO:M.aa->Int->Option (Int))(a:(List M.aa)):Nat->Int->Int->Option ((Int)⊕(Int))
 |0,_,_=>none
 |fuel+1,left,i=>
 bif(decide (i<((List.length a):Int)))then
 let q0:=(Option.getD (cO (M.aa.re (List.getD a (Int.toNat i) M.aa.zero)) left) default)
 bif(decide (q0<(0:Int)))then
 let q1:=((Option.isSome (cO (M.aa.re (List.getD a (Int.toNat i) M.aa.zero)) left))&&((Go.V.inB i (List.length a))&&true))
 bif q1 then
 some (.inl (-(1:Int)))
 else
 none
 else
 let q1:=((Option.isSome (cO (M.aa.re (List.getD a (Int.toNat i) M.aa.zero)) left))&&((Go.V.inB i (List.length a))&&true))
 bif q1 then
 M.pA cO a fuel q0 (Go.IntKind.wrap Go.IntKind.i64 (i+(1:Int)))
 else
 none
 else
 some ((.inr (left)))
def rW(cO:M.aa->Int->Option (Int))(a:(List M.aa))(left:Int):Option (Int):=
 bif(decide ((Go.IntKind.wrap Go.IntKind.i64 (left-((List.length a):Int)))<(0:Int)))then
 some (-(1:Int))
 else
 match(M.pA cO a Go.V.al (Go.IntKind.wrap Go.IntKind.i64 (left-((List.length a):Int))) (0:Int))with
 |none=>none
 |some y0=>
 (match y0 with
 |.inl a1=>
 some a1
 |.inr b1=>
 some b1)
def vi(cO:M.aa->Int->Option (Int))(a:M.aa)(left:Int):Option (Int):=
 bif(decide ((Go.IntKind.wrap Go.IntKind.i64 (left-((List.length (M.aa.Name a)):Int)))<(0:Int)))then
 some (-(1:Int))
 else
 let q0:=(M.rV (M.aa.bK a) (Go.IntKind.wrap Go.IntKind.i64 (left-((List.length (M.aa.Name a)):Int))))
 let q1:=(Option.getD q0 default)
 bif(decide (q1<(0:Int)))then
 let q2:=((Option.isSome q0)&&true)
 bif q2 then
 some (-(1:Int))
 else
 none
 else
 let q2:=(M.rW cO (M.aa.Kids a) q1)
 let q3:=(Option.getD q2 default)
 bif(decide (q3<(0:Int)))then
 let q4:=((Option.isSome q0)&&true)
 let q5:=((Option.isSome q2)&&q4)
 bif q5 then
 some (-(1:Int))
 else
 none
 else
 let q4:=((Option.isSome q0)&&true)
 let q5:=((Option.isSome q2)&&q4)
 bif q5 then
 some q3
 else
 none
def pB:Nat->M.aa->Int->Option (Int)
 |0=>fun _ _=>none
 |n+1=>vi (pB n)
def xG:M.aa->Int->Option (Int):=pB Go.V.al
def nc(a:(List (List UInt8))):Nat->Int->(List (List UInt8))->Option ((List (List UInt8)))
 |0,_,_=>none
 |fuel+1,i,out=>
 bif(decide (i<((List.length a):Int)))then
 bif((Go.V.inB i (List.length out))&&((Go.V.inB i (List.length a))&&true))then
 M.nc a fuel (Go.IntKind.wrap Go.IntKind.i64 (i+(1:Int))) (List.set out (Int.toNat i) (List.getD a (Int.toNat i) []))
 else
 none
 else
 some (out)
def rX(a:(List (List UInt8))):Option ((List (List UInt8))):=
 match(M.nc a Go.V.al (0:Int) (List.replicate (Int.toNat ((List.length a):Int)) []))with
 |none=>none
 |some y0=>
 bif(((decide (((List.length a):Int)<=((List.length a):Int)))&&(decide (((List.length a):Int)<=(1073741824:Int))))&&true)then
 some y0
 else
 none
def nf(cR:M.aa->Option (Int×(List UInt8)×(List (List UInt8))×(List M.aa)))(a:(List M.aa)):Nat->Int->(List M.aa)->Option ((List M.aa))
 |0,_,_=>none
 |fuel+1,i,out=>
 bif(decide (i<((List.length a):Int)))then
 bif((Go.V.inB i (List.length out))&&((Option.isSome (cR (M.aa.re (List.getD a (Int.toNat i) M.aa.zero))))&&((Go.V.inB i (List.length a))&&true)))then
 let q0:=(Option.getD (cR (M.aa.re (List.getD a (Int.toNat i) M.aa.zero))) default)
 let q1:=q0.2
 let q2:=q1.2
 M.nf cR a fuel (Go.IntKind.wrap Go.IntKind.i64 (i+(1:Int))) (List.set out (Int.toNat i) (M.aa.mk q0.1 q1.1 q2.1 q2.2))
 else
 none
 else
 some (out)
def rY(cR:M.aa->Option (Int×(List UInt8)×(List (List UInt8))×(List M.aa)))(a:(List M.aa)):Option ((List M.aa)):=
 match(M.nf cR a Go.V.al (0:Int) (List.replicate (Int.toNat ((List.length a):Int)) (M.aa.mk (0:Int) [] [] [])))with
 |none=>none
 |some y0=>
 bif(((decide (((List.length a):Int)<=((List.length a):Int)))&&(decide (((List.length a):Int)<=(1073741824:Int))))&&true)then
 some y0
 else
 none
def vj(cR:M.aa->Option (Int×(List UInt8)×(List (List UInt8))×(List M.aa)))(a:M.aa):Option (Int×(List UInt8)×(List (List UInt8))×(List M.aa)):=
 let q0:=(M.rY cR (M.aa.Kids a))
 let q1:=(M.rX (M.aa.bK a))
 bif((Option.isSome q0)&&((Option.isSome q1)&&true))then
 some ((M.aa.Kind a),(M.aa.Name a),(Option.getD q1 default),(Option.getD q0 default))
 else
 none
def pC:Nat->M.aa->Option (Int×(List UInt8)×(List (List UInt8))×(List M.aa))
 |0=>fun _=>none
 |n+1=>vj (pC n)
def xJ:M.aa->Option (Int×(List UInt8)×(List (List UInt8))×(List M.aa)):=pC Go.V.al
def pD(a:(List (List UInt8)))(b:(List (List UInt8))):Nat->Int->Option ((Bool)⊕(Unit))
 |0,_=>none
 |fuel+1,i=>
 bif(decide (i<((List.length a):Int)))then
 bif(!((List.getD a (Int.toNat i) [])==(List.getD b (Int.toNat i) [])))then
 let q0:=((Go.V.inB i (List.length b))&&((Go.V.inB i (List.length a))&&true))
 bif q0 then
 some (.inl false)
 else
 none
 else
 let q0:=((Go.V.inB i (List.length b))&&((Go.V.inB i (List.length a))&&true))
 bif q0 then
 M.pD a b fuel (Go.IntKind.wrap Go.IntKind.i64 (i+(1:Int)))
 else
 none
 else
 some ((.inr (())))
def rZ(a:(List (List UInt8)))(b:(List (List UInt8))):Option (Bool):=
 bif(((List.length a):Int) !=((List.length b):Int))then
 some false
 else
 match(M.pD a b Go.V.al (0:Int))with
 |none=>none
 |some y0=>
 (match y0 with
 |.inl a1=>
 some a1
 |.inr b1=>
 some true)
def pE(cP:M.aa->M.aa->Option (Bool))(a:(List M.aa))(b:(List M.aa)):Nat->Int->Option ((Bool)⊕(Unit))
 |0,_=>none
 |fuel+1,i=>
 bif(decide (i<((List.length a):Int)))then
 bif(!(Option.getD (cP (M.aa.re (List.getD a (Int.toNat i) M.aa.zero)) (M.aa.re (List.getD b (Int.toNat i) M.aa.zero))) default))then
 let q0:=((Option.isSome (cP (M.aa.re (List.getD a (Int.toNat i) M.aa.zero)) (M.aa.re (List.getD b (Int.toNat i) M.aa.zero))))&&((Go.V.inB i (List.length b))&&((Go.V.inB i (List.length a))&&true)))
 bif q0 then
 some (.inl false)
 else
 none
 else
 let q0:=((Option.isSome (cP (M.aa.re (List.getD a (Int.toNat i) M.aa.zero)) (M.aa.re (List.getD b (Int.toNat i) M.aa.zero))))&&((Go.V.inB i (List.length b))&&((Go.V.inB i (List.length a))&&true)))
 bif q0 then
 M.pE cP a b fuel (Go.IntKind.wrap Go.IntKind.i64 (i+(1:Int)))
 else
 none
 else
 some ((.inr (())))
def r5(cP:M.aa->M.aa->Option (Bool))(a:(List M.aa))(b:(List M.aa)):Option (Bool):=
 bif(((List.length a):Int) !=((List.length b):Int))then
 some false
 else
 match(M.pE cP a b Go.V.al (0:Int))with
 |none=>none
 |some y0=>
 (match y0 with
 |.inl a1=>
 some a1
 |.inr b1=>
 some true)
def vk(cP:M.aa->M.aa->Option (Bool))(a:M.aa)(b:M.aa):Option (Bool):=
 bif((M.aa.Kind a) !=(M.aa.Kind b))then
 some false
 else
 bif(!((M.aa.Name a)==(M.aa.Name b)))then
 some false
 else
 let q0:=(M.rZ (M.aa.bK a) (M.aa.bK b))
 bif(!(Option.getD q0 default))then
 bif((Option.isSome q0)&&true)then
 some false
 else
 none
 else
 let q1:=(M.r5 cP (M.aa.Kids a) (M.aa.Kids b))
 bif(!(Option.getD q1 default))then
 bif((Option.isSome q1)&&((Option.isSome q0)&&true))then
 some false
 else
 none
 else
 bif((Option.isSome q1)&&((Option.isSome q0)&&true))then
 some true
 else
 none
def pF:Nat->M.aa->M.aa->Option (Bool)
 |0=>fun _ _=>none
 |n+1=>vk (pF n)
def xN:M.aa->M.aa->Option (Bool):=pF Go.V.al
def ng(a:Int)(b:Int):Option (Int):=
 bif(decide (b<a))then
 some a
 else
 some b
def ni(dR:M.aa->Int->Option (Int×Int))(deep:Int):Nat->Int->Int->Int->M.aa->Option ((Int×Int)⊕(Int×Int))
 |0,_,_,_,_=>none
 |fuel+1,most,parts,i,t=>
 bif(decide (i<((List.length (M.aa.Kids t)):Int)))then
 let q0:=(Option.getD (dR (M.aa.re (List.getD (M.aa.Kids t) (Int.toNat i) M.aa.zero)) (Go.IntKind.wrap Go.IntKind.i64 (deep+(1:Int)))) default)
 let q1:=(Go.IntKind.wrap Go.IntKind.i64 (parts+q0.2))
 bif(decide ((24:Int)<q1))then
 let q2:=(M.ng most q0.1)
 let q3:=((Option.isSome q2)&&((Option.isSome (dR (M.aa.re (List.getD (M.aa.Kids t) (Int.toNat i) M.aa.zero)) (Go.IntKind.wrap Go.IntKind.i64 (deep+(1:Int)))))&&((Go.V.inB i (List.length (M.aa.Kids t)))&&true)))
 bif q3 then
 some (.inl ((5:Int),(25:Int)))
 else
 none
 else
 let q2:=(M.ng most q0.1)
 let q3:=((Option.isSome q2)&&((Option.isSome (dR (M.aa.re (List.getD (M.aa.Kids t) (Int.toNat i) M.aa.zero)) (Go.IntKind.wrap Go.IntKind.i64 (deep+(1:Int)))))&&((Go.V.inB i (List.length (M.aa.Kids t)))&&true)))
 bif q3 then
 M.ni dR deep fuel (Option.getD q2 default) q1 (Go.IntKind.wrap Go.IntKind.i64 (i+(1:Int))) (M.aa.re t)
 else
 none
 else
 some ((.inr ((most,parts))))
def vl(dR:M.aa->Int->Option (Int×Int))(t:M.aa)(deep:Int):Option (Int×Int):=
 bif((decide ((4:Int)<deep))||(decide ((24:Int)<((List.length (M.aa.Kids t)):Int))))then
 some ((5:Int),(25:Int))
 else
 match(M.ni dR deep Go.V.al (0:Int) (1:Int) (0:Int) (M.aa.re t))with
 |none=>none
 |some y0=>
 (match y0 with
 |.inl a1=>
 some (a1.1,a1.2)
 |.inr b1=>
 some ((Go.IntKind.wrap Go.IntKind.i64 (b1.1+(1:Int))),b1.2))
def nj:Nat->M.aa->Int->Option (Int×Int)
 |0=>fun _ _=>none
 |n+1=>vl (nj n)
def xP:M.aa->Int->Option (Int×Int):=nj Go.V.al
def jX(n:Int)(low:Int)(high:Int):Option (Bool):=
 some ((decide (low<=n))&&(decide (n<=high)))
def pG(s:(List UInt8)):Nat->Int->Option ((Bool)⊕(Unit))
 |0,_=>none
 |fuel+1,i=>
 bif(decide (i<((List.length s):Int)))then
 let q0:=((((decide (((UInt8.toNat (List.getD s (Int.toNat i) (0:UInt8))):Int)<(97:Int)))||(decide ((122:Int)<((UInt8.toNat (List.getD s (Int.toNat i) (0:UInt8))):Int))))&&((decide (((UInt8.toNat (List.getD s (Int.toNat i) (0:UInt8))):Int)<(48:Int)))||(decide ((57:Int)<((UInt8.toNat (List.getD s (Int.toNat i) (0:UInt8))):Int)))))&&(((UInt8.toNat (List.getD s (Int.toNat i) (0:UInt8))):Int) !=(45:Int)))
 let q1:=(((UInt8.toNat (List.getD s (Int.toNat i) (0:UInt8))):Int)==(45:Int))
 bif(q0||(q1&&(((UInt8.toNat (List.getD s (Int.toNat (Go.IntKind.wrap Go.IntKind.i64 (i-(1:Int)))) (0:UInt8))):Int)==(45:Int))))then
 let q2:=(((Go.V.inB (Go.IntKind.wrap Go.IntKind.i64 (i-(1:Int))) (List.length s))||(!((q0==false)&&(q1==true))))&&((Go.V.inB i (List.length s))&&true))
 bif q2 then
 some (.inl false)
 else
 none
 else
 let q2:=(((Go.V.inB (Go.IntKind.wrap Go.IntKind.i64 (i-(1:Int))) (List.length s))||(!((q0==false)&&(q1==true))))&&((Go.V.inB i (List.length s))&&true))
 bif q2 then
 M.pG s fuel (Go.IntKind.wrap Go.IntKind.i64 (i+(1:Int)))
 else
 none
 else
 some ((.inr (())))
def nk(s:(List UInt8)):Option (Bool):=
 let q0:=((decide (((List.length s):Int)<(1:Int)))||(decide ((12:Int)<((List.length s):Int))))
 let q1:=(q0||(decide (((UInt8.toNat (List.getD s (Int.toNat (0:Int)) (0:UInt8))):Int)<(97:Int))))
 let q2:=(q1||(decide ((122:Int)<((UInt8.toNat (List.getD s (Int.toNat (0:Int)) (0:UInt8))):Int))))
 bif(q2||(((UInt8.toNat (List.getD s (Int.toNat (Go.IntKind.wrap Go.IntKind.i64 (((List.length s):Int)-(1:Int)))) (0:UInt8))):Int)==(45:Int)))then
 let q3:=(((Go.V.inB (Go.IntKind.wrap Go.IntKind.i64 (((List.length s):Int)-(1:Int))) (List.length s))||(!(q2==false)))&&(((Go.V.inB (0:Int) (List.length s))||(!(q1==false)))&&(((Go.V.inB (0:Int) (List.length s))||(!(q0==false)))&&true)))
 bif q3 then
 some false
 else
 none
 else
 match(M.pG s Go.V.al (0:Int))with
 |none=>none
 |some y3=>
 (match y3 with
 |.inl a4=>
 let q5:=(((Go.V.inB (Go.IntKind.wrap Go.IntKind.i64 (((List.length s):Int)-(1:Int))) (List.length s))||(!(q2==false)))&&(((Go.V.inB (0:Int) (List.length s))||(!(q1==false)))&&(((Go.V.inB (0:Int) (List.length s))||(!(q0==false)))&&true)))
 bif q5 then
 some a4
 else
 none
 |.inr b4=>
 let q5:=(((Go.V.inB (Go.IntKind.wrap Go.IntKind.i64 (((List.length s):Int)-(1:Int))) (List.length s))||(!(q2==false)))&&(((Go.V.inB (0:Int) (List.length s))||(!(q1==false)))&&(((Go.V.inB (0:Int) (List.length s))||(!(q0==false)))&&true)))
 bif q5 then
 some true
 else
 none)
def nq(list:(List (List UInt8)))(i:Int):Nat->Int->Option ((Bool)⊕((List (List UInt8))×Int))
 |0,_=>none
 |fuel+1,k=>
 bif(decide (k<i))then
 bif((List.getD list (Int.toNat k) [])==(List.getD list (Int.toNat i) []))then
 let q0:=((Go.V.inB i (List.length list))&&((Go.V.inB k (List.length list))&&true))
 bif q0 then
 some (.inl false)
 else
 none
 else
 let q0:=((Go.V.inB i (List.length list))&&((Go.V.inB k (List.length list))&&true))
 bif q0 then
 M.nq list i fuel (Go.IntKind.wrap Go.IntKind.i64 (k+(1:Int)))
 else
 none
 else
 some ((.inr ((list,i))))
def lS:Nat->(List (List UInt8))->Int->Option ((Bool)⊕(Unit))
 |0,_,_=>none
 |fuel+1,list,i=>
 bif(decide (i<((List.length list):Int)))then
 let q0:=(M.nk (List.getD list (Int.toNat i) []))
 bif(!(Option.getD q0 default))then
 let q1:=((Option.isSome q0)&&((Go.V.inB i (List.length list))&&true))
 bif q1 then
 some (.inl false)
 else
 none
 else
 match(M.nq list i Go.V.al (0:Int))with
 |none=>none
 |some y1=>
 (match y1 with
 |.inl a2=>
 let q3:=((Option.isSome q0)&&((Go.V.inB i (List.length list))&&true))
 bif q3 then
 some (.inl a2)
 else
 none
 |.inr b2=>
 let q3:=((Option.isSome q0)&&((Go.V.inB i (List.length list))&&true))
 bif q3 then
 M.lS fuel b2.1 (Go.IntKind.wrap Go.IntKind.i64 (b2.2+(1:Int)))
 else
 none)
 else
 some ((.inr (())))
def sc(list:(List (List UInt8))):Option (Bool):=
 bif((decide (((List.length list):Int)<(1:Int)))||(decide ((16:Int)<((List.length list):Int))))then
 some false
 else
 match(M.lS Go.V.al list (0:Int))with
 |none=>none
 |some y0=>
 (match y0 with
 |.inl a1=>
 some a1
 |.inr b1=>
 some true)
def kz:Nat->Int->M.aa->Option ((Bool)⊕(Unit))
 |0,_,_=>none
 |fuel+1,i,t=>
 bif(decide (i<((List.length (M.aa.Kids t)):Int)))then
 bif((M.aa.Kind (List.getD (M.aa.Kids t) (Int.toNat i) M.aa.zero))==(1:Int))then
 bif((Go.V.inB i (List.length (M.aa.Kids t)))&&true)then
 some (.inl true)
 else
 none
 else
 bif((Go.V.inB i (List.length (M.aa.Kids t)))&&true)then
 M.kz fuel (Go.IntKind.wrap Go.IntKind.i64 (i+(1:Int))) (M.aa.re t)
 else
 none
 else
 some ((.inr (())))
def nr(t:M.aa):Option (Bool):=
 match(M.kz Go.V.al (0:Int) (M.aa.re t))with
 |none=>none
 |some y0=>
 (match y0 with
 |.inl a1=>
 some a1
 |.inr b1=>
 some false)
def kB(dS:M.aa->Int->Int->Option (Bool))(low:Int)(high:Int):Nat->Int->M.aa->Option ((Bool)⊕(Unit))
 |0,_,_=>none
 |fuel+1,i,t=>
 bif(decide (i<((List.length (M.aa.Kids t)):Int)))then
 bif(Option.getD (dS (M.aa.re (List.getD (M.aa.Kids t) (Int.toNat i) M.aa.zero)) low high) default)then
 let q0:=((Option.isSome (dS (M.aa.re (List.getD (M.aa.Kids t) (Int.toNat i) M.aa.zero)) low high))&&((Go.V.inB i (List.length (M.aa.Kids t)))&&true))
 bif q0 then
 some (.inl true)
 else
 none
 else
 let q0:=((Option.isSome (dS (M.aa.re (List.getD (M.aa.Kids t) (Int.toNat i) M.aa.zero)) low high))&&((Go.V.inB i (List.length (M.aa.Kids t)))&&true))
 bif q0 then
 M.kB dS low high fuel (Go.IntKind.wrap Go.IntKind.i64 (i+(1:Int))) (M.aa.re t)
 else
 none
 else
 some ((.inr (())))
def vm(dS:M.aa->Int->Int->Option (Bool))(t:M.aa)(low:Int)(high:Int):Option (Bool):=
 bif((decide (low<=(M.aa.Kind t)))&&(decide ((M.aa.Kind t)<=high)))then
 some true
 else
 match(M.kB dS low high Go.V.al (0:Int) (M.aa.re t))with
 |none=>none
 |some y0=>
 (match y0 with
 |.inl a1=>
 some a1
 |.inr b1=>
 some false)
def jY:Nat->M.aa->Int->Int->Option (Bool)
 |0=>fun _ _ _=>none
 |n+1=>vm (jY n)
def kC:M.aa->Int->Int->Option (Bool):=jY Go.V.al
def se(t:M.aa):Option (Bool):=
 let q0:=(((M.aa.Kind t)==(20:Int))||((M.aa.Kind t)==(21:Int)))
 let q1:=(!(q0==(!((M.aa.Name t)==[]))))
 let q2:=(M.nk (M.aa.Name t))
 let q3:=((decide ((16:Int)<=(M.aa.Kind t)))&&(decide ((M.aa.Kind t)<=(19:Int))))
 let q4:=((q1||(q0&&(!(Option.getD q2 default))))||(!(q3==(decide ((0:Int)<((List.length (M.aa.bK t)):Int))))))
 let q5:=(M.sc (M.aa.bK t))
 bif(q4||(q3&&(!(Option.getD q5 default))))then
 let q6:=(((Option.isSome q5)||(!((q4==false)&&(q3==true))))&&(((Option.isSome q2)||(!((q1==false)&&(q0==true))))&&true))
 bif q6 then
 some false
 else
 none
 else
 bif(bif((M.aa.Kind t)==(12:Int))then((M.aa.Kind t)==(12:Int))else((M.aa.Kind t)==(13:Int)))then
 let q6:=(M.nr (M.aa.re t))
 let q7:=(!((((List.length (M.aa.Kids t)):Int)==(1:Int))==true))
 let q8:=(((Option.isSome q5)||(!((q4==false)&&(q3==true))))&&(((Option.isSome q2)||(!((q1==false)&&(q0==true))))&&true))
 let q9:=((q8||(!((M.aa.Kind t)==(12:Int))))&&(q8||((M.aa.Kind t)==(12:Int))))
 bif(((Option.isSome q6)||q7)&&q9)then
 some ((((List.length (M.aa.Kids t)):Int)==(1:Int))&&(!(Option.getD q6 default)))
 else
 none
 else
 bif(bif((M.aa.Kind t)==(22:Int))then((M.aa.Kind t)==(22:Int))else((M.aa.Kind t)==(23:Int)))then
 let q6:=(M.kC (M.aa.re (List.getD (M.aa.Kids t) (Int.toNat (0:Int)) M.aa.zero)) (21:Int) (21:Int))
 let q7:=(!((((List.length (M.aa.Kids t)):Int)==(1:Int))==true))
 let q8:=(((Option.isSome q5)||(!((q4==false)&&(q3==true))))&&(((Option.isSome q2)||(!((q1==false)&&(q0==true))))&&true))
 let q9:=((q8||(!((M.aa.Kind t)==(12:Int))))&&(q8||((M.aa.Kind t)==(12:Int))))
 let q10:=((q9||(!((M.aa.Kind t)==(22:Int))))&&(q9||((M.aa.Kind t)==(22:Int))))
 bif(((Option.isSome q6)||q7)&&(((Go.V.inB (0:Int) (List.length (M.aa.Kids t)))||q7)&&q10))then
 some ((((List.length (M.aa.Kids t)):Int)==(1:Int))&&(!(Option.getD q6 default)))
 else
 none
 else
 bif((M.aa.Kind t)==(14:Int))then
 let q6:=(((Option.isSome q5)||(!((q4==false)&&(q3==true))))&&(((Option.isSome q2)||(!((q1==false)&&(q0==true))))&&true))
 let q7:=((q6||(!((M.aa.Kind t)==(12:Int))))&&(q6||((M.aa.Kind t)==(12:Int))))
 let q8:=((q7||(!((M.aa.Kind t)==(22:Int))))&&(q7||((M.aa.Kind t)==(22:Int))))
 bif q8 then
 some (((List.length (M.aa.Kids t)):Int)==(2:Int))
 else
 none
 else
 bif((M.aa.Kind t)==(15:Int))then
 let q6:=(M.nr (M.aa.re t))
 let q7:=((decide ((1:Int)<=((List.length (M.aa.Kids t)):Int)))&&(decide (((List.length (M.aa.Kids t)):Int)<=(6:Int))))
 let q8:=(((Option.isSome q5)||(!((q4==false)&&(q3==true))))&&(((Option.isSome q2)||(!((q1==false)&&(q0==true))))&&true))
 let q9:=((q8||(!((M.aa.Kind t)==(12:Int))))&&(q8||((M.aa.Kind t)==(12:Int))))
 let q10:=((q9||(!((M.aa.Kind t)==(22:Int))))&&(q9||((M.aa.Kind t)==(22:Int))))
 bif(((Option.isSome q6)||(!(q7==true)))&&q10)then
 some (q7&&(!(Option.getD q6 default)))
 else
 none
 else
 bif((M.aa.Kind t)==(16:Int))then
 let q6:=(M.nr (M.aa.re t))
 let q7:=(((Option.isSome q5)||(!((q4==false)&&(q3==true))))&&(((Option.isSome q2)||(!((q1==false)&&(q0==true))))&&true))
 let q8:=((q7||(!((M.aa.Kind t)==(12:Int))))&&(q7||((M.aa.Kind t)==(12:Int))))
 let q9:=((q8||(!((M.aa.Kind t)==(22:Int))))&&(q8||((M.aa.Kind t)==(22:Int))))
 bif(((Option.isSome q6)||(!((((List.length (M.aa.Kids t)):Int)==((List.length (M.aa.bK t)):Int))==true)))&&q9)then
 some ((((List.length (M.aa.Kids t)):Int)==((List.length (M.aa.bK t)):Int))&&(!(Option.getD q6 default)))
 else
 none
 else
 bif((M.aa.Kind t)==(17:Int))then
 let q6:=(((Option.isSome q5)||(!((q4==false)&&(q3==true))))&&(((Option.isSome q2)||(!((q1==false)&&(q0==true))))&&true))
 let q7:=((q6||(!((M.aa.Kind t)==(12:Int))))&&(q6||((M.aa.Kind t)==(12:Int))))
 let q8:=((q7||(!((M.aa.Kind t)==(22:Int))))&&(q7||((M.aa.Kind t)==(22:Int))))
 bif q8 then
 some (((List.length (M.aa.Kids t)):Int)==((List.length (M.aa.bK t)):Int))
 else
 none
 else
 let q6:=(((Option.isSome q5)||(!((q4==false)&&(q3==true))))&&(((Option.isSome q2)||(!((q1==false)&&(q0==true))))&&true))
 let q7:=((q6||(!((M.aa.Kind t)==(12:Int))))&&(q6||((M.aa.Kind t)==(12:Int))))
 let q8:=((q7||(!((M.aa.Kind t)==(22:Int))))&&(q7||((M.aa.Kind t)==(22:Int))))
 bif q8 then
 some (((decide ((1:Int)<=(M.aa.Kind t)))&&(decide ((M.aa.Kind t)<=(23:Int))))&&(((List.length (M.aa.Kids t)):Int)==(0:Int)))
 else
 none
def kD(dU:M.aa->Option (Bool)):Nat->Int->M.aa->Option ((Bool)⊕(Unit))
 |0,_,_=>none
 |fuel+1,i,t=>
 bif(decide (i<((List.length (M.aa.Kids t)):Int)))then
 bif(!(Option.getD (dU (M.aa.re (List.getD (M.aa.Kids t) (Int.toNat i) M.aa.zero))) default))then
 let q0:=((Option.isSome (dU (M.aa.re (List.getD (M.aa.Kids t) (Int.toNat i) M.aa.zero))))&&((Go.V.inB i (List.length (M.aa.Kids t)))&&true))
 bif q0 then
 some (.inl false)
 else
 none
 else
 let q0:=((Option.isSome (dU (M.aa.re (List.getD (M.aa.Kids t) (Int.toNat i) M.aa.zero))))&&((Go.V.inB i (List.length (M.aa.Kids t)))&&true))
 bif q0 then
 M.kD dU fuel (Go.IntKind.wrap Go.IntKind.i64 (i+(1:Int))) (M.aa.re t)
 else
 none
 else
 some ((.inr (())))
def vn(dU:M.aa->Option (Bool))(t:M.aa):Option (Bool):=
 let q0:=(M.se (M.aa.re t))
 bif(!(Option.getD q0 default))then
 bif((Option.isSome q0)&&true)then
 some false
 else
 none
 else
 match(M.kD dU Go.V.al (0:Int) (M.aa.re t))with
 |none=>none
 |some y1=>
 (match y1 with
 |.inl a2=>
 bif((Option.isSome q0)&&true)then
 some a2
 else
 none
 |.inr b2=>
 bif((Option.isSome q0)&&true)then
 some true
 else
 none)
def kE:Nat->M.aa->Option (Bool)
 |0=>fun _=>none
 |n+1=>vn (kE n)
def xY:M.aa->Option (Bool):=kE Go.V.al
def ns(d6:M.aa->Int->Option (Int))(levels:Int)(t11:(List M.aa))(t12:Int):Nat->Int->Int->Option (Int)
 |0,_,_=>none
 |fuel+1,depth,t13=>
 bif(decide (t13<t12))then
 bif((Option.isSome (d6 (M.aa.re (List.getD t11 (Int.toNat t13) M.aa.zero)) (Go.IntKind.wrap Go.IntKind.i64 (levels-(1:Int)))))&&((Go.V.inB t13 (List.length t11))&&true))then
 let q0:=(Option.getD (d6 (M.aa.re (List.getD t11 (Int.toNat t13) M.aa.zero)) (Go.IntKind.wrap Go.IntKind.i64 (levels-(1:Int)))) default)
 M.ns d6 levels t11 t12 fuel (bif(decide (depth<q0))then q0 else depth) (Go.IntKind.wrap Go.IntKind.i64 (t13+(1:Int)))
 else
 none
 else
 some (depth)
def vo(d6:M.aa->Int->Option (Int))(t:M.aa)(levels:Int):Option (Int):=
 bif(levels==(0:Int))then
 some (1:Int)
 else
 match(M.ns d6 levels (M.aa.Kids t) ((List.length (M.aa.Kids t)):Int) Go.V.al (0:Int) (0:Int))with
 |none=>none
 |some y0=>
 some (Go.IntKind.wrap Go.IntKind.i64 (y0+(1:Int)))
def nt:Nat->M.aa->Int->Option (Int)
 |0=>fun _ _=>none
 |n+1=>vo (nt n)
def x3:M.aa->Int->Option (Int):=nt Go.V.al
def nu(ed:M.aa->Option (Int))(t7:(List M.aa))(t8:Int):Nat->Int->Int->Option (Int)
 |0,_,_=>none
 |fuel+1,many,t9=>
 bif(decide (t9<t8))then
 bif((Option.isSome (ed (M.aa.re (List.getD t7 (Int.toNat t9) M.aa.zero))))&&((Go.V.inB t9 (List.length t7))&&true))then
 M.nu ed t7 t8 fuel (Go.IntKind.wrap Go.IntKind.i64 (many+(Option.getD (ed (M.aa.re (List.getD t7 (Int.toNat t9) M.aa.zero))) default))) (Go.IntKind.wrap Go.IntKind.i64 (t9+(1:Int)))
 else
 none
 else
 some (many)
def vp(ed:M.aa->Option (Int))(t:M.aa):Option (Int):=
 match(M.nu ed (M.aa.Kids t) ((List.length (M.aa.Kids t)):Int) Go.V.al (1:Int) (0:Int))with
 |none=>none
 |some y0=>
 some y0
def nw:Nat->M.aa->Option (Int)
 |0=>fun _=>none
 |n+1=>vp (nw n)
def x5:M.aa->Option (Int):=nw Go.V.al
def sj(bV:M.aa->Option (Bool))(kid:M.aa):Option (Bool):=
 bif((Option.isSome (bV (M.aa.re kid)))&&true)then
 some (!(Option.getD (bV (M.aa.re kid)) default))
 else
 none
def pH(bV:M.aa->Option (Bool))(s:(List M.aa))(t7:Int):Nat->Int->Option ((Int)⊕(Unit))
 |0,_=>none
 |fuel+1,t8=>
 bif(decide (t8<t7))then
 let q0:=(M.sj bV (M.aa.re (List.getD s (Int.toNat t8) M.aa.zero)))
 bif(Option.getD q0 default)then
 let q1:=((Option.isSome q0)&&((Go.V.inB t8 (List.length s))&&true))
 bif q1 then
 some (.inl t8)
 else
 none
 else
 let q1:=((Option.isSome q0)&&((Go.V.inB t8 (List.length s))&&true))
 bif q1 then
 M.pH bV s t7 fuel (Go.IntKind.wrap Go.IntKind.i64 (t8+(1:Int)))
 else
 none
 else
 some ((.inr (())))
def vq(bV:M.aa->Option (Bool))(s:(List M.aa)):Option (Int):=
 match(M.pH bV s ((List.length s):Int) Go.V.al (0:Int))with
 |none=>none
 |some y0=>
 (match y0 with
 |.inl a1=>
 some a1
 |.inr b1=>
 some (-(1:Int)))
def pI(bV:M.aa->Option (Bool))(s:(List M.aa)):Option (Bool):=
 let q0:=(M.vq bV s)
 bif((Option.isSome q0)&&true)then
 some (decide ((0:Int)<=(Option.getD q0 default)))
 else
 none
def hJ(n:Int)(low:Int)(high:Int):Option (Bool):=
 some ((decide (low<=n))&&(decide (n<=high)))
def vt(list:(List (List UInt8))):Option (Int):=
 some ((List.length list):Int)
def ny(s:(List UInt8))(t7:Int):Nat->Int->Option ((Bool)⊕((List UInt8)))
 |0,_=>none
 |fuel+1,t8=>
 bif(decide (t8<t7))then
 bif((decide ((97:Int)<=((UInt8.toNat (List.getD s (Int.toNat t8) (0:UInt8))):Int)))&&(decide (((UInt8.toNat (List.getD s (Int.toNat t8) (0:UInt8))):Int)<=(122:Int))))then
 let q0:=(((Go.V.inB t8 (List.length s))||(!((decide ((48:Int)<=((UInt8.toNat (List.getD s (Int.toNat t8) (0:UInt8))):Int)))==true)))&&((Go.V.inB t8 (List.length s))&&(((Go.V.inB t8 (List.length s))||(!((decide ((97:Int)<=((UInt8.toNat (List.getD s (Int.toNat t8) (0:UInt8))):Int)))==true)))&&((Go.V.inB t8 (List.length s))&&true))))
 bif q0 then
 M.ny s t7 fuel (Go.IntKind.wrap Go.IntKind.i64 (t8+(1:Int)))
 else
 none
 else
 let q0:=(!((decide ((48:Int)<=((UInt8.toNat (List.getD s (Int.toNat t8) (0:UInt8))):Int)))&&(decide (((UInt8.toNat (List.getD s (Int.toNat t8) (0:UInt8))):Int)<=(57:Int)))))
 bif((t8==(0:Int))||(q0&&(((UInt8.toNat (List.getD s (Int.toNat t8) (0:UInt8))):Int) !=(45:Int))))then
 let q1:=(((Go.V.inB t8 (List.length s))||(!((decide ((48:Int)<=((UInt8.toNat (List.getD s (Int.toNat t8) (0:UInt8))):Int)))==true)))&&((Go.V.inB t8 (List.length s))&&(((Go.V.inB t8 (List.length s))||(!((decide ((97:Int)<=((UInt8.toNat (List.getD s (Int.toNat t8) (0:UInt8))):Int)))==true)))&&((Go.V.inB t8 (List.length s))&&true))))
 let q2:=(((Go.V.inB t8 (List.length s))||(!(((t8==(0:Int))==false)&&(q0==true))))&&q1)
 bif q2 then
 some (.inl false)
 else
 none
 else
 let q1:=(((UInt8.toNat (List.getD s (Int.toNat t8) (0:UInt8))):Int)==(45:Int))
 bif(q1&&(((UInt8.toNat (List.getD s (Int.toNat (Go.IntKind.wrap Go.IntKind.i64 (t8-(1:Int)))) (0:UInt8))):Int)==(45:Int)))then
 let q2:=(((Go.V.inB t8 (List.length s))||(!((decide ((48:Int)<=((UInt8.toNat (List.getD s (Int.toNat t8) (0:UInt8))):Int)))==true)))&&((Go.V.inB t8 (List.length s))&&(((Go.V.inB t8 (List.length s))||(!((decide ((97:Int)<=((UInt8.toNat (List.getD s (Int.toNat t8) (0:UInt8))):Int)))==true)))&&((Go.V.inB t8 (List.length s))&&true))))
 let q3:=(((Go.V.inB t8 (List.length s))||(!(((t8==(0:Int))==false)&&(q0==true))))&&q2)
 let q4:=(((Go.V.inB (Go.IntKind.wrap Go.IntKind.i64 (t8-(1:Int))) (List.length s))||(!(q1==true)))&&((Go.V.inB t8 (List.length s))&&q3))
 bif q4 then
 some (.inl false)
 else
 none
 else
 let q2:=(((Go.V.inB t8 (List.length s))||(!((decide ((48:Int)<=((UInt8.toNat (List.getD s (Int.toNat t8) (0:UInt8))):Int)))==true)))&&((Go.V.inB t8 (List.length s))&&(((Go.V.inB t8 (List.length s))||(!((decide ((97:Int)<=((UInt8.toNat (List.getD s (Int.toNat t8) (0:UInt8))):Int)))==true)))&&((Go.V.inB t8 (List.length s))&&true))))
 let q3:=(((Go.V.inB t8 (List.length s))||(!(((t8==(0:Int))==false)&&(q0==true))))&&q2)
 let q4:=(((Go.V.inB (Go.IntKind.wrap Go.IntKind.i64 (t8-(1:Int))) (List.length s))||(!(q1==true)))&&((Go.V.inB t8 (List.length s))&&q3))
 bif q4 then
 M.ny s t7 fuel (Go.IntKind.wrap Go.IntKind.i64 (t8+(1:Int)))
 else
 none
 else
 some ((.inr (s)))
def nz(s:(List UInt8)):Option (Bool):=
 match(M.ny s ((List.length s):Int) Go.V.al (0:Int))with
 |none=>none
 |some y0=>
 (match y0 with
 |.inl a1=>
 some a1
 |.inr b1=>
 let q2:=((decide ((1:Int)<=((List.length b1):Int)))&&(decide (((List.length b1):Int)<=(12:Int))))
 bif(((Go.V.inB (Go.IntKind.wrap Go.IntKind.i64 (((List.length b1):Int)-(1:Int))) (List.length b1))||(!(q2==true)))&&true)then
 some (q2&&(((UInt8.toNat (List.getD b1 (Int.toNat (Go.IntKind.wrap Go.IntKind.i64 (((List.length b1):Int)-(1:Int)))) (0:UInt8))):Int) !=(45:Int)))
 else
 none)
def sk(name:(List UInt8)):Option (Bool):=
 let q0:=(M.nz name)
 bif((Option.isSome q0)&&true)then
 some (!(Option.getD q0 default))
 else
 none
def pJ(s:(List (List UInt8)))(t7:Int):Nat->Int->Option ((Int)⊕(Unit))
 |0,_=>none
 |fuel+1,t8=>
 bif(decide (t8<t7))then
 let q0:=(M.sk (List.getD s (Int.toNat t8) []))
 bif(Option.getD q0 default)then
 let q1:=((Option.isSome q0)&&((Go.V.inB t8 (List.length s))&&true))
 bif q1 then
 some (.inl t8)
 else
 none
 else
 let q1:=((Option.isSome q0)&&((Go.V.inB t8 (List.length s))&&true))
 bif q1 then
 M.pJ s t7 fuel (Go.IntKind.wrap Go.IntKind.i64 (t8+(1:Int)))
 else
 none
 else
 some ((.inr (())))
def vu(s:(List (List UInt8))):Option (Int):=
 match(M.pJ s ((List.length s):Int) Go.V.al (0:Int))with
 |none=>none
 |some y0=>
 (match y0 with
 |.inl a1=>
 some a1
 |.inr b1=>
 some (-(1:Int)))
def sn(s:(List (List UInt8))):Option (Bool):=
 let q0:=(M.vu s)
 bif((Option.isSome q0)&&true)then
 some (decide ((0:Int)<=(Option.getD q0 default)))
 else
 none
def so(labels:(List (List UInt8))):Option (Bool):=
 let q0:=(M.sn labels)
 let q1:=((decide ((1:Int)<=((List.length labels):Int)))&&(decide (((List.length labels):Int)<=(16:Int))))
 let q2:=(M.mO labels)
 let q3:=(q1&&(Option.getD q2 default))
 bif(((Option.isSome q0)||(!(q3==true)))&&(((Option.isSome q2)||(!(q1==true)))&&true))then
 some (q3&&(!(Option.getD q0 default)))
 else
 none
def vx(list:(List M.aa)):Option (Int):=
 some ((List.length list):Int)
def vz(t:M.aa):Option (Bool):=
 some ((M.aa.Kind t)==(1:Int))
def pK(s:(List M.aa))(t7:Int):Nat->Int->Option ((Int)⊕(Unit))
 |0,_=>none
 |fuel+1,t8=>
 bif(decide (t8<t7))then
 bif((M.aa.Kind (List.getD s (Int.toNat t8) M.aa.zero))==(1:Int))then
 bif((Go.V.inB t8 (List.length s))&&true)then
 some (.inl t8)
 else
 none
 else
 bif((Go.V.inB t8 (List.length s))&&true)then
 M.pK s t7 fuel (Go.IntKind.wrap Go.IntKind.i64 (t8+(1:Int)))
 else
 none
 else
 some ((.inr (())))
def vA(s:(List M.aa)):Option (Int):=
 match(M.pK s ((List.length s):Int) Go.V.al (0:Int))with
 |none=>none
 |some y0=>
 (match y0 with
 |.inl a1=>
 some a1
 |.inr b1=>
 some (-(1:Int)))
def sq(s:(List M.aa)):Option (Bool):=
 let q0:=(M.vA s)
 bif((Option.isSome q0)&&true)then
 some (decide ((0:Int)<=(Option.getD q0 default)))
 else
 none
def lW(t:M.aa)(many:Int):Option (Bool):=
 let q0:=(M.sq (M.aa.Kids t))
 bif(((Option.isSome q0)||(!((((List.length (M.aa.Kids t)):Int)==many)==true)))&&true)then
 some ((((List.length (M.aa.Kids t)):Int)==many)&&(!(Option.getD q0 default)))
 else
 none
def pL(s:(List Int))(v:Int)(t7:Int):Nat->Int->Option ((Int)⊕(Unit))
 |0,_=>none
 |fuel+1,t8=>
 bif(decide (t8<t7))then
 bif(v==(List.getD s (Int.toNat t8) (0:Int)))then
 bif((Go.V.inB t8 (List.length s))&&true)then
 some (.inl t8)
 else
 none
 else
 bif((Go.V.inB t8 (List.length s))&&true)then
 M.pL s v t7 fuel (Go.IntKind.wrap Go.IntKind.i64 (t8+(1:Int)))
 else
 none
 else
 some ((.inr (())))
def vB(s:(List Int))(v:Int):Option (Int):=
 match(M.pL s v ((List.length s):Int) Go.V.al (0:Int))with
 |none=>none
 |some y0=>
 (match y0 with
 |.inl a1=>
 some a1
 |.inr b1=>
 some (-(1:Int)))
def lX(s:(List Int))(v:Int):Option (Bool):=
 let q0:=(M.vB s v)
 bif((Option.isSome q0)&&true)then
 some (decide ((0:Int)<=(Option.getD q0 default)))
 else
 none
def sr(bW:M.aa->(List Int)->Option (Bool))(kid:M.aa)(t1:(List Int)):Option (Bool):=
 bif((Option.isSome (bW (M.aa.re kid) t1))&&true)then
 some (Option.getD (bW (M.aa.re kid) t1) default)
 else
 none
def pM(bW:M.aa->(List Int)->Option (Bool))(s:(List M.aa))(f:(List Int))(t7:Int):Nat->Int->Option ((Int)⊕(Unit))
 |0,_=>none
 |fuel+1,t8=>
 bif(decide (t8<t7))then
 let q0:=(M.sr bW (M.aa.re (List.getD s (Int.toNat t8) M.aa.zero)) f)
 bif(Option.getD q0 default)then
 let q1:=((Option.isSome q0)&&((Go.V.inB t8 (List.length s))&&true))
 bif q1 then
 some (.inl t8)
 else
 none
 else
 let q1:=((Option.isSome q0)&&((Go.V.inB t8 (List.length s))&&true))
 bif q1 then
 M.pM bW s f t7 fuel (Go.IntKind.wrap Go.IntKind.i64 (t8+(1:Int)))
 else
 none
 else
 some ((.inr (())))
def vC(bW:M.aa->(List Int)->Option (Bool))(s:(List M.aa))(f:(List Int)):Option (Int):=
 match(M.pM bW s f ((List.length s):Int) Go.V.al (0:Int))with
 |none=>none
 |some y0=>
 (match y0 with
 |.inl a1=>
 some a1
 |.inr b1=>
 some (-(1:Int)))
def su(bW:M.aa->(List Int)->Option (Bool))(s:(List M.aa))(f:(List Int)):Option (Bool):=
 let q0:=(M.vC bW s f)
 bif((Option.isSome q0)&&true)then
 some (decide ((0:Int)<=(Option.getD q0 default)))
 else
 none
def vD(bW:M.aa->(List Int)->Option (Bool))(t:M.aa)(kinds:(List Int)):Option (Bool):=
 let q0:=(M.su bW (M.aa.Kids t) kinds)
 let q1:=(M.lX kinds (M.aa.Kind t))
 bif(((Option.isSome q0)||(!((Option.getD q1 default)==false)))&&((Option.isSome q1)&&true))then
 some ((Option.getD q1 default)||(Option.getD q0 default))
 else
 none
def kF:Nat->M.aa->(List Int)->Option (Bool)
 |0=>fun _ _=>none
 |n+1=>vD (kF n)
def kG:M.aa->(List Int)->Option (Bool):=kF Go.V.al
def sw(bV:M.aa->Option (Bool))(t:M.aa):Option (Bool):=
 let q0:=(M.pI bV (M.aa.Kids t))
 bif(Option.getD q0 default)then
 bif((Option.isSome q0)&&true)then
 some false
 else
 none
 else
 let q1:=((decide ((16:Int)<=(M.aa.Kind t)))&&(decide ((M.aa.Kind t)<=(19:Int))))
 let q2:=(M.so (M.aa.bK t))
 let q3:=((q1&&(!(Option.getD q2 default)))||((!q1)&&(decide ((0:Int)<((List.length (M.aa.bK t)):Int)))))
 let q4:=(((M.aa.Kind t)==(20:Int))||((M.aa.Kind t)==(21:Int)))
 let q5:=(M.nz (M.aa.Name t))
 bif((q3||(q4&&(!(Option.getD q5 default))))||((!q4)&&(!((M.aa.Name t)==[]))))then
 let q6:=(((Option.isSome q5)||(!((q3==false)&&(q4==true))))&&(((Option.isSome q2)||(!(q1==true)))&&((Option.isSome q0)&&true)))
 bif q6 then
 some false
 else
 none
 else
 bif(bif((M.aa.Kind t)==(12:Int))then((M.aa.Kind t)==(12:Int))else((M.aa.Kind t)==(13:Int)))then
 let q6:=(M.lW (M.aa.re t) (1:Int))
 let q7:=(((Option.isSome q5)||(!((q3==false)&&(q4==true))))&&(((Option.isSome q2)||(!(q1==true)))&&((Option.isSome q0)&&true)))
 let q8:=((q7||(!((M.aa.Kind t)==(12:Int))))&&(q7||((M.aa.Kind t)==(12:Int))))
 bif((Option.isSome q6)&&q8)then
 some (Option.getD q6 default)
 else
 none
 else
 bif((M.aa.Kind t)==(14:Int))then
 let q6:=(((Option.isSome q5)||(!((q3==false)&&(q4==true))))&&(((Option.isSome q2)||(!(q1==true)))&&((Option.isSome q0)&&true)))
 let q7:=((q6||(!((M.aa.Kind t)==(12:Int))))&&(q6||((M.aa.Kind t)==(12:Int))))
 bif q7 then
 some (((List.length (M.aa.Kids t)):Int)==(2:Int))
 else
 none
 else
 bif((M.aa.Kind t)==(15:Int))then
 let q6:=(M.lW (M.aa.re t) ((List.length (M.aa.Kids t)):Int))
 let q7:=((decide ((1:Int)<=((List.length (M.aa.Kids t)):Int)))&&(decide (((List.length (M.aa.Kids t)):Int)<=(6:Int))))
 let q8:=(((Option.isSome q5)||(!((q3==false)&&(q4==true))))&&(((Option.isSome q2)||(!(q1==true)))&&((Option.isSome q0)&&true)))
 let q9:=((q8||(!((M.aa.Kind t)==(12:Int))))&&(q8||((M.aa.Kind t)==(12:Int))))
 bif(((Option.isSome q6)||(!(q7==true)))&&q9)then
 some (q7&&(Option.getD q6 default))
 else
 none
 else
 bif((M.aa.Kind t)==(16:Int))then
 let q6:=(M.lW (M.aa.re t) ((List.length (M.aa.bK t)):Int))
 let q7:=(((Option.isSome q5)||(!((q3==false)&&(q4==true))))&&(((Option.isSome q2)||(!(q1==true)))&&((Option.isSome q0)&&true)))
 let q8:=((q7||(!((M.aa.Kind t)==(12:Int))))&&(q7||((M.aa.Kind t)==(12:Int))))
 bif((Option.isSome q6)&&q8)then
 some (Option.getD q6 default)
 else
 none
 else
 bif((M.aa.Kind t)==(17:Int))then
 let q6:=(((Option.isSome q5)||(!((q3==false)&&(q4==true))))&&(((Option.isSome q2)||(!(q1==true)))&&((Option.isSome q0)&&true)))
 let q7:=((q6||(!((M.aa.Kind t)==(12:Int))))&&(q6||((M.aa.Kind t)==(12:Int))))
 bif q7 then
 some (((List.length (M.aa.Kids t)):Int)==((List.length (M.aa.bK t)):Int))
 else
 none
 else
 bif(bif((M.aa.Kind t)==(22:Int))then((M.aa.Kind t)==(22:Int))else((M.aa.Kind t)==(23:Int)))then
 let q6:=(M.kG (M.aa.re (List.getD (M.aa.Kids t) (Int.toNat (0:Int)) M.aa.zero)) [(21:Int)])
 let q7:=(!((((List.length (M.aa.Kids t)):Int)==(1:Int))==true))
 let q8:=(((Option.isSome q5)||(!((q3==false)&&(q4==true))))&&(((Option.isSome q2)||(!(q1==true)))&&((Option.isSome q0)&&true)))
 let q9:=((q8||(!((M.aa.Kind t)==(12:Int))))&&(q8||((M.aa.Kind t)==(12:Int))))
 let q10:=((q9||(!((M.aa.Kind t)==(22:Int))))&&(q9||((M.aa.Kind t)==(22:Int))))
 bif(((Option.isSome q6)||q7)&&(((Go.V.inB (0:Int) (List.length (M.aa.Kids t)))||q7)&&q10))then
 some ((((List.length (M.aa.Kids t)):Int)==(1:Int))&&(!(Option.getD q6 default)))
 else
 none
 else
 let q6:=(((Option.isSome q5)||(!((q3==false)&&(q4==true))))&&(((Option.isSome q2)||(!(q1==true)))&&((Option.isSome q0)&&true)))
 let q7:=((q6||(!((M.aa.Kind t)==(12:Int))))&&(q6||((M.aa.Kind t)==(12:Int))))
 let q8:=((q7||(!((M.aa.Kind t)==(22:Int))))&&(q7||((M.aa.Kind t)==(22:Int))))
 bif q8 then
 some (((decide ((1:Int)<=(M.aa.Kind t)))&&(decide ((M.aa.Kind t)<=(23:Int))))&&(((List.length (M.aa.Kids t)):Int)==(0:Int)))
 else
 none
def lY:Nat->M.aa->Option (Bool)
 |0=>fun _=>none
 |n+1=>sw (lY n)
def ye:M.aa->Option (Bool):=lY Go.V.al
def nA(t:M.aa):Option (Bool):=
 let q0:=(M.xY (M.aa.re t))
 let q1:=(M.xP (M.aa.re t) (1:Int))
 let q2:=((decide ((Option.getD q1 default).1<=(4:Int)))&&(decide ((Option.getD q1 default).2<=(24:Int))))
 bif(((Option.isSome q0)||(!(q2==true)))&&((Option.isSome q1)&&true))then
 some (q2&&(Option.getD q0 default))
 else
 none
def sx(t:M.aa):Option (Bool):=
 let q0:=(M.kC (M.aa.re t) (20:Int) (23:Int))
 let q1:=(M.nA (M.aa.re t))
 let q2:=((Option.getD q1 default)&&((M.aa.Kind t) !=(1:Int)))
 bif(((Option.isSome q0)||(!(q2==true)))&&((Option.isSome q1)&&true))then
 some (q2&&(!(Option.getD q0 default)))
 else
 none
def sy(t:M.aa):Option (Bool):=
 let q0:=(M.nA (M.aa.re t))
 bif((Option.isSome q0)&&true)then
 some (Option.getD q0 default)
 else
 none
def pN(bj:M.ae->M.aa->Option (Bool))(kids:(List M.ae))(t:M.aa):Option (Bool):=
 bif((M.aa.Kind t)==(1:Int))then
 some (((List.length kids):Int)==(0:Int))
 else
 let q0:=(!((((List.length kids):Int)==(1:Int))==true))
 bif(((Option.isSome (bj (M.ae.re (List.getD kids (Int.toNat (0:Int)) M.ae.zero)) (M.aa.re t)))||q0)&&(((Go.V.inB (0:Int) (List.length kids))||q0)&&true))then
 some ((((List.length kids):Int)==(1:Int))&&(Option.getD (bj (M.ae.re (List.getD kids (Int.toNat (0:Int)) M.ae.zero)) (M.aa.re t)) default))
 else
 none
def kH(bj:M.ae->M.aa->Option (Bool))(kids:(List M.ae)):Nat->Int->M.aa->Option ((Bool)⊕(Unit))
 |0,_,_=>none
 |fuel+1,i,t=>
 bif(decide (i<((List.length kids):Int)))then
 bif(!(Option.getD (bj (M.ae.re (List.getD kids (Int.toNat i) M.ae.zero)) (M.aa.re t)) default))then
 let q0:=((Option.isSome (bj (M.ae.re (List.getD kids (Int.toNat i) M.ae.zero)) (M.aa.re t)))&&((Go.V.inB i (List.length kids))&&true))
 bif q0 then
 some (.inl false)
 else
 none
 else
 let q0:=((Option.isSome (bj (M.ae.re (List.getD kids (Int.toNat i) M.ae.zero)) (M.aa.re t)))&&((Go.V.inB i (List.length kids))&&true))
 bif q0 then
 M.kH bj kids fuel (Go.IntKind.wrap Go.IntKind.i64 (i+(1:Int))) (M.aa.re t)
 else
 none
 else
 some ((.inr (())))
def pO(bj:M.ae->M.aa->Option (Bool))(kids:(List M.ae))(most:Int)(t:M.aa):Option (Bool):=
 bif(decide (most<((List.length kids):Int)))then
 some false
 else
 match(M.kH bj kids Go.V.al (0:Int) (M.aa.re t))with
 |none=>none
 |some y0=>
 (match y0 with
 |.inl a1=>
 some a1
 |.inr b1=>
 some true)
def gJ(n:Int):Option (Bool):=
 some (((decide ((0:Int)<=n))&&(decide (n<=(55295:Int))))||((decide ((57344:Int)<=n))&&(decide (n<=(1114111:Int)))))
def nB(s:(List UInt8))(many:Int):Nat->Int->Int->Option ((List UInt8)×Int×Int)
 |0,_,_=>none
 |fuel+1,n,i=>
 bif(decide (i<many))then
 bif((Go.V.inB i (List.length s))&&true)then
 M.nB s many fuel (Go.V.fH Go.BinOp.or Go.IntKind.i64 (Go.V.md Go.IntKind.i64 n (6:Int)) (Go.IntKind.wrap Go.IntKind.i64 (Go.V.fH Go.BinOp.and Go.IntKind.u8 ((UInt8.toNat (List.getD s (Int.toNat i) (0:UInt8))):Int) (63:Int)))) (Go.IntKind.wrap Go.IntKind.i64 (i+(1:Int)))
 else
 none
 else
 some ((s,many,n))
def lZ(n:Int):Option ((List UInt8)):=
 bif(decide (n<(128:Int)))then
 bif(((Go.V.fE (Go.IntKind.wrap Go.IntKind.u8 n))&&true)&&true)then
 some (List.map (fun a=>a) [(Go.V.eI (Go.IntKind.wrap Go.IntKind.u8 n))])
 else
 none
 else
 bif(decide (n<(2048:Int)))then
 let q0:=(Go.IntKind.wrap Go.IntKind.u8 (Go.IntKind.wrap Go.IntKind.i64 ((192:Int)+(Go.V.iF Go.IntKind.i64 n (6:Int)))))
 let q1:=(Go.IntKind.wrap Go.IntKind.u8 (Go.IntKind.wrap Go.IntKind.i64 ((128:Int)+(Go.V.fH Go.BinOp.and Go.IntKind.i64 n (63:Int)))))
 let q2:=((Go.V.fE q1)&&true)
 bif(((Go.V.fE q0)&&q2)&&true)then
 let q3:=[(Go.V.eI q1)]
 some (List.map (fun a=>a) [(Go.V.eI q0),(Go.V.eI q1)])
 else
 none
 else
 bif(decide (n<(65536:Int)))then
 let q0:=(Go.IntKind.wrap Go.IntKind.u8 (Go.IntKind.wrap Go.IntKind.i64 ((224:Int)+(Go.V.iF Go.IntKind.i64 n (12:Int)))))
 let q1:=(Go.IntKind.wrap Go.IntKind.u8 (Go.IntKind.wrap Go.IntKind.i64 ((128:Int)+(Go.V.fH Go.BinOp.and Go.IntKind.i64 (Go.V.iF Go.IntKind.i64 n (6:Int)) (63:Int)))))
 let q2:=(Go.IntKind.wrap Go.IntKind.u8 (Go.IntKind.wrap Go.IntKind.i64 ((128:Int)+(Go.V.fH Go.BinOp.and Go.IntKind.i64 n (63:Int)))))
 let q3:=((Go.V.fE q2)&&true)
 let q4:=((Go.V.fE q1)&&q3)
 bif(((Go.V.fE q0)&&q4)&&true)then
 let q5:=[(Go.V.eI q2)]
 let q6:=[(Go.V.eI q1),(Go.V.eI q2)]
 some (List.map (fun a=>a) [(Go.V.eI q0),(Go.V.eI q1),(Go.V.eI q2)])
 else
 none
 else
 let q0:=(Go.IntKind.wrap Go.IntKind.u8 (Go.IntKind.wrap Go.IntKind.i64 ((240:Int)+(Go.V.iF Go.IntKind.i64 n (18:Int)))))
 let q1:=(Go.IntKind.wrap Go.IntKind.u8 (Go.IntKind.wrap Go.IntKind.i64 ((128:Int)+(Go.V.fH Go.BinOp.and Go.IntKind.i64 (Go.V.iF Go.IntKind.i64 n (12:Int)) (63:Int)))))
 let q2:=(Go.IntKind.wrap Go.IntKind.u8 (Go.IntKind.wrap Go.IntKind.i64 ((128:Int)+(Go.V.fH Go.BinOp.and Go.IntKind.i64 (Go.V.iF Go.IntKind.i64 n (6:Int)) (63:Int)))))
 let q3:=(Go.IntKind.wrap Go.IntKind.u8 (Go.IntKind.wrap Go.IntKind.i64 ((128:Int)+(Go.V.fH Go.BinOp.and Go.IntKind.i64 n (63:Int)))))
 let q4:=((Go.V.fE q3)&&true)
 let q5:=((Go.V.fE q2)&&q4)
 bif(((Go.V.fE q0)&&((Go.V.fE q1)&&q5))&&true)then
 let q6:=[(Go.V.eI q3)]
 let q7:=[(Go.V.eI q2),(Go.V.eI q3)]
 some (List.map (fun a=>a) [(Go.V.eI q0),(Go.V.eI q1),(Go.V.eI q2),(Go.V.eI q3)])
 else
 none
def sA(s:(List UInt8)):Option (Int×Int):=
 bif(s==[])then
 some ((0:Int),(0:Int))
 else
 let q0:=(bif(decide ((240:Int)<=((UInt8.toNat (List.getD s (Int.toNat (0:Int)) (0:UInt8))):Int)))then(4:Int)else(bif(decide ((224:Int)<=((UInt8.toNat (List.getD s (Int.toNat (0:Int)) (0:UInt8))):Int)))then(3:Int)else(bif(decide ((192:Int)<=((UInt8.toNat (List.getD s (Int.toNat (0:Int)) (0:UInt8))):Int)))then(2:Int)else(1:Int))))
 bif(decide (((List.length s):Int)<q0))then
 let q1:=((Go.V.inB (0:Int) (List.length s))&&((Go.V.inB (0:Int) (List.length s))&&((Go.V.inB (0:Int) (List.length s))&&true)))
 let q2:=((Go.V.inB (0:Int) (List.length s))&&q1)
 let q3:=((q1||(!(decide ((240:Int)<=((UInt8.toNat (List.getD s (Int.toNat (0:Int)) (0:UInt8))):Int)))))&&(((q2||(!(decide ((224:Int)<=((UInt8.toNat (List.getD s (Int.toNat (0:Int)) (0:UInt8))):Int)))))&&(((((Go.V.inB (0:Int) (List.length s))&&q2)||(!(decide ((192:Int)<=((UInt8.toNat (List.getD s (Int.toNat (0:Int)) (0:UInt8))):Int)))))&&(q2||(decide ((192:Int)<=((UInt8.toNat (List.getD s (Int.toNat (0:Int)) (0:UInt8))):Int)))))||(decide ((224:Int)<=((UInt8.toNat (List.getD s (Int.toNat (0:Int)) (0:UInt8))):Int)))))||(decide ((240:Int)<=((UInt8.toNat (List.getD s (Int.toNat (0:Int)) (0:UInt8))):Int)))))
 bif q3 then
 some ((0:Int),(0:Int))
 else
 none
 else
 let q1:=(Go.IntKind.wrap Go.IntKind.i64 ((UInt8.toNat (List.getD s (Int.toNat (0:Int)) (0:UInt8))):Int))
 match(M.nB s q0 Go.V.al (bif(decide ((240:Int)<=((UInt8.toNat (List.getD s (Int.toNat (0:Int)) (0:UInt8))):Int)))then(Go.IntKind.wrap Go.IntKind.i64 (q1-(240:Int)))else(bif(decide ((224:Int)<=((UInt8.toNat (List.getD s (Int.toNat (0:Int)) (0:UInt8))):Int)))then(Go.IntKind.wrap Go.IntKind.i64 (q1-(224:Int)))else(bif(decide ((192:Int)<=((UInt8.toNat (List.getD s (Int.toNat (0:Int)) (0:UInt8))):Int)))then(Go.IntKind.wrap Go.IntKind.i64 (q1-(192:Int)))else q1))) (1:Int))with
 |none=>none
 |some y2=>
 let q3:=(M.gJ y2.2.2)
 let q4:=(!(Option.getD q3 default))
 let q5:=(M.lZ y2.2.2)
 bif(q4||(!((Option.getD q5 default)==(List.drop (Int.toNat (0:Int)) (List.take (Int.toNat y2.2.1) y2.1)))))then
 let q6:=(!(q4==false))
 let q7:=((Go.V.inB (0:Int) (List.length s))&&((Go.V.inB (0:Int) (List.length s))&&((Go.V.inB (0:Int) (List.length s))&&true)))
 let q8:=((Go.V.inB (0:Int) (List.length s))&&q7)
 let q9:=((q7||(!(decide ((240:Int)<=((UInt8.toNat (List.getD s (Int.toNat (0:Int)) (0:UInt8))):Int)))))&&(((q8||(!(decide ((224:Int)<=((UInt8.toNat (List.getD s (Int.toNat (0:Int)) (0:UInt8))):Int)))))&&(((((Go.V.inB (0:Int) (List.length s))&&q8)||(!(decide ((192:Int)<=((UInt8.toNat (List.getD s (Int.toNat (0:Int)) (0:UInt8))):Int)))))&&(q8||(decide ((192:Int)<=((UInt8.toNat (List.getD s (Int.toNat (0:Int)) (0:UInt8))):Int)))))||(decide ((224:Int)<=((UInt8.toNat (List.getD s (Int.toNat (0:Int)) (0:UInt8))):Int)))))||(decide ((240:Int)<=((UInt8.toNat (List.getD s (Int.toNat (0:Int)) (0:UInt8))):Int)))))
 let q10:=(((Go.V.cu (0:Int) y2.2.1 (List.length y2.1))||q6)&&(((Option.isSome q5)||q6)&&((Option.isSome q3)&&q9)))
 bif q10 then
 some ((0:Int),(0:Int))
 else
 none
 else
 let q6:=(!(q4==false))
 let q7:=((Go.V.inB (0:Int) (List.length s))&&((Go.V.inB (0:Int) (List.length s))&&((Go.V.inB (0:Int) (List.length s))&&true)))
 let q8:=((Go.V.inB (0:Int) (List.length s))&&q7)
 let q9:=((q7||(!(decide ((240:Int)<=((UInt8.toNat (List.getD s (Int.toNat (0:Int)) (0:UInt8))):Int)))))&&(((q8||(!(decide ((224:Int)<=((UInt8.toNat (List.getD s (Int.toNat (0:Int)) (0:UInt8))):Int)))))&&(((((Go.V.inB (0:Int) (List.length s))&&q8)||(!(decide ((192:Int)<=((UInt8.toNat (List.getD s (Int.toNat (0:Int)) (0:UInt8))):Int)))))&&(q8||(decide ((192:Int)<=((UInt8.toNat (List.getD s (Int.toNat (0:Int)) (0:UInt8))):Int)))))||(decide ((224:Int)<=((UInt8.toNat (List.getD s (Int.toNat (0:Int)) (0:UInt8))):Int)))))||(decide ((240:Int)<=((UInt8.toNat (List.getD s (Int.toNat (0:Int)) (0:UInt8))):Int)))))
 let q10:=(((Go.V.cu (0:Int) y2.2.1 (List.length y2.1))||q6)&&(((Option.isSome q5)||q6)&&((Option.isSome q3)&&q9)))
 bif q10 then
 some (y2.2.2,y2.2.1)
 else
 none
def pP:Nat->(List UInt8)->(List Int)->Option ((Bool×(List Int))⊕((List Int)))
 |0,_,_=>none
 |fuel+1,s,out=>
 bif(decide ((0:Int)<((List.length s):Int)))then
 let q0:=(M.sA s)
 bif((Option.getD q0 default).2==(0:Int))then
 bif((Option.isSome q0)&&true)then
 some (.inl (false,[]))
 else
 none
 else
 let q1:=[(Option.getD q0 default).1]
 bif((Go.V.cu (Option.getD q0 default).2 ((List.length s):Int) (List.length s))&&((decide (((List.length out)+(List.length q1))<=1073741824))&&((Option.isSome q0)&&true)))then
 M.pP fuel (List.drop (Int.toNat (Option.getD q0 default).2) (List.take (Int.toNat ((List.length s):Int)) s)) (out++q1)
 else
 none
 else
 some ((.inr (out)))
def sB(s:(List UInt8)):Option ((List Int)×Bool):=
 match(M.pP Go.V.al s [])with
 |none=>none
 |some y0=>
 (match y0 with
 |.inl a1=>
 some (a1.2,a1.1)
 |.inr b1=>
 some (b1,true))
def sC(s:(List UInt8)):Option (Bool):=
 bif(decide ((24:Int)<((List.length s):Int)))then
 some false
 else
 let q0:=(M.sB s)
 bif((Option.isSome q0)&&true)then
 some (Option.getD q0 default).2
 else
 none
def kJ(bj:M.ae->M.aa->Option (Bool))(kids:(List M.ae))(ts:(List M.aa)):Nat->Int->Option ((Bool)⊕(Unit))
 |0,_=>none
 |fuel+1,i=>
 bif(decide (i<((List.length kids):Int)))then
 bif(!(Option.getD (bj (M.ae.re (List.getD kids (Int.toNat i) M.ae.zero)) (M.aa.re (List.getD ts (Int.toNat i) M.aa.zero))) default))then
 let q0:=((Option.isSome (bj (M.ae.re (List.getD kids (Int.toNat i) M.ae.zero)) (M.aa.re (List.getD ts (Int.toNat i) M.aa.zero))))&&((Go.V.inB i (List.length ts))&&((Go.V.inB i (List.length kids))&&true)))
 bif q0 then
 some (.inl false)
 else
 none
 else
 let q0:=((Option.isSome (bj (M.ae.re (List.getD kids (Int.toNat i) M.ae.zero)) (M.aa.re (List.getD ts (Int.toNat i) M.aa.zero))))&&((Go.V.inB i (List.length ts))&&((Go.V.inB i (List.length kids))&&true)))
 bif q0 then
 M.kJ bj kids ts fuel (Go.IntKind.wrap Go.IntKind.i64 (i+(1:Int)))
 else
 none
 else
 some ((.inr (())))
def sD(bj:M.ae->M.aa->Option (Bool))(kids:(List M.ae))(ts:(List M.aa)):Option (Bool):=
 bif(((List.length kids):Int) !=((List.length ts):Int))then
 some false
 else
 match(M.kJ bj kids ts Go.V.al (0:Int))with
 |none=>none
 |some y0=>
 (match y0 with
 |.inl a1=>
 some a1
 |.inr b1=>
 some true)
def vE(kind:Int):Option (Int×Int×Bool):=
 bif(kind==(3:Int))then
 some ((0:Int),(255:Int),true)
 else
 bif(kind==(4:Int))then
 some ((-(128:Int)),(127:Int),true)
 else
 bif(kind==(5:Int))then
 some ((0:Int),(65535:Int),true)
 else
 bif(kind==(6:Int))then
 some ((-(32768:Int)),(32767:Int),true)
 else
 bif(kind==(7:Int))then
 some ((0:Int),(4294967295:Int),true)
 else
 bif(kind==(8:Int))then
 some ((-(2147483648:Int)),(2147483647:Int),true)
 else
 bif(kind==(9:Int))then
 some ((-(9223372036854775808:Int)),(9223372036854775807:Int),true)
 else
 some ((0:Int),(0:Int),false)
def l4(bj:M.ae->M.aa->Option (Bool))(v:M.ae)(t:M.aa):Option (Bool):=
 bif(((M.ae.Kind v) !=(M.aa.Kind t))||(((M.aa.Kind t) !=(11:Int))&&(!((M.ae.Text v)==[]))))then
 some false
 else
 bif(bif((M.aa.Kind t)==(2:Int))then((M.aa.Kind t)==(2:Int))else((M.aa.Kind t)==(14:Int)))then
 bif(!((decide ((0:Int)<=(M.ae.Num v)))&&(decide ((M.ae.Num v)<=(1:Int)))))then
 some false
 else
 let q0:=(((M.aa.Kind t)==(14:Int))||((M.aa.Kind t)==(17:Int)))
 bif q0 then
 let q1:=(M.pN bj (M.ae.Kids v) (M.aa.re (List.getD (M.aa.Kids t) (Int.toNat (M.ae.Num v)) M.aa.zero)))
 let q2:=(Option.isSome q1)
 bif(q2&&((Go.V.inB (M.ae.Num v) (List.length (M.aa.Kids t)))&&true))then
 let q3:=(Option.getD q1 default)
 some q3
 else
 none
 else
 some (((List.length (M.ae.Kids v)):Int)==(0:Int))
 else
 bif((M.aa.Kind t)==(13:Int))then
 let q0:=(M.pO bj (M.ae.Kids v) (1:Int) (M.aa.re (List.getD (M.aa.Kids t) (Int.toNat (0:Int)) M.aa.zero)))
 let q1:=(!(((M.ae.Num v)==((List.length (M.ae.Kids v)):Int))==true))
 bif(((Option.isSome q0)||q1)&&(((Go.V.inB (0:Int) (List.length (M.aa.Kids t)))||q1)&&true))then
 some (((M.ae.Num v)==((List.length (M.ae.Kids v)):Int))&&(Option.getD q0 default))
 else
 none
 else
 bif((M.aa.Kind t)==(10:Int))then
 some ((Option.getD (M.gJ (M.ae.Num v)) default)&&(((List.length (M.ae.Kids v)):Int)==(0:Int)))
 else
 bif((M.aa.Kind t)==(11:Int))then
 let q0:=(M.sC (M.ae.Text v))
 bif((Option.isSome q0)&&true)then
 some (((Option.getD q0 default)&&((M.ae.Num v)==(0:Int)))&&(((List.length (M.ae.Kids v)):Int)==(0:Int)))
 else
 none
 else
 bif((M.aa.Kind t)==(12:Int))then
 let q0:=(M.pO bj (M.ae.Kids v) (8:Int) (M.aa.re (List.getD (M.aa.Kids t) (Int.toNat (0:Int)) M.aa.zero)))
 let q1:=(!(((M.ae.Num v)==(0:Int))==true))
 bif(((Option.isSome q0)||q1)&&(((Go.V.inB (0:Int) (List.length (M.aa.Kids t)))||q1)&&true))then
 some (((M.ae.Num v)==(0:Int))&&(Option.getD q0 default))
 else
 none
 else
 bif(bif((M.aa.Kind t)==(15:Int))then((M.aa.Kind t)==(15:Int))else((M.aa.Kind t)==(16:Int)))then
 let q0:=(M.sD bj (M.ae.Kids v) (M.aa.Kids t))
 let q1:=(!(((M.ae.Num v)==(0:Int))==true))
 bif(((Option.isSome q0)||q1)&&true)then
 some (((M.ae.Num v)==(0:Int))&&(Option.getD q0 default))
 else
 none
 else
 let q0:=(bif((M.aa.Kind t)==(17:Int))then((M.aa.Kind t)==(17:Int))else((M.aa.Kind t)==(18:Int)))
 let q1:=(bif((M.aa.Kind t)==(20:Int))then((M.aa.Kind t)==(20:Int))else(bif((M.aa.Kind t)==(21:Int))then((M.aa.Kind t)==(21:Int))else(bif((M.aa.Kind t)==(22:Int))then((M.aa.Kind t)==(22:Int))else((M.aa.Kind t)==(23:Int)))))
 let q2:=(M.vE (M.aa.Kind t))
 bif(!((decide ((bif q0 then(0:Int)else(bif((M.aa.Kind t)==(19:Int))then(0:Int)else(bif q1 then(0:Int)else(Option.getD q2 default).1)))<=(M.ae.Num v)))&&(decide ((M.ae.Num v)<=(bif q0 then(Go.IntKind.wrap Go.IntKind.i64 (((List.length (M.aa.bK t)):Int)-(1:Int)))else(bif((M.aa.Kind t)==(19:Int))then(Go.IntKind.wrap Go.IntKind.i64 ((Go.V.md Go.IntKind.i64 (1:Int) (Go.IntKind.wrap Go.IntKind.u64 ((List.length (M.aa.bK t)):Int)))-(1:Int)))else(bif q1 then(2147483647:Int)else(Option.getD q2 default).2.1)))))))then
 let q3:=(((((Option.isSome q2)&&true)||q1)||((M.aa.Kind t)==(19:Int)))||q0)
 bif q3 then
 some false
 else
 none
 else
 let q3:=(((M.aa.Kind t)==(14:Int))||((M.aa.Kind t)==(17:Int)))
 bif q3 then
 let q4:=(M.pN bj (M.ae.Kids v) (M.aa.re (List.getD (M.aa.Kids t) (Int.toNat (M.ae.Num v)) M.aa.zero)))
 let q5:=(Option.isSome q4)
 let q6:=(((((Option.isSome q2)&&true)||q1)||((M.aa.Kind t)==(19:Int)))||q0)
 bif(q5&&((Go.V.inB (M.ae.Num v) (List.length (M.aa.Kids t)))&&q6))then
 let q7:=(Option.getD q4 default)
 some q7
 else
 none
 else
 let q4:=(((((Option.isSome q2)&&true)||q1)||((M.aa.Kind t)==(19:Int)))||q0)
 bif q4 then
 some (((List.length (M.ae.Kids v)):Int)==(0:Int))
 else
 none
def pQ:Nat->M.ae->M.aa->Option (Bool)
 |0=>fun _ _=>none
 |n+1=>l4 (pQ n)
def yl:M.ae->M.aa->Option (Bool):=pQ Go.V.al
def sE(v:M.ae)(t:M.aa):Option (Bool):=
 let q0:=(M.yl (M.ae.re v) (M.aa.re t))
 let q1:=(M.sy (M.aa.re t))
 bif(((Option.isSome q0)||(!((Option.getD q1 default)==true)))&&((Option.isSome q1)&&true))then
 some ((Option.getD q1 default)&&(Option.getD q0 default))
 else
 none
def kK(list:(List M.ae)):Nat->Int->M.aa->Option ((Bool)⊕(Unit))
 |0,_,_=>none
 |fuel+1,i,t=>
 bif(decide (i<((List.length list):Int)))then
 let q0:=(M.sE (M.ae.re (List.getD list (Int.toNat i) M.ae.zero)) (M.aa.re t))
 bif(!(Option.getD q0 default))then
 let q1:=((Option.isSome q0)&&((Go.V.inB i (List.length list))&&true))
 bif q1 then
 some (.inl false)
 else
 none
 else
 let q1:=((Option.isSome q0)&&((Go.V.inB i (List.length list))&&true))
 bif q1 then
 M.kK list fuel (Go.IntKind.wrap Go.IntKind.i64 (i+(1:Int))) (M.aa.re t)
 else
 none
 else
 some ((.inr (())))
def sF(list:(List M.ae))(t:M.aa)(most:Int):Option (Bool):=
 bif(decide (most<((List.length list):Int)))then
 some false
 else
 match(M.kK list Go.V.al (0:Int) (M.aa.re t))with
 |none=>none
 |some y0=>
 (match y0 with
 |.inl a1=>
 some a1
 |.inr b1=>
 some true)
def sG(s:M.ah):Option (Bool):=
 let q0:=(M.sx (M.aa.re (M.ah.bR s)))
 let q1:=(((!(Option.getD q0 default))||(!((decide ((1:Int)<=(M.ah.Room s)))&&(decide ((M.ah.Room s)<=(6:Int))))))||((M.ah.db s)&&((M.ah.Room s) !=(1:Int))))
 let q2:=(M.sF (M.ah.Buffer s) (M.aa.re (M.ah.bR s)) (M.ah.Room s))
 bif(q1||(!(Option.getD q2 default)))then
 let q3:=(((Option.isSome q2)||(!(q1==false)))&&((Option.isSome q0)&&true))
 bif q3 then
 some false
 else
 none
 else
 bif(((decide ((M.ah.dx s)<(0:Int)))||(!((decide ((M.ah.dx s)<=(M.ah.Put s)))&&(decide ((M.ah.Put s)<=(1000000:Int))))))||((M.ah.db s)&&(decide ((1:Int)<(M.ah.Put s)))))then
 let q3:=(((Option.isSome q2)||(!(q1==false)))&&((Option.isSome q0)&&true))
 bif q3 then
 some false
 else
 none
 else
 bif(((M.ah.Gone s)&&(decide ((0:Int)<((List.length (M.ah.Buffer s)):Int))))||((!(M.ah.Gone s))&&((Go.IntKind.wrap Go.IntKind.i64 ((M.ah.Put s)-(M.ah.dx s))) !=((List.length (M.ah.Buffer s)):Int))))then
 let q3:=(((Option.isSome q2)||(!(q1==false)))&&((Option.isSome q0)&&true))
 bif q3 then
 some false
 else
 none
 else
 let q3:=(((Option.isSome q2)||(!(q1==false)))&&((Option.isSome q0)&&true))
 bif q3 then
 some ((((!(M.ah.db s))||(!(M.ah.Shut s)))||((M.ah.Put s)==(1:Int)))||(M.ah.Gone s))
 else
 none
def sH(t:M.aa):Option (Bool):=
 let q0:=(M.ye (M.aa.re t))
 let q1:=(M.x3 (M.aa.re t) (4:Int))
 let q2:=(M.x5 (M.aa.re t))
 let q3:=((decide ((Option.getD q1 default)<=(4:Int)))&&(decide ((Option.getD q2 default)<=(24:Int))))
 bif(((Option.isSome q0)||(!(q3==true)))&&(((Option.isSome q2)||(!((decide ((Option.getD q1 default)<=(4:Int)))==true)))&&((Option.isSome q1)&&true)))then
 some (q3&&(Option.getD q0 default))
 else
 none
def sJ(t:M.aa):Option (Bool):=
 let q0:=(M.kG (M.aa.re t) [(20:Int),(21:Int),(22:Int),(23:Int)])
 let q1:=(M.sH (M.aa.re t))
 let q2:=((Option.getD q1 default)&&(!((M.aa.Kind t)==(1:Int))))
 bif(((Option.isSome q0)||(!(q2==true)))&&((Option.isSome q1)&&true))then
 some (q2&&(!(Option.getD q0 default)))
 else
 none
def BY(list:(List M.ae)):Option (Int):=
 some ((List.length list):Int)
def sK(kind:Int):Option (Int×Int×Bool):=
 bif(kind==(3:Int))then
 some ((0:Int),(255:Int),true)
 else
 bif(kind==(4:Int))then
 some ((-(128:Int)),(127:Int),true)
 else
 bif(kind==(5:Int))then
 some ((0:Int),(65535:Int),true)
 else
 bif(kind==(6:Int))then
 some ((-(32768:Int)),(32767:Int),true)
 else
 bif(kind==(7:Int))then
 some ((0:Int),(4294967295:Int),true)
 else
 bif(kind==(8:Int))then
 some ((-(2147483648:Int)),(2147483647:Int),true)
 else
 bif(kind==(9:Int))then
 some ((-(9223372036854775808:Int)),(9223372036854775807:Int),true)
 else
 some ((0:Int),(0:Int),false)
def yn(n:Int):Option (Bool):=
 some (((decide ((0:Int)<=n))&&(decide (n<=(55295:Int))))||((decide ((57344:Int)<=n))&&(decide (n<=(1114111:Int)))))
def sL(v:M.ae)(t:M.aa):Option (Bool):=
 bif(bif((M.aa.Kind t)==(2:Int))then((M.aa.Kind t)==(2:Int))else(bif((M.aa.Kind t)==(13:Int))then((M.aa.Kind t)==(13:Int))else((M.aa.Kind t)==(14:Int))))then
 some ((decide ((0:Int)<=(M.ae.Num v)))&&(decide ((M.ae.Num v)<=(1:Int))))
 else
 bif(bif((M.aa.Kind t)==(3:Int))then((M.aa.Kind t)==(3:Int))else(bif((M.aa.Kind t)==(4:Int))then((M.aa.Kind t)==(4:Int))else(bif((M.aa.Kind t)==(5:Int))then((M.aa.Kind t)==(5:Int))else(bif((M.aa.Kind t)==(6:Int))then((M.aa.Kind t)==(6:Int))else(bif((M.aa.Kind t)==(7:Int))then((M.aa.Kind t)==(7:Int))else(bif((M.aa.Kind t)==(8:Int))then((M.aa.Kind t)==(8:Int))else((M.aa.Kind t)==(9:Int))))))))then
 let q0:=(M.sK (M.aa.Kind t))
 bif((Option.isSome q0)&&true)then
 some ((decide ((Option.getD q0 default).1<=(M.ae.Num v)))&&(decide ((M.ae.Num v)<=(Option.getD q0 default).2.1)))
 else
 none
 else
 bif((M.aa.Kind t)==(10:Int))then
 some (Option.getD (M.yn (M.ae.Num v)) default)
 else
 some ((decide ((0:Int)<=(M.ae.Num v)))&&(decide ((M.ae.Num v)<=(bif(bif((M.aa.Kind t)==(17:Int))then((M.aa.Kind t)==(17:Int))else((M.aa.Kind t)==(18:Int)))then(Go.IntKind.wrap Go.IntKind.i64 (((List.length (M.aa.bK t)):Int)-(1:Int)))else(bif((M.aa.Kind t)==(19:Int))then(Go.IntKind.wrap Go.IntKind.i64 ((Go.V.md Go.IntKind.i64 (1:Int) ((List.length (M.aa.bK t)):Int))-(1:Int)))else(bif(bif((M.aa.Kind t)==(20:Int))then((M.aa.Kind t)==(20:Int))else(bif((M.aa.Kind t)==(21:Int))then((M.aa.Kind t)==(21:Int))else(bif((M.aa.Kind t)==(22:Int))then((M.aa.Kind t)==(22:Int))else((M.aa.Kind t)==(23:Int)))))then(2147483647:Int)else(0:Int)))))))
def sM(s:(List UInt8)):Option (Bool):=
 let q0:=(M.mU s)
 bif(((Option.isSome q0)||(!((decide (((List.length s):Int)<=(24:Int)))==true)))&&true)then
 some ((decide (((List.length s):Int)<=(24:Int)))&&(Option.getD q0 default))
 else
 none
def nD(t:M.aa)(num:Int):Option (M.aa×Bool):=
 bif((M.aa.Kind t)==(13:Int))then
 bif(num==(0:Int))then
 some ((M.aa.mk (1:Int) [] [] []),true)
 else
 bif(!((decide ((0:Int)<=(Go.IntKind.wrap Go.IntKind.i64 (num-(1:Int)))))&&(decide ((Go.IntKind.wrap Go.IntKind.i64 (num-(1:Int)))<=(Go.IntKind.wrap Go.IntKind.i64 (((List.length (M.aa.Kids t)):Int)-(1:Int)))))))then
 some ((M.aa.mk (0:Int) [] [] []),false)
 else
 bif((Go.V.inB (Go.IntKind.wrap Go.IntKind.i64 (num-(1:Int))) (List.length (M.aa.Kids t)))&&true)then
 some ((M.aa.re (List.getD (M.aa.Kids t) (Int.toNat (Go.IntKind.wrap Go.IntKind.i64 (num-(1:Int)))) M.aa.zero)),true)
 else
 none
 else
 bif(!((decide ((0:Int)<=num))&&(decide (num<=(Go.IntKind.wrap Go.IntKind.i64 (((List.length (M.aa.Kids t)):Int)-(1:Int)))))))then
 some ((M.aa.mk (0:Int) [] [] []),false)
 else
 bif((Go.V.inB num (List.length (M.aa.Kids t)))&&true)then
 some ((M.aa.re (List.getD (M.aa.Kids t) (Int.toNat num) M.aa.zero)),true)
 else
 none
def sN(v:M.ae)(t:M.aa):Option ((List M.aa)×Bool):=
 bif((M.aa.Kind t)==(12:Int))then
 let q0:=(M.mS (M.aa.Kids t) (bif(decide ((8:Int)<((List.length (M.ae.Kids v)):Int)))then(8:Int)else((List.length (M.ae.Kids v)):Int)))
 bif((Option.isSome q0)&&true)then
 some ((Option.getD q0 default),true)
 else
 none
 else
 bif(bif((M.aa.Kind t)==(15:Int))then((M.aa.Kind t)==(15:Int))else((M.aa.Kind t)==(16:Int)))then
 some ((M.aa.Kids t),true)
 else
 bif(bif((M.aa.Kind t)==(13:Int))then((M.aa.Kind t)==(13:Int))else(bif((M.aa.Kind t)==(14:Int))then((M.aa.Kind t)==(14:Int))else((M.aa.Kind t)==(17:Int))))then
 let q0:=(M.nD (M.aa.re t) (M.ae.Num v))
 bif((M.aa.Kind (Option.getD q0 default).1)==(1:Int))then
 bif((Option.isSome q0)&&true)then
 some ([],(Option.getD q0 default).2)
 else
 none
 else
 bif((Option.isSome q0)&&true)then
 some ([(M.aa.re (Option.getD q0 default).1)],(Option.getD q0 default).2)
 else
 none
 else
 some ([],true)
def kL(dV:M.ae->M.aa->Option (Bool))(kids:(List M.aa))(t53:(List M.ae))(t54:Int):Nat->Int->Option ((Bool)⊕(Unit))
 |0,_=>none
 |fuel+1,t55=>
 bif(decide (t55<t54))then
 bif(!(Option.getD (dV (M.ae.re (List.getD t53 (Int.toNat t55) M.ae.zero)) (M.aa.re (List.getD kids (Int.toNat t55) M.aa.zero))) default))then
 let q0:=((Option.isSome (dV (M.ae.re (List.getD t53 (Int.toNat t55) M.ae.zero)) (M.aa.re (List.getD kids (Int.toNat t55) M.aa.zero))))&&((Go.V.inB t55 (List.length kids))&&((Go.V.inB t55 (List.length t53))&&true)))
 bif q0 then
 some (.inl false)
 else
 none
 else
 let q0:=((Option.isSome (dV (M.ae.re (List.getD t53 (Int.toNat t55) M.ae.zero)) (M.aa.re (List.getD kids (Int.toNat t55) M.aa.zero))))&&((Go.V.inB t55 (List.length kids))&&((Go.V.inB t55 (List.length t53))&&true)))
 bif q0 then
 M.kL dV kids t53 t54 fuel (Go.IntKind.wrap Go.IntKind.i64 (t55+(1:Int)))
 else
 none
 else
 some ((.inr (())))
def vF(dV:M.ae->M.aa->Option (Bool))(v:M.ae)(t:M.aa):Option (Bool):=
 let q0:=(M.sL (M.ae.re v) (M.aa.re t))
 let q1:=((((M.ae.Kind v) !=(M.aa.Kind t))||(!(Option.getD q0 default)))||((!((M.ae.Text v)==[]))&&((M.aa.Kind t) !=(11:Int))))
 let q2:=(M.sM (M.ae.Text v))
 bif(q1||(!(Option.getD q2 default)))then
 let q3:=(((Option.isSome q2)||(!(q1==false)))&&(((Option.isSome q0)||(!(((M.ae.Kind v) !=(M.aa.Kind t))==false)))&&true))
 bif q3 then
 some false
 else
 none
 else
 let q3:=(M.sN (M.ae.re v) (M.aa.re t))
 let q4:=(Option.getD q3 default).1
 bif((!(Option.getD q3 default).2)||(((List.length q4):Int) !=((List.length (M.ae.Kids v)):Int)))then
 let q5:=(((Option.isSome q2)||(!(q1==false)))&&(((Option.isSome q0)||(!(((M.ae.Kind v) !=(M.aa.Kind t))==false)))&&true))
 let q6:=((Option.isSome q3)&&q5)
 bif q6 then
 some false
 else
 none
 else
 match(M.kL dV q4 (M.ae.Kids v) ((List.length (M.ae.Kids v)):Int) Go.V.al (0:Int))with
 |none=>none
 |some y5=>
 (match y5 with
 |.inl a6=>
 let q7:=(((Option.isSome q2)||(!(q1==false)))&&(((Option.isSome q0)||(!(((M.ae.Kind v) !=(M.aa.Kind t))==false)))&&true))
 let q8:=((Option.isSome q3)&&q7)
 bif q8 then
 some a6
 else
 none
 |.inr b6=>
 let q7:=(((Option.isSome q2)||(!(q1==false)))&&(((Option.isSome q0)||(!(((M.ae.Kind v) !=(M.aa.Kind t))==false)))&&true))
 let q8:=((Option.isSome q3)&&q7)
 bif q8 then
 some true
 else
 none)
def kM:Nat->M.ae->M.aa->Option (Bool)
 |0=>fun _ _=>none
 |n+1=>vF (kM n)
def yp:M.ae->M.aa->Option (Bool):=kM Go.V.al
def sP(v:M.ae)(t1:M.ah):Option (Bool):=
 let q0:=(M.yp (M.ae.re v) (M.aa.re (M.ah.bR t1)))
 bif((Option.isSome q0)&&true)then
 some (!(Option.getD q0 default))
 else
 none
def pR(s:(List M.ae))(f:M.ah)(t7:Int):Nat->Int->Option ((Int)⊕(Unit))
 |0,_=>none
 |fuel+1,t8=>
 bif(decide (t8<t7))then
 let q0:=(M.sP (M.ae.re (List.getD s (Int.toNat t8) M.ae.zero)) f)
 bif(Option.getD q0 default)then
 let q1:=((Option.isSome q0)&&((Go.V.inB t8 (List.length s))&&true))
 bif q1 then
 some (.inl t8)
 else
 none
 else
 let q1:=((Option.isSome q0)&&((Go.V.inB t8 (List.length s))&&true))
 bif q1 then
 M.pR s f t7 fuel (Go.IntKind.wrap Go.IntKind.i64 (t8+(1:Int)))
 else
 none
 else
 some ((.inr (())))
def vG(s:(List M.ae))(f:M.ah):Option (Int):=
 match(M.pR s f ((List.length s):Int) Go.V.al (0:Int))with
 |none=>none
 |some y0=>
 (match y0 with
 |.inl a1=>
 some a1
 |.inr b1=>
 some (-(1:Int)))
def sQ(s:(List M.ae))(f:M.ah):Option (Bool):=
 let q0:=(M.vG s f)
 bif((Option.isSome q0)&&true)then
 some (decide ((0:Int)<=(Option.getD q0 default)))
 else
 none
def sR(s:M.ah):Option (Int):=
 bif(M.ah.db s)then
 some (1:Int)
 else
 some (1000000:Int)
def sS(s:M.ah):Option (Bool):=
 let q0:=(M.sJ (M.aa.re (M.ah.bR s)))
 bif((((!(Option.getD q0 default))||(!((decide ((1:Int)<=(M.ah.Room s)))&&(decide ((M.ah.Room s)<=(6:Int))))))||((M.ah.db s)&&((M.ah.Room s) !=(1:Int))))||(decide ((M.ah.Room s)<((List.length (M.ah.Buffer s)):Int))))then
 bif((Option.isSome q0)&&true)then
 some false
 else
 none
 else
 let q1:=(M.sQ (M.ah.Buffer s) (M.ah.re s))
 let q2:=((Option.getD q1 default)||(decide ((M.ah.dx s)<(0:Int))))
 let q3:=(M.sR (M.ah.re s))
 bif(q2||(!((decide ((M.ah.dx s)<=(M.ah.Put s)))&&(decide ((M.ah.Put s)<=(Option.getD q3 default))))))then
 let q4:=(((Option.isSome q3)||(!(q2==false)))&&((Option.isSome q1)&&((Option.isSome q0)&&true)))
 bif q4 then
 some false
 else
 none
 else
 bif(((M.ah.Gone s)&&(decide ((0:Int)<((List.length (M.ah.Buffer s)):Int))))||((!(M.ah.Gone s))&&((Go.IntKind.wrap Go.IntKind.i64 ((M.ah.Put s)-(M.ah.dx s))) !=((List.length (M.ah.Buffer s)):Int))))then
 let q4:=(((Option.isSome q3)||(!(q2==false)))&&((Option.isSome q1)&&((Option.isSome q0)&&true)))
 bif q4 then
 some false
 else
 none
 else
 let q4:=(((Option.isSome q3)||(!(q2==false)))&&((Option.isSome q1)&&((Option.isSome q0)&&true)))
 bif q4 then
 some ((((!(M.ah.db s))||(!(M.ah.Shut s)))||((M.ah.Put s)==(1:Int)))||(M.ah.Gone s))
 else
 none
def oV:Nat->Int->(List UInt8)->Option ((List UInt8))
 |0,_,_=>none
 |fuel+1,k,out=>
 bif(decide ((0:Int)<k))then
 let q0:=(Go.IntKind.wrap Go.IntKind.u8 (Go.IntKind.wrap Go.IntKind.i64 ((48:Int)+(Int.tmod k (10:Int)))))
 let q1:=(List.map (fun a=>a) [(Go.V.eI q0)])
 bif(((10:Int) !=(0:Int))&&((Go.V.rm q1 out)&&(((Go.V.fE q0)&&true)&&(((10:Int) !=(0:Int))&&true))))then
 M.oV fuel (Go.IntKind.wrap Go.IntKind.i64 (Int.tdiv k (10:Int))) (q1++out)
 else
 none
 else
 some (out)
def iC(k:Int):Option ((List UInt8)):=
 bif(decide (k<=(0:Int)))then
 some [(109:UInt8),(48:UInt8)]
 else
 match(M.oV Go.V.al k [])with
 |none=>none
 |some y0=>
 bif((Go.V.rm [(109:UInt8)] y0)&&true)then
 some ([(109:UInt8)]++y0)
 else
 none
def rn:Nat->Int->Int->(List (List UInt8))->Option (Int×(List (List UInt8)))
 |0,_,_,_=>none
 |fuel+1,k,i,a=>
 bif(decide (i<((List.length a):Int)))then
 let q0:=(M.iC k)
 bif((Go.V.inB i (List.length a))&&(((Option.isSome q0)&&true)&&true))then
 M.rn fuel (Go.IntKind.wrap Go.IntKind.i64 (k+(1:Int))) (Go.IntKind.wrap Go.IntKind.i64 (i+(1:Int))) (List.set a (Int.toNat i) (Option.getD q0 default))
 else
 none
 else
 some ((k,a))
def lK(k:Int)(a:(List (List UInt8))):Option (Int×(List (List UInt8))):=
 match(M.rn Go.V.al k (0:Int) a)with
 |none=>none
 |some y0=>
 some (y0.1,y0.2)
def oY(ee:Int->(List M.aa)->Option (Int×(List M.aa))):Nat->Int->Int->(List M.aa)->Option (Int×(List M.aa))
 |0,_,_,_=>none
 |fuel+1,k,i,a=>
 bif(decide (i<((List.length a):Int)))then
 let q0:=(List.set a (Int.toNat i) (M.aa.mk k (M.aa.Name (List.getD a (Int.toNat i) M.aa.zero)) (M.aa.bK (List.getD a (Int.toNat i) M.aa.zero)) (M.aa.Kids (List.getD a (Int.toNat i) M.aa.zero))))
 let q1:=(List.getD q0 (Int.toNat i) M.aa.zero)
 let q2:=(M.iC (Go.IntKind.wrap Go.IntKind.i64 (k+(1:Int))))
 let q3:=(List.set q0 (Int.toNat i) (M.aa.mk (M.aa.Kind q1) (Option.getD q2 default) (M.aa.bK q1) (M.aa.Kids q1)))
 let q4:=(List.getD q3 (Int.toNat i) M.aa.zero)
 let q5:=(M.lK (Go.IntKind.wrap Go.IntKind.i64 ((Go.IntKind.wrap Go.IntKind.i64 (k+(1:Int)))+(1:Int))) (M.aa.bK q4))
 let q6:=(Option.getD q5 default)
 let q7:=(List.set q3 (Int.toNat i) (M.aa.mk (M.aa.Kind q4) (M.aa.Name q4) q6.2 (M.aa.Kids q4)))
 let q8:=(List.getD q7 (Int.toNat i) M.aa.zero)
 bif(((Option.isSome (ee q6.1 (M.aa.Kids q8)))&&true)&&((Go.V.inB i (List.length q7))&&(((Option.isSome q5)&&true)&&((Go.V.inB i (List.length q3))&&((Go.V.inB i (List.length q0))&&(((Option.isSome q2)&&true)&&((Go.V.inB i (List.length a))&&true)))))))then
 let q9:=(Option.getD (ee q6.1 (M.aa.Kids q8)) default)
 M.oY ee fuel q9.1 (Go.IntKind.wrap Go.IntKind.i64 (i+(1:Int))) (List.set q7 (Int.toNat i) (M.aa.mk (M.aa.Kind q8) (M.aa.Name q8) (M.aa.bK q8) q9.2))
 else
 none
 else
 some ((k,a))
def vc(ee:Int->(List M.aa)->Option (Int×(List M.aa)))(k:Int)(a:(List M.aa)):Option (Int×(List M.aa)):=
 match(M.oY ee Go.V.al k (0:Int) a)with
 |none=>none
 |some y0=>
 some (y0.1,y0.2)
def oW:Nat->Int->(List M.aa)->Option (Int×(List M.aa))
 |0=>fun _ _=>none
 |n+1=>vc (oW n)
def xa:Int->(List M.aa)->Option (Int×(List M.aa)):=oW Go.V.al
def o5(ef:Int->(List M.ae)->Option (Int×(List M.ae))):Nat->Int->Int->(List M.ae)->Option (Int×(List M.ae))
 |0,_,_,_=>none
 |fuel+1,k,i,a=>
 bif(decide (i<((List.length a):Int)))then
 let q0:=(Go.IntKind.wrap Go.IntKind.i64 ((Go.IntKind.wrap Go.IntKind.i64 (k+(1:Int)))+(1:Int)))
 let q1:=(List.set a (Int.toNat i) (M.ae.mk k (M.ae.Num (List.getD a (Int.toNat i) M.ae.zero)) (M.ae.Text (List.getD a (Int.toNat i) M.ae.zero)) (M.ae.Kids (List.getD a (Int.toNat i) M.ae.zero))))
 let q2:=(List.getD q1 (Int.toNat i) M.ae.zero)
 let q3:=(List.set q1 (Int.toNat i) (M.ae.mk (M.ae.Kind q2) (Go.IntKind.wrap Go.IntKind.i64 (k+(1:Int))) (M.ae.Text q2) (M.ae.Kids q2)))
 let q4:=(List.getD q3 (Int.toNat i) M.ae.zero)
 let q5:=(M.iC q0)
 let q6:=(List.set q3 (Int.toNat i) (M.ae.mk (M.ae.Kind q4) (M.ae.Num q4) (Option.getD q5 default) (M.ae.Kids q4)))
 let q7:=(List.getD q6 (Int.toNat i) M.ae.zero)
 bif(((Option.isSome (ef (Go.IntKind.wrap Go.IntKind.i64 (q0+(1:Int))) (M.ae.Kids q7)))&&true)&&((Go.V.inB i (List.length q6))&&((Go.V.inB i (List.length q3))&&(((Option.isSome q5)&&true)&&((Go.V.inB i (List.length q1))&&((Go.V.inB i (List.length a))&&true))))))then
 let q8:=(Option.getD (ef (Go.IntKind.wrap Go.IntKind.i64 (q0+(1:Int))) (M.ae.Kids q7)) default)
 M.o5 ef fuel q8.1 (Go.IntKind.wrap Go.IntKind.i64 (i+(1:Int))) (List.set q6 (Int.toNat i) (M.ae.mk (M.ae.Kind q7) (M.ae.Num q7) (M.ae.Text q7) q8.2))
 else
 none
 else
 some ((k,a))
def vd(ef:Int->(List M.ae)->Option (Int×(List M.ae)))(k:Int)(a:(List M.ae)):Option (Int×(List M.ae)):=
 match(M.o5 ef Go.V.al k (0:Int) a)with
 |none=>none
 |some y0=>
 some (y0.1,y0.2)
def oZ:Nat->Int->(List M.ae)->Option (Int×(List M.ae))
 |0=>fun _ _=>none
 |n+1=>vd (oZ n)
def xb:Int->(List M.ae)->Option (Int×(List M.ae)):=oZ Go.V.al
def pS(cQ:M.ae->Int->Option (Int))(a:(List M.ae)):Nat->Int->Int->Option ((Int)⊕(Int))
 |0,_,_=>none
 |fuel+1,left,i=>
 bif(decide (i<((List.length a):Int)))then
 let q0:=(Option.getD (cQ (M.ae.re (List.getD a (Int.toNat i) M.ae.zero)) left) default)
 bif(decide (q0<(0:Int)))then
 let q1:=((Option.isSome (cQ (M.ae.re (List.getD a (Int.toNat i) M.ae.zero)) left))&&((Go.V.inB i (List.length a))&&true))
 bif q1 then
 some (.inl (-(1:Int)))
 else
 none
 else
 let q1:=((Option.isSome (cQ (M.ae.re (List.getD a (Int.toNat i) M.ae.zero)) left))&&((Go.V.inB i (List.length a))&&true))
 bif q1 then
 M.pS cQ a fuel q0 (Go.IntKind.wrap Go.IntKind.i64 (i+(1:Int)))
 else
 none
 else
 some ((.inr (left)))
def l8(cQ:M.ae->Int->Option (Int))(a:(List M.ae))(left:Int):Option (Int):=
 bif(decide ((Go.IntKind.wrap Go.IntKind.i64 (left-((List.length a):Int)))<(0:Int)))then
 some (-(1:Int))
 else
 match(M.pS cQ a Go.V.al (Go.IntKind.wrap Go.IntKind.i64 (left-((List.length a):Int))) (0:Int))with
 |none=>none
 |some y0=>
 (match y0 with
 |.inl a1=>
 some a1
 |.inr b1=>
 some b1)
def vH(cQ:M.ae->Int->Option (Int))(a:M.ae)(left:Int):Option (Int):=
 bif(decide ((Go.IntKind.wrap Go.IntKind.i64 (left-((List.length (M.ae.Text a)):Int)))<(0:Int)))then
 some (-(1:Int))
 else
 let q0:=(M.l8 cQ (M.ae.Kids a) (Go.IntKind.wrap Go.IntKind.i64 (left-((List.length (M.ae.Text a)):Int))))
 let q1:=(Option.getD q0 default)
 bif(decide (q1<(0:Int)))then
 let q2:=((Option.isSome q0)&&true)
 bif q2 then
 some (-(1:Int))
 else
 none
 else
 let q2:=((Option.isSome q0)&&true)
 bif q2 then
 some q1
 else
 none
def pT:Nat->M.ae->Int->Option (Int)
 |0=>fun _ _=>none
 |n+1=>vH (pT n)
def sX:M.ae->Int->Option (Int):=pT Go.V.al
def nE(cT:M.ae->Option (Int×Int×(List UInt8)×(List M.ae)))(a:(List M.ae)):Nat->Int->(List M.ae)->Option ((List M.ae))
 |0,_,_=>none
 |fuel+1,i,out=>
 bif(decide (i<((List.length a):Int)))then
 bif((Go.V.inB i (List.length out))&&((Option.isSome (cT (M.ae.re (List.getD a (Int.toNat i) M.ae.zero))))&&((Go.V.inB i (List.length a))&&true)))then
 let q0:=(Option.getD (cT (M.ae.re (List.getD a (Int.toNat i) M.ae.zero))) default)
 let q1:=q0.2
 let q2:=q1.2
 M.nE cT a fuel (Go.IntKind.wrap Go.IntKind.i64 (i+(1:Int))) (List.set out (Int.toNat i) (M.ae.mk q0.1 q1.1 q2.1 q2.2))
 else
 none
 else
 some (out)
def l9(cT:M.ae->Option (Int×Int×(List UInt8)×(List M.ae)))(a:(List M.ae)):Option ((List M.ae)):=
 match(M.nE cT a Go.V.al (0:Int) (List.replicate (Int.toNat ((List.length a):Int)) (M.ae.mk (0:Int) (0:Int) [] [])))with
 |none=>none
 |some y0=>
 bif(((decide (((List.length a):Int)<=((List.length a):Int)))&&(decide (((List.length a):Int)<=(1073741824:Int))))&&true)then
 some y0
 else
 none
def vI(cT:M.ae->Option (Int×Int×(List UInt8)×(List M.ae)))(a:M.ae):Option (Int×Int×(List UInt8)×(List M.ae)):=
 let q0:=(M.l9 cT (M.ae.Kids a))
 bif((Option.isSome q0)&&true)then
 some ((M.ae.Kind a),(M.ae.Num a),(M.ae.Text a),(Option.getD q0 default))
 else
 none
def pU:Nat->M.ae->Option (Int×Int×(List UInt8)×(List M.ae))
 |0=>fun _=>none
 |n+1=>vI (pU n)
def sY:M.ae->Option (Int×Int×(List UInt8)×(List M.ae)):=pU Go.V.al
def sZ(a:M.ah)(left:Int):Option (Int):=
 let q0:=(M.xG (M.aa.re (M.ah.bR a)) left)
 bif(decide ((Option.getD q0 default)<(0:Int)))then
 bif((Option.isSome q0)&&true)then
 some (-(1:Int))
 else
 none
 else
 let q1:=(M.l8 M.sX (M.ah.Buffer a) (Option.getD q0 default))
 let q2:=(Option.getD q1 default)
 bif(decide (q2<(0:Int)))then
 let q3:=((Option.isSome q1)&&((Option.isSome q0)&&true))
 bif q3 then
 some (-(1:Int))
 else
 none
 else
 let q3:=((Option.isSome q1)&&((Option.isSome q0)&&true))
 bif q3 then
 some q2
 else
 none
def s6(a:M.ah):Option (Int×(List UInt8)×Int×Bool×Int×Int×Bool×Bool×(List (List UInt8))×(List M.aa)×(List M.ae)):=
 let q0:=(M.l9 M.sY (M.ah.Buffer a))
 let q1:=(M.xJ (M.aa.re (M.ah.bR a)))
 bif((Option.isSome q0)&&((Option.isSome q1)&&true))then
 let q2:=(Option.getD q1 default)
 let q3:=q2.2
 let q4:=q3.2
 some (q2.1,q3.1,(M.ah.Room a),(M.ah.db a),(M.ah.Put a),(M.ah.dx a),(M.ah.Shut a),(M.ah.Gone a),q4.1,q4.2,(Option.getD q0 default))
 else
 none
def pV(a:(List M.ah)):Nat->Int->Int->Option ((Int)⊕(Int))
 |0,_,_=>none
 |fuel+1,left,i=>
 bif(decide (i<((List.length a):Int)))then
 let q0:=(M.sZ (M.ah.re (List.getD a (Int.toNat i) M.ah.zero)) left)
 let q1:=(Option.getD q0 default)
 bif(decide (q1<(0:Int)))then
 let q2:=((Option.isSome q0)&&((Go.V.inB i (List.length a))&&true))
 bif q2 then
 some (.inl (-(1:Int)))
 else
 none
 else
 let q2:=((Option.isSome q0)&&((Go.V.inB i (List.length a))&&true))
 bif q2 then
 M.pV a fuel q1 (Go.IntKind.wrap Go.IntKind.i64 (i+(1:Int)))
 else
 none
 else
 some ((.inr (left)))
def s7(a:(List M.ah))(left:Int):Option (Int):=
 bif(decide ((Go.IntKind.wrap Go.IntKind.i64 (left-((List.length a):Int)))<(0:Int)))then
 some (-(1:Int))
 else
 match(M.pV a Go.V.al (Go.IntKind.wrap Go.IntKind.i64 (left-((List.length a):Int))) (0:Int))with
 |none=>none
 |some y0=>
 (match y0 with
 |.inl a1=>
 some a1
 |.inr b1=>
 some b1)
def ma(a:(List Int))(left:Int):Option (Int):=
 bif(decide ((Go.IntKind.wrap Go.IntKind.i64 (left-((List.length a):Int)))<(0:Int)))then
 some (-(1:Int))
 else
 some (Go.IntKind.wrap Go.IntKind.i64 (left-((List.length a):Int)))
def s8(a:M.af)(left:Int):Option (Int):=
 let q0:=(M.ma (M.af.aZ a) left)
 bif(decide ((Option.getD q0 default)<(0:Int)))then
 bif((Option.isSome q0)&&true)then
 some (-(1:Int))
 else
 none
 else
 let q1:=(M.ma (M.af.Set a) (Option.getD q0 default))
 let q2:=(Option.getD q1 default)
 bif(decide (q2<(0:Int)))then
 let q3:=((Option.isSome q1)&&((Option.isSome q0)&&true))
 bif q3 then
 some (-(1:Int))
 else
 none
 else
 let q3:=((Option.isSome q1)&&((Option.isSome q0)&&true))
 bif q3 then
 some q2
 else
 none
def pW(a:(List M.af)):Nat->Int->Int->Option ((Int)⊕(Int))
 |0,_,_=>none
 |fuel+1,left,i=>
 bif(decide (i<((List.length a):Int)))then
 let q0:=(M.s8 (List.getD a (Int.toNat i) M.af.zero) left)
 let q1:=(Option.getD q0 default)
 bif(decide (q1<(0:Int)))then
 let q2:=((Option.isSome q0)&&((Go.V.inB i (List.length a))&&true))
 bif q2 then
 some (.inl (-(1:Int)))
 else
 none
 else
 let q2:=((Option.isSome q0)&&((Go.V.inB i (List.length a))&&true))
 bif q2 then
 M.pW a fuel q1 (Go.IntKind.wrap Go.IntKind.i64 (i+(1:Int)))
 else
 none
 else
 some ((.inr (left)))
def s9(a:(List M.af))(left:Int):Option (Int):=
 bif(decide ((Go.IntKind.wrap Go.IntKind.i64 (left-((List.length a):Int)))<(0:Int)))then
 some (-(1:Int))
 else
 match(M.pW a Go.V.al (Go.IntKind.wrap Go.IntKind.i64 (left-((List.length a):Int))) (0:Int))with
 |none=>none
 |some y0=>
 (match y0 with
 |.inl a1=>
 some a1
 |.inr b1=>
 some b1)
def ta(a:(List M.ay))(left:Int):Option (Int):=
 bif(decide ((Go.IntKind.wrap Go.IntKind.i64 (left-((List.length a):Int)))<(0:Int)))then
 some (-(1:Int))
 else
 some (Go.IntKind.wrap Go.IntKind.i64 (left-((List.length a):Int)))
def tc(a:M.ar)(left:Int):Option (Int):=
 let q0:=(M.rK (M.ar.bp a) left)
 bif(decide ((Option.getD q0 default)<(0:Int)))then
 bif((Option.isSome q0)&&true)then
 some (-(1:Int))
 else
 none
 else
 let q1:=(M.s7 (M.ar.bS a) (Option.getD q0 default))
 let q2:=(Option.getD q1 default)
 bif(decide (q2<(0:Int)))then
 let q3:=((Option.isSome q1)&&((Option.isSome q0)&&true))
 bif q3 then
 some (-(1:Int))
 else
 none
 else
 let q3:=(M.s9 (M.ar.aH a) q2)
 let q4:=(Option.getD q3 default)
 bif(decide (q4<(0:Int)))then
 let q5:=((Option.isSome q1)&&((Option.isSome q0)&&true))
 let q6:=((Option.isSome q3)&&q5)
 bif q6 then
 some (-(1:Int))
 else
 none
 else
 let q5:=(M.ma (M.ar.Back a) q4)
 let q6:=(Option.getD q5 default)
 bif(decide (q6<(0:Int)))then
 let q7:=((Option.isSome q1)&&((Option.isSome q0)&&true))
 let q8:=((Option.isSome q3)&&q7)
 let q9:=((Option.isSome q5)&&q8)
 bif q9 then
 some (-(1:Int))
 else
 none
 else
 let q7:=(M.ta (M.ar.Notes a) q6)
 let q8:=(Option.getD q7 default)
 bif(decide (q8<(0:Int)))then
 let q9:=((Option.isSome q1)&&((Option.isSome q0)&&true))
 let q10:=((Option.isSome q3)&&q9)
 let q11:=((Option.isSome q5)&&q10)
 let q12:=((Option.isSome q7)&&q11)
 bif q12 then
 some (-(1:Int))
 else
 none
 else
 let q9:=((Option.isSome q1)&&((Option.isSome q0)&&true))
 let q10:=((Option.isSome q3)&&q9)
 let q11:=((Option.isSome q5)&&q10)
 let q12:=((Option.isSome q7)&&q11)
 bif q12 then
 some q8
 else
 none
def nF(a:(List M.ah)):Nat->Int->(List M.ah)->Option ((List M.ah))
 |0,_,_=>none
 |fuel+1,i,out=>
 bif(decide (i<((List.length a):Int)))then
 let q0:=(M.s6 (M.ah.re (List.getD a (Int.toNat i) M.ah.zero)))
 bif((Go.V.inB i (List.length out))&&((Option.isSome q0)&&((Go.V.inB i (List.length a))&&true)))then
 let q1:=(Option.getD q0 default)
 let q2:=q1.2
 let q3:=q2.2
 let q4:=q3.2
 let q5:=q4.2
 let q6:=q5.2
 let q7:=q6.2
 let q8:=q7.2
 let q9:=q8.2
 let q10:=q9.2
 M.nF a fuel (Go.IntKind.wrap Go.IntKind.i64 (i+(1:Int))) (List.set out (Int.toNat i) (M.ah.mk (M.aa.mk q1.1 q2.1 q9.1 q10.1) q3.1 q4.1 q10.2 q5.1 q6.1 q7.1 q8.1))
 else
 none
 else
 some (out)
def te(a:(List M.ah)):Option ((List M.ah)):=
 match(M.nF a Go.V.al (0:Int) (List.replicate (Int.toNat ((List.length a):Int)) (M.ah.mk (M.aa.mk (0:Int) [] [] []) (0:Int) false [] (0:Int) (0:Int) false false)))with
 |none=>none
 |some y0=>
 bif(((decide (((List.length a):Int)<=((List.length a):Int)))&&(decide (((List.length a):Int)<=(1073741824:Int))))&&true)then
 some y0
 else
 none
def tf(a:M.af):Option (Int×Int×Int×Int×Int×Int×Bool×Bool×Bool×(List Int)×(List Int)):=
 let q0:=(M.lO (M.af.Set a))
 let q1:=(M.lO (M.af.aZ a))
 bif((Option.isSome q0)&&((Option.isSome q1)&&true))then
 some ((M.af.Id a),(M.af.Prog a),(M.af.PC a),(M.af.dI a),(M.af.Status a),(M.af.Result a),(M.af.cJ a),(M.af.Asked a),(M.af.Told a),(Option.getD q1 default),(Option.getD q0 default))
 else
 none
def nG(a:(List M.af)):Nat->Int->(List M.af)->Option ((List M.af))
 |0,_,_=>none
 |fuel+1,i,out=>
 bif(decide (i<((List.length a):Int)))then
 let q0:=(M.tf (List.getD a (Int.toNat i) M.af.zero))
 bif((Go.V.inB i (List.length out))&&((Option.isSome q0)&&((Go.V.inB i (List.length a))&&true)))then
 let q1:=(Option.getD q0 default)
 let q2:=q1.2
 let q3:=q2.2
 let q4:=q3.2
 let q5:=q4.2
 let q6:=q5.2
 let q7:=q6.2
 let q8:=q7.2
 let q9:=q8.2
 let q10:=q9.2
 M.nG a fuel (Go.IntKind.wrap Go.IntKind.i64 (i+(1:Int))) (List.set out (Int.toNat i) (M.af.mk q1.1 q2.1 q3.1 q4.1 q5.1 q6.1 q7.1 q8.1 q9.1 q10.1 q10.2))
 else
 none
 else
 some (out)
def tg(a:(List M.af)):Option ((List M.af)):=
 match(M.nG a Go.V.al (0:Int) (List.replicate (Int.toNat ((List.length a):Int)) (M.af.mk (0:Int) (0:Int) (0:Int) (0:Int) (0:Int) (0:Int) false false false [] [])))with
 |none=>none
 |some y0=>
 bif(((decide (((List.length a):Int)<=((List.length a):Int)))&&(decide (((List.length a):Int)<=(1073741824:Int))))&&true)then
 some y0
 else
 none
def vJ(a:M.ay):Option (M.ay):=
 some a
def nH(a:(List M.ay)):Nat->Int->(List M.ay)->Option ((List M.ay))
 |0,_,_=>none
 |fuel+1,i,out=>
 bif(decide (i<((List.length a):Int)))then
 bif((Go.V.inB i (List.length out))&&((Go.V.inB i (List.length a))&&true))then
 M.nH a fuel (Go.IntKind.wrap Go.IntKind.i64 (i+(1:Int))) (List.set out (Int.toNat i) (List.getD a (Int.toNat i) M.ay.zero))
 else
 none
 else
 some (out)
def ti(a:(List M.ay)):Option ((List M.ay)):=
 match(M.nH a Go.V.al (0:Int) (List.replicate (Int.toNat ((List.length a):Int)) (M.ay.mk (0:Int) (0:Int) (0:Int) (0:Int))))with
 |none=>none
 |some y0=>
 bif(((decide (((List.length a):Int)<=((List.length a):Int)))&&(decide (((List.length a):Int)<=(1073741824:Int))))&&true)then
 some y0
 else
 none
def tj(a:M.ar):Option ((List M.aD)×(List M.ah)×(List M.af)×(List Int)×(List M.ay)):=
 let q0:=(M.ti (M.ar.Notes a))
 let q1:=(M.lO (M.ar.Back a))
 let q2:=(M.tg (M.ar.aH a))
 let q3:=(M.te (M.ar.bS a))
 let q4:=(M.rN (M.ar.bp a))
 bif((Option.isSome q0)&&((Option.isSome q1)&&((Option.isSome q2)&&((Option.isSome q3)&&((Option.isSome q4)&&true)))))then
 some ((Option.getD q4 default),(Option.getD q3 default),(Option.getD q2 default),(Option.getD q1 default),(Option.getD q0 default))
 else
 none
def kR(o:M.aG):Option (Bool):=
 bif((!((decide ((1:Int)<=(M.aG.Kind o)))&&(decide ((M.aG.Kind o)<=(12:Int)))))||(!((decide ((0:Int)<=(M.aG.A o)))&&(decide ((M.aG.A o)<=(bif((M.aG.Kind o)==(1:Int))then(5:Int)else(bif(bif((M.aG.Kind o)==(2:Int))then((M.aG.Kind o)==(2:Int))else((M.aG.Kind o)==(10:Int)))then(7:Int)else(bif(bif((M.aG.Kind o)==(5:Int))then((M.aG.Kind o)==(5:Int))else(bif((M.aG.Kind o)==(6:Int))then((M.aG.Kind o)==(6:Int))else(bif((M.aG.Kind o)==(7:Int))then((M.aG.Kind o)==(7:Int))else((M.aG.Kind o)==(8:Int)))))then(3:Int)else(bif((M.aG.Kind o)==(9:Int))then(999:Int)else(bif((M.aG.Kind o)==(11:Int))then(1:Int)else(0:Int)))))))))))then
 some false
 else
 bif(((M.aG.Kind o)==(5:Int))||((M.aG.Kind o)==(6:Int)))then
 some ((decide ((1:Int)<=(M.aG.B o)))&&(decide ((M.aG.B o)<=(4:Int))))
 else
 some ((M.aG.B o)==(0:Int))
def nI(p:M.aD):Nat->Int->Option ((Bool)⊕(Unit))
 |0,_=>none
 |fuel+1,i=>
 bif(decide (i<((List.length (M.aD.Ops p)):Int)))then
 let q0:=(M.kR (List.getD (M.aD.Ops p) (Int.toNat i) M.aG.zero))
 bif(!(Option.getD q0 default))then
 let q1:=((Option.isSome q0)&&((Go.V.inB i (List.length (M.aD.Ops p)))&&true))
 bif q1 then
 some (.inl false)
 else
 none
 else
 let q1:=((Option.isSome q0)&&((Go.V.inB i (List.length (M.aD.Ops p)))&&true))
 bif q1 then
 M.nI p fuel (Go.IntKind.wrap Go.IntKind.i64 (i+(1:Int)))
 else
 none
 else
 some ((.inr (())))
def pX(p:M.aD):Option (Bool):=
 bif((!((decide ((1:Int)<=(M.aD.fp p)))&&(decide ((M.aD.fp p)<=(6:Int)))))||(decide ((12:Int)<((List.length (M.aD.Ops p)):Int))))then
 some false
 else
 match(M.nI p Go.V.al (0:Int))with
 |none=>none
 |some y0=>
 (match y0 with
 |.inl a1=>
 some a1
 |.inr b1=>
 some true)
def pY(list:(List M.aD)):Nat->Int->Option ((Bool)⊕(Unit))
 |0,_=>none
 |fuel+1,i=>
 bif(decide (i<((List.length list):Int)))then
 let q0:=(M.pX (List.getD list (Int.toNat i) M.aD.zero))
 bif(!(Option.getD q0 default))then
 let q1:=((Option.isSome q0)&&((Go.V.inB i (List.length list))&&true))
 bif q1 then
 some (.inl false)
 else
 none
 else
 let q1:=((Option.isSome q0)&&((Go.V.inB i (List.length list))&&true))
 bif q1 then
 M.pY list fuel (Go.IntKind.wrap Go.IntKind.i64 (i+(1:Int)))
 else
 none
 else
 some ((.inr (())))
def tn(list:(List M.aD)):Option (Bool):=
 bif((decide (((List.length list):Int)<(1:Int)))||(decide ((6:Int)<((List.length list):Int))))then
 some false
 else
 match(M.pY list Go.V.al (0:Int))with
 |none=>none
 |some y0=>
 (match y0 with
 |.inl a1=>
 some a1
 |.inr b1=>
 some true)
def nJ(w:M.ar):Nat->Int->Option ((Bool×(List M.aD)×(List M.ah)×(List M.af)×(List Int)×(List M.ay))⊕(M.ar))
 |0,_=>none
 |fuel+1,i=>
 bif(decide (i<((List.length (M.ar.bS w)):Int)))then
 let q0:=(M.sG (M.ah.re (List.getD (M.ar.bS w) (Int.toNat i) M.ah.zero)))
 let q1:=(!(Option.getD q0 default))
 let q2:=(q1||(M.ah.db (List.getD (M.ar.bS w) (Int.toNat i) M.ah.zero)))
 bif(q2||((M.aa.Kind (M.ah.bR (List.getD (M.ar.bS w) (Int.toNat i) M.ah.zero))) !=(9:Int)))then
 let q3:=(((Go.V.inB i (List.length (M.ar.bS w)))||(!(q2==false)))&&(((Go.V.inB i (List.length (M.ar.bS w)))||(!(q1==false)))&&((Option.isSome q0)&&((Go.V.inB i (List.length (M.ar.bS w)))&&true))))
 bif q3 then
 some (.inl (false,(M.ar.bp w),(M.ar.bS w),(M.ar.aH w),(M.ar.Back w),(M.ar.Notes w)))
 else
 none
 else
 let q3:=(((Go.V.inB i (List.length (M.ar.bS w)))||(!(q2==false)))&&(((Go.V.inB i (List.length (M.ar.bS w)))||(!(q1==false)))&&((Option.isSome q0)&&((Go.V.inB i (List.length (M.ar.bS w)))&&true))))
 bif q3 then
 M.nJ w fuel (Go.IntKind.wrap Go.IntKind.i64 (i+(1:Int)))
 else
 none
 else
 some ((.inr (w)))
def pZ(list:(List Int)):Nat->Int->Option ((Bool)⊕(Unit))
 |0,_=>none
 |fuel+1,i=>
 bif(decide (i<((List.length list):Int)))then
 bif(decide ((List.getD list (Int.toNat i) (0:Int))<=(List.getD list (Int.toNat (Go.IntKind.wrap Go.IntKind.i64 (i-(1:Int)))) (0:Int))))then
 let q0:=((Go.V.inB i (List.length list))&&((Go.V.inB (Go.IntKind.wrap Go.IntKind.i64 (i-(1:Int))) (List.length list))&&true))
 bif q0 then
 some (.inl false)
 else
 none
 else
 let q0:=((Go.V.inB i (List.length list))&&((Go.V.inB (Go.IntKind.wrap Go.IntKind.i64 (i-(1:Int))) (List.length list))&&true))
 bif q0 then
 M.pZ list fuel (Go.IntKind.wrap Go.IntKind.i64 (i+(1:Int)))
 else
 none
 else
 some ((.inr (())))
def qa(list:(List Int)):Option (Bool):=
 match(M.pZ list Go.V.al (1:Int))with
 |none=>none
 |some y0=>
 (match y0 with
 |.inl a1=>
 some a1
 |.inr b1=>
 some true)
def nK(n:Int)(w:M.ar)(t:M.af):Nat->Int->Option ((Bool×(List M.aD)×(List M.ah)×(List M.af)×(List Int)×(List M.ay))⊕(Int×(List M.aD)×(List M.ah)×(List M.af)×(List Int)×(List M.ay)×M.af))
 |0,_=>none
 |fuel+1,i=>
 bif(decide (i<((List.length (M.af.aZ t)):Int)))then
 let q0:=(!((decide ((1:Int)<=(List.getD (M.af.aZ t) (Int.toNat i) (0:Int))))&&(decide ((List.getD (M.af.aZ t) (Int.toNat i) (0:Int))<=((List.length (M.ar.aH w)):Int)))))
 let q1:=(Go.IntKind.wrap Go.IntKind.i64 ((List.getD (M.af.aZ t) (Int.toNat i) (0:Int))-(1:Int)))
 bif(q0||((M.af.dI (List.getD (M.ar.aH w) (Int.toNat q1) M.af.zero)) !=(M.af.Id t)))then
 let q2:=(!(q0==false))
 let q3:=(((Go.V.inB q1 (List.length (M.ar.aH w)))||q2)&&(((Go.V.inB i (List.length (M.af.aZ t)))||q2)&&((Go.V.inB i (List.length (M.af.aZ t)))&&true)))
 bif q3 then
 some (.inl (false,(M.ar.bp w),(M.ar.bS w),(M.ar.aH w),(M.ar.Back w),(M.ar.Notes w)))
 else
 none
 else
 let q2:=(!(q0==false))
 let q3:=(((Go.V.inB q1 (List.length (M.ar.aH w)))||q2)&&(((Go.V.inB i (List.length (M.af.aZ t)))||q2)&&((Go.V.inB i (List.length (M.af.aZ t)))&&true)))
 bif q3 then
 M.nK n w t fuel (Go.IntKind.wrap Go.IntKind.i64 (i+(1:Int)))
 else
 none
 else
 some ((.inr ((n,(M.ar.bp w),(M.ar.bS w),(M.ar.aH w),(M.ar.Back w),(M.ar.Notes w),t))))
def qb(list:(List Int))(n:Int):Nat->Int->Option ((Bool)⊕(Unit))
 |0,_=>none
 |fuel+1,i=>
 bif(decide (i<((List.length list):Int)))then
 bif((List.getD list (Int.toNat i) (0:Int))==n)then
 bif((Go.V.inB i (List.length list))&&true)then
 some (.inl true)
 else
 none
 else
 bif((Go.V.inB i (List.length list))&&true)then
 M.qb list n fuel (Go.IntKind.wrap Go.IntKind.i64 (i+(1:Int)))
 else
 none
 else
 some ((.inr (())))
def tp(list:(List Int))(n:Int):Option (Bool):=
 match(M.qb list n Go.V.al (0:Int))with
 |none=>none
 |some y0=>
 (match y0 with
 |.inl a1=>
 some a1
 |.inr b1=>
 some false)
def nL(n:Int)(t:M.af):Nat->Int->Option ((Bool)⊕(Int×M.af))
 |0,_=>none
 |fuel+1,i=>
 bif(decide (i<((List.length (M.af.Set t)):Int)))then
 let q0:=(M.tp (M.af.aZ t) (List.getD (M.af.Set t) (Int.toNat i) (0:Int)))
 bif(!(Option.getD q0 default))then
 let q1:=((Option.isSome q0)&&((Go.V.inB i (List.length (M.af.Set t)))&&true))
 bif q1 then
 some (.inl false)
 else
 none
 else
 let q1:=((Option.isSome q0)&&((Go.V.inB i (List.length (M.af.Set t)))&&true))
 bif q1 then
 M.nL n t fuel (Go.IntKind.wrap Go.IntKind.i64 (i+(1:Int)))
 else
 none
 else
 some ((.inr ((n,t))))
def CW(t:M.af):Option (Bool):=
 some (((M.af.cJ t)||((M.af.Status t)==(4:Int)))||((M.af.Status t)==(5:Int)))
def tr(k:Int)(w:M.ar):Option (Bool×M.ar):=
 bif(((((((M.af.Id (List.getD (M.ar.aH w) (Int.toNat k) M.af.zero)) !=(Go.IntKind.wrap Go.IntKind.i64 (k+(1:Int))))||(!((decide ((0:Int)<=(M.af.Prog (List.getD (M.ar.aH w) (Int.toNat k) M.af.zero))))&&(decide ((M.af.Prog (List.getD (M.ar.aH w) (Int.toNat k) M.af.zero))<=(Go.IntKind.wrap Go.IntKind.i64 (((List.length (M.ar.bp w)):Int)-(1:Int))))))))||(!((decide ((0:Int)<=(M.af.dI (List.getD (M.ar.aH w) (Int.toNat k) M.af.zero))))&&(decide ((M.af.dI (List.getD (M.ar.aH w) (Int.toNat k) M.af.zero))<=(Go.IntKind.wrap Go.IntKind.i64 ((M.af.Id (List.getD (M.ar.aH w) (Int.toNat k) M.af.zero))-(1:Int))))))))||(!((decide ((1:Int)<=(M.af.Status (List.getD (M.ar.aH w) (Int.toNat k) M.af.zero))))&&(decide ((M.af.Status (List.getD (M.ar.aH w) (Int.toNat k) M.af.zero))<=(5:Int))))))||(!((decide ((0:Int)<=(M.af.Result (List.getD (M.ar.aH w) (Int.toNat k) M.af.zero))))&&(decide ((M.af.Result (List.getD (M.ar.aH w) (Int.toNat k) M.af.zero))<=(999:Int))))))||((!(M.af.cJ (List.getD (M.ar.aH w) (Int.toNat k) M.af.zero)))&&((M.af.Result (List.getD (M.ar.aH w) (Int.toNat k) M.af.zero)) !=(0:Int))))then
 bif((Go.V.inB k (List.length (M.ar.aH w)))&&true)then
 some (false,w)
 else
 none
 else
 let q0:=(((!((decide ((0:Int)<=(M.af.PC (List.getD (M.ar.aH w) (Int.toNat k) M.af.zero))))&&(decide ((M.af.PC (List.getD (M.ar.aH w) (Int.toNat k) M.af.zero))<=((List.length (M.aD.Ops (List.getD (M.ar.bp w) (Int.toNat (M.af.Prog (List.getD (M.ar.aH w) (Int.toNat k) M.af.zero))) M.aD.zero))):Int)))))||(decide ((8:Int)<((List.length (M.af.aZ (List.getD (M.ar.aH w) (Int.toNat k) M.af.zero))):Int))))||(decide (((List.length (M.af.aZ (List.getD (M.ar.aH w) (Int.toNat k) M.af.zero))):Int)<((List.length (M.af.Set (List.getD (M.ar.aH w) (Int.toNat k) M.af.zero))):Int))))
 let q1:=(M.qa (M.af.aZ (List.getD (M.ar.aH w) (Int.toNat k) M.af.zero)))
 let q2:=(q0||(!(Option.getD q1 default)))
 let q3:=(M.qa (M.af.Set (List.getD (M.ar.aH w) (Int.toNat k) M.af.zero)))
 bif(q2||(!(Option.getD q3 default)))then
 let q4:=(((Option.isSome q3)||(!(q2==false)))&&(((Option.isSome q1)||(!(q0==false)))&&((Go.V.inB (M.af.Prog (List.getD (M.ar.aH w) (Int.toNat k) M.af.zero)) (List.length (M.ar.bp w)))&&((Go.V.inB k (List.length (M.ar.aH w)))&&true))))
 bif q4 then
 some (false,w)
 else
 none
 else
 match(M.nK ((List.length (M.aD.Ops (List.getD (M.ar.bp w) (Int.toNat (M.af.Prog (List.getD (M.ar.aH w) (Int.toNat k) M.af.zero))) M.aD.zero))):Int) w (List.getD (M.ar.aH w) (Int.toNat k) M.af.zero) Go.V.al (0:Int))with
 |none=>none
 |some y4=>
 (match y4 with
 |.inl a5=>
 let q6:=(((Option.isSome q3)||(!(q2==false)))&&(((Option.isSome q1)||(!(q0==false)))&&((Go.V.inB (M.af.Prog (List.getD (M.ar.aH w) (Int.toNat k) M.af.zero)) (List.length (M.ar.bp w)))&&((Go.V.inB k (List.length (M.ar.aH w)))&&true))))
 bif q6 then
 let q7:=a5.2
 let q8:=q7.2
 let q9:=q8.2
 let q10:=q9.2
 some (a5.1,(M.ar.mk q7.1 q8.1 q9.1 q10.1 q10.2))
 else
 none
 |.inr b5=>
 let q6:=b5.2
 let q7:=q6.2
 let q8:=q7.2
 let q9:=q8.2
 let q10:=q9.2
 match(M.nL b5.1 q10.2 Go.V.al (0:Int))with
 |none=>none
 |some y11=>
 (match y11 with
 |.inl a12=>
 let q13:=(((Option.isSome q3)||(!(q2==false)))&&(((Option.isSome q1)||(!(q0==false)))&&((Go.V.inB (M.af.Prog (List.getD (M.ar.aH w) (Int.toNat k) M.af.zero)) (List.length (M.ar.bp w)))&&((Go.V.inB k (List.length (M.ar.aH w)))&&true))))
 bif q13 then
 some (a12,(M.ar.mk q6.1 q7.1 q8.1 q9.1 q10.1))
 else
 none
 |.inr b12=>
 bif((M.af.Status b12.2)==(1:Int))then
 bif(((((M.af.PC b12.2) !=(0:Int))||(M.af.cJ b12.2))||(M.af.Asked b12.2))||(decide ((0:Int)<((List.length (M.af.aZ b12.2)):Int))))then
 let q13:=(((Option.isSome q3)||(!(q2==false)))&&(((Option.isSome q1)||(!(q0==false)))&&((Go.V.inB (M.af.Prog (List.getD (M.ar.aH w) (Int.toNat k) M.af.zero)) (List.length (M.ar.bp w)))&&((Go.V.inB k (List.length (M.ar.aH w)))&&true))))
 bif q13 then
 some (false,(M.ar.mk q6.1 q7.1 q8.1 q9.1 q10.1))
 else
 none
 else
 let q13:=(((Option.isSome q3)||(!(q2==false)))&&(((Option.isSome q1)||(!(q0==false)))&&((Go.V.inB (M.af.Prog (List.getD (M.ar.aH w) (Int.toNat k) M.af.zero)) (List.length (M.ar.bp w)))&&((Go.V.inB k (List.length (M.ar.aH w)))&&true))))
 bif q13 then
 let dy:=((!(M.af.Told b12.2))||(((M.af.cJ b12.2)||((M.af.Status b12.2)==(4:Int)))||((M.af.Status b12.2)==(5:Int))))
 some (dy,(M.ar.mk q6.1 q7.1 q8.1 q9.1 q10.1))
 else
 none
 else
 bif((M.af.Status b12.2)==(3:Int))then
 bif((!(M.af.cJ b12.2))||((M.af.PC b12.2) !=b12.1))then
 let q13:=(((Option.isSome q3)||(!(q2==false)))&&(((Option.isSome q1)||(!(q0==false)))&&((Go.V.inB (M.af.Prog (List.getD (M.ar.aH w) (Int.toNat k) M.af.zero)) (List.length (M.ar.bp w)))&&((Go.V.inB k (List.length (M.ar.aH w)))&&true))))
 bif q13 then
 some (false,(M.ar.mk q6.1 q7.1 q8.1 q9.1 q10.1))
 else
 none
 else
 let q13:=(((Option.isSome q3)||(!(q2==false)))&&(((Option.isSome q1)||(!(q0==false)))&&((Go.V.inB (M.af.Prog (List.getD (M.ar.aH w) (Int.toNat k) M.af.zero)) (List.length (M.ar.bp w)))&&((Go.V.inB k (List.length (M.ar.aH w)))&&true))))
 bif q13 then
 let dy:=((!(M.af.Told b12.2))||(((M.af.cJ b12.2)||((M.af.Status b12.2)==(4:Int)))||((M.af.Status b12.2)==(5:Int))))
 some (dy,(M.ar.mk q6.1 q7.1 q8.1 q9.1 q10.1))
 else
 none
 else
 bif((M.af.Status b12.2)==(4:Int))then
 bif(M.af.cJ b12.2)then
 let q13:=(((Option.isSome q3)||(!(q2==false)))&&(((Option.isSome q1)||(!(q0==false)))&&((Go.V.inB (M.af.Prog (List.getD (M.ar.aH w) (Int.toNat k) M.af.zero)) (List.length (M.ar.bp w)))&&((Go.V.inB k (List.length (M.ar.aH w)))&&true))))
 bif q13 then
 some (false,(M.ar.mk q6.1 q7.1 q8.1 q9.1 q10.1))
 else
 none
 else
 let q13:=(((Option.isSome q3)||(!(q2==false)))&&(((Option.isSome q1)||(!(q0==false)))&&((Go.V.inB (M.af.Prog (List.getD (M.ar.aH w) (Int.toNat k) M.af.zero)) (List.length (M.ar.bp w)))&&((Go.V.inB k (List.length (M.ar.aH w)))&&true))))
 bif q13 then
 let dy:=((!(M.af.Told b12.2))||(((M.af.cJ b12.2)||((M.af.Status b12.2)==(4:Int)))||((M.af.Status b12.2)==(5:Int))))
 some (dy,(M.ar.mk q6.1 q7.1 q8.1 q9.1 q10.1))
 else
 none
 else
 let q13:=(((Option.isSome q3)||(!(q2==false)))&&(((Option.isSome q1)||(!(q0==false)))&&((Go.V.inB (M.af.Prog (List.getD (M.ar.aH w) (Int.toNat k) M.af.zero)) (List.length (M.ar.bp w)))&&((Go.V.inB k (List.length (M.ar.aH w)))&&true))))
 bif q13 then
 let dy:=((!(M.af.Told b12.2))||(((M.af.cJ b12.2)||((M.af.Status b12.2)==(4:Int)))||((M.af.Status b12.2)==(5:Int))))
 some (dy,(M.ar.mk q6.1 q7.1 q8.1 q9.1 q10.1))
 else
 none))
def kS:Nat->Int->M.ar->Option ((Bool×(List M.aD)×(List M.ah)×(List M.af)×(List Int)×(List M.ay))⊕(M.ar))
 |0,_,_=>none
 |fuel+1,i,w=>
 bif(decide (i<((List.length (M.ar.aH w)):Int)))then
 let q0:=(M.tr i w)
 bif(!(Option.getD q0 default).1)then
 bif((Option.isSome q0)&&true)then
 some (.inl (false,(M.ar.bp (Option.getD q0 default).2),(M.ar.bS (Option.getD q0 default).2),(M.ar.aH (Option.getD q0 default).2),(M.ar.Back (Option.getD q0 default).2),(M.ar.Notes (Option.getD q0 default).2)))
 else
 none
 else
 bif((Option.isSome q0)&&true)then
 M.kS fuel (Go.IntKind.wrap Go.IntKind.i64 (i+(1:Int))) (Option.getD q0 default).2
 else
 none
 else
 some ((.inr (w)))
def nM(w:M.ar):Nat->Int->Option ((Bool×(List M.aD)×(List M.ah)×(List M.af)×(List Int)×(List M.ay))⊕(M.ar))
 |0,_=>none
 |fuel+1,i=>
 bif(decide (i<((List.length (M.ar.Back w)):Int)))then
 let q0:=(!((decide ((1:Int)<=(List.getD (M.ar.Back w) (Int.toNat i) (0:Int))))&&(decide ((List.getD (M.ar.Back w) (Int.toNat i) (0:Int))<=(6:Int)))))
 bif(q0||((decide ((0:Int)<i))&&(decide ((List.getD (M.ar.Back w) (Int.toNat i) (0:Int))<=(List.getD (M.ar.Back w) (Int.toNat (Go.IntKind.wrap Go.IntKind.i64 (i-(1:Int)))) (0:Int))))))then
 let q1:=(!((q0==false)&&((decide ((0:Int)<i))==true)))
 let q2:=(((Go.V.inB i (List.length (M.ar.Back w)))||q1)&&(((Go.V.inB (Go.IntKind.wrap Go.IntKind.i64 (i-(1:Int))) (List.length (M.ar.Back w)))||q1)&&((Go.V.inB i (List.length (M.ar.Back w)))&&true)))
 bif q2 then
 some (.inl (false,(M.ar.bp w),(M.ar.bS w),(M.ar.aH w),(M.ar.Back w),(M.ar.Notes w)))
 else
 none
 else
 let q1:=(!((q0==false)&&((decide ((0:Int)<i))==true)))
 let q2:=(((Go.V.inB i (List.length (M.ar.Back w)))||q1)&&(((Go.V.inB (Go.IntKind.wrap Go.IntKind.i64 (i-(1:Int))) (List.length (M.ar.Back w)))||q1)&&((Go.V.inB i (List.length (M.ar.Back w)))&&true)))
 bif q2 then
 M.nM w fuel (Go.IntKind.wrap Go.IntKind.i64 (i+(1:Int)))
 else
 none
 else
 some ((.inr (w)))
def nN(w:M.ar):Nat->Int->Option ((Bool×(List M.aD)×(List M.ah)×(List M.af)×(List Int)×(List M.ay))⊕((List M.aD)×(List M.ah)×(List M.af)×(List Int)×(List M.ay)))
 |0,_=>none
 |fuel+1,i=>
 bif(decide (i<((List.length (M.ar.Notes w)):Int)))then
 let q0:=(!((decide ((1:Int)<=(M.ay.Task (List.getD (M.ar.Notes w) (Int.toNat i) M.ay.zero))))&&(decide ((M.ay.Task (List.getD (M.ar.Notes w) (Int.toNat i) M.ay.zero))<=(8:Int)))))
 bif(q0||(!((decide ((1:Int)<=(M.ay.Kind (List.getD (M.ar.Notes w) (Int.toNat i) M.ay.zero))))&&(decide ((M.ay.Kind (List.getD (M.ar.Notes w) (Int.toNat i) M.ay.zero))<=(9:Int))))))then
 let q1:=(((Go.V.inB i (List.length (M.ar.Notes w)))||(!(q0==false)))&&((Go.V.inB i (List.length (M.ar.Notes w)))&&true))
 bif q1 then
 some (.inl (false,(M.ar.bp w),(M.ar.bS w),(M.ar.aH w),(M.ar.Back w),(M.ar.Notes w)))
 else
 none
 else
 let q1:=(((Go.V.inB i (List.length (M.ar.Notes w)))||(!(q0==false)))&&((Go.V.inB i (List.length (M.ar.Notes w)))&&true))
 bif q1 then
 M.nN w fuel (Go.IntKind.wrap Go.IntKind.i64 (i+(1:Int)))
 else
 none
 else
 some ((.inr (((M.ar.bp w),(M.ar.bS w),(M.ar.aH w),(M.ar.Back w),(M.ar.Notes w)))))
def qd(w:M.ar):Option (Bool×M.ar):=
 let q0:=(M.tn (M.ar.bp w))
 bif(((((!(Option.getD q0 default))||(decide ((4:Int)<((List.length (M.ar.bS w)):Int))))||(decide ((8:Int)<((List.length (M.ar.aH w)):Int))))||(decide ((6:Int)<((List.length (M.ar.Back w)):Int))))||(decide ((120:Int)<((List.length (M.ar.Notes w)):Int))))then
 bif((Option.isSome q0)&&true)then
 some (false,w)
 else
 none
 else
 match(M.nJ w Go.V.al (0:Int))with
 |none=>none
 |some y1=>
 (match y1 with
 |.inl a2=>
 bif((Option.isSome q0)&&true)then
 let q3:=a2.2
 let q4:=q3.2
 let q5:=q4.2
 let q6:=q5.2
 some (a2.1,(M.ar.mk q3.1 q4.1 q5.1 q6.1 q6.2))
 else
 none
 |.inr b2=>
 match(M.kS Go.V.al (0:Int) b2)with
 |none=>none
 |some y3=>
 (match y3 with
 |.inl a4=>
 bif((Option.isSome q0)&&true)then
 let q5:=a4.2
 let q6:=q5.2
 let q7:=q6.2
 let q8:=q7.2
 some (a4.1,(M.ar.mk q5.1 q6.1 q7.1 q8.1 q8.2))
 else
 none
 |.inr b4=>
 match(M.nM b4 Go.V.al (0:Int))with
 |none=>none
 |some y5=>
 (match y5 with
 |.inl a6=>
 bif((Option.isSome q0)&&true)then
 let q7:=a6.2
 let q8:=q7.2
 let q9:=q8.2
 let q10:=q9.2
 some (a6.1,(M.ar.mk q7.1 q8.1 q9.1 q10.1 q10.2))
 else
 none
 |.inr b6=>
 match(M.nN b6 Go.V.al (0:Int))with
 |none=>none
 |some y7=>
 (match y7 with
 |.inl a8=>
 bif((Option.isSome q0)&&true)then
 let q9:=a8.2
 let q10:=q9.2
 let q11:=q10.2
 let q12:=q11.2
 some (a8.1,(M.ar.mk q9.1 q10.1 q11.1 q12.1 q12.2))
 else
 none
 |.inr b8=>
 bif((Option.isSome q0)&&true)then
 let q9:=b8.2.2
 let q10:=q9.2
 some (true,(M.ar.mk b8.1 b8.2.1 q9.1 q10.1 q10.2))
 else
 none))))
def mX(qn:Int)(w:M.ar):Nat->Int->(List M.ay)->Option ((List M.ay))
 |0,_,_=>none
 |fuel+1,i,out=>
 bif(decide (i<((List.length (M.ar.Notes w)):Int)))then
 bif((M.ay.Task (List.getD (M.ar.Notes w) (Int.toNat i) M.ay.zero))==qn)then
 let q0:=[(List.getD (M.ar.Notes w) (Int.toNat i) M.ay.zero)]
 bif((decide (((List.length out)+(List.length q0))<=1073741824))&&((Go.V.inB i (List.length (M.ar.Notes w)))&&((Go.V.inB i (List.length (M.ar.Notes w)))&&true)))then
 M.mX qn w fuel (Go.IntKind.wrap Go.IntKind.i64 (i+(1:Int))) (out++q0)
 else
 none
 else
 bif((Go.V.inB i (List.length (M.ar.Notes w)))&&true)then
 M.mX qn w fuel (Go.IntKind.wrap Go.IntKind.i64 (i+(1:Int))) out
 else
 none
 else
 some (out)
def pg(w:M.ar)(qn:Int):Option ((List M.ay)):=
 let q0:=(M.qd w)
 bif(!(Option.getD q0 default).1)then
 bif((Option.isSome q0)&&true)then
 some []
 else
 none
 else
 match(M.mX qn (Option.getD q0 default).2 Go.V.al (0:Int) [])with
 |none=>none
 |some y1=>
 bif((Option.isSome q0)&&true)then
 some y1
 else
 none
def nO(o:M.aG):Option (Bool):=
 let q0:=(bif((M.aG.Kind o)==(2:Int))then((M.aG.Kind o)==(2:Int))else((M.aG.Kind o)==(10:Int)))
 let q1:=(bif((M.aG.Kind o)==(5:Int))then((M.aG.Kind o)==(5:Int))else((M.aG.Kind o)==(6:Int)))
 some ((((decide ((1:Int)<=(M.aG.Kind o)))&&(decide ((M.aG.Kind o)<=(12:Int))))&&((decide ((0:Int)<=(M.aG.A o)))&&(decide ((M.aG.A o)<=(bif((M.aG.Kind o)==(1:Int))then(5:Int)else(bif q0 then(7:Int)else(bif q1 then(3:Int)else(bif(bif((M.aG.Kind o)==(7:Int))then((M.aG.Kind o)==(7:Int))else((M.aG.Kind o)==(8:Int)))then(3:Int)else(bif((M.aG.Kind o)==(9:Int))then(999:Int)else(bif((M.aG.Kind o)==(11:Int))then(1:Int)else(0:Int)))))))))))&&((decide ((bif((M.aG.Kind o)==(1:Int))then(0:Int)else(bif q0 then(0:Int)else(bif q1 then(1:Int)else(0:Int))))<=(M.aG.B o)))&&(decide ((M.aG.B o)<=(bif((M.aG.Kind o)==(1:Int))then(0:Int)else(bif q0 then(0:Int)else(bif q1 then(4:Int)else(0:Int))))))))
def C4(o:M.aG):Option (Bool):=
 some (!(Option.getD (M.nO o) default))
def nP(s:(List M.aG))(t7:Int):Nat->Int->Option ((Int)⊕(Unit))
 |0,_=>none
 |fuel+1,t8=>
 bif(decide (t8<t7))then
 bif(!(Option.getD (M.nO (List.getD s (Int.toNat t8) M.aG.zero)) default))then
 bif((Go.V.inB t8 (List.length s))&&true)then
 some (.inl t8)
 else
 none
 else
 bif((Go.V.inB t8 (List.length s))&&true)then
 M.nP s t7 fuel (Go.IntKind.wrap Go.IntKind.i64 (t8+(1:Int)))
 else
 none
 else
 some ((.inr (())))
def vL(s:(List M.aG)):Option (Int):=
 match(M.nP s ((List.length s):Int) Go.V.al (0:Int))with
 |none=>none
 |some y0=>
 (match y0 with
 |.inl a1=>
 some a1
 |.inr b1=>
 some (-(1:Int)))
def tu(s:(List M.aG)):Option (Bool):=
 let q0:=(M.vL s)
 bif((Option.isSome q0)&&true)then
 some (decide ((0:Int)<=(Option.getD q0 default)))
 else
 none
def qe(p:M.aD):Option (Bool):=
 let q0:=(M.tu (M.aD.Ops p))
 let q1:=(((decide ((1:Int)<=(M.aD.fp p)))&&(decide ((M.aD.fp p)<=(6:Int))))&&(decide (((List.length (M.aD.Ops p)):Int)<=(12:Int))))
 bif(((Option.isSome q0)||(!(q1==true)))&&true)then
 some (q1&&(!(Option.getD q0 default)))
 else
 none
def tw(p:M.aD):Option (Bool):=
 let q0:=(M.qe p)
 bif((Option.isSome q0)&&true)then
 some (!(Option.getD q0 default))
 else
 none
def qf(s:(List M.aD))(t7:Int):Nat->Int->Option ((Int)⊕(Unit))
 |0,_=>none
 |fuel+1,t8=>
 bif(decide (t8<t7))then
 let q0:=(M.tw (List.getD s (Int.toNat t8) M.aD.zero))
 bif(Option.getD q0 default)then
 let q1:=((Option.isSome q0)&&((Go.V.inB t8 (List.length s))&&true))
 bif q1 then
 some (.inl t8)
 else
 none
 else
 let q1:=((Option.isSome q0)&&((Go.V.inB t8 (List.length s))&&true))
 bif q1 then
 M.qf s t7 fuel (Go.IntKind.wrap Go.IntKind.i64 (t8+(1:Int)))
 else
 none
 else
 some ((.inr (())))
def vM(s:(List M.aD)):Option (Int):=
 match(M.qf s ((List.length s):Int) Go.V.al (0:Int))with
 |none=>none
 |some y0=>
 (match y0 with
 |.inl a1=>
 some a1
 |.inr b1=>
 some (-(1:Int)))
def tz(s:(List M.aD)):Option (Bool):=
 let q0:=(M.vM s)
 bif((Option.isSome q0)&&true)then
 some (decide ((0:Int)<=(Option.getD q0 default)))
 else
 none
def tA(nS:(List M.aD)):Option (Bool):=
 let q0:=(M.tz nS)
 let q1:=((decide ((1:Int)<=((List.length nS):Int)))&&(decide (((List.length nS):Int)<=(6:Int))))
 bif(((Option.isSome q0)||(!(q1==true)))&&true)then
 some (q1&&(!(Option.getD q0 default)))
 else
 none
def tB(n:M.ay):Option (Bool):=
 some ((!((decide ((1:Int)<=(M.ay.Task n)))&&(decide ((M.ay.Task n)<=(8:Int)))))||(!((decide ((1:Int)<=(M.ay.Kind n)))&&(decide ((M.ay.Kind n)<=(9:Int))))))
def qg(s:(List M.ay))(t7:Int):Nat->Int->Option ((Int)⊕(Unit))
 |0,_=>none
 |fuel+1,t8=>
 bif(decide (t8<t7))then
 let q0:=(M.tB (List.getD s (Int.toNat t8) M.ay.zero))
 bif(Option.getD q0 default)then
 let q1:=((Option.isSome q0)&&((Go.V.inB t8 (List.length s))&&true))
 bif q1 then
 some (.inl t8)
 else
 none
 else
 let q1:=((Option.isSome q0)&&((Go.V.inB t8 (List.length s))&&true))
 bif q1 then
 M.qg s t7 fuel (Go.IntKind.wrap Go.IntKind.i64 (t8+(1:Int)))
 else
 none
 else
 some ((.inr (())))
def vN(s:(List M.ay)):Option (Int):=
 match(M.qg s ((List.length s):Int) Go.V.al (0:Int))with
 |none=>none
 |some y0=>
 (match y0 with
 |.inl a1=>
 some a1
 |.inr b1=>
 some (-(1:Int)))
def tC(s:(List M.ay)):Option (Bool):=
 let q0:=(M.vN s)
 bif((Option.isSome q0)&&true)then
 some (decide ((0:Int)<=(Option.getD q0 default)))
 else
 none
def tD(notes:(List M.ay)):Option (Bool):=
 let q0:=(M.tC notes)
 bif(((Option.isSome q0)||(!((decide (((List.length notes):Int)<=(120:Int)))==true)))&&true)then
 some ((decide (((List.length notes):Int)<=(120:Int)))&&(!(Option.getD q0 default)))
 else
 none
def tG(s:M.ah):Option (Bool):=
 let q0:=(M.sS (M.ah.re s))
 bif((Option.isSome q0)&&true)then
 some (((!(Option.getD q0 default))||((M.aa.Kind (M.ah.bR s)) !=(9:Int)))||(M.ah.db s))
 else
 none
def qh(s:(List M.ah))(t7:Int):Nat->Int->Option ((Int)⊕(Unit))
 |0,_=>none
 |fuel+1,t8=>
 bif(decide (t8<t7))then
 let q0:=(M.tG (M.ah.re (List.getD s (Int.toNat t8) M.ah.zero)))
 bif(Option.getD q0 default)then
 let q1:=((Option.isSome q0)&&((Go.V.inB t8 (List.length s))&&true))
 bif q1 then
 some (.inl t8)
 else
 none
 else
 let q1:=((Option.isSome q0)&&((Go.V.inB t8 (List.length s))&&true))
 bif q1 then
 M.qh s t7 fuel (Go.IntKind.wrap Go.IntKind.i64 (t8+(1:Int)))
 else
 none
 else
 some ((.inr (())))
def vO(s:(List M.ah)):Option (Int):=
 match(M.qh s ((List.length s):Int) Go.V.al (0:Int))with
 |none=>none
 |some y0=>
 (match y0 with
 |.inl a1=>
 some a1
 |.inr b1=>
 some (-(1:Int)))
def tH(s:(List M.ah)):Option (Bool):=
 let q0:=(M.vO s)
 bif((Option.isSome q0)&&true)then
 some (decide ((0:Int)<=(Option.getD q0 default)))
 else
 none
def Dp(list:(List M.aG)):Option (Int):=
 some ((List.length list):Int)
def Ds(list:(List M.af)):Option (Int):=
 some ((List.length list):Int)
def qi(t10:(List Int))(t11:Int)(w:M.ar)(t:M.af):Nat->Int->Option ((Bool)⊕(M.af))
 |0,_=>none
 |fuel+1,t12=>
 bif(decide (t12<t11))then
 let q0:=(!((decide ((1:Int)<=(List.getD t10 (Int.toNat t12) (0:Int))))&&(decide ((List.getD t10 (Int.toNat t12) (0:Int))<=((List.length (M.ar.aH w)):Int)))))
 let q1:=(Go.IntKind.wrap Go.IntKind.i64 ((List.getD t10 (Int.toNat t12) (0:Int))-(1:Int)))
 let q2:=(q0||((M.af.dI (List.getD (M.ar.aH w) (Int.toNat q1) M.af.zero)) !=(M.af.Id t)))
 bif(q2||((decide ((0:Int)<t12))&&(decide ((List.getD t10 (Int.toNat t12) (0:Int))<=(List.getD (M.af.aZ t) (Int.toNat (Go.IntKind.wrap Go.IntKind.i64 (t12-(1:Int)))) (0:Int))))))then
 let q3:=(((Go.V.inB (Go.IntKind.wrap Go.IntKind.i64 (t12-(1:Int))) (List.length (M.af.aZ t)))||(!((q2==false)&&((decide ((0:Int)<t12))==true))))&&(((Go.V.inB q1 (List.length (M.ar.aH w)))||(!(q0==false)))&&((Go.V.inB t12 (List.length t10))&&true)))
 bif q3 then
 some (.inl false)
 else
 none
 else
 let q3:=(((Go.V.inB (Go.IntKind.wrap Go.IntKind.i64 (t12-(1:Int))) (List.length (M.af.aZ t)))||(!((q2==false)&&((decide ((0:Int)<t12))==true))))&&(((Go.V.inB q1 (List.length (M.ar.aH w)))||(!(q0==false)))&&((Go.V.inB t12 (List.length t10))&&true)))
 bif q3 then
 M.qi t10 t11 w t fuel (Go.IntKind.wrap Go.IntKind.i64 (t12+(1:Int)))
 else
 none
 else
 some ((.inr (t)))
def qj(t51:(List Int))(t52:Int)(t:M.af):Nat->Int->Option ((Bool)⊕(Unit))
 |0,_=>none
 |fuel+1,t53=>
 bif(decide (t53<t52))then
 let q0:=(M.lX (M.af.aZ t) (List.getD t51 (Int.toNat t53) (0:Int)))
 let q1:=(!(Option.getD q0 default))
 bif(q1||((decide ((0:Int)<t53))&&(decide ((List.getD t51 (Int.toNat t53) (0:Int))<=(List.getD (M.af.Set t) (Int.toNat (Go.IntKind.wrap Go.IntKind.i64 (t53-(1:Int)))) (0:Int))))))then
 let q2:=(((Go.V.inB (Go.IntKind.wrap Go.IntKind.i64 (t53-(1:Int))) (List.length (M.af.Set t)))||(!((q1==false)&&((decide ((0:Int)<t53))==true))))&&((Option.isSome q0)&&((Go.V.inB t53 (List.length t51))&&true)))
 bif q2 then
 some (.inl false)
 else
 none
 else
 let q2:=(((Go.V.inB (Go.IntKind.wrap Go.IntKind.i64 (t53-(1:Int))) (List.length (M.af.Set t)))||(!((q1==false)&&((decide ((0:Int)<t53))==true))))&&((Option.isSome q0)&&((Go.V.inB t53 (List.length t51))&&true)))
 bif q2 then
 M.qj t51 t52 t fuel (Go.IntKind.wrap Go.IntKind.i64 (t53+(1:Int)))
 else
 none
 else
 some ((.inr (())))
def tJ(w:M.ar)(t:M.af):Option (Bool):=
 match(M.qi (M.af.aZ t) ((List.length (M.af.aZ t)):Int) w t Go.V.al (0:Int))with
 |none=>none
 |some y0=>
 (match y0 with
 |.inl a1=>
 some a1
 |.inr b1=>
 match(M.qj (M.af.Set b1) ((List.length (M.af.Set b1)):Int) b1 Go.V.al (0:Int))with
 |none=>none
 |some y2=>
 (match y2 with
 |.inl a3=>
 some a3
 |.inr b3=>
 some true))
def Dw(t:M.af):Option (Bool):=
 some (((M.af.cJ t)||((M.af.Status t)==(4:Int)))||((M.af.Status t)==(5:Int)))
def tK(w:M.ar)(k:Int):Option (Bool):=
 bif(((((M.af.Id (List.getD (M.ar.aH w) (Int.toNat k) M.af.zero)) !=(Go.IntKind.wrap Go.IntKind.i64 (k+(1:Int))))||(!((decide ((0:Int)<=(M.af.Prog (List.getD (M.ar.aH w) (Int.toNat k) M.af.zero))))&&(decide ((M.af.Prog (List.getD (M.ar.aH w) (Int.toNat k) M.af.zero))<=(Go.IntKind.wrap Go.IntKind.i64 (((List.length (M.ar.bp w)):Int)-(1:Int))))))))||(!((decide ((0:Int)<=(M.af.dI (List.getD (M.ar.aH w) (Int.toNat k) M.af.zero))))&&(decide ((M.af.dI (List.getD (M.ar.aH w) (Int.toNat k) M.af.zero))<=(Go.IntKind.wrap Go.IntKind.i64 ((M.af.Id (List.getD (M.ar.aH w) (Int.toNat k) M.af.zero))-(1:Int))))))))||(!((decide ((1:Int)<=(M.af.Status (List.getD (M.ar.aH w) (Int.toNat k) M.af.zero))))&&(decide ((M.af.Status (List.getD (M.ar.aH w) (Int.toNat k) M.af.zero))<=(5:Int))))))then
 bif((Go.V.inB k (List.length (M.ar.aH w)))&&true)then
 some false
 else
 none
 else
 let q0:=(!(M.af.cJ (List.getD (M.ar.aH w) (Int.toNat k) M.af.zero)))
 let q1:=(((!((decide ((0:Int)<=(M.af.PC (List.getD (M.ar.aH w) (Int.toNat k) M.af.zero))))&&(decide ((M.af.PC (List.getD (M.ar.aH w) (Int.toNat k) M.af.zero))<=((List.length (M.aD.Ops (List.getD (M.ar.bp w) (Int.toNat (M.af.Prog (List.getD (M.ar.aH w) (Int.toNat k) M.af.zero))) M.aD.zero))):Int)))))||(!((decide ((0:Int)<=(M.af.Result (List.getD (M.ar.aH w) (Int.toNat k) M.af.zero))))&&(decide ((M.af.Result (List.getD (M.ar.aH w) (Int.toNat k) M.af.zero))<=(999:Int))))))||(((M.af.Result (List.getD (M.ar.aH w) (Int.toNat k) M.af.zero)) !=(0:Int))&&q0))
 let q2:=(M.tJ w (List.getD (M.ar.aH w) (Int.toNat k) M.af.zero))
 bif(q1||(!(Option.getD q2 default)))then
 let q3:=(((Option.isSome q2)||(!(q1==false)))&&((Go.V.inB (M.af.Prog (List.getD (M.ar.aH w) (Int.toNat k) M.af.zero)) (List.length (M.ar.bp w)))&&((Go.V.inB k (List.length (M.ar.aH w)))&&true)))
 bif q3 then
 some false
 else
 none
 else
 bif((M.af.Told (List.getD (M.ar.aH w) (Int.toNat k) M.af.zero))&&(!(((M.af.cJ (List.getD (M.ar.aH w) (Int.toNat k) M.af.zero))||((M.af.Status (List.getD (M.ar.aH w) (Int.toNat k) M.af.zero))==(4:Int)))||((M.af.Status (List.getD (M.ar.aH w) (Int.toNat k) M.af.zero))==(5:Int)))))then
 let q3:=(((Option.isSome q2)||(!(q1==false)))&&((Go.V.inB (M.af.Prog (List.getD (M.ar.aH w) (Int.toNat k) M.af.zero)) (List.length (M.ar.bp w)))&&((Go.V.inB k (List.length (M.ar.aH w)))&&true)))
 bif q3 then
 some false
 else
 none
 else
 bif((M.af.Status (List.getD (M.ar.aH w) (Int.toNat k) M.af.zero))==(1:Int))then
 let q3:=(((Option.isSome q2)||(!(q1==false)))&&((Go.V.inB (M.af.Prog (List.getD (M.ar.aH w) (Int.toNat k) M.af.zero)) (List.length (M.ar.bp w)))&&((Go.V.inB k (List.length (M.ar.aH w)))&&true)))
 bif q3 then
 some (((((M.af.PC (List.getD (M.ar.aH w) (Int.toNat k) M.af.zero))==(0:Int))&&(((List.length (M.af.aZ (List.getD (M.ar.aH w) (Int.toNat k) M.af.zero))):Int)==(0:Int)))&&q0)&&(!(M.af.Asked (List.getD (M.ar.aH w) (Int.toNat k) M.af.zero))))
 else
 none
 else
 bif((M.af.Status (List.getD (M.ar.aH w) (Int.toNat k) M.af.zero))==(3:Int))then
 let q3:=(((Option.isSome q2)||(!(q1==false)))&&((Go.V.inB (M.af.Prog (List.getD (M.ar.aH w) (Int.toNat k) M.af.zero)) (List.length (M.ar.bp w)))&&((Go.V.inB k (List.length (M.ar.aH w)))&&true)))
 bif q3 then
 some ((M.af.cJ (List.getD (M.ar.aH w) (Int.toNat k) M.af.zero))&&((M.af.PC (List.getD (M.ar.aH w) (Int.toNat k) M.af.zero))==((List.length (M.aD.Ops (List.getD (M.ar.bp w) (Int.toNat (M.af.Prog (List.getD (M.ar.aH w) (Int.toNat k) M.af.zero))) M.aD.zero))):Int)))
 else
 none
 else
 let q3:=(((Option.isSome q2)||(!(q1==false)))&&((Go.V.inB (M.af.Prog (List.getD (M.ar.aH w) (Int.toNat k) M.af.zero)) (List.length (M.ar.bp w)))&&((Go.V.inB k (List.length (M.ar.aH w)))&&true)))
 bif q3 then
 some (((M.af.Status (List.getD (M.ar.aH w) (Int.toNat k) M.af.zero)) !=(4:Int))||q0)
 else
 none
def nQ(t33:Int)(w:M.ar):Nat->Int->Option ((Bool)⊕(M.ar))
 |0,_=>none
 |fuel+1,t34=>
 bif(decide (t34<t33))then
 let q0:=(M.tK w t34)
 bif(!(Option.getD q0 default))then
 bif((Option.isSome q0)&&true)then
 some (.inl false)
 else
 none
 else
 bif((Option.isSome q0)&&true)then
 M.nQ t33 w fuel (Go.IntKind.wrap Go.IntKind.i64 (t34+(1:Int)))
 else
 none
 else
 some ((.inr (w)))
def nR(t43:(List Int))(t44:Int)(w:M.ar):Nat->Int->Option ((Bool)⊕(Unit))
 |0,_=>none
 |fuel+1,t45=>
 bif(decide (t45<t44))then
 let q0:=(!((decide ((1:Int)<=(List.getD t43 (Int.toNat t45) (0:Int))))&&(decide ((List.getD t43 (Int.toNat t45) (0:Int))<=(6:Int)))))
 bif(q0||((decide ((0:Int)<t45))&&(decide ((List.getD t43 (Int.toNat t45) (0:Int))<=(List.getD (M.ar.Back w) (Int.toNat (Go.IntKind.wrap Go.IntKind.i64 (t45-(1:Int)))) (0:Int))))))then
 let q1:=(((Go.V.inB (Go.IntKind.wrap Go.IntKind.i64 (t45-(1:Int))) (List.length (M.ar.Back w)))||(!((q0==false)&&((decide ((0:Int)<t45))==true))))&&((Go.V.inB t45 (List.length t43))&&true))
 bif q1 then
 some (.inl false)
 else
 none
 else
 let q1:=(((Go.V.inB (Go.IntKind.wrap Go.IntKind.i64 (t45-(1:Int))) (List.length (M.ar.Back w)))||(!((q0==false)&&((decide ((0:Int)<t45))==true))))&&((Go.V.inB t45 (List.length t43))&&true))
 bif q1 then
 M.nR t43 t44 w fuel (Go.IntKind.wrap Go.IntKind.i64 (t45+(1:Int)))
 else
 none
 else
 some ((.inr (())))
def tM(w:M.ar):Option (Bool):=
 let q0:=(M.tA (M.ar.bp w))
 let q1:=(((!(Option.getD q0 default))||(decide ((4:Int)<((List.length (M.ar.bS w)):Int))))||(decide ((8:Int)<((List.length (M.ar.aH w)):Int))))
 let q2:=(M.tD (M.ar.Notes w))
 bif(q1||(!(Option.getD q2 default)))then
 let q3:=(((Option.isSome q2)||(!(q1==false)))&&((Option.isSome q0)&&true))
 bif q3 then
 some false
 else
 none
 else
 let q3:=(M.tH (M.ar.bS w))
 bif(Option.getD q3 default)then
 let q4:=(((Option.isSome q2)||(!(q1==false)))&&((Option.isSome q0)&&true))
 let q5:=((Option.isSome q3)&&q4)
 bif q5 then
 some false
 else
 none
 else
 match(M.nQ ((List.length (M.ar.aH w)):Int) w Go.V.al (0:Int))with
 |none=>none
 |some y4=>
 (match y4 with
 |.inl a5=>
 let q6:=(((Option.isSome q2)||(!(q1==false)))&&((Option.isSome q0)&&true))
 let q7:=((Option.isSome q3)&&q6)
 bif q7 then
 some a5
 else
 none
 |.inr b5=>
 match(M.nR (M.ar.Back b5) ((List.length (M.ar.Back b5)):Int) b5 Go.V.al (0:Int))with
 |none=>none
 |some y6=>
 (match y6 with
 |.inl a7=>
 let q8:=(((Option.isSome q2)||(!(q1==false)))&&((Option.isSome q0)&&true))
 let q9:=((Option.isSome q3)&&q8)
 bif q9 then
 some a7
 else
 none
 |.inr b7=>
 let q8:=(((Option.isSome q2)||(!(q1==false)))&&((Option.isSome q0)&&true))
 let q9:=((Option.isSome q3)&&q8)
 bif q9 then
 some true
 else
 none))
def yT(n:M.ay)(t1:Int):Option (Bool):=
 some ((M.ay.Task n) !=t1)
def pe(s:(List M.ay))(f:Int)(t7:Int):Nat->Int->Option ((Int)⊕(Unit))
 |0,_=>none
 |fuel+1,t8=>
 bif(decide (t8<t7))then
 bif((M.ay.Task (List.getD s (Int.toNat t8) M.ay.zero)) !=f)then
 bif((Go.V.inB t8 (List.length s))&&true)then
 some (.inl t8)
 else
 none
 else
 bif((Go.V.inB t8 (List.length s))&&true)then
 M.pe s f t7 fuel (Go.IntKind.wrap Go.IntKind.i64 (t8+(1:Int)))
 else
 none
 else
 some ((.inr (())))
def rE(s:(List M.ay))(f:Int):Option (Int):=
 match(M.pe s f ((List.length s):Int) Go.V.al (0:Int))with
 |none=>none
 |some y0=>
 (match y0 with
 |.inl a1=>
 some a1
 |.inr b1=>
 some (-(1:Int)))
def i6(o1:Int):Nat->Int->Int->(List M.ay)->Option (Int×Int×(List M.ay))
 |0,_,_,_=>none
 |fuel+1,i,j,s=>
 bif(decide (j<((List.length s):Int)))then
 bif(!((M.ay.Task (List.getD s (Int.toNat j) M.ay.zero)) !=o1))then
 bif((Go.V.inB i (List.length s))&&((Go.V.inB j (List.length s))&&true))then
 M.i6 o1 fuel (Go.IntKind.wrap Go.IntKind.i64 (i+(1:Int))) (Go.IntKind.wrap Go.IntKind.i64 (j+(1:Int))) (List.set s (Int.toNat i) (List.getD s (Int.toNat j) M.ay.zero))
 else
 none
 else
 bif((Go.V.inB j (List.length s))&&true)then
 M.i6 o1 fuel i (Go.IntKind.wrap Go.IntKind.i64 (j+(1:Int))) s
 else
 none
 else
 some ((i,o1,s))
def rF(s:(List M.ay))(o1:Int):Option (Int×(List M.ay)):=
 let q0:=(M.rE s o1)
 bif((Option.getD q0 default)==(-(1:Int)))then
 bif((Option.isSome q0)&&true)then
 some (o1,s)
 else
 none
 else
 match(M.i6 o1 Go.V.al (Option.getD q0 default) (Go.IntKind.wrap Go.IntKind.i64 ((Option.getD q0 default)+(1:Int))) s)with
 |none=>none
 |some y1=>
 let q2:=(Int.toNat ((List.length y1.2.2):Int))
 let q3:=(((List.take (Int.toNat y1.1) y1.2.2)++(List.replicate (q2-(Int.toNat y1.1)) (M.ay.mk (0:Int) (0:Int) (0:Int) (0:Int))))++(List.drop q2 y1.2.2))
 bif((Go.V.cu (0:Int) y1.1 (List.length q3))&&((decide (q2<=(List.length y1.2.2)))&&((Go.V.cu y1.1 ((List.length y1.2.2):Int) (List.length y1.2.2))&&((Option.isSome q0)&&true))))then
 some (y1.2.1,(List.take (Int.toNat y1.1) q3))
 else
 none
def pf(w:M.ar)(qn:Int):Option ((List M.ay)):=
 let q0:=(M.tM w)
 bif(!(Option.getD q0 default))then
 bif((Option.isSome q0)&&true)then
 some []
 else
 none
 else
 let q1:=(M.mP (M.ar.Notes w))
 let q2:=(M.rF (Option.getD q1 default) qn)
 bif((Option.isSome q2)&&((Option.isSome q1)&&((Option.isSome q0)&&true)))then
 some (Option.getD q2 default).2
 else
 none
def qk(a:(List M.ae))(b:(List M.ae)):Nat->Int->Option ((Bool)⊕(Unit))
 |0,_=>none
 |fuel+1,i=>
 bif(decide (i<((List.length a):Int)))then
 let q0:=(M.xe (M.ae.re (List.getD a (Int.toNat i) M.ae.zero)) (M.ae.re (List.getD b (Int.toNat i) M.ae.zero)))
 bif(!(Option.getD q0 default))then
 let q1:=((Option.isSome q0)&&((Go.V.inB i (List.length b))&&((Go.V.inB i (List.length a))&&true)))
 bif q1 then
 some (.inl false)
 else
 none
 else
 let q1:=((Option.isSome q0)&&((Go.V.inB i (List.length b))&&((Go.V.inB i (List.length a))&&true)))
 bif q1 then
 M.qk a b fuel (Go.IntKind.wrap Go.IntKind.i64 (i+(1:Int)))
 else
 none
 else
 some ((.inr (())))
def tN(a:(List M.ae))(b:(List M.ae)):Option (Bool):=
 bif(((List.length a):Int) !=((List.length b):Int))then
 some false
 else
 match(M.qk a b Go.V.al (0:Int))with
 |none=>none
 |some y0=>
 (match y0 with
 |.inl a1=>
 some a1
 |.inr b1=>
 some true)
def tO(a:M.ah)(b:M.ah):Option (Bool):=
 let q0:=(M.xN (M.aa.re (M.ah.bR a)) (M.aa.re (M.ah.bR b)))
 bif(!(Option.getD q0 default))then
 bif((Option.isSome q0)&&true)then
 some false
 else
 none
 else
 bif((M.ah.Room a) !=(M.ah.Room b))then
 bif((Option.isSome q0)&&true)then
 some false
 else
 none
 else
 bif(!((M.ah.db a)==(M.ah.db b)))then
 bif((Option.isSome q0)&&true)then
 some false
 else
 none
 else
 let q1:=(M.tN (M.ah.Buffer a) (M.ah.Buffer b))
 bif(!(Option.getD q1 default))then
 let q2:=((Option.isSome q1)&&((Option.isSome q0)&&true))
 bif q2 then
 some false
 else
 none
 else
 bif((M.ah.Put a) !=(M.ah.Put b))then
 let q2:=((Option.isSome q1)&&((Option.isSome q0)&&true))
 bif q2 then
 some false
 else
 none
 else
 bif((M.ah.dx a) !=(M.ah.dx b))then
 let q2:=((Option.isSome q1)&&((Option.isSome q0)&&true))
 bif q2 then
 some false
 else
 none
 else
 bif(!((M.ah.Shut a)==(M.ah.Shut b)))then
 let q2:=((Option.isSome q1)&&((Option.isSome q0)&&true))
 bif q2 then
 some false
 else
 none
 else
 bif(!((M.ah.Gone a)==(M.ah.Gone b)))then
 let q2:=((Option.isSome q1)&&((Option.isSome q0)&&true))
 bif q2 then
 some false
 else
 none
 else
 let q2:=((Option.isSome q1)&&((Option.isSome q0)&&true))
 bif q2 then
 some true
 else
 none
def ql(a:(List M.ah))(b:(List M.ah)):Nat->Int->Option ((Bool)⊕(Unit))
 |0,_=>none
 |fuel+1,i=>
 bif(decide (i<((List.length a):Int)))then
 let q0:=(M.tO (M.ah.re (List.getD a (Int.toNat i) M.ah.zero)) (M.ah.re (List.getD b (Int.toNat i) M.ah.zero)))
 bif(!(Option.getD q0 default))then
 let q1:=((Option.isSome q0)&&((Go.V.inB i (List.length b))&&((Go.V.inB i (List.length a))&&true)))
 bif q1 then
 some (.inl false)
 else
 none
 else
 let q1:=((Option.isSome q0)&&((Go.V.inB i (List.length b))&&((Go.V.inB i (List.length a))&&true)))
 bif q1 then
 M.ql a b fuel (Go.IntKind.wrap Go.IntKind.i64 (i+(1:Int)))
 else
 none
 else
 some ((.inr (())))
def tP(a:(List M.ah))(b:(List M.ah)):Option (Bool):=
 bif(((List.length a):Int) !=((List.length b):Int))then
 some false
 else
 match(M.ql a b Go.V.al (0:Int))with
 |none=>none
 |some y0=>
 (match y0 with
 |.inl a1=>
 some a1
 |.inr b1=>
 some true)
def tQ(a:M.ar)(b:M.ar):Option (Bool):=
 let q0:=(M.rR (M.ar.bp a) (M.ar.bp b))
 bif(!(Option.getD q0 default))then
 bif((Option.isSome q0)&&true)then
 some false
 else
 none
 else
 let q1:=(M.tP (M.ar.bS a) (M.ar.bS b))
 bif(!(Option.getD q1 default))then
 bif((Option.isSome q1)&&((Option.isSome q0)&&true))then
 some false
 else
 none
 else
 let q2:=(M.rT (M.ar.aH a) (M.ar.aH b))
 bif(!(Option.getD q2 default))then
 let q3:=((Option.isSome q2)&&((Option.isSome q1)&&((Option.isSome q0)&&true)))
 bif q3 then
 some false
 else
 none
 else
 let q3:=(M.lP (M.ar.Back a) (M.ar.Back b))
 bif(!(Option.getD q3 default))then
 let q4:=((Option.isSome q2)&&((Option.isSome q1)&&((Option.isSome q0)&&true)))
 let q5:=((Option.isSome q3)&&q4)
 bif q5 then
 some false
 else
 none
 else
 let q4:=(M.nb (M.ar.Notes a) (M.ar.Notes b))
 bif(!(Option.getD q4 default))then
 let q5:=((Option.isSome q2)&&((Option.isSome q1)&&((Option.isSome q0)&&true)))
 let q6:=((Option.isSome q3)&&q5)
 let q7:=((Option.isSome q4)&&q6)
 bif q7 then
 some false
 else
 none
 else
 let q5:=((Option.isSome q2)&&((Option.isSome q1)&&((Option.isSome q0)&&true)))
 let q6:=((Option.isSome q3)&&q5)
 let q7:=((Option.isSome q4)&&q6)
 bif q7 then
 some true
 else
 none
def o9:Nat->Int->Int->(List M.ah)->Option (Int×(List M.ah))
 |0,_,_,_=>none
 |fuel+1,k,i,a=>
 bif(decide (i<((List.length a):Int)))then
 let q0:=(List.set a (Int.toNat i) (M.ah.mk (M.aa.mk k (M.aa.Name (M.ah.bR (List.getD a (Int.toNat i) M.ah.zero))) (M.aa.bK (M.ah.bR (List.getD a (Int.toNat i) M.ah.zero))) (M.aa.Kids (M.ah.bR (List.getD a (Int.toNat i) M.ah.zero)))) (M.ah.Room (List.getD a (Int.toNat i) M.ah.zero)) (M.ah.db (List.getD a (Int.toNat i) M.ah.zero)) (M.ah.Buffer (List.getD a (Int.toNat i) M.ah.zero)) (M.ah.Put (List.getD a (Int.toNat i) M.ah.zero)) (M.ah.dx (List.getD a (Int.toNat i) M.ah.zero)) (M.ah.Shut (List.getD a (Int.toNat i) M.ah.zero)) (M.ah.Gone (List.getD a (Int.toNat i) M.ah.zero))))
 let q1:=(List.getD q0 (Int.toNat i) M.ah.zero)
 let q2:=(M.iC (Go.IntKind.wrap Go.IntKind.i64 (k+(1:Int))))
 let q3:=(List.set q0 (Int.toNat i) (M.ah.mk (M.aa.mk (M.aa.Kind (M.ah.bR q1)) (Option.getD q2 default) (M.aa.bK (M.ah.bR q1)) (M.aa.Kids (M.ah.bR q1))) (M.ah.Room q1) (M.ah.db q1) (M.ah.Buffer q1) (M.ah.Put q1) (M.ah.dx q1) (M.ah.Shut q1) (M.ah.Gone q1)))
 let q4:=(List.getD q3 (Int.toNat i) M.ah.zero)
 let q5:=(M.lK (Go.IntKind.wrap Go.IntKind.i64 ((Go.IntKind.wrap Go.IntKind.i64 (k+(1:Int)))+(1:Int))) (M.aa.bK (M.ah.bR q4)))
 let q6:=(Option.getD q5 default)
 let q7:=(List.set q3 (Int.toNat i) (M.ah.mk (M.aa.mk (M.aa.Kind (M.ah.bR q4)) (M.aa.Name (M.ah.bR q4)) q6.2 (M.aa.Kids (M.ah.bR q4))) (M.ah.Room q4) (M.ah.db q4) (M.ah.Buffer q4) (M.ah.Put q4) (M.ah.dx q4) (M.ah.Shut q4) (M.ah.Gone q4)))
 let q8:=(List.getD q7 (Int.toNat i) M.ah.zero)
 let q9:=(M.xa q6.1 (M.aa.Kids (M.ah.bR q8)))
 let q10:=(Option.getD q9 default)
 let q11:=(List.set q7 (Int.toNat i) (M.ah.mk (M.aa.mk (M.aa.Kind (M.ah.bR q8)) (M.aa.Name (M.ah.bR q8)) (M.aa.bK (M.ah.bR q8)) q10.2) (M.ah.Room q8) (M.ah.db q8) (M.ah.Buffer q8) (M.ah.Put q8) (M.ah.dx q8) (M.ah.Shut q8) (M.ah.Gone q8)))
 let q12:=(List.getD q11 (Int.toNat i) M.ah.zero)
 let q13:=q10.1
 let dy:=(List.set q11 (Int.toNat i) (M.ah.mk (M.aa.re (M.ah.bR q12)) q13 (M.ah.db q12) (M.ah.Buffer q12) (M.ah.Put q12) (M.ah.dx q12) (M.ah.Shut q12) (M.ah.Gone q12)))
 let hQ:=(List.getD dy (Int.toNat i) M.ah.zero)
 let q16:=(Go.IntKind.wrap Go.IntKind.i64 (q13+(1:Int)))
 let eg:=(List.set dy (Int.toNat i) (M.ah.mk (M.aa.re (M.ah.bR hQ)) (M.ah.Room hQ) ((Int.tmod q16 (3:Int))==(0:Int)) (M.ah.Buffer hQ) (M.ah.Put hQ) (M.ah.dx hQ) (M.ah.Shut hQ) (M.ah.Gone hQ)))
 let dr:=(List.getD eg (Int.toNat i) M.ah.zero)
 let ja:=(M.xb (Go.IntKind.wrap Go.IntKind.i64 (q16+(1:Int))) (M.ah.Buffer dr))
 let eF:=(Option.getD ja default)
 let jb:=(List.set eg (Int.toNat i) (M.ah.mk (M.aa.re (M.ah.bR dr)) (M.ah.Room dr) (M.ah.db dr) eF.2 (M.ah.Put dr) (M.ah.dx dr) (M.ah.Shut dr) (M.ah.Gone dr)))
 let q22:=(List.getD jb (Int.toNat i) M.ah.zero)
 let q23:=eF.1
 let q24:=(List.set jb (Int.toNat i) (M.ah.mk (M.aa.re (M.ah.bR q22)) (M.ah.Room q22) (M.ah.db q22) (M.ah.Buffer q22) q23 (M.ah.dx q22) (M.ah.Shut q22) (M.ah.Gone q22)))
 let eG:=(List.getD q24 (Int.toNat i) M.ah.zero)
 let gp:=(Go.IntKind.wrap Go.IntKind.i64 (q23+(1:Int)))
 let fG:=(List.set q24 (Int.toNat i) (M.ah.mk (M.aa.re (M.ah.bR eG)) (M.ah.Room eG) (M.ah.db eG) (M.ah.Buffer eG) (M.ah.Put eG) gp (M.ah.Shut eG) (M.ah.Gone eG)))
 let dJ:=(List.getD fG (Int.toNat i) M.ah.zero)
 let hU:=(Go.IntKind.wrap Go.IntKind.i64 (gp+(1:Int)))
 let q30:=(List.set fG (Int.toNat i) (M.ah.mk (M.aa.re (M.ah.bR dJ)) (M.ah.Room dJ) (M.ah.db dJ) (M.ah.Buffer dJ) (M.ah.Put dJ) (M.ah.dx dJ) ((Int.tmod hU (3:Int))==(0:Int)) (M.ah.Gone dJ)))
 bif((Go.V.inB i (List.length q30))&&(((3:Int) !=(0:Int))&&((Go.V.inB i (List.length fG))&&(((3:Int) !=(0:Int))&&((Go.V.inB i (List.length q24))&&((Go.V.inB i (List.length jb))&&(((Option.isSome ja)&&true)&&((Go.V.inB i (List.length eg))&&((Go.V.inB i (List.length dy))&&(((3:Int) !=(0:Int))&&((Go.V.inB i (List.length q11))&&(((Option.isSome q9)&&true)&&((Go.V.inB i (List.length q7))&&(((Option.isSome q5)&&true)&&((Go.V.inB i (List.length q3))&&((Go.V.inB i (List.length q0))&&(((Option.isSome q2)&&true)&&((Go.V.inB i (List.length a))&&true))))))))))))))))))then
 let nU:=(Go.IntKind.wrap Go.IntKind.i64 (hU+(1:Int)))
 let q32:=(List.getD q30 (Int.toNat i) M.ah.zero)
 M.o9 fuel (Go.IntKind.wrap Go.IntKind.i64 (nU+(1:Int))) (Go.IntKind.wrap Go.IntKind.i64 (i+(1:Int))) (List.set q30 (Int.toNat i) (M.ah.mk (M.aa.re (M.ah.bR q32)) (M.ah.Room q32) (M.ah.db q32) (M.ah.Buffer q32) (M.ah.Put q32) (M.ah.dx q32) (M.ah.Shut q32) ((Int.tmod nU (3:Int))==(0:Int))))
 else
 none
 else
 some ((k,a))
def rx(k:Int)(a:(List M.ah)):Option (Int×(List M.ah)):=
 match(M.o9 Go.V.al k (0:Int) a)with
 |none=>none
 |some y0=>
 some (y0.1,y0.2)
def rD(k:Int)(o0:(List M.aD))(o1:(List M.ah))(o2:(List M.af))(o3:(List Int))(o4:(List M.ay)):Option (Int×(List M.aD)×(List M.ah)×(List M.af)×(List Int)×(List M.ay)):=
 let q0:=(M.ru k o0)
 let q1:=(M.rx (Option.getD q0 default).1 o1)
 let q2:=(Option.getD q1 default)
 let q3:=(M.ry q2.1 o2)
 let q4:=(Option.getD q3 default)
 let q5:=(M.lM q4.1 o3)
 let q6:=(Option.getD q5 default)
 let q7:=(M.mV q6.1 o4)
 bif(((Option.isSome q7)&&true)&&(((Option.isSome q5)&&true)&&(((Option.isSome q3)&&true)&&(((Option.isSome q1)&&true)&&(((Option.isSome q0)&&true)&&true)))))then
 let q8:=(Option.getD q7 default)
 some (q8.1,(Option.getD q0 default).2,q2.2,q4.2,q6.2,q8.2)
 else
 none
def rG(aW:M.ar)(OZ:Int):Option (Bool):=
 let q0:=(M.tc aW (1048576:Int))
 bif(decide ((Option.getD q0 default)<(0:Int)))then
 bif((Option.isSome q0)&&true)then
 some true
 else
 none
 else
 let q1:=(M.tj aW)
 let q2:=(Option.getD q1 default)
 let q3:=q2.1
 let q4:=q2.2
 let q5:=q4.1
 let q6:=q4.2
 let q7:=q6.1
 let q8:=q6.2
 let q9:=q8.1
 let q10:=q8.2
 let q11:=(M.pf (M.ar.mk q3 q5 q7 q9 q10) OZ)
 let q12:=(Option.getD q11 default)
 let q13:=(M.pg (M.ar.mk q3 q5 q7 q9 q10) OZ)
 let dy:=(M.nb q12 (Option.getD q13 default))
 let hQ:=(!(Option.getD dy default))
 bif hQ then
 let q16:=(Option.isSome dy)
 let eg:=(Option.isSome q11)
 let dr:=(q16&&(eg&&((Option.isSome q1)&&((Option.isSome q13)&&((Option.isSome q1)&&((Option.isSome q0)&&true))))))
 bif dr then
 some false
 else
 none
 else
 let q16:=(M.tQ (M.ar.mk q3 q5 q7 q9 q10) (M.ar.mk q3 q5 q7 q9 q10))
 bif(!(Option.getD q16 default))then
 let eg:=(Option.isSome dy)
 let dr:=(Option.isSome q11)
 let ja:=(eg&&(dr&&((Option.isSome q1)&&((Option.isSome q13)&&((Option.isSome q1)&&((Option.isSome q0)&&true))))))
 let eF:=((Option.isSome q16)&&((Option.isSome q1)&&ja))
 bif eF then
 some false
 else
 none
 else
 let eg:=(M.rD (1:Int) q3 q5 q7 q9 q10)
 bif((decide ((Option.getD eg default).1<(0:Int)))||hQ)then
 let dr:=(Option.isSome dy)
 let ja:=(Option.isSome q11)
 let eF:=(dr&&(ja&&((Option.isSome q1)&&((Option.isSome q13)&&((Option.isSome q1)&&((Option.isSome q0)&&true))))))
 let jb:=((Option.isSome q16)&&((Option.isSome q1)&&eF))
 let q22:=((dr||(!((decide ((Option.getD eg default).1<(0:Int)))==false)))&&((Option.isSome eg)&&jb))
 bif q22 then
 some false
 else
 none
 else
 let dr:=(M.mV (1:Int) q12)
 let ja:=(Option.getD dr default)
 let eF:=(M.rA ja.2 (1:Int))
 let jb:=(Option.getD eF default)
 bif(decide (jb<(0:Int)))then
 let q22:=(Option.isSome eF)
 let q23:=(Option.isSome dy)
 let q24:=(Option.isSome q11)
 let eG:=(q23&&(q24&&((Option.isSome q1)&&((Option.isSome q13)&&((Option.isSome q1)&&((Option.isSome q0)&&true))))))
 let gp:=((Option.isSome q16)&&((Option.isSome q1)&&eG))
 let fG:=((q23||(!((decide ((Option.getD eg default).1<(0:Int)))==false)))&&((Option.isSome eg)&&gp))
 let dJ:=(q22&&((Option.isSome dr)&&fG))
 bif dJ then
 some false
 else
 none
 else
 let q22:=(jb !=ja.1)
 bif q22 then
 let q23:=(Option.isSome eF)
 let q24:=(Option.isSome dy)
 let eG:=(Option.isSome q11)
 let gp:=(q24&&(eG&&((Option.isSome q1)&&((Option.isSome q13)&&((Option.isSome q1)&&((Option.isSome q0)&&true))))))
 let fG:=((Option.isSome q16)&&((Option.isSome q1)&&gp))
 let dJ:=((q24||(!((decide ((Option.getD eg default).1<(0:Int)))==false)))&&((Option.isSome eg)&&fG))
 let hU:=(q23&&((Option.isSome dr)&&dJ))
 bif hU then
 some false
 else
 none
 else
 bif hQ then
 let q23:=(Option.isSome dy)
 let q24:=(Option.isSome q11)
 let eG:=(Option.isSome eF)
 let gp:=(q23&&(q24&&((Option.isSome q1)&&((Option.isSome q13)&&((Option.isSome q1)&&((Option.isSome q0)&&true))))))
 let fG:=((Option.isSome q16)&&((Option.isSome q1)&&gp))
 let dJ:=((q23||(!((decide ((Option.getD eg default).1<(0:Int)))==false)))&&((Option.isSome eg)&&fG))
 let hU:=(eG&&((Option.isSome dr)&&dJ))
 let q30:=(q23&&(q24&&((Option.isSome q1)&&hU)))
 bif q30 then
 some false
 else
 none
 else
 bif(decide (jb<(0:Int)))then
 let q23:=(Option.isSome eF)
 let q24:=(Option.isSome dy)
 let eG:=(Option.isSome q11)
 let gp:=(q24&&(eG&&((Option.isSome q1)&&((Option.isSome q13)&&((Option.isSome q1)&&((Option.isSome q0)&&true))))))
 let fG:=((Option.isSome q16)&&((Option.isSome q1)&&gp))
 let dJ:=((q24||(!((decide ((Option.getD eg default).1<(0:Int)))==false)))&&((Option.isSome eg)&&fG))
 let hU:=(q23&&((Option.isSome dr)&&dJ))
 let q30:=(q24&&(eG&&((Option.isSome q1)&&hU)))
 let nU:=(q23&&q30)
 bif nU then
 some false
 else
 none
 else
 bif q22 then
 let q23:=(Option.isSome eF)
 let q24:=(Option.isSome dy)
 let eG:=(Option.isSome q11)
 let gp:=(q24&&(eG&&((Option.isSome q1)&&((Option.isSome q13)&&((Option.isSome q1)&&((Option.isSome q0)&&true))))))
 let fG:=((Option.isSome q16)&&((Option.isSome q1)&&gp))
 let dJ:=((q24||(!((decide ((Option.getD eg default).1<(0:Int)))==false)))&&((Option.isSome eg)&&fG))
 let hU:=(q23&&((Option.isSome dr)&&dJ))
 let q30:=(q24&&(eG&&((Option.isSome q1)&&hU)))
 let nU:=(q23&&q30)
 bif nU then
 some false
 else
 none
 else
 let q23:=(Option.isSome eF)
 let q24:=(Option.isSome dy)
 let eG:=(Option.isSome q11)
 let gp:=(q24&&(eG&&((Option.isSome q1)&&((Option.isSome q13)&&((Option.isSome q1)&&((Option.isSome q0)&&true))))))
 let fG:=((Option.isSome q16)&&((Option.isSome q1)&&gp))
 let dJ:=((q24||(!((decide ((Option.getD eg default).1<(0:Int)))==false)))&&((Option.isSome eg)&&fG))
 let hU:=(q23&&((Option.isSome dr)&&dJ))
 let q30:=(q24&&(eG&&((Option.isSome q1)&&hU)))
 let nU:=(q23&&q30)
 bif nU then
 some true
 else
 none
end M
