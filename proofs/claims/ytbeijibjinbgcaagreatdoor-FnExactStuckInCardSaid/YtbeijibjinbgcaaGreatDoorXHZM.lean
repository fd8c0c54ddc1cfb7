/-
  Part of the proof of the claim.
-/
import Derived.Test.YtbeijibjinbgcaaGreatDoorXHdata
import Derived.Test.YtbeijibjinbgcaaGreatDoorXHhandA
set_option linter.unusedVariables false
set_option maxRecDepth 100000
noncomputable section
namespace M
def rz(cZ:M.af->M.af->Option (Bool))(a:(List M.af))(b:(List M.af)):Nat->Int->Option ((Bool)⊕(Unit))
 |0,_=>none
 |fuel+1,i=>
 bif(decide (i<((List.length a):Int)))then
 bif(!(Option.getD (cZ (M.af.re (List.getD a (Int.toNat i) M.af.zero)) (M.af.re (List.getD b (Int.toNat i) M.af.zero))) default))then
 let q0:=((Option.isSome (cZ (M.af.re (List.getD a (Int.toNat i) M.af.zero)) (M.af.re (List.getD b (Int.toNat i) M.af.zero))))&&((Go.V.inB i (List.length b))&&((Go.V.inB i (List.length a))&&true)))
 bif q0 then
 some (.inl false)
 else
 none
 else
 let q0:=((Option.isSome (cZ (M.af.re (List.getD a (Int.toNat i) M.af.zero)) (M.af.re (List.getD b (Int.toNat i) M.af.zero))))&&((Go.V.inB i (List.length b))&&((Go.V.inB i (List.length a))&&true)))
 bif q0 then
 M.rz cZ a b fuel (Go.IntKind.wrap Go.IntKind.i64 (i+(1:Int)))
 else
 none
 else
 some ((.inr (())))
def uN(cZ:M.af->M.af->Option (Bool))(a:(List M.af))(b:(List M.af)):Option (Bool):=
 bif(((List.length a):Int) !=((List.length b):Int))then
 some false
 else
 match(M.rz cZ a b Go.V.an (0:Int))with
 |none=>none
 |some y0=>
 (match y0 with
 |.inl a1=>
 some a1
 |.inr b1=>
 some true)
def xO(cZ:M.af->M.af->Option (Bool))(a:M.af)(b:M.af):Option (Bool):=
 bif((M.af.Kind a) !=(M.af.Kind b))then
 some false
 else
 bif((M.af.Num a) !=(M.af.Num b))then
 some false
 else
 bif(!((M.af.Text a)==(M.af.Text b)))then
 some false
 else
 let q0:=(M.uN cZ (M.af.Kids a) (M.af.Kids b))
 bif(!(Option.getD q0 default))then
 bif((Option.isSome q0)&&true)then
 some false
 else
 none
 else
 bif((Option.isSome q0)&&true)then
 some true
 else
 none
def rA:Nat->M.af->M.af->Option (Bool)
 |0=>fun _ _=>none
 |n+1=>xO (rA n)
def zY:M.af->M.af->Option (Bool):=rA Go.V.an
def uO(a:(List M.aw))(left:Int):Option (Int):=
 bif(decide ((Go.IntKind.wrap Go.IntKind.i64 (left-((List.length a):Int)))<(0:Int)))then
 some (-(1:Int))
 else
 some (Go.IntKind.wrap Go.IntKind.i64 (left-((List.length a):Int)))
def uP(a:M.ar)(left:Int):Option (Int):=
 let q0:=(M.uO (M.ar.Ops a) left)
 bif(decide ((Option.getD q0 default)<(0:Int)))then
 bif((Option.isSome q0)&&true)then
 some (-(1:Int))
 else
 none
 else
 bif((Option.isSome q0)&&true)then
 some (Option.getD q0 default)
 else
 none
def rB(a:(List M.ar)):Nat->Int->Int->Option ((Int)⊕(Int))
 |0,_,_=>none
 |fuel+1,left,i=>
 bif(decide (i<((List.length a):Int)))then
 let q0:=(M.uP (List.getD a (Int.toNat i) M.ar.zero) left)
 let q1:=(Option.getD q0 default)
 bif(decide (q1<(0:Int)))then
 let q2:=((Option.isSome q0)&&((Go.V.inB i (List.length a))&&true))
 bif q2 then
 some (.inl (-(1:Int)))
 else
 none
 else
 let q2:=((Option.isSome q0)&&((Go.V.inB i (List.length a))&&true))
 bif q2 then
 M.rB a fuel q1 (Go.IntKind.wrap Go.IntKind.i64 (i+(1:Int)))
 else
 none
 else
 some ((.inr (left)))
def uQ(a:(List M.ar))(left:Int):Option (Int):=
 bif(decide ((Go.IntKind.wrap Go.IntKind.i64 (left-((List.length a):Int)))<(0:Int)))then
 some (-(1:Int))
 else
 match(M.rB a Go.V.an (Go.IntKind.wrap Go.IntKind.i64 (left-((List.length a):Int))) (0:Int))with
 |none=>none
 |some y0=>
 (match y0 with
 |.inl a1=>
 some a1
 |.inr b1=>
 some b1)
def xP(a:M.aw):Option (M.aw):=
 some a
def pC(a:(List M.aw)):Nat->Int->(List M.aw)->Option ((List M.aw))
 |0,_,_=>none
 |fuel+1,i,out=>
 bif(decide (i<((List.length a):Int)))then
 bif((Go.V.inB i (List.length out))&&((Go.V.inB i (List.length a))&&true))then
 M.pC a fuel (Go.IntKind.wrap Go.IntKind.i64 (i+(1:Int))) (List.set out (Int.toNat i) (List.getD a (Int.toNat i) M.aw.zero))
 else
 none
 else
 some (out)
def uR(a:(List M.aw)):Option ((List M.aw)):=
 match(M.pC a Go.V.an (0:Int) (List.replicate (Int.toNat ((List.length a):Int)) (M.aw.mk (0:Int) (0:Int) (0:Int))))with
 |none=>none
 |some y0=>
 bif(((decide (((List.length a):Int)<=((List.length a):Int)))&&(decide (((List.length a):Int)<=(1073741824:Int))))&&true)then
 some y0
 else
 none
def uS(a:M.ar):Option (Int×(List M.aw)):=
 let q0:=(M.uR (M.ar.Ops a))
 bif((Option.isSome q0)&&true)then
 some ((M.ar.dQ a),(Option.getD q0 default))
 else
 none
def pD(a:(List M.ar)):Nat->Int->(List M.ar)->Option ((List M.ar))
 |0,_,_=>none
 |fuel+1,i,out=>
 bif(decide (i<((List.length a):Int)))then
 let q0:=(M.uS (List.getD a (Int.toNat i) M.ar.zero))
 bif((Go.V.inB i (List.length out))&&((Option.isSome q0)&&((Go.V.inB i (List.length a))&&true)))then
 let q1:=(Option.getD q0 default)
 M.pD a fuel (Go.IntKind.wrap Go.IntKind.i64 (i+(1:Int))) (List.set out (Int.toNat i) (M.ar.mk q1.1 q1.2))
 else
 none
 else
 some (out)
def uT(a:(List M.ar)):Option ((List M.ar)):=
 match(M.pD a Go.V.an (0:Int) (List.replicate (Int.toNat ((List.length a):Int)) (M.ar.mk (0:Int) [])))with
 |none=>none
 |some y0=>
 bif(((decide (((List.length a):Int)<=((List.length a):Int)))&&(decide (((List.length a):Int)<=(1073741824:Int))))&&true)then
 some y0
 else
 none
def pE(a:(List Int)):Nat->Int->(List Int)->Option ((List Int))
 |0,_,_=>none
 |fuel+1,i,out=>
 bif(decide (i<((List.length a):Int)))then
 bif((Go.V.inB i (List.length out))&&((Go.V.inB i (List.length a))&&true))then
 M.pE a fuel (Go.IntKind.wrap Go.IntKind.i64 (i+(1:Int))) (List.set out (Int.toNat i) (List.getD a (Int.toNat i) (0:Int)))
 else
 none
 else
 some (out)
def m5(a:(List Int)):Option ((List Int)):=
 match(M.pE a Go.V.an (0:Int) (List.replicate (Int.toNat ((List.length a):Int)) (0:Int)))with
 |none=>none
 |some y0=>
 bif(((decide (((List.length a):Int)<=((List.length a):Int)))&&(decide (((List.length a):Int)<=(1073741824:Int))))&&true)then
 some y0
 else
 none
def qE(list:(List M.ar)):Nat->Int->(List M.ar)->Option ((List M.ar))
 |0,_,_=>none
 |fuel+1,i,out=>
 bif(decide (i<((List.length list):Int)))then
 let q0:=[(M.ar.mk (M.ar.dQ (List.getD list (Int.toNat i) M.ar.zero)) ([]++(M.ar.Ops (List.getD list (Int.toNat i) M.ar.zero))))]
 bif((decide (((List.length out)+(List.length q0))<=1073741824))&&((decide ((0+(List.length (M.ar.Ops (List.getD list (Int.toNat i) M.ar.zero))))<=1073741824))&&((Go.V.inB i (List.length list))&&((Go.V.inB i (List.length list))&&true))))then
 M.qE list fuel (Go.IntKind.wrap Go.IntKind.i64 (i+(1:Int))) (out++q0)
 else
 none
 else
 some (out)
def tB(list:(List M.ar)):Option ((List M.ar)):=
 match(M.qE list Go.V.an (0:Int) [])with
 |none=>none
 |some y0=>
 some y0
def xR(list:(List M.ar)):Option (Int):=
 some ((List.length list):Int)
def uU(a:M.aw)(b:M.aw):Option (Bool):=
 bif((M.aw.Kind a) !=(M.aw.Kind b))then
 some false
 else
 bif((M.aw.A a) !=(M.aw.A b))then
 some false
 else
 bif((M.aw.B a) !=(M.aw.B b))then
 some false
 else
 some true
def rC(a:(List M.aw))(b:(List M.aw)):Nat->Int->Option ((Bool)⊕(Unit))
 |0,_=>none
 |fuel+1,i=>
 bif(decide (i<((List.length a):Int)))then
 let q0:=(M.uU (List.getD a (Int.toNat i) M.aw.zero) (List.getD b (Int.toNat i) M.aw.zero))
 bif(!(Option.getD q0 default))then
 let q1:=((Option.isSome q0)&&((Go.V.inB i (List.length b))&&((Go.V.inB i (List.length a))&&true)))
 bif q1 then
 some (.inl false)
 else
 none
 else
 let q1:=((Option.isSome q0)&&((Go.V.inB i (List.length b))&&((Go.V.inB i (List.length a))&&true)))
 bif q1 then
 M.rC a b fuel (Go.IntKind.wrap Go.IntKind.i64 (i+(1:Int)))
 else
 none
 else
 some ((.inr (())))
def uV(a:(List M.aw))(b:(List M.aw)):Option (Bool):=
 bif(((List.length a):Int) !=((List.length b):Int))then
 some false
 else
 match(M.rC a b Go.V.an (0:Int))with
 |none=>none
 |some y0=>
 (match y0 with
 |.inl a1=>
 some a1
 |.inr b1=>
 some true)
def uW(a:M.ar)(b:M.ar):Option (Bool):=
 bif((M.ar.dQ a) !=(M.ar.dQ b))then
 some false
 else
 let q0:=(M.uV (M.ar.Ops a) (M.ar.Ops b))
 bif(!(Option.getD q0 default))then
 bif((Option.isSome q0)&&true)then
 some false
 else
 none
 else
 bif((Option.isSome q0)&&true)then
 some true
 else
 none
def rD(a:(List M.ar))(b:(List M.ar)):Nat->Int->Option ((Bool)⊕(Unit))
 |0,_=>none
 |fuel+1,i=>
 bif(decide (i<((List.length a):Int)))then
 let q0:=(M.uW (List.getD a (Int.toNat i) M.ar.zero) (List.getD b (Int.toNat i) M.ar.zero))
 bif(!(Option.getD q0 default))then
 let q1:=((Option.isSome q0)&&((Go.V.inB i (List.length b))&&((Go.V.inB i (List.length a))&&true)))
 bif q1 then
 some (.inl false)
 else
 none
 else
 let q1:=((Option.isSome q0)&&((Go.V.inB i (List.length b))&&((Go.V.inB i (List.length a))&&true)))
 bif q1 then
 M.rD a b fuel (Go.IntKind.wrap Go.IntKind.i64 (i+(1:Int)))
 else
 none
 else
 some ((.inr (())))
def uX(a:(List M.ar))(b:(List M.ar)):Option (Bool):=
 bif(((List.length a):Int) !=((List.length b):Int))then
 some false
 else
 match(M.rD a b Go.V.an (0:Int))with
 |none=>none
 |some y0=>
 (match y0 with
 |.inl a1=>
 some a1
 |.inr b1=>
 some true)
def rE(a:(List Int))(b:(List Int)):Nat->Int->Option ((Bool)⊕(Unit))
 |0,_=>none
 |fuel+1,i=>
 bif(decide (i<((List.length a):Int)))then
 bif((List.getD a (Int.toNat i) (0:Int)) !=(List.getD b (Int.toNat i) (0:Int)))then
 let q0:=((Go.V.inB i (List.length b))&&((Go.V.inB i (List.length a))&&true))
 bif q0 then
 some (.inl false)
 else
 none
 else
 let q0:=((Go.V.inB i (List.length b))&&((Go.V.inB i (List.length a))&&true))
 bif q0 then
 M.rE a b fuel (Go.IntKind.wrap Go.IntKind.i64 (i+(1:Int)))
 else
 none
 else
 some ((.inr (())))
def m6(a:(List Int))(b:(List Int)):Option (Bool):=
 bif(((List.length a):Int) !=((List.length b):Int))then
 some false
 else
 match(M.rE a b Go.V.an (0:Int))with
 |none=>none
 |some y0=>
 (match y0 with
 |.inl a1=>
 some a1
 |.inr b1=>
 some true)
def uY(a:M.ad)(b:M.ad):Option (Bool):=
 bif((M.ad.Id a) !=(M.ad.Id b))then
 some false
 else
 bif((M.ad.Prog a) !=(M.ad.Prog b))then
 some false
 else
 bif((M.ad.PC a) !=(M.ad.PC b))then
 some false
 else
 bif((M.ad.dy a) !=(M.ad.dy b))then
 some false
 else
 bif((M.ad.Status a) !=(M.ad.Status b))then
 some false
 else
 bif((M.ad.Result a) !=(M.ad.Result b))then
 some false
 else
 bif(!((M.ad.bU a)==(M.ad.bU b)))then
 some false
 else
 bif(!((M.ad.Asked a)==(M.ad.Asked b)))then
 some false
 else
 bif(!((M.ad.Told a)==(M.ad.Told b)))then
 some false
 else
 let q0:=(M.m6 (M.ad.bg a) (M.ad.bg b))
 bif(!(Option.getD q0 default))then
 bif((Option.isSome q0)&&true)then
 some false
 else
 none
 else
 let q1:=(M.m6 (M.ad.Set a) (M.ad.Set b))
 bif(!(Option.getD q1 default))then
 bif((Option.isSome q1)&&((Option.isSome q0)&&true))then
 some false
 else
 none
 else
 bif((Option.isSome q1)&&((Option.isSome q0)&&true))then
 some true
 else
 none
def rF(a:(List M.ad))(b:(List M.ad)):Nat->Int->Option ((Bool)⊕(Unit))
 |0,_=>none
 |fuel+1,i=>
 bif(decide (i<((List.length a):Int)))then
 let q0:=(M.uY (List.getD a (Int.toNat i) M.ad.zero) (List.getD b (Int.toNat i) M.ad.zero))
 bif(!(Option.getD q0 default))then
 let q1:=((Option.isSome q0)&&((Go.V.inB i (List.length b))&&((Go.V.inB i (List.length a))&&true)))
 bif q1 then
 some (.inl false)
 else
 none
 else
 let q1:=((Option.isSome q0)&&((Go.V.inB i (List.length b))&&((Go.V.inB i (List.length a))&&true)))
 bif q1 then
 M.rF a b fuel (Go.IntKind.wrap Go.IntKind.i64 (i+(1:Int)))
 else
 none
 else
 some ((.inr (())))
def uZ(a:(List M.ad))(b:(List M.ad)):Option (Bool):=
 bif(((List.length a):Int) !=((List.length b):Int))then
 some false
 else
 match(M.rF a b Go.V.an (0:Int))with
 |none=>none
 |some y0=>
 (match y0 with
 |.inl a1=>
 some a1
 |.inr b1=>
 some true)
def u0(a:M.az)(b:M.az):Option (Bool):=
 bif((M.az.Task a) !=(M.az.Task b))then
 some false
 else
 bif((M.az.Kind a) !=(M.az.Kind b))then
 some false
 else
 bif((M.az.A a) !=(M.az.A b))then
 some false
 else
 bif((M.az.B a) !=(M.az.B b))then
 some false
 else
 some true
def rG(a:(List M.az))(b:(List M.az)):Nat->Int->Option ((Bool)⊕(Unit))
 |0,_=>none
 |fuel+1,i=>
 bif(decide (i<((List.length a):Int)))then
 let q0:=(M.u0 (List.getD a (Int.toNat i) M.az.zero) (List.getD b (Int.toNat i) M.az.zero))
 bif(!(Option.getD q0 default))then
 let q1:=((Option.isSome q0)&&((Go.V.inB i (List.length b))&&((Go.V.inB i (List.length a))&&true)))
 bif q1 then
 some (.inl false)
 else
 none
 else
 let q1:=((Option.isSome q0)&&((Go.V.inB i (List.length b))&&((Go.V.inB i (List.length a))&&true)))
 bif q1 then
 M.rG a b fuel (Go.IntKind.wrap Go.IntKind.i64 (i+(1:Int)))
 else
 none
 else
 some ((.inr (())))
def u3(a:(List M.az))(b:(List M.az)):Option (Bool):=
 bif(((List.length a):Int) !=((List.length b):Int))then
 some false
 else
 match(M.rG a b Go.V.an (0:Int))with
 |none=>none
 |some y0=>
 (match y0 with
 |.inl a1=>
 some a1
 |.inr b1=>
 some true)
def amh:Nat->Int->Int->(List M.aw)->Option (Int×(List M.aw))
 |0,_,_,_=>none
 |fuel+1,k,i,a=>
 bif(decide (i<((List.length a):Int)))then
 let q0:=(List.set a (Int.toNat i) (M.aw.mk k (M.aw.A (List.getD a (Int.toNat i) M.aw.zero)) (M.aw.B (List.getD a (Int.toNat i) M.aw.zero))))
 let q1:=(List.getD q0 (Int.toNat i) M.aw.zero)
 let q2:=(List.set q0 (Int.toNat i) (M.aw.mk (M.aw.Kind q1) (Go.IntKind.wrap Go.IntKind.i64 (k+(1:Int))) (M.aw.B q1)))
 bif((Go.V.inB i (List.length q2))&&((Go.V.inB i (List.length q0))&&((Go.V.inB i (List.length a))&&true)))then
 let q3:=(Go.IntKind.wrap Go.IntKind.i64 ((Go.IntKind.wrap Go.IntKind.i64 (k+(1:Int)))+(1:Int)))
 let q4:=(List.getD q2 (Int.toNat i) M.aw.zero)
 M.amh fuel (Go.IntKind.wrap Go.IntKind.i64 (q3+(1:Int))) (Go.IntKind.wrap Go.IntKind.i64 (i+(1:Int))) (List.set q2 (Int.toNat i) (M.aw.mk (M.aw.Kind q4) (M.aw.A q4) q3))
 else
 none
 else
 some ((k,a))
def amr(k:Int)(a:(List M.aw)):Option (Int×(List M.aw)):=
 match(M.amh Go.V.an k (0:Int) a)with
 |none=>none
 |some y0=>
 some (y0.1,y0.2)
def ami:Nat->Int->Int->(List M.ar)->Option (Int×(List M.ar))
 |0,_,_,_=>none
 |fuel+1,k,i,a=>
 bif(decide (i<((List.length a):Int)))then
 let q0:=(List.set a (Int.toNat i) (M.ar.mk k (M.ar.Ops (List.getD a (Int.toNat i) M.ar.zero))))
 let q1:=(List.getD q0 (Int.toNat i) M.ar.zero)
 let q2:=(M.amr (Go.IntKind.wrap Go.IntKind.i64 (k+(1:Int))) (M.ar.Ops q1))
 bif(((Option.isSome q2)&&true)&&((Go.V.inB i (List.length q0))&&((Go.V.inB i (List.length a))&&true)))then
 let q3:=(Option.getD q2 default)
 M.ami fuel q3.1 (Go.IntKind.wrap Go.IntKind.i64 (i+(1:Int))) (List.set q0 (Int.toNat i) (M.ar.mk (M.ar.dQ q1) q3.2))
 else
 none
 else
 some ((k,a))
def ams(k:Int)(a:(List M.ar)):Option (Int×(List M.ar)):=
 match(M.ami Go.V.an k (0:Int) a)with
 |none=>none
 |some y0=>
 some (y0.1,y0.2)
def ajK:Nat->Int->Int->(List Int)->Option (Int×(List Int))
 |0,_,_,_=>none
 |fuel+1,k,i,a=>
 bif(decide (i<((List.length a):Int)))then
 bif((Go.V.inB i (List.length a))&&true)then
 M.ajK fuel (Go.IntKind.wrap Go.IntKind.i64 (k+(1:Int))) (Go.IntKind.wrap Go.IntKind.i64 (i+(1:Int))) (List.set a (Int.toNat i) k)
 else
 none
 else
 some ((k,a))
def ajI(k:Int)(a:(List Int)):Option (Int×(List Int)):=
 match(M.ajK Go.V.an k (0:Int) a)with
 |none=>none
 |some y0=>
 some (y0.1,y0.2)
def amk:Nat->Int->Int->(List M.ad)->Option (Int×(List M.ad))
 |0,_,_,_=>none
 |fuel+1,k,i,a=>
 bif(decide (i<((List.length a):Int)))then
 let q0:=(Go.IntKind.wrap Go.IntKind.i64 ((Go.IntKind.wrap Go.IntKind.i64 (k+(1:Int)))+(1:Int)))
 let q1:=(Go.IntKind.wrap Go.IntKind.i64 (q0+(1:Int)))
 let q2:=(Go.IntKind.wrap Go.IntKind.i64 (q1+(1:Int)))
 let q3:=(Go.IntKind.wrap Go.IntKind.i64 (q2+(1:Int)))
 let q4:=(Go.IntKind.wrap Go.IntKind.i64 (q3+(1:Int)))
 let q5:=(Go.IntKind.wrap Go.IntKind.i64 (q4+(1:Int)))
 let q6:=(Go.IntKind.wrap Go.IntKind.i64 (q5+(1:Int)))
 let q7:=(List.set a (Int.toNat i) (M.ad.mk k (M.ad.Prog (List.getD a (Int.toNat i) M.ad.zero)) (M.ad.PC (List.getD a (Int.toNat i) M.ad.zero)) (M.ad.dy (List.getD a (Int.toNat i) M.ad.zero)) (M.ad.Status (List.getD a (Int.toNat i) M.ad.zero)) (M.ad.Result (List.getD a (Int.toNat i) M.ad.zero)) (M.ad.bU (List.getD a (Int.toNat i) M.ad.zero)) (M.ad.Asked (List.getD a (Int.toNat i) M.ad.zero)) (M.ad.Told (List.getD a (Int.toNat i) M.ad.zero)) (M.ad.bg (List.getD a (Int.toNat i) M.ad.zero)) (M.ad.Set (List.getD a (Int.toNat i) M.ad.zero))))
 let q8:=(List.getD q7 (Int.toNat i) M.ad.zero)
 let q9:=(List.set q7 (Int.toNat i) (M.ad.mk (M.ad.Id q8) (Go.IntKind.wrap Go.IntKind.i64 (k+(1:Int))) (M.ad.PC q8) (M.ad.dy q8) (M.ad.Status q8) (M.ad.Result q8) (M.ad.bU q8) (M.ad.Asked q8) (M.ad.Told q8) (M.ad.bg q8) (M.ad.Set q8)))
 let q10:=(List.getD q9 (Int.toNat i) M.ad.zero)
 let q11:=(List.set q9 (Int.toNat i) (M.ad.mk (M.ad.Id q10) (M.ad.Prog q10) q0 (M.ad.dy q10) (M.ad.Status q10) (M.ad.Result q10) (M.ad.bU q10) (M.ad.Asked q10) (M.ad.Told q10) (M.ad.bg q10) (M.ad.Set q10)))
 let q12:=(List.getD q11 (Int.toNat i) M.ad.zero)
 let q13:=(List.set q11 (Int.toNat i) (M.ad.mk (M.ad.Id q12) (M.ad.Prog q12) (M.ad.PC q12) q1 (M.ad.Status q12) (M.ad.Result q12) (M.ad.bU q12) (M.ad.Asked q12) (M.ad.Told q12) (M.ad.bg q12) (M.ad.Set q12)))
 let bI:=(List.getD q13 (Int.toNat i) M.ad.zero)
 let cE:=(List.set q13 (Int.toNat i) (M.ad.mk (M.ad.Id bI) (M.ad.Prog bI) (M.ad.PC bI) (M.ad.dy bI) q2 (M.ad.Result bI) (M.ad.bU bI) (M.ad.Asked bI) (M.ad.Told bI) (M.ad.bg bI) (M.ad.Set bI)))
 let q16:=(List.getD cE (Int.toNat i) M.ad.zero)
 let du:=(List.set cE (Int.toNat i) (M.ad.mk (M.ad.Id q16) (M.ad.Prog q16) (M.ad.PC q16) (M.ad.dy q16) (M.ad.Status q16) q3 (M.ad.bU q16) (M.ad.Asked q16) (M.ad.Told q16) (M.ad.bg q16) (M.ad.Set q16)))
 let fe:=(List.getD du (Int.toNat i) M.ad.zero)
 let fM:=(List.set du (Int.toNat i) (M.ad.mk (M.ad.Id fe) (M.ad.Prog fe) (M.ad.PC fe) (M.ad.dy fe) (M.ad.Status fe) (M.ad.Result fe) ((Int.tmod q4 (3:Int))==(0:Int)) (M.ad.Asked fe) (M.ad.Told fe) (M.ad.bg fe) (M.ad.Set fe)))
 let gv:=(List.getD fM (Int.toNat i) M.ad.zero)
 let pM:=(List.set fM (Int.toNat i) (M.ad.mk (M.ad.Id gv) (M.ad.Prog gv) (M.ad.PC gv) (M.ad.dy gv) (M.ad.Status gv) (M.ad.Result gv) (M.ad.bU gv) ((Int.tmod q5 (3:Int))==(0:Int)) (M.ad.Told gv) (M.ad.bg gv) (M.ad.Set gv)))
 let q22:=(List.getD pM (Int.toNat i) M.ad.zero)
 let q23:=(List.set pM (Int.toNat i) (M.ad.mk (M.ad.Id q22) (M.ad.Prog q22) (M.ad.PC q22) (M.ad.dy q22) (M.ad.Status q22) (M.ad.Result q22) (M.ad.bU q22) (M.ad.Asked q22) ((Int.tmod q6 (3:Int))==(0:Int)) (M.ad.bg q22) (M.ad.Set q22)))
 let q24:=(List.getD q23 (Int.toNat i) M.ad.zero)
 let vM:=(M.ajI (Go.IntKind.wrap Go.IntKind.i64 (q6+(1:Int))) (M.ad.bg q24))
 let pN:=(Option.getD vM default)
 let vN:=(List.set q23 (Int.toNat i) (M.ad.mk (M.ad.Id q24) (M.ad.Prog q24) (M.ad.PC q24) (M.ad.dy q24) (M.ad.Status q24) (M.ad.Result q24) (M.ad.bU q24) (M.ad.Asked q24) (M.ad.Told q24) pN.2 (M.ad.Set q24)))
 let BZ:=(List.getD vN (Int.toNat i) M.ad.zero)
 let q29:=(M.ajI pN.1 (M.ad.Set BZ))
 bif(((Option.isSome q29)&&true)&&((Go.V.inB i (List.length vN))&&(((Option.isSome vM)&&true)&&((Go.V.inB i (List.length q23))&&((Go.V.inB i (List.length pM))&&(((3:Int) !=(0:Int))&&((Go.V.inB i (List.length fM))&&(((3:Int) !=(0:Int))&&((Go.V.inB i (List.length du))&&(((3:Int) !=(0:Int))&&((Go.V.inB i (List.length cE))&&((Go.V.inB i (List.length q13))&&((Go.V.inB i (List.length q11))&&((Go.V.inB i (List.length q9))&&((Go.V.inB i (List.length q7))&&((Go.V.inB i (List.length a))&&true))))))))))))))))then
 let q30:=(Option.getD q29 default)
 M.amk fuel q30.1 (Go.IntKind.wrap Go.IntKind.i64 (i+(1:Int))) (List.set vN (Int.toNat i) (M.ad.mk (M.ad.Id BZ) (M.ad.Prog BZ) (M.ad.PC BZ) (M.ad.dy BZ) (M.ad.Status BZ) (M.ad.Result BZ) (M.ad.bU BZ) (M.ad.Asked BZ) (M.ad.Told BZ) (M.ad.bg BZ) q30.2))
 else
 none
 else
 some ((k,a))
def amv(k:Int)(a:(List M.ad)):Option (Int×(List M.ad)):=
 match(M.amk Go.V.an k (0:Int) a)with
 |none=>none
 |some y0=>
 some (y0.1,y0.2)
def amx:Nat->Int->Int->(List M.az)->Option (Int×(List M.az))
 |0,_,_,_=>none
 |fuel+1,k,i,a=>
 bif(decide (i<((List.length a):Int)))then
 let q0:=(List.set a (Int.toNat i) (M.az.mk k (M.az.Kind (List.getD a (Int.toNat i) M.az.zero)) (M.az.A (List.getD a (Int.toNat i) M.az.zero)) (M.az.B (List.getD a (Int.toNat i) M.az.zero))))
 let q1:=(List.getD q0 (Int.toNat i) M.az.zero)
 let q2:=(List.set q0 (Int.toNat i) (M.az.mk (M.az.Task q1) (Go.IntKind.wrap Go.IntKind.i64 (k+(1:Int))) (M.az.A q1) (M.az.B q1)))
 let q3:=(List.getD q2 (Int.toNat i) M.az.zero)
 let q4:=(Go.IntKind.wrap Go.IntKind.i64 ((Go.IntKind.wrap Go.IntKind.i64 (k+(1:Int)))+(1:Int)))
 let q5:=(List.set q2 (Int.toNat i) (M.az.mk (M.az.Task q3) (M.az.Kind q3) q4 (M.az.B q3)))
 bif((Go.V.inB i (List.length q5))&&((Go.V.inB i (List.length q2))&&((Go.V.inB i (List.length q0))&&((Go.V.inB i (List.length a))&&true))))then
 let q6:=(Go.IntKind.wrap Go.IntKind.i64 (q4+(1:Int)))
 let q7:=(List.getD q5 (Int.toNat i) M.az.zero)
 M.amx fuel (Go.IntKind.wrap Go.IntKind.i64 (q6+(1:Int))) (Go.IntKind.wrap Go.IntKind.i64 (i+(1:Int))) (List.set q5 (Int.toNat i) (M.az.mk (M.az.Task q7) (M.az.Kind q7) (M.az.A q7) q6))
 else
 none
 else
 some ((k,a))
def amw(k:Int)(a:(List M.az)):Option (Int×(List M.az)):=
 match(M.amx Go.V.an k (0:Int) a)with
 |none=>none
 |some y0=>
 some (y0.1,y0.2)
def aml(a:(List Int)):Nat->Int->Int->Option ((Int)⊕(Int))
 |0,_,_=>none
 |fuel+1,k,i=>
 bif(decide (i<((List.length a):Int)))then
 bif((List.getD a (Int.toNat i) (0:Int)) !=k)then
 bif((Go.V.inB i (List.length a))&&true)then
 some (.inl (-(1:Int)))
 else
 none
 else
 bif((Go.V.inB i (List.length a))&&true)then
 M.aml a fuel (Go.IntKind.wrap Go.IntKind.i64 (k+(1:Int))) (Go.IntKind.wrap Go.IntKind.i64 (i+(1:Int)))
 else
 none
 else
 some ((.inr (k)))
def amz(a:(List Int))(k:Int):Option (Int):=
 match(M.aml a Go.V.an k (0:Int))with
 |none=>none
 |some y0=>
 (match y0 with
 |.inl a1=>
 some a1
 |.inr b1=>
 some b1)
def rH(a:(List (List UInt8))):Nat->Int->Int->Option ((Int)⊕(Int))
 |0,_,_=>none
 |fuel+1,left,i=>
 bif(decide (i<((List.length a):Int)))then
 let q0:=(Go.IntKind.wrap Go.IntKind.i64 (left-((List.length (List.getD a (Int.toNat i) [])):Int)))
 bif(decide (q0<(0:Int)))then
 bif((Go.V.inB i (List.length a))&&true)then
 some (.inl (-(1:Int)))
 else
 none
 else
 bif((Go.V.inB i (List.length a))&&true)then
 M.rH a fuel q0 (Go.IntKind.wrap Go.IntKind.i64 (i+(1:Int)))
 else
 none
 else
 some ((.inr (left)))
def u4(a:(List (List UInt8)))(left:Int):Option (Int):=
 bif(decide ((Go.IntKind.wrap Go.IntKind.i64 (left-((List.length a):Int)))<(0:Int)))then
 some (-(1:Int))
 else
 match(M.rH a Go.V.an (Go.IntKind.wrap Go.IntKind.i64 (left-((List.length a):Int))) (0:Int))with
 |none=>none
 |some y0=>
 (match y0 with
 |.inl a1=>
 some a1
 |.inr b1=>
 some b1)
def rI(c9:M.aa->Int->Option (Int))(a:(List M.aa)):Nat->Int->Int->Option ((Int)⊕(Int))
 |0,_,_=>none
 |fuel+1,left,i=>
 bif(decide (i<((List.length a):Int)))then
 let q0:=(Option.getD (c9 (M.aa.re (List.getD a (Int.toNat i) M.aa.zero)) left) default)
 bif(decide (q0<(0:Int)))then
 let q1:=((Option.isSome (c9 (M.aa.re (List.getD a (Int.toNat i) M.aa.zero)) left))&&((Go.V.inB i (List.length a))&&true))
 bif q1 then
 some (.inl (-(1:Int)))
 else
 none
 else
 let q1:=((Option.isSome (c9 (M.aa.re (List.getD a (Int.toNat i) M.aa.zero)) left))&&((Go.V.inB i (List.length a))&&true))
 bif q1 then
 M.rI c9 a fuel q0 (Go.IntKind.wrap Go.IntKind.i64 (i+(1:Int)))
 else
 none
 else
 some ((.inr (left)))
def u5(c9:M.aa->Int->Option (Int))(a:(List M.aa))(left:Int):Option (Int):=
 bif(decide ((Go.IntKind.wrap Go.IntKind.i64 (left-((List.length a):Int)))<(0:Int)))then
 some (-(1:Int))
 else
 match(M.rI c9 a Go.V.an (Go.IntKind.wrap Go.IntKind.i64 (left-((List.length a):Int))) (0:Int))with
 |none=>none
 |some y0=>
 (match y0 with
 |.inl a1=>
 some a1
 |.inr b1=>
 some b1)
def xU(c9:M.aa->Int->Option (Int))(a:M.aa)(left:Int):Option (Int):=
 bif(decide ((Go.IntKind.wrap Go.IntKind.i64 (left-((List.length (M.aa.Name a)):Int)))<(0:Int)))then
 some (-(1:Int))
 else
 let q0:=(M.u4 (M.aa.bY a) (Go.IntKind.wrap Go.IntKind.i64 (left-((List.length (M.aa.Name a)):Int))))
 let q1:=(Option.getD q0 default)
 bif(decide (q1<(0:Int)))then
 let q2:=((Option.isSome q0)&&true)
 bif q2 then
 some (-(1:Int))
 else
 none
 else
 let q2:=(M.u5 c9 (M.aa.Kids a) q1)
 let q3:=(Option.getD q2 default)
 bif(decide (q3<(0:Int)))then
 let q4:=((Option.isSome q0)&&true)
 let q5:=((Option.isSome q2)&&q4)
 bif q5 then
 some (-(1:Int))
 else
 none
 else
 let q4:=((Option.isSome q0)&&true)
 let q5:=((Option.isSome q2)&&q4)
 bif q5 then
 some q3
 else
 none
def rJ:Nat->M.aa->Int->Option (Int)
 |0=>fun _ _=>none
 |n+1=>xU (rJ n)
def Ao:M.aa->Int->Option (Int):=rJ Go.V.an
def pF(a:(List (List UInt8))):Nat->Int->(List (List UInt8))->Option ((List (List UInt8)))
 |0,_,_=>none
 |fuel+1,i,out=>
 bif(decide (i<((List.length a):Int)))then
 bif((Go.V.inB i (List.length out))&&((Go.V.inB i (List.length a))&&true))then
 M.pF a fuel (Go.IntKind.wrap Go.IntKind.i64 (i+(1:Int))) (List.set out (Int.toNat i) (List.getD a (Int.toNat i) []))
 else
 none
 else
 some (out)
def u6(a:(List (List UInt8))):Option ((List (List UInt8))):=
 match(M.pF a Go.V.an (0:Int) (List.replicate (Int.toNat ((List.length a):Int)) []))with
 |none=>none
 |some y0=>
 bif(((decide (((List.length a):Int)<=((List.length a):Int)))&&(decide (((List.length a):Int)<=(1073741824:Int))))&&true)then
 some y0
 else
 none
def pG(dc:M.aa->Option (Int×(List UInt8)×(List (List UInt8))×(List M.aa)))(a:(List M.aa)):Nat->Int->(List M.aa)->Option ((List M.aa))
 |0,_,_=>none
 |fuel+1,i,out=>
 bif(decide (i<((List.length a):Int)))then
 bif((Go.V.inB i (List.length out))&&((Option.isSome (dc (M.aa.re (List.getD a (Int.toNat i) M.aa.zero))))&&((Go.V.inB i (List.length a))&&true)))then
 let q0:=(Option.getD (dc (M.aa.re (List.getD a (Int.toNat i) M.aa.zero))) default)
 let q1:=q0.2
 let q2:=q1.2
 M.pG dc a fuel (Go.IntKind.wrap Go.IntKind.i64 (i+(1:Int))) (List.set out (Int.toNat i) (M.aa.mk q0.1 q1.1 q2.1 q2.2))
 else
 none
 else
 some (out)
def u7(dc:M.aa->Option (Int×(List UInt8)×(List (List UInt8))×(List M.aa)))(a:(List M.aa)):Option ((List M.aa)):=
 match(M.pG dc a Go.V.an (0:Int) (List.replicate (Int.toNat ((List.length a):Int)) (M.aa.mk (0:Int) [] [] [])))with
 |none=>none
 |some y0=>
 bif(((decide (((List.length a):Int)<=((List.length a):Int)))&&(decide (((List.length a):Int)<=(1073741824:Int))))&&true)then
 some y0
 else
 none
def xW(dc:M.aa->Option (Int×(List UInt8)×(List (List UInt8))×(List M.aa)))(a:M.aa):Option (Int×(List UInt8)×(List (List UInt8))×(List M.aa)):=
 let q0:=(M.u7 dc (M.aa.Kids a))
 let q1:=(M.u6 (M.aa.bY a))
 bif((Option.isSome q0)&&((Option.isSome q1)&&true))then
 some ((M.aa.Kind a),(M.aa.Name a),(Option.getD q1 default),(Option.getD q0 default))
 else
 none
def rK:Nat->M.aa->Option (Int×(List UInt8)×(List (List UInt8))×(List M.aa))
 |0=>fun _=>none
 |n+1=>xW (rK n)
def Ar:M.aa->Option (Int×(List UInt8)×(List (List UInt8))×(List M.aa)):=rK Go.V.an
def rL(a:(List (List UInt8)))(b:(List (List UInt8))):Nat->Int->Option ((Bool)⊕(Unit))
 |0,_=>none
 |fuel+1,i=>
 bif(decide (i<((List.length a):Int)))then
 bif(!((List.getD a (Int.toNat i) [])==(List.getD b (Int.toNat i) [])))then
 let q0:=((Go.V.inB i (List.length b))&&((Go.V.inB i (List.length a))&&true))
 bif q0 then
 some (.inl false)
 else
 none
 else
 let q0:=((Go.V.inB i (List.length b))&&((Go.V.inB i (List.length a))&&true))
 bif q0 then
 M.rL a b fuel (Go.IntKind.wrap Go.IntKind.i64 (i+(1:Int)))
 else
 none
 else
 some ((.inr (())))
def u9(a:(List (List UInt8)))(b:(List (List UInt8))):Option (Bool):=
 bif(((List.length a):Int) !=((List.length b):Int))then
 some false
 else
 match(M.rL a b Go.V.an (0:Int))with
 |none=>none
 |some y0=>
 (match y0 with
 |.inl a1=>
 some a1
 |.inr b1=>
 some true)
def rM(da:M.aa->M.aa->Option (Bool))(a:(List M.aa))(b:(List M.aa)):Nat->Int->Option ((Bool)⊕(Unit))
 |0,_=>none
 |fuel+1,i=>
 bif(decide (i<((List.length a):Int)))then
 bif(!(Option.getD (da (M.aa.re (List.getD a (Int.toNat i) M.aa.zero)) (M.aa.re (List.getD b (Int.toNat i) M.aa.zero))) default))then
 let q0:=((Option.isSome (da (M.aa.re (List.getD a (Int.toNat i) M.aa.zero)) (M.aa.re (List.getD b (Int.toNat i) M.aa.zero))))&&((Go.V.inB i (List.length b))&&((Go.V.inB i (List.length a))&&true)))
 bif q0 then
 some (.inl false)
 else
 none
 else
 let q0:=((Option.isSome (da (M.aa.re (List.getD a (Int.toNat i) M.aa.zero)) (M.aa.re (List.getD b (Int.toNat i) M.aa.zero))))&&((Go.V.inB i (List.length b))&&((Go.V.inB i (List.length a))&&true)))
 bif q0 then
 M.rM da a b fuel (Go.IntKind.wrap Go.IntKind.i64 (i+(1:Int)))
 else
 none
 else
 some ((.inr (())))
def va(da:M.aa->M.aa->Option (Bool))(a:(List M.aa))(b:(List M.aa)):Option (Bool):=
 bif(((List.length a):Int) !=((List.length b):Int))then
 some false
 else
 match(M.rM da a b Go.V.an (0:Int))with
 |none=>none
 |some y0=>
 (match y0 with
 |.inl a1=>
 some a1
 |.inr b1=>
 some true)
def xX(da:M.aa->M.aa->Option (Bool))(a:M.aa)(b:M.aa):Option (Bool):=
 bif((M.aa.Kind a) !=(M.aa.Kind b))then
 some false
 else
 bif(!((M.aa.Name a)==(M.aa.Name b)))then
 some false
 else
 let q0:=(M.u9 (M.aa.bY a) (M.aa.bY b))
 bif(!(Option.getD q0 default))then
 bif((Option.isSome q0)&&true)then
 some false
 else
 none
 else
 let q1:=(M.va da (M.aa.Kids a) (M.aa.Kids b))
 bif(!(Option.getD q1 default))then
 bif((Option.isSome q1)&&((Option.isSome q0)&&true))then
 some false
 else
 none
 else
 bif((Option.isSome q1)&&((Option.isSome q0)&&true))then
 some true
 else
 none
def rN:Nat->M.aa->M.aa->Option (Bool)
 |0=>fun _ _=>none
 |n+1=>xX (rN n)
def Av:M.aa->M.aa->Option (Bool):=rN Go.V.an
def oP(a:Int)(b:Int):Option (Int):=
 bif(decide (b<a))then
 some a
 else
 some b
def oQ(ez:M.aa->Int->Option (Int×Int))(deep:Int):Nat->Int->Int->Int->M.aa->Option ((Int×Int)⊕(Int×Int))
 |0,_,_,_,_=>none
 |fuel+1,most,parts,i,t=>
 bif(decide (i<((List.length (M.aa.Kids t)):Int)))then
 let q0:=(Option.getD (ez (M.aa.re (List.getD (M.aa.Kids t) (Int.toNat i) M.aa.zero)) (Go.IntKind.wrap Go.IntKind.i64 (deep+(1:Int)))) default)
 let q1:=(Go.IntKind.wrap Go.IntKind.i64 (parts+q0.2))
 bif(decide ((24:Int)<q1))then
 let q2:=(M.oP most q0.1)
 let q3:=((Option.isSome q2)&&((Option.isSome (ez (M.aa.re (List.getD (M.aa.Kids t) (Int.toNat i) M.aa.zero)) (Go.IntKind.wrap Go.IntKind.i64 (deep+(1:Int)))))&&((Go.V.inB i (List.length (M.aa.Kids t)))&&true)))
 bif q3 then
 some (.inl ((5:Int),(25:Int)))
 else
 none
 else
 let q2:=(M.oP most q0.1)
 let q3:=((Option.isSome q2)&&((Option.isSome (ez (M.aa.re (List.getD (M.aa.Kids t) (Int.toNat i) M.aa.zero)) (Go.IntKind.wrap Go.IntKind.i64 (deep+(1:Int)))))&&((Go.V.inB i (List.length (M.aa.Kids t)))&&true)))
 bif q3 then
 M.oQ ez deep fuel (Option.getD q2 default) q1 (Go.IntKind.wrap Go.IntKind.i64 (i+(1:Int))) (M.aa.re t)
 else
 none
 else
 some ((.inr ((most,parts))))
def xu(ez:M.aa->Int->Option (Int×Int))(t:M.aa)(deep:Int):Option (Int×Int):=
 bif((decide ((4:Int)<deep))||(decide ((24:Int)<((List.length (M.aa.Kids t)):Int))))then
 some ((5:Int),(25:Int))
 else
 match(M.oQ ez deep Go.V.an (0:Int) (1:Int) (0:Int) (M.aa.re t))with
 |none=>none
 |some y0=>
 (match y0 with
 |.inl a1=>
 some (a1.1,a1.2)
 |.inr b1=>
 some ((Go.IntKind.wrap Go.IntKind.i64 (b1.1+(1:Int))),b1.2))
def oO:Nat->M.aa->Int->Option (Int×Int)
 |0=>fun _ _=>none
 |n+1=>xu (oO n)
def zE:M.aa->Int->Option (Int×Int):=oO Go.V.an
def kf(n:Int)(low:Int)(high:Int):Option (Bool):=
 some ((decide (low<=n))&&(decide (n<=high)))
def qG(s:(List UInt8)):Nat->Int->Option ((Bool)⊕(Unit))
 |0,_=>none
 |fuel+1,i=>
 bif(decide (i<((List.length s):Int)))then
 let q0:=((((decide (((UInt8.toNat (List.getD s (Int.toNat i) (0:UInt8))):Int)<(97:Int)))||(decide ((122:Int)<((UInt8.toNat (List.getD s (Int.toNat i) (0:UInt8))):Int))))&&((decide (((UInt8.toNat (List.getD s (Int.toNat i) (0:UInt8))):Int)<(48:Int)))||(decide ((57:Int)<((UInt8.toNat (List.getD s (Int.toNat i) (0:UInt8))):Int)))))&&(((UInt8.toNat (List.getD s (Int.toNat i) (0:UInt8))):Int) !=(45:Int)))
 let q1:=(((UInt8.toNat (List.getD s (Int.toNat i) (0:UInt8))):Int)==(45:Int))
 bif(q0||(q1&&(((UInt8.toNat (List.getD s (Int.toNat (Go.IntKind.wrap Go.IntKind.i64 (i-(1:Int)))) (0:UInt8))):Int)==(45:Int))))then
 let q2:=(((Go.V.inB (Go.IntKind.wrap Go.IntKind.i64 (i-(1:Int))) (List.length s))||(!((q0==false)&&(q1==true))))&&((Go.V.inB i (List.length s))&&true))
 bif q2 then
 some (.inl false)
 else
 none
 else
 let q2:=(((Go.V.inB (Go.IntKind.wrap Go.IntKind.i64 (i-(1:Int))) (List.length s))||(!((q0==false)&&(q1==true))))&&((Go.V.inB i (List.length s))&&true))
 bif q2 then
 M.qG s fuel (Go.IntKind.wrap Go.IntKind.i64 (i+(1:Int)))
 else
 none
 else
 some ((.inr (())))
def oH(s:(List UInt8)):Option (Bool):=
 let q0:=((decide (((List.length s):Int)<(1:Int)))||(decide ((12:Int)<((List.length s):Int))))
 let q1:=(q0||(decide (((UInt8.toNat (List.getD s (Int.toNat (0:Int)) (0:UInt8))):Int)<(97:Int))))
 let q2:=(q1||(decide ((122:Int)<((UInt8.toNat (List.getD s (Int.toNat (0:Int)) (0:UInt8))):Int))))
 bif(q2||(((UInt8.toNat (List.getD s (Int.toNat (Go.IntKind.wrap Go.IntKind.i64 (((List.length s):Int)-(1:Int)))) (0:UInt8))):Int)==(45:Int)))then
 let q3:=(((Go.V.inB (Go.IntKind.wrap Go.IntKind.i64 (((List.length s):Int)-(1:Int))) (List.length s))||(!(q2==false)))&&(((Go.V.inB (0:Int) (List.length s))||(!(q1==false)))&&(((Go.V.inB (0:Int) (List.length s))||(!(q0==false)))&&true)))
 bif q3 then
 some false
 else
 none
 else
 match(M.qG s Go.V.an (0:Int))with
 |none=>none
 |some y3=>
 (match y3 with
 |.inl a4=>
 let q5:=(((Go.V.inB (Go.IntKind.wrap Go.IntKind.i64 (((List.length s):Int)-(1:Int))) (List.length s))||(!(q2==false)))&&(((Go.V.inB (0:Int) (List.length s))||(!(q1==false)))&&(((Go.V.inB (0:Int) (List.length s))||(!(q0==false)))&&true)))
 bif q5 then
 some a4
 else
 none
 |.inr b4=>
 let q5:=(((Go.V.inB (Go.IntKind.wrap Go.IntKind.i64 (((List.length s):Int)-(1:Int))) (List.length s))||(!(q2==false)))&&(((Go.V.inB (0:Int) (List.length s))||(!(q1==false)))&&(((Go.V.inB (0:Int) (List.length s))||(!(q0==false)))&&true)))
 bif q5 then
 some true
 else
 none)
def oI(list:(List (List UInt8)))(i:Int):Nat->Int->Option ((Bool)⊕((List (List UInt8))×Int))
 |0,_=>none
 |fuel+1,k=>
 bif(decide (k<i))then
 bif((List.getD list (Int.toNat k) [])==(List.getD list (Int.toNat i) []))then
 let q0:=((Go.V.inB i (List.length list))&&((Go.V.inB k (List.length list))&&true))
 bif q0 then
 some (.inl false)
 else
 none
 else
 let q0:=((Go.V.inB i (List.length list))&&((Go.V.inB k (List.length list))&&true))
 bif q0 then
 M.oI list i fuel (Go.IntKind.wrap Go.IntKind.i64 (k+(1:Int)))
 else
 none
 else
 some ((.inr ((list,i))))
def akp:Nat->(List (List UInt8))->Int->Option ((Bool)⊕(Unit))
 |0,_,_=>none
 |fuel+1,list,i=>
 bif(decide (i<((List.length list):Int)))then
 let q0:=(M.oH (List.getD list (Int.toNat i) []))
 bif(!(Option.getD q0 default))then
 let q1:=((Option.isSome q0)&&((Go.V.inB i (List.length list))&&true))
 bif q1 then
 some (.inl false)
 else
 none
 else
 match(M.oI list i Go.V.an (0:Int))with
 |none=>none
 |some y1=>
 (match y1 with
 |.inl a2=>
 let q3:=((Option.isSome q0)&&((Go.V.inB i (List.length list))&&true))
 bif q3 then
 some (.inl a2)
 else
 none
 |.inr b2=>
 let q3:=((Option.isSome q0)&&((Go.V.inB i (List.length list))&&true))
 bif q3 then
 M.akp fuel b2.1 (Go.IntKind.wrap Go.IntKind.i64 (b2.2+(1:Int)))
 else
 none)
 else
 some ((.inr (())))
def tJ(list:(List (List UInt8))):Option (Bool):=
 bif((decide (((List.length list):Int)<(1:Int)))||(decide ((16:Int)<((List.length list):Int))))then
 some false
 else
 match(M.akp Go.V.an list (0:Int))with
 |none=>none
 |some y0=>
 (match y0 with
 |.inl a1=>
 some a1
 |.inr b1=>
 some true)
def lJ:Nat->Int->M.aa->Option ((Bool)⊕(Unit))
 |0,_,_=>none
 |fuel+1,i,t=>
 bif(decide (i<((List.length (M.aa.Kids t)):Int)))then
 bif((M.aa.Kind (List.getD (M.aa.Kids t) (Int.toNat i) M.aa.zero))==(1:Int))then
 bif((Go.V.inB i (List.length (M.aa.Kids t)))&&true)then
 some (.inl true)
 else
 none
 else
 bif((Go.V.inB i (List.length (M.aa.Kids t)))&&true)then
 M.lJ fuel (Go.IntKind.wrap Go.IntKind.i64 (i+(1:Int))) (M.aa.re t)
 else
 none
 else
 some ((.inr (())))
def oJ(t:M.aa):Option (Bool):=
 match(M.lJ Go.V.an (0:Int) (M.aa.re t))with
 |none=>none
 |some y0=>
 (match y0 with
 |.inl a1=>
 some a1
 |.inr b1=>
 some false)
def lK(eA:M.aa->Int->Int->Option (Bool))(low:Int)(high:Int):Nat->Int->M.aa->Option ((Bool)⊕(Unit))
 |0,_,_=>none
 |fuel+1,i,t=>
 bif(decide (i<((List.length (M.aa.Kids t)):Int)))then
 bif(Option.getD (eA (M.aa.re (List.getD (M.aa.Kids t) (Int.toNat i) M.aa.zero)) low high) default)then
 let q0:=((Option.isSome (eA (M.aa.re (List.getD (M.aa.Kids t) (Int.toNat i) M.aa.zero)) low high))&&((Go.V.inB i (List.length (M.aa.Kids t)))&&true))
 bif q0 then
 some (.inl true)
 else
 none
 else
 let q0:=((Option.isSome (eA (M.aa.re (List.getD (M.aa.Kids t) (Int.toNat i) M.aa.zero)) low high))&&((Go.V.inB i (List.length (M.aa.Kids t)))&&true))
 bif q0 then
 M.lK eA low high fuel (Go.IntKind.wrap Go.IntKind.i64 (i+(1:Int))) (M.aa.re t)
 else
 none
 else
 some ((.inr (())))
def xm(eA:M.aa->Int->Int->Option (Bool))(t:M.aa)(low:Int)(high:Int):Option (Bool):=
 bif((decide (low<=(M.aa.Kind t)))&&(decide ((M.aa.Kind t)<=high)))then
 some true
 else
 match(M.lK eA low high Go.V.an (0:Int) (M.aa.re t))with
 |none=>none
 |some y0=>
 (match y0 with
 |.inl a1=>
 some a1
 |.inr b1=>
 some false)
def kM:Nat->M.aa->Int->Int->Option (Bool)
 |0=>fun _ _ _=>none
 |n+1=>xm (kM n)
def lM:M.aa->Int->Int->Option (Bool):=kM Go.V.an
def tU(t:M.aa):Option (Bool):=
 let q0:=(((M.aa.Kind t)==(20:Int))||((M.aa.Kind t)==(21:Int)))
 let q1:=(!(q0==(!((M.aa.Name t)==[]))))
 let q2:=(M.oH (M.aa.Name t))
 let q3:=((decide ((16:Int)<=(M.aa.Kind t)))&&(decide ((M.aa.Kind t)<=(19:Int))))
 let q4:=((q1||(q0&&(!(Option.getD q2 default))))||(!(q3==(decide ((0:Int)<((List.length (M.aa.bY t)):Int))))))
 let q5:=(M.tJ (M.aa.bY t))
 bif(q4||(q3&&(!(Option.getD q5 default))))then
 let q6:=(((Option.isSome q5)||(!((q4==false)&&(q3==true))))&&(((Option.isSome q2)||(!((q1==false)&&(q0==true))))&&true))
 bif q6 then
 some false
 else
 none
 else
 bif(bif((M.aa.Kind t)==(12:Int))then((M.aa.Kind t)==(12:Int))else((M.aa.Kind t)==(13:Int)))then
 let q6:=(M.oJ (M.aa.re t))
 let q7:=(!((((List.length (M.aa.Kids t)):Int)==(1:Int))==true))
 let q8:=(((Option.isSome q5)||(!((q4==false)&&(q3==true))))&&(((Option.isSome q2)||(!((q1==false)&&(q0==true))))&&true))
 let q9:=((q8||(!((M.aa.Kind t)==(12:Int))))&&(q8||((M.aa.Kind t)==(12:Int))))
 bif(((Option.isSome q6)||q7)&&q9)then
 some ((((List.length (M.aa.Kids t)):Int)==(1:Int))&&(!(Option.getD q6 default)))
 else
 none
 else
 bif(bif((M.aa.Kind t)==(22:Int))then((M.aa.Kind t)==(22:Int))else((M.aa.Kind t)==(23:Int)))then
 let q6:=(M.lM (M.aa.re (List.getD (M.aa.Kids t) (Int.toNat (0:Int)) M.aa.zero)) (21:Int) (21:Int))
 let q7:=(!((((List.length (M.aa.Kids t)):Int)==(1:Int))==true))
 let q8:=(((Option.isSome q5)||(!((q4==false)&&(q3==true))))&&(((Option.isSome q2)||(!((q1==false)&&(q0==true))))&&true))
 let q9:=((q8||(!((M.aa.Kind t)==(12:Int))))&&(q8||((M.aa.Kind t)==(12:Int))))
 let q10:=((q9||(!((M.aa.Kind t)==(22:Int))))&&(q9||((M.aa.Kind t)==(22:Int))))
 bif(((Option.isSome q6)||q7)&&(((Go.V.inB (0:Int) (List.length (M.aa.Kids t)))||q7)&&q10))then
 some ((((List.length (M.aa.Kids t)):Int)==(1:Int))&&(!(Option.getD q6 default)))
 else
 none
 else
 bif((M.aa.Kind t)==(14:Int))then
 let q6:=(((Option.isSome q5)||(!((q4==false)&&(q3==true))))&&(((Option.isSome q2)||(!((q1==false)&&(q0==true))))&&true))
 let q7:=((q6||(!((M.aa.Kind t)==(12:Int))))&&(q6||((M.aa.Kind t)==(12:Int))))
 let q8:=((q7||(!((M.aa.Kind t)==(22:Int))))&&(q7||((M.aa.Kind t)==(22:Int))))
 bif q8 then
 some (((List.length (M.aa.Kids t)):Int)==(2:Int))
 else
 none
 else
 bif((M.aa.Kind t)==(15:Int))then
 let q6:=(M.oJ (M.aa.re t))
 let q7:=((decide ((1:Int)<=((List.length (M.aa.Kids t)):Int)))&&(decide (((List.length (M.aa.Kids t)):Int)<=(6:Int))))
 let q8:=(((Option.isSome q5)||(!((q4==false)&&(q3==true))))&&(((Option.isSome q2)||(!((q1==false)&&(q0==true))))&&true))
 let q9:=((q8||(!((M.aa.Kind t)==(12:Int))))&&(q8||((M.aa.Kind t)==(12:Int))))
 let q10:=((q9||(!((M.aa.Kind t)==(22:Int))))&&(q9||((M.aa.Kind t)==(22:Int))))
 bif(((Option.isSome q6)||(!(q7==true)))&&q10)then
 some (q7&&(!(Option.getD q6 default)))
 else
 none
 else
 bif((M.aa.Kind t)==(16:Int))then
 let q6:=(M.oJ (M.aa.re t))
 let q7:=(((Option.isSome q5)||(!((q4==false)&&(q3==true))))&&(((Option.isSome q2)||(!((q1==false)&&(q0==true))))&&true))
 let q8:=((q7||(!((M.aa.Kind t)==(12:Int))))&&(q7||((M.aa.Kind t)==(12:Int))))
 let q9:=((q8||(!((M.aa.Kind t)==(22:Int))))&&(q8||((M.aa.Kind t)==(22:Int))))
 bif(((Option.isSome q6)||(!((((List.length (M.aa.Kids t)):Int)==((List.length (M.aa.bY t)):Int))==true)))&&q9)then
 some ((((List.length (M.aa.Kids t)):Int)==((List.length (M.aa.bY t)):Int))&&(!(Option.getD q6 default)))
 else
 none
 else
 bif((M.aa.Kind t)==(17:Int))then
 let q6:=(((Option.isSome q5)||(!((q4==false)&&(q3==true))))&&(((Option.isSome q2)||(!((q1==false)&&(q0==true))))&&true))
 let q7:=((q6||(!((M.aa.Kind t)==(12:Int))))&&(q6||((M.aa.Kind t)==(12:Int))))
 let q8:=((q7||(!((M.aa.Kind t)==(22:Int))))&&(q7||((M.aa.Kind t)==(22:Int))))
 bif q8 then
 some (((List.length (M.aa.Kids t)):Int)==((List.length (M.aa.bY t)):Int))
 else
 none
 else
 let q6:=(((Option.isSome q5)||(!((q4==false)&&(q3==true))))&&(((Option.isSome q2)||(!((q1==false)&&(q0==true))))&&true))
 let q7:=((q6||(!((M.aa.Kind t)==(12:Int))))&&(q6||((M.aa.Kind t)==(12:Int))))
 let q8:=((q7||(!((M.aa.Kind t)==(22:Int))))&&(q7||((M.aa.Kind t)==(22:Int))))
 bif q8 then
 some (((decide ((1:Int)<=(M.aa.Kind t)))&&(decide ((M.aa.Kind t)<=(23:Int))))&&(((List.length (M.aa.Kids t)):Int)==(0:Int)))
 else
 none
def lO(eB:M.aa->Option (Bool)):Nat->Int->M.aa->Option ((Bool)⊕(Unit))
 |0,_,_=>none
 |fuel+1,i,t=>
 bif(decide (i<((List.length (M.aa.Kids t)):Int)))then
 bif(!(Option.getD (eB (M.aa.re (List.getD (M.aa.Kids t) (Int.toNat i) M.aa.zero))) default))then
 let q0:=((Option.isSome (eB (M.aa.re (List.getD (M.aa.Kids t) (Int.toNat i) M.aa.zero))))&&((Go.V.inB i (List.length (M.aa.Kids t)))&&true))
 bif q0 then
 some (.inl false)
 else
 none
 else
 let q0:=((Option.isSome (eB (M.aa.re (List.getD (M.aa.Kids t) (Int.toNat i) M.aa.zero))))&&((Go.V.inB i (List.length (M.aa.Kids t)))&&true))
 bif q0 then
 M.lO eB fuel (Go.IntKind.wrap Go.IntKind.i64 (i+(1:Int))) (M.aa.re t)
 else
 none
 else
 some ((.inr (())))
def xy(eB:M.aa->Option (Bool))(t:M.aa):Option (Bool):=
 let q0:=(M.tU (M.aa.re t))
 bif(!(Option.getD q0 default))then
 bif((Option.isSome q0)&&true)then
 some false
 else
 none
 else
 match(M.lO eB Go.V.an (0:Int) (M.aa.re t))with
 |none=>none
 |some y1=>
 (match y1 with
 |.inl a2=>
 bif((Option.isSome q0)&&true)then
 some a2
 else
 none
 |.inr b2=>
 bif((Option.isSome q0)&&true)then
 some true
 else
 none)
def lN:Nat->M.aa->Option (Bool)
 |0=>fun _=>none
 |n+1=>xy (lN n)
def zD:M.aa->Option (Bool):=lN Go.V.an
def oN(eJ:M.aa->Int->Option (Int))(levels:Int)(t11:(List M.aa))(t12:Int):Nat->Int->Int->Option (Int)
 |0,_,_=>none
 |fuel+1,depth,t13=>
 bif(decide (t13<t12))then
 bif((Option.isSome (eJ (M.aa.re (List.getD t11 (Int.toNat t13) M.aa.zero)) (Go.IntKind.wrap Go.IntKind.i64 (levels-(1:Int)))))&&((Go.V.inB t13 (List.length t11))&&true))then
 let q0:=(Option.getD (eJ (M.aa.re (List.getD t11 (Int.toNat t13) M.aa.zero)) (Go.IntKind.wrap Go.IntKind.i64 (levels-(1:Int)))) default)
 M.oN eJ levels t11 t12 fuel (bif(decide (depth<q0))then q0 else depth) (Go.IntKind.wrap Go.IntKind.i64 (t13+(1:Int)))
 else
 none
 else
 some (depth)
def xt(eJ:M.aa->Int->Option (Int))(t:M.aa)(levels:Int):Option (Int):=
 bif(levels==(0:Int))then
 some (1:Int)
 else
 match(M.oN eJ levels (M.aa.Kids t) ((List.length (M.aa.Kids t)):Int) Go.V.an (0:Int) (0:Int))with
 |none=>none
 |some y0=>
 some (Go.IntKind.wrap Go.IntKind.i64 (y0+(1:Int)))
def oM:Nat->M.aa->Int->Option (Int)
 |0=>fun _ _=>none
 |n+1=>xt (oM n)
def zG:M.aa->Int->Option (Int):=oM Go.V.an
def oL(eK:M.aa->Option (Int))(t7:(List M.aa))(t8:Int):Nat->Int->Int->Option (Int)
 |0,_,_=>none
 |fuel+1,many,t9=>
 bif(decide (t9<t8))then
 bif((Option.isSome (eK (M.aa.re (List.getD t7 (Int.toNat t9) M.aa.zero))))&&((Go.V.inB t9 (List.length t7))&&true))then
 M.oL eK t7 t8 fuel (Go.IntKind.wrap Go.IntKind.i64 (many+(Option.getD (eK (M.aa.re (List.getD t7 (Int.toNat t9) M.aa.zero))) default))) (Go.IntKind.wrap Go.IntKind.i64 (t9+(1:Int)))
 else
 none
 else
 some (many)
def xr(eK:M.aa->Option (Int))(t:M.aa):Option (Int):=
 match(M.oL eK (M.aa.Kids t) ((List.length (M.aa.Kids t)):Int) Go.V.an (1:Int) (0:Int))with
 |none=>none
 |some y0=>
 some y0
def oK:Nat->M.aa->Option (Int)
 |0=>fun _=>none
 |n+1=>xr (oK n)
def zH:M.aa->Option (Int):=oK Go.V.an
def tY(cb:M.aa->Option (Bool))(kid:M.aa):Option (Bool):=
 bif((Option.isSome (cb (M.aa.re kid)))&&true)then
 some (!(Option.getD (cb (M.aa.re kid)) default))
 else
 none
def qN(cb:M.aa->Option (Bool))(s:(List M.aa))(t7:Int):Nat->Int->Option ((Int)⊕(Unit))
 |0,_=>none
 |fuel+1,t8=>
 bif(decide (t8<t7))then
 let q0:=(M.tY cb (M.aa.re (List.getD s (Int.toNat t8) M.aa.zero)))
 bif(Option.getD q0 default)then
 let q1:=((Option.isSome q0)&&((Go.V.inB t8 (List.length s))&&true))
 bif q1 then
 some (.inl t8)
 else
 none
 else
 let q1:=((Option.isSome q0)&&((Go.V.inB t8 (List.length s))&&true))
 bif q1 then
 M.qN cb s t7 fuel (Go.IntKind.wrap Go.IntKind.i64 (t8+(1:Int)))
 else
 none
 else
 some ((.inr (())))
def xA(cb:M.aa->Option (Bool))(s:(List M.aa)):Option (Int):=
 match(M.qN cb s ((List.length s):Int) Go.V.an (0:Int))with
 |none=>none
 |some y0=>
 (match y0 with
 |.inl a1=>
 some a1
 |.inr b1=>
 some (-(1:Int)))
def qM(cb:M.aa->Option (Bool))(s:(List M.aa)):Option (Bool):=
 let q0:=(M.xA cb s)
 bif((Option.isSome q0)&&true)then
 some (decide ((0:Int)<=(Option.getD q0 default)))
 else
 none
def gu(n:Int)(low:Int)(high:Int):Option (Bool):=
 some ((decide (low<=n))&&(decide (n<=high)))
def xZ(list:(List (List UInt8))):Option (Int):=
 some ((List.length list):Int)
def oG(s:(List UInt8))(t7:Int):Nat->Int->Option ((Bool)⊕((List UInt8)))
 |0,_=>none
 |fuel+1,t8=>
 bif(decide (t8<t7))then
 bif((decide ((97:Int)<=((UInt8.toNat (List.getD s (Int.toNat t8) (0:UInt8))):Int)))&&(decide (((UInt8.toNat (List.getD s (Int.toNat t8) (0:UInt8))):Int)<=(122:Int))))then
 let q0:=(((Go.V.inB t8 (List.length s))||(!((decide ((48:Int)<=((UInt8.toNat (List.getD s (Int.toNat t8) (0:UInt8))):Int)))==true)))&&((Go.V.inB t8 (List.length s))&&(((Go.V.inB t8 (List.length s))||(!((decide ((97:Int)<=((UInt8.toNat (List.getD s (Int.toNat t8) (0:UInt8))):Int)))==true)))&&((Go.V.inB t8 (List.length s))&&true))))
 bif q0 then
 M.oG s t7 fuel (Go.IntKind.wrap Go.IntKind.i64 (t8+(1:Int)))
 else
 none
 else
 let q0:=(!((decide ((48:Int)<=((UInt8.toNat (List.getD s (Int.toNat t8) (0:UInt8))):Int)))&&(decide (((UInt8.toNat (List.getD s (Int.toNat t8) (0:UInt8))):Int)<=(57:Int)))))
 bif((t8==(0:Int))||(q0&&(((UInt8.toNat (List.getD s (Int.toNat t8) (0:UInt8))):Int) !=(45:Int))))then
 let q1:=(((Go.V.inB t8 (List.length s))||(!((decide ((48:Int)<=((UInt8.toNat (List.getD s (Int.toNat t8) (0:UInt8))):Int)))==true)))&&((Go.V.inB t8 (List.length s))&&(((Go.V.inB t8 (List.length s))||(!((decide ((97:Int)<=((UInt8.toNat (List.getD s (Int.toNat t8) (0:UInt8))):Int)))==true)))&&((Go.V.inB t8 (List.length s))&&true))))
 let q2:=(((Go.V.inB t8 (List.length s))||(!(((t8==(0:Int))==false)&&(q0==true))))&&q1)
 bif q2 then
 some (.inl false)
 else
 none
 else
 let q1:=(((UInt8.toNat (List.getD s (Int.toNat t8) (0:UInt8))):Int)==(45:Int))
 bif(q1&&(((UInt8.toNat (List.getD s (Int.toNat (Go.IntKind.wrap Go.IntKind.i64 (t8-(1:Int)))) (0:UInt8))):Int)==(45:Int)))then
 let q2:=(((Go.V.inB t8 (List.length s))||(!((decide ((48:Int)<=((UInt8.toNat (List.getD s (Int.toNat t8) (0:UInt8))):Int)))==true)))&&((Go.V.inB t8 (List.length s))&&(((Go.V.inB t8 (List.length s))||(!((decide ((97:Int)<=((UInt8.toNat (List.getD s (Int.toNat t8) (0:UInt8))):Int)))==true)))&&((Go.V.inB t8 (List.length s))&&true))))
 let q3:=(((Go.V.inB t8 (List.length s))||(!(((t8==(0:Int))==false)&&(q0==true))))&&q2)
 let q4:=(((Go.V.inB (Go.IntKind.wrap Go.IntKind.i64 (t8-(1:Int))) (List.length s))||(!(q1==true)))&&((Go.V.inB t8 (List.length s))&&q3))
 bif q4 then
 some (.inl false)
 else
 none
 else
 let q2:=(((Go.V.inB t8 (List.length s))||(!((decide ((48:Int)<=((UInt8.toNat (List.getD s (Int.toNat t8) (0:UInt8))):Int)))==true)))&&((Go.V.inB t8 (List.length s))&&(((Go.V.inB t8 (List.length s))||(!((decide ((97:Int)<=((UInt8.toNat (List.getD s (Int.toNat t8) (0:UInt8))):Int)))==true)))&&((Go.V.inB t8 (List.length s))&&true))))
 let q3:=(((Go.V.inB t8 (List.length s))||(!(((t8==(0:Int))==false)&&(q0==true))))&&q2)
 let q4:=(((Go.V.inB (Go.IntKind.wrap Go.IntKind.i64 (t8-(1:Int))) (List.length s))||(!(q1==true)))&&((Go.V.inB t8 (List.length s))&&q3))
 bif q4 then
 M.oG s t7 fuel (Go.IntKind.wrap Go.IntKind.i64 (t8+(1:Int)))
 else
 none
 else
 some ((.inr (s)))
def oD(s:(List UInt8)):Option (Bool):=
 match(M.oG s ((List.length s):Int) Go.V.an (0:Int))with
 |none=>none
 |some y0=>
 (match y0 with
 |.inl a1=>
 some a1
 |.inr b1=>
 let q2:=((decide ((1:Int)<=((List.length b1):Int)))&&(decide (((List.length b1):Int)<=(12:Int))))
 bif(((Go.V.inB (Go.IntKind.wrap Go.IntKind.i64 (((List.length b1):Int)-(1:Int))) (List.length b1))||(!(q2==true)))&&true)then
 some (q2&&(((UInt8.toNat (List.getD b1 (Int.toNat (Go.IntKind.wrap Go.IntKind.i64 (((List.length b1):Int)-(1:Int)))) (0:UInt8))):Int) !=(45:Int)))
 else
 none)
def tL(name:(List UInt8)):Option (Bool):=
 let q0:=(M.oD name)
 bif((Option.isSome q0)&&true)then
 some (!(Option.getD q0 default))
 else
 none
def qI(s:(List (List UInt8)))(t7:Int):Nat->Int->Option ((Int)⊕(Unit))
 |0,_=>none
 |fuel+1,t8=>
 bif(decide (t8<t7))then
 let q0:=(M.tL (List.getD s (Int.toNat t8) []))
 bif(Option.getD q0 default)then
 let q1:=((Option.isSome q0)&&((Go.V.inB t8 (List.length s))&&true))
 bif q1 then
 some (.inl t8)
 else
 none
 else
 let q1:=((Option.isSome q0)&&((Go.V.inB t8 (List.length s))&&true))
 bif q1 then
 M.qI s t7 fuel (Go.IntKind.wrap Go.IntKind.i64 (t8+(1:Int)))
 else
 none
 else
 some ((.inr (())))
def xl(s:(List (List UInt8))):Option (Int):=
 match(M.qI s ((List.length s):Int) Go.V.an (0:Int))with
 |none=>none
 |some y0=>
 (match y0 with
 |.inl a1=>
 some a1
 |.inr b1=>
 some (-(1:Int)))
def tM(s:(List (List UInt8))):Option (Bool):=
 let q0:=(M.xl s)
 bif((Option.isSome q0)&&true)then
 some (decide ((0:Int)<=(Option.getD q0 default)))
 else
 none
def tK(labels:(List (List UInt8))):Option (Bool):=
 let q0:=(M.tM labels)
 let q1:=((decide ((1:Int)<=((List.length labels):Int)))&&(decide (((List.length labels):Int)<=(16:Int))))
 let q2:=(M.nP labels)
 let q3:=(q1&&(Option.getD q2 default))
 bif(((Option.isSome q0)||(!(q3==true)))&&(((Option.isSome q2)||(!(q1==true)))&&true))then
 some (q3&&(!(Option.getD q0 default)))
 else
 none
def amK(list:(List M.aa)):Option (Int):=
 some ((List.length list):Int)
def x6(t:M.aa):Option (Bool):=
 some ((M.aa.Kind t)==(1:Int))
def qL(s:(List M.aa))(t7:Int):Nat->Int->Option ((Int)⊕(Unit))
 |0,_=>none
 |fuel+1,t8=>
 bif(decide (t8<t7))then
 bif((M.aa.Kind (List.getD s (Int.toNat t8) M.aa.zero))==(1:Int))then
 bif((Go.V.inB t8 (List.length s))&&true)then
 some (.inl t8)
 else
 none
 else
 bif((Go.V.inB t8 (List.length s))&&true)then
 M.qL s t7 fuel (Go.IntKind.wrap Go.IntKind.i64 (t8+(1:Int)))
 else
 none
 else
 some ((.inr (())))
def xz(s:(List M.aa)):Option (Int):=
 match(M.qL s ((List.length s):Int) Go.V.an (0:Int))with
 |none=>none
 |some y0=>
 (match y0 with
 |.inl a1=>
 some a1
 |.inr b1=>
 some (-(1:Int)))
def tW(s:(List M.aa)):Option (Bool):=
 let q0:=(M.xz s)
 bif((Option.isSome q0)&&true)then
 some (decide ((0:Int)<=(Option.getD q0 default)))
 else
 none
def mV(t:M.aa)(many:Int):Option (Bool):=
 let q0:=(M.tW (M.aa.Kids t))
 bif(((Option.isSome q0)||(!((((List.length (M.aa.Kids t)):Int)==many)==true)))&&true)then
 some ((((List.length (M.aa.Kids t)):Int)==many)&&(!(Option.getD q0 default)))
 else
 none
def qJ(s:(List Int))(v:Int)(t7:Int):Nat->Int->Option ((Int)⊕(Unit))
 |0,_=>none
 |fuel+1,t8=>
 bif(decide (t8<t7))then
 bif(v==(List.getD s (Int.toNat t8) (0:Int)))then
 bif((Go.V.inB t8 (List.length s))&&true)then
 some (.inl t8)
 else
 none
 else
 bif((Go.V.inB t8 (List.length s))&&true)then
 M.qJ s v t7 fuel (Go.IntKind.wrap Go.IntKind.i64 (t8+(1:Int)))
 else
 none
 else
 some ((.inr (())))
def xo(s:(List Int))(v:Int):Option (Int):=
 match(M.qJ s v ((List.length s):Int) Go.V.an (0:Int))with
 |none=>none
 |some y0=>
 (match y0 with
 |.inl a1=>
 some a1
 |.inr b1=>
 some (-(1:Int)))
def kN(s:(List Int))(v:Int):Option (Bool):=
 let q0:=(M.xo s v)
 bif((Option.isSome q0)&&true)then
 some (decide ((0:Int)<=(Option.getD q0 default)))
 else
 none
def tO(cg:M.aa->(List Int)->Option (Bool))(kid:M.aa)(t1:(List Int)):Option (Bool):=
 bif((Option.isSome (cg (M.aa.re kid) t1))&&true)then
 some (Option.getD (cg (M.aa.re kid) t1) default)
 else
 none
def qK(cg:M.aa->(List Int)->Option (Bool))(s:(List M.aa))(f:(List Int))(t7:Int):Nat->Int->Option ((Int)⊕(Unit))
 |0,_=>none
 |fuel+1,t8=>
 bif(decide (t8<t7))then
 let q0:=(M.tO cg (M.aa.re (List.getD s (Int.toNat t8) M.aa.zero)) f)
 bif(Option.getD q0 default)then
 let q1:=((Option.isSome q0)&&((Go.V.inB t8 (List.length s))&&true))
 bif q1 then
 some (.inl t8)
 else
 none
 else
 let q1:=((Option.isSome q0)&&((Go.V.inB t8 (List.length s))&&true))
 bif q1 then
 M.qK cg s f t7 fuel (Go.IntKind.wrap Go.IntKind.i64 (t8+(1:Int)))
 else
 none
 else
 some ((.inr (())))
def xp(cg:M.aa->(List Int)->Option (Bool))(s:(List M.aa))(f:(List Int)):Option (Int):=
 match(M.qK cg s f ((List.length s):Int) Go.V.an (0:Int))with
 |none=>none
 |some y0=>
 (match y0 with
 |.inl a1=>
 some a1
 |.inr b1=>
 some (-(1:Int)))
def tP(cg:M.aa->(List Int)->Option (Bool))(s:(List M.aa))(f:(List Int)):Option (Bool):=
 let q0:=(M.xp cg s f)
 bif((Option.isSome q0)&&true)then
 some (decide ((0:Int)<=(Option.getD q0 default)))
 else
 none
def xq(cg:M.aa->(List Int)->Option (Bool))(t:M.aa)(kinds:(List Int)):Option (Bool):=
 let q0:=(M.tP cg (M.aa.Kids t) kinds)
 let q1:=(M.kN kinds (M.aa.Kind t))
 bif(((Option.isSome q0)||(!((Option.getD q1 default)==false)))&&((Option.isSome q1)&&true))then
 some ((Option.getD q1 default)||(Option.getD q0 default))
 else
 none
def lL:Nat->M.aa->(List Int)->Option (Bool)
 |0=>fun _ _=>none
 |n+1=>xq (lL n)
def lP:M.aa->(List Int)->Option (Bool):=lL Go.V.an
def tX(cb:M.aa->Option (Bool))(t:M.aa):Option (Bool):=
 let q0:=(M.qM cb (M.aa.Kids t))
 bif(Option.getD q0 default)then
 bif((Option.isSome q0)&&true)then
 some false
 else
 none
 else
 let q1:=((decide ((16:Int)<=(M.aa.Kind t)))&&(decide ((M.aa.Kind t)<=(19:Int))))
 let q2:=(M.tK (M.aa.bY t))
 let q3:=((q1&&(!(Option.getD q2 default)))||((!q1)&&(decide ((0:Int)<((List.length (M.aa.bY t)):Int)))))
 let q4:=(((M.aa.Kind t)==(20:Int))||((M.aa.Kind t)==(21:Int)))
 let q5:=(M.oD (M.aa.Name t))
 bif((q3||(q4&&(!(Option.getD q5 default))))||((!q4)&&(!((M.aa.Name t)==[]))))then
 let q6:=(((Option.isSome q5)||(!((q3==false)&&(q4==true))))&&(((Option.isSome q2)||(!(q1==true)))&&((Option.isSome q0)&&true)))
 bif q6 then
 some false
 else
 none
 else
 bif(bif((M.aa.Kind t)==(12:Int))then((M.aa.Kind t)==(12:Int))else((M.aa.Kind t)==(13:Int)))then
 let q6:=(M.mV (M.aa.re t) (1:Int))
 let q7:=(((Option.isSome q5)||(!((q3==false)&&(q4==true))))&&(((Option.isSome q2)||(!(q1==true)))&&((Option.isSome q0)&&true)))
 let q8:=((q7||(!((M.aa.Kind t)==(12:Int))))&&(q7||((M.aa.Kind t)==(12:Int))))
 bif((Option.isSome q6)&&q8)then
 some (Option.getD q6 default)
 else
 none
 else
 bif((M.aa.Kind t)==(14:Int))then
 let q6:=(((Option.isSome q5)||(!((q3==false)&&(q4==true))))&&(((Option.isSome q2)||(!(q1==true)))&&((Option.isSome q0)&&true)))
 let q7:=((q6||(!((M.aa.Kind t)==(12:Int))))&&(q6||((M.aa.Kind t)==(12:Int))))
 bif q7 then
 some (((List.length (M.aa.Kids t)):Int)==(2:Int))
 else
 none
 else
 bif((M.aa.Kind t)==(15:Int))then
 let q6:=(M.mV (M.aa.re t) ((List.length (M.aa.Kids t)):Int))
 let q7:=((decide ((1:Int)<=((List.length (M.aa.Kids t)):Int)))&&(decide (((List.length (M.aa.Kids t)):Int)<=(6:Int))))
 let q8:=(((Option.isSome q5)||(!((q3==false)&&(q4==true))))&&(((Option.isSome q2)||(!(q1==true)))&&((Option.isSome q0)&&true)))
 let q9:=((q8||(!((M.aa.Kind t)==(12:Int))))&&(q8||((M.aa.Kind t)==(12:Int))))
 bif(((Option.isSome q6)||(!(q7==true)))&&q9)then
 some (q7&&(Option.getD q6 default))
 else
 none
 else
 bif((M.aa.Kind t)==(16:Int))then
 let q6:=(M.mV (M.aa.re t) ((List.length (M.aa.bY t)):Int))
 let q7:=(((Option.isSome q5)||(!((q3==false)&&(q4==true))))&&(((Option.isSome q2)||(!(q1==true)))&&((Option.isSome q0)&&true)))
 let q8:=((q7||(!((M.aa.Kind t)==(12:Int))))&&(q7||((M.aa.Kind t)==(12:Int))))
 bif((Option.isSome q6)&&q8)then
 some (Option.getD q6 default)
 else
 none
 else
 bif((M.aa.Kind t)==(17:Int))then
 let q6:=(((Option.isSome q5)||(!((q3==false)&&(q4==true))))&&(((Option.isSome q2)||(!(q1==true)))&&((Option.isSome q0)&&true)))
 let q7:=((q6||(!((M.aa.Kind t)==(12:Int))))&&(q6||((M.aa.Kind t)==(12:Int))))
 bif q7 then
 some (((List.length (M.aa.Kids t)):Int)==((List.length (M.aa.bY t)):Int))
 else
 none
 else
 bif(bif((M.aa.Kind t)==(22:Int))then((M.aa.Kind t)==(22:Int))else((M.aa.Kind t)==(23:Int)))then
 let q6:=(M.lP (M.aa.re (List.getD (M.aa.Kids t) (Int.toNat (0:Int)) M.aa.zero)) [(21:Int)])
 let q7:=(!((((List.length (M.aa.Kids t)):Int)==(1:Int))==true))
 let q8:=(((Option.isSome q5)||(!((q3==false)&&(q4==true))))&&(((Option.isSome q2)||(!(q1==true)))&&((Option.isSome q0)&&true)))
 let q9:=((q8||(!((M.aa.Kind t)==(12:Int))))&&(q8||((M.aa.Kind t)==(12:Int))))
 let q10:=((q9||(!((M.aa.Kind t)==(22:Int))))&&(q9||((M.aa.Kind t)==(22:Int))))
 bif(((Option.isSome q6)||q7)&&(((Go.V.inB (0:Int) (List.length (M.aa.Kids t)))||q7)&&q10))then
 some ((((List.length (M.aa.Kids t)):Int)==(1:Int))&&(!(Option.getD q6 default)))
 else
 none
 else
 let q6:=(((Option.isSome q5)||(!((q3==false)&&(q4==true))))&&(((Option.isSome q2)||(!(q1==true)))&&((Option.isSome q0)&&true)))
 let q7:=((q6||(!((M.aa.Kind t)==(12:Int))))&&(q6||((M.aa.Kind t)==(12:Int))))
 let q8:=((q7||(!((M.aa.Kind t)==(22:Int))))&&(q7||((M.aa.Kind t)==(22:Int))))
 bif q8 then
 some (((decide ((1:Int)<=(M.aa.Kind t)))&&(decide ((M.aa.Kind t)<=(23:Int))))&&(((List.length (M.aa.Kids t)):Int)==(0:Int)))
 else
 none
def mW:Nat->M.aa->Option (Bool)
 |0=>fun _=>none
 |n+1=>tX (mW n)
def zF:M.aa->Option (Bool):=mW Go.V.an
def oR(t:M.aa):Option (Bool):=
 let q0:=(M.zD (M.aa.re t))
 let q1:=(M.zE (M.aa.re t) (1:Int))
 let q2:=((decide ((Option.getD q1 default).1<=(4:Int)))&&(decide ((Option.getD q1 default).2<=(24:Int))))
 bif(((Option.isSome q0)||(!(q2==true)))&&((Option.isSome q1)&&true))then
 some (q2&&(Option.getD q0 default))
 else
 none
def uj(t:M.aa):Option (Bool):=
 let q0:=(M.lM (M.aa.re t) (20:Int) (23:Int))
 let q1:=(M.oR (M.aa.re t))
 let q2:=((Option.getD q1 default)&&((M.aa.Kind t) !=(1:Int)))
 bif(((Option.isSome q0)||(!(q2==true)))&&((Option.isSome q1)&&true))then
 some (q2&&(!(Option.getD q0 default)))
 else
 none
def tV(t:M.aa):Option (Bool):=
 let q0:=(M.oR (M.aa.re t))
 bif((Option.isSome q0)&&true)then
 some (Option.getD q0 default)
 else
 none
def qT(bw:M.af->M.aa->Option (Bool))(kids:(List M.af))(t:M.aa):Option (Bool):=
 bif((M.aa.Kind t)==(1:Int))then
 some (((List.length kids):Int)==(0:Int))
 else
 let q0:=(!((((List.length kids):Int)==(1:Int))==true))
 bif(((Option.isSome (bw (M.af.re (List.getD kids (Int.toNat (0:Int)) M.af.zero)) (M.aa.re t)))||q0)&&(((Go.V.inB (0:Int) (List.length kids))||q0)&&true))then
 some ((((List.length kids):Int)==(1:Int))&&(Option.getD (bw (M.af.re (List.getD kids (Int.toNat (0:Int)) M.af.zero)) (M.aa.re t)) default))
 else
 none
def lV(bw:M.af->M.aa->Option (Bool))(kids:(List M.af)):Nat->Int->M.aa->Option ((Bool)⊕(Unit))
 |0,_,_=>none
 |fuel+1,i,t=>
 bif(decide (i<((List.length kids):Int)))then
 bif(!(Option.getD (bw (M.af.re (List.getD kids (Int.toNat i) M.af.zero)) (M.aa.re t)) default))then
 let q0:=((Option.isSome (bw (M.af.re (List.getD kids (Int.toNat i) M.af.zero)) (M.aa.re t)))&&((Go.V.inB i (List.length kids))&&true))
 bif q0 then
 some (.inl false)
 else
 none
 else
 let q0:=((Option.isSome (bw (M.af.re (List.getD kids (Int.toNat i) M.af.zero)) (M.aa.re t)))&&((Go.V.inB i (List.length kids))&&true))
 bif q0 then
 M.lV bw kids fuel (Go.IntKind.wrap Go.IntKind.i64 (i+(1:Int))) (M.aa.re t)
 else
 none
 else
 some ((.inr (())))
def qS(bw:M.af->M.aa->Option (Bool))(kids:(List M.af))(most:Int)(t:M.aa):Option (Bool):=
 bif(decide (most<((List.length kids):Int)))then
 some false
 else
 match(M.lV bw kids Go.V.an (0:Int) (M.aa.re t))with
 |none=>none
 |some y0=>
 (match y0 with
 |.inl a1=>
 some a1
 |.inr b1=>
 some true)
def iC(n:Int):Option (Bool):=
 some (((decide ((0:Int)<=n))&&(decide (n<=(55295:Int))))||((decide ((57344:Int)<=n))&&(decide (n<=(1114111:Int)))))
def oS(s:(List UInt8))(many:Int):Nat->Int->Int->Option ((List UInt8)×Int×Int)
 |0,_,_=>none
 |fuel+1,n,i=>
 bif(decide (i<many))then
 bif((Go.V.inB i (List.length s))&&true)then
 M.oS s many fuel (Go.V.gp Go.BinOp.or Go.IntKind.i64 (Go.V.mY Go.IntKind.i64 n (6:Int)) (Go.IntKind.wrap Go.IntKind.i64 (Go.V.gp Go.BinOp.and Go.IntKind.u8 ((UInt8.toNat (List.getD s (Int.toNat i) (0:UInt8))):Int) (63:Int)))) (Go.IntKind.wrap Go.IntKind.i64 (i+(1:Int)))
 else
 none
 else
 some ((s,many,n))
def mZ(n:Int):Option ((List UInt8)):=
 bif(decide (n<(128:Int)))then
 bif(((Go.V.iz (Go.IntKind.wrap Go.IntKind.u8 n))&&true)&&true)then
 some (List.map (fun a=>a) [(Go.V.fy (Go.IntKind.wrap Go.IntKind.u8 n))])
 else
 none
 else
 bif(decide (n<(2048:Int)))then
 let q0:=(Go.IntKind.wrap Go.IntKind.u8 (Go.IntKind.wrap Go.IntKind.i64 ((192:Int)+(Go.V.jg Go.IntKind.i64 n (6:Int)))))
 let q1:=(Go.IntKind.wrap Go.IntKind.u8 (Go.IntKind.wrap Go.IntKind.i64 ((128:Int)+(Go.V.gp Go.BinOp.and Go.IntKind.i64 n (63:Int)))))
 let q2:=((Go.V.iz q1)&&true)
 bif(((Go.V.iz q0)&&q2)&&true)then
 let q3:=[(Go.V.fy q1)]
 some (List.map (fun a=>a) [(Go.V.fy q0),(Go.V.fy q1)])
 else
 none
 else
 bif(decide (n<(65536:Int)))then
 let q0:=(Go.IntKind.wrap Go.IntKind.u8 (Go.IntKind.wrap Go.IntKind.i64 ((224:Int)+(Go.V.jg Go.IntKind.i64 n (12:Int)))))
 let q1:=(Go.IntKind.wrap Go.IntKind.u8 (Go.IntKind.wrap Go.IntKind.i64 ((128:Int)+(Go.V.gp Go.BinOp.and Go.IntKind.i64 (Go.V.jg Go.IntKind.i64 n (6:Int)) (63:Int)))))
 let q2:=(Go.IntKind.wrap Go.IntKind.u8 (Go.IntKind.wrap Go.IntKind.i64 ((128:Int)+(Go.V.gp Go.BinOp.and Go.IntKind.i64 n (63:Int)))))
 let q3:=((Go.V.iz q2)&&true)
 let q4:=((Go.V.iz q1)&&q3)
 bif(((Go.V.iz q0)&&q4)&&true)then
 let q5:=[(Go.V.fy q2)]
 let q6:=[(Go.V.fy q1),(Go.V.fy q2)]
 some (List.map (fun a=>a) [(Go.V.fy q0),(Go.V.fy q1),(Go.V.fy q2)])
 else
 none
 else
 let q0:=(Go.IntKind.wrap Go.IntKind.u8 (Go.IntKind.wrap Go.IntKind.i64 ((240:Int)+(Go.V.jg Go.IntKind.i64 n (18:Int)))))
 let q1:=(Go.IntKind.wrap Go.IntKind.u8 (Go.IntKind.wrap Go.IntKind.i64 ((128:Int)+(Go.V.gp Go.BinOp.and Go.IntKind.i64 (Go.V.jg Go.IntKind.i64 n (12:Int)) (63:Int)))))
 let q2:=(Go.IntKind.wrap Go.IntKind.u8 (Go.IntKind.wrap Go.IntKind.i64 ((128:Int)+(Go.V.gp Go.BinOp.and Go.IntKind.i64 (Go.V.jg Go.IntKind.i64 n (6:Int)) (63:Int)))))
 let q3:=(Go.IntKind.wrap Go.IntKind.u8 (Go.IntKind.wrap Go.IntKind.i64 ((128:Int)+(Go.V.gp Go.BinOp.and Go.IntKind.i64 n (63:Int)))))
 let q4:=((Go.V.iz q3)&&true)
 let q5:=((Go.V.iz q2)&&q4)
 bif(((Go.V.iz q0)&&((Go.V.iz q1)&&q5))&&true)then
 let q6:=[(Go.V.fy q3)]
 let q7:=[(Go.V.fy q2),(Go.V.fy q3)]
 some (List.map (fun a=>a) [(Go.V.fy q0),(Go.V.fy q1),(Go.V.fy q2),(Go.V.fy q3)])
 else
 none
def ub(s:(List UInt8)):Option (Int×Int):=
 bif(s==[])then
 some ((0:Int),(0:Int))
 else
 let q0:=(bif(decide ((240:Int)<=((UInt8.toNat (List.getD s (Int.toNat (0:Int)) (0:UInt8))):Int)))then(4:Int)else(bif(decide ((224:Int)<=((UInt8.toNat (List.getD s (Int.toNat (0:Int)) (0:UInt8))):Int)))then(3:Int)else(bif(decide ((192:Int)<=((UInt8.toNat (List.getD s (Int.toNat (0:Int)) (0:UInt8))):Int)))then(2:Int)else(1:Int))))
 bif(decide (((List.length s):Int)<q0))then
 let q1:=((Go.V.inB (0:Int) (List.length s))&&((Go.V.inB (0:Int) (List.length s))&&((Go.V.inB (0:Int) (List.length s))&&true)))
 let q2:=((Go.V.inB (0:Int) (List.length s))&&q1)
 let q3:=((q1||(!(decide ((240:Int)<=((UInt8.toNat (List.getD s (Int.toNat (0:Int)) (0:UInt8))):Int)))))&&(((q2||(!(decide ((224:Int)<=((UInt8.toNat (List.getD s (Int.toNat (0:Int)) (0:UInt8))):Int)))))&&(((((Go.V.inB (0:Int) (List.length s))&&q2)||(!(decide ((192:Int)<=((UInt8.toNat (List.getD s (Int.toNat (0:Int)) (0:UInt8))):Int)))))&&(q2||(decide ((192:Int)<=((UInt8.toNat (List.getD s (Int.toNat (0:Int)) (0:UInt8))):Int)))))||(decide ((224:Int)<=((UInt8.toNat (List.getD s (Int.toNat (0:Int)) (0:UInt8))):Int)))))||(decide ((240:Int)<=((UInt8.toNat (List.getD s (Int.toNat (0:Int)) (0:UInt8))):Int)))))
 bif q3 then
 some ((0:Int),(0:Int))
 else
 none
 else
 let q1:=(Go.IntKind.wrap Go.IntKind.i64 ((UInt8.toNat (List.getD s (Int.toNat (0:Int)) (0:UInt8))):Int))
 match(M.oS s q0 Go.V.an (bif(decide ((240:Int)<=((UInt8.toNat (List.getD s (Int.toNat (0:Int)) (0:UInt8))):Int)))then(Go.IntKind.wrap Go.IntKind.i64 (q1-(240:Int)))else(bif(decide ((224:Int)<=((UInt8.toNat (List.getD s (Int.toNat (0:Int)) (0:UInt8))):Int)))then(Go.IntKind.wrap Go.IntKind.i64 (q1-(224:Int)))else(bif(decide ((192:Int)<=((UInt8.toNat (List.getD s (Int.toNat (0:Int)) (0:UInt8))):Int)))then(Go.IntKind.wrap Go.IntKind.i64 (q1-(192:Int)))else q1))) (1:Int))with
 |none=>none
 |some y2=>
 let q3:=(M.iC y2.2.2)
 let q4:=(!(Option.getD q3 default))
 let q5:=(M.mZ y2.2.2)
 bif(q4||(!((Option.getD q5 default)==(List.drop (Int.toNat (0:Int)) (List.take (Int.toNat y2.2.1) y2.1)))))then
 let q6:=(!(q4==false))
 let q7:=((Go.V.inB (0:Int) (List.length s))&&((Go.V.inB (0:Int) (List.length s))&&((Go.V.inB (0:Int) (List.length s))&&true)))
 let q8:=((Go.V.inB (0:Int) (List.length s))&&q7)
 let q9:=((q7||(!(decide ((240:Int)<=((UInt8.toNat (List.getD s (Int.toNat (0:Int)) (0:UInt8))):Int)))))&&(((q8||(!(decide ((224:Int)<=((UInt8.toNat (List.getD s (Int.toNat (0:Int)) (0:UInt8))):Int)))))&&(((((Go.V.inB (0:Int) (List.length s))&&q8)||(!(decide ((192:Int)<=((UInt8.toNat (List.getD s (Int.toNat (0:Int)) (0:UInt8))):Int)))))&&(q8||(decide ((192:Int)<=((UInt8.toNat (List.getD s (Int.toNat (0:Int)) (0:UInt8))):Int)))))||(decide ((224:Int)<=((UInt8.toNat (List.getD s (Int.toNat (0:Int)) (0:UInt8))):Int)))))||(decide ((240:Int)<=((UInt8.toNat (List.getD s (Int.toNat (0:Int)) (0:UInt8))):Int)))))
 let q10:=(((Go.V.cC (0:Int) y2.2.1 (List.length y2.1))||q6)&&(((Option.isSome q5)||q6)&&((Option.isSome q3)&&q9)))
 bif q10 then
 some ((0:Int),(0:Int))
 else
 none
 else
 let q6:=(!(q4==false))
 let q7:=((Go.V.inB (0:Int) (List.length s))&&((Go.V.inB (0:Int) (List.length s))&&((Go.V.inB (0:Int) (List.length s))&&true)))
 let q8:=((Go.V.inB (0:Int) (List.length s))&&q7)
 let q9:=((q7||(!(decide ((240:Int)<=((UInt8.toNat (List.getD s (Int.toNat (0:Int)) (0:UInt8))):Int)))))&&(((q8||(!(decide ((224:Int)<=((UInt8.toNat (List.getD s (Int.toNat (0:Int)) (0:UInt8))):Int)))))&&(((((Go.V.inB (0:Int) (List.length s))&&q8)||(!(decide ((192:Int)<=((UInt8.toNat (List.getD s (Int.toNat (0:Int)) (0:UInt8))):Int)))))&&(q8||(decide ((192:Int)<=((UInt8.toNat (List.getD s (Int.toNat (0:Int)) (0:UInt8))):Int)))))||(decide ((224:Int)<=((UInt8.toNat (List.getD s (Int.toNat (0:Int)) (0:UInt8))):Int)))))||(decide ((240:Int)<=((UInt8.toNat (List.getD s (Int.toNat (0:Int)) (0:UInt8))):Int)))))
 let q10:=(((Go.V.cC (0:Int) y2.2.1 (List.length y2.1))||q6)&&(((Option.isSome q5)||q6)&&((Option.isSome q3)&&q9)))
 bif q10 then
 some (y2.2.2,y2.2.1)
 else
 none
def qP:Nat->(List UInt8)->(List Int)->Option ((Bool×(List Int))⊕((List Int)))
 |0,_,_=>none
 |fuel+1,s,out=>
 bif(decide ((0:Int)<((List.length s):Int)))then
 let q0:=(M.ub s)
 bif((Option.getD q0 default).2==(0:Int))then
 bif((Option.isSome q0)&&true)then
 some (.inl (false,[]))
 else
 none
 else
 let q1:=[(Option.getD q0 default).1]
 bif((Go.V.cC (Option.getD q0 default).2 ((List.length s):Int) (List.length s))&&((decide (((List.length out)+(List.length q1))<=1073741824))&&((Option.isSome q0)&&true)))then
 M.qP fuel (List.drop (Int.toNat (Option.getD q0 default).2) (List.take (Int.toNat ((List.length s):Int)) s)) (out++q1)
 else
 none
 else
 some ((.inr (out)))
def ud(s:(List UInt8)):Option ((List Int)×Bool):=
 match(M.qP Go.V.an s [])with
 |none=>none
 |some y0=>
 (match y0 with
 |.inl a1=>
 some (a1.2,a1.1)
 |.inr b1=>
 some (b1,true))
def uc(s:(List UInt8)):Option (Bool):=
 bif(decide ((24:Int)<((List.length s):Int)))then
 some false
 else
 let q0:=(M.ud s)
 bif((Option.isSome q0)&&true)then
 some (Option.getD q0 default).2
 else
 none
def lW(bw:M.af->M.aa->Option (Bool))(kids:(List M.af))(ts:(List M.aa)):Nat->Int->Option ((Bool)⊕(Unit))
 |0,_=>none
 |fuel+1,i=>
 bif(decide (i<((List.length kids):Int)))then
 bif(!(Option.getD (bw (M.af.re (List.getD kids (Int.toNat i) M.af.zero)) (M.aa.re (List.getD ts (Int.toNat i) M.aa.zero))) default))then
 let q0:=((Option.isSome (bw (M.af.re (List.getD kids (Int.toNat i) M.af.zero)) (M.aa.re (List.getD ts (Int.toNat i) M.aa.zero))))&&((Go.V.inB i (List.length ts))&&((Go.V.inB i (List.length kids))&&true)))
 bif q0 then
 some (.inl false)
 else
 none
 else
 let q0:=((Option.isSome (bw (M.af.re (List.getD kids (Int.toNat i) M.af.zero)) (M.aa.re (List.getD ts (Int.toNat i) M.aa.zero))))&&((Go.V.inB i (List.length ts))&&((Go.V.inB i (List.length kids))&&true)))
 bif q0 then
 M.lW bw kids ts fuel (Go.IntKind.wrap Go.IntKind.i64 (i+(1:Int)))
 else
 none
 else
 some ((.inr (())))
def ui(bw:M.af->M.aa->Option (Bool))(kids:(List M.af))(ts:(List M.aa)):Option (Bool):=
 bif(((List.length kids):Int) !=((List.length ts):Int))then
 some false
 else
 match(M.lW bw kids ts Go.V.an (0:Int))with
 |none=>none
 |some y0=>
 (match y0 with
 |.inl a1=>
 some a1
 |.inr b1=>
 some true)
def xC(kind:Int):Option (Int×Int×Bool):=
 bif(kind==(3:Int))then
 some ((0:Int),(255:Int),true)
 else
 bif(kind==(4:Int))then
 some ((-(128:Int)),(127:Int),true)
 else
 bif(kind==(5:Int))then
 some ((0:Int),(65535:Int),true)
 else
 bif(kind==(6:Int))then
 some ((-(32768:Int)),(32767:Int),true)
 else
 bif(kind==(7:Int))then
 some ((0:Int),(4294967295:Int),true)
 else
 bif(kind==(8:Int))then
 some ((-(2147483648:Int)),(2147483647:Int),true)
 else
 bif(kind==(9:Int))then
 some ((-(9223372036854775808:Int)),(9223372036854775807:Int),true)
 else
 some ((0:Int),(0:Int),false)
def m4(bw:M.af->M.aa->Option (Bool))(v:M.af)(t:M.aa):Option (Bool):=
 bif(((M.af.Kind v) !=(M.aa.Kind t))||(((M.aa.Kind t) !=(11:Int))&&(!((M.af.Text v)==[]))))then
 some false
 else
 bif(bif((M.aa.Kind t)==(2:Int))then((M.aa.Kind t)==(2:Int))else((M.aa.Kind t)==(14:Int)))then
 bif(!((decide ((0:Int)<=(M.af.Num v)))&&(decide ((M.af.Num v)<=(1:Int)))))then
 some false
 else
 let q0:=(((M.aa.Kind t)==(14:Int))||((M.aa.Kind t)==(17:Int)))
 bif q0 then
 let q1:=(M.qT bw (M.af.Kids v) (M.aa.re (List.getD (M.aa.Kids t) (Int.toNat (M.af.Num v)) M.aa.zero)))
 let q2:=(Option.isSome q1)
 bif(q2&&((Go.V.inB (M.af.Num v) (List.length (M.aa.Kids t)))&&true))then
 let q3:=(Option.getD q1 default)
 some q3
 else
 none
 else
 some (((List.length (M.af.Kids v)):Int)==(0:Int))
 else
 bif((M.aa.Kind t)==(13:Int))then
 let q0:=(M.qS bw (M.af.Kids v) (1:Int) (M.aa.re (List.getD (M.aa.Kids t) (Int.toNat (0:Int)) M.aa.zero)))
 let q1:=(!(((M.af.Num v)==((List.length (M.af.Kids v)):Int))==true))
 bif(((Option.isSome q0)||q1)&&(((Go.V.inB (0:Int) (List.length (M.aa.Kids t)))||q1)&&true))then
 some (((M.af.Num v)==((List.length (M.af.Kids v)):Int))&&(Option.getD q0 default))
 else
 none
 else
 bif((M.aa.Kind t)==(10:Int))then
 some ((Option.getD (M.iC (M.af.Num v)) default)&&(((List.length (M.af.Kids v)):Int)==(0:Int)))
 else
 bif((M.aa.Kind t)==(11:Int))then
 let q0:=(M.uc (M.af.Text v))
 bif((Option.isSome q0)&&true)then
 some (((Option.getD q0 default)&&((M.af.Num v)==(0:Int)))&&(((List.length (M.af.Kids v)):Int)==(0:Int)))
 else
 none
 else
 bif((M.aa.Kind t)==(12:Int))then
 let q0:=(M.qS bw (M.af.Kids v) (8:Int) (M.aa.re (List.getD (M.aa.Kids t) (Int.toNat (0:Int)) M.aa.zero)))
 let q1:=(!(((M.af.Num v)==(0:Int))==true))
 bif(((Option.isSome q0)||q1)&&(((Go.V.inB (0:Int) (List.length (M.aa.Kids t)))||q1)&&true))then
 some (((M.af.Num v)==(0:Int))&&(Option.getD q0 default))
 else
 none
 else
 bif(bif((M.aa.Kind t)==(15:Int))then((M.aa.Kind t)==(15:Int))else((M.aa.Kind t)==(16:Int)))then
 let q0:=(M.ui bw (M.af.Kids v) (M.aa.Kids t))
 let q1:=(!(((M.af.Num v)==(0:Int))==true))
 bif(((Option.isSome q0)||q1)&&true)then
 some (((M.af.Num v)==(0:Int))&&(Option.getD q0 default))
 else
 none
 else
 let q0:=(bif((M.aa.Kind t)==(17:Int))then((M.aa.Kind t)==(17:Int))else((M.aa.Kind t)==(18:Int)))
 let q1:=(bif((M.aa.Kind t)==(20:Int))then((M.aa.Kind t)==(20:Int))else(bif((M.aa.Kind t)==(21:Int))then((M.aa.Kind t)==(21:Int))else(bif((M.aa.Kind t)==(22:Int))then((M.aa.Kind t)==(22:Int))else((M.aa.Kind t)==(23:Int)))))
 let q2:=(M.xC (M.aa.Kind t))
 bif(!((decide ((bif q0 then(0:Int)else(bif((M.aa.Kind t)==(19:Int))then(0:Int)else(bif q1 then(0:Int)else(Option.getD q2 default).1)))<=(M.af.Num v)))&&(decide ((M.af.Num v)<=(bif q0 then(Go.IntKind.wrap Go.IntKind.i64 (((List.length (M.aa.bY t)):Int)-(1:Int)))else(bif((M.aa.Kind t)==(19:Int))then(Go.IntKind.wrap Go.IntKind.i64 ((Go.V.mY Go.IntKind.i64 (1:Int) (Go.IntKind.wrap Go.IntKind.u64 ((List.length (M.aa.bY t)):Int)))-(1:Int)))else(bif q1 then(2147483647:Int)else(Option.getD q2 default).2.1)))))))then
 let q3:=(((((Option.isSome q2)&&true)||q1)||((M.aa.Kind t)==(19:Int)))||q0)
 bif q3 then
 some false
 else
 none
 else
 let q3:=(((M.aa.Kind t)==(14:Int))||((M.aa.Kind t)==(17:Int)))
 bif q3 then
 let q4:=(M.qT bw (M.af.Kids v) (M.aa.re (List.getD (M.aa.Kids t) (Int.toNat (M.af.Num v)) M.aa.zero)))
 let q5:=(Option.isSome q4)
 let q6:=(((((Option.isSome q2)&&true)||q1)||((M.aa.Kind t)==(19:Int)))||q0)
 bif(q5&&((Go.V.inB (M.af.Num v) (List.length (M.aa.Kids t)))&&q6))then
 let q7:=(Option.getD q4 default)
 some q7
 else
 none
 else
 let q4:=(((((Option.isSome q2)&&true)||q1)||((M.aa.Kind t)==(19:Int)))||q0)
 bif q4 then
 some (((List.length (M.af.Kids v)):Int)==(0:Int))
 else
 none
def qU:Nat->M.af->M.aa->Option (Bool)
 |0=>fun _ _=>none
 |n+1=>m4 (qU n)
def zP:M.af->M.aa->Option (Bool):=qU Go.V.an
def um(v:M.af)(t:M.aa):Option (Bool):=
 let q0:=(M.zP (M.af.re v) (M.aa.re t))
 let q1:=(M.tV (M.aa.re t))
 bif(((Option.isSome q0)||(!((Option.getD q1 default)==true)))&&((Option.isSome q1)&&true))then
 some ((Option.getD q1 default)&&(Option.getD q0 default))
 else
 none
def lX(list:(List M.af)):Nat->Int->M.aa->Option ((Bool)⊕(Unit))
 |0,_,_=>none
 |fuel+1,i,t=>
 bif(decide (i<((List.length list):Int)))then
 let q0:=(M.um (M.af.re (List.getD list (Int.toNat i) M.af.zero)) (M.aa.re t))
 bif(!(Option.getD q0 default))then
 let q1:=((Option.isSome q0)&&((Go.V.inB i (List.length list))&&true))
 bif q1 then
 some (.inl false)
 else
 none
 else
 let q1:=((Option.isSome q0)&&((Go.V.inB i (List.length list))&&true))
 bif q1 then
 M.lX list fuel (Go.IntKind.wrap Go.IntKind.i64 (i+(1:Int))) (M.aa.re t)
 else
 none
 else
 some ((.inr (())))
def uo(list:(List M.af))(t:M.aa)(most:Int):Option (Bool):=
 bif(decide (most<((List.length list):Int)))then
 some false
 else
 match(M.lX list Go.V.an (0:Int) (M.aa.re t))with
 |none=>none
 |some y0=>
 (match y0 with
 |.inl a1=>
 some a1
 |.inr b1=>
 some true)
def uw(s:M.ae):Option (Bool):=
 let q0:=(M.uj (M.aa.re (M.ae.cq s)))
 let q1:=(((!(Option.getD q0 default))||(!((decide ((1:Int)<=(M.ae.Room s)))&&(decide ((M.ae.Room s)<=(6:Int))))))||((M.ae.cR s)&&((M.ae.Room s) !=(1:Int))))
 let q2:=(M.uo (M.ae.Buffer s) (M.aa.re (M.ae.cq s)) (M.ae.Room s))
 bif(q1||(!(Option.getD q2 default)))then
 let q3:=(((Option.isSome q2)||(!(q1==false)))&&((Option.isSome q0)&&true))
 bif q3 then
 some false
 else
 none
 else
 bif(((decide ((M.ae.dz s)<(0:Int)))||(!((decide ((M.ae.dz s)<=(M.ae.Put s)))&&(decide ((M.ae.Put s)<=(1000000:Int))))))||((M.ae.cR s)&&(decide ((1:Int)<(M.ae.Put s)))))then
 let q3:=(((Option.isSome q2)||(!(q1==false)))&&((Option.isSome q0)&&true))
 bif q3 then
 some false
 else
 none
 else
 bif(((M.ae.Gone s)&&(decide ((0:Int)<((List.length (M.ae.Buffer s)):Int))))||((!(M.ae.Gone s))&&((Go.IntKind.wrap Go.IntKind.i64 ((M.ae.Put s)-(M.ae.dz s))) !=((List.length (M.ae.Buffer s)):Int))))then
 let q3:=(((Option.isSome q2)||(!(q1==false)))&&((Option.isSome q0)&&true))
 bif q3 then
 some false
 else
 none
 else
 let q3:=(((Option.isSome q2)||(!(q1==false)))&&((Option.isSome q0)&&true))
 bif q3 then
 some ((((!(M.ae.cR s))||(!(M.ae.Shut s)))||((M.ae.Put s)==(1:Int)))||(M.ae.Gone s))
 else
 none
def nZ(eL:M.aa->Option (M.aa))(t2:Int)(t22:(List UInt8))(out:Int)(yu:(List UInt8))(o7:(List (List UInt8)))(o8:(List M.aa))(o9:(List (List UInt8))):Nat->Int->M.aa->(List M.aa)->Option (Int×(List UInt8)×Int×(List UInt8)×(List (List UInt8))×(List M.aa)×(List (List UInt8))×(List M.aa))
 |0,_,_,_=>none
 |fuel+1,i,t,HQ=>
 bif(decide (i<((List.length (M.aa.Kids t)):Int)))then
 let q0:=[(M.aa.re (Option.getD (eL (M.aa.re (List.getD (M.aa.Kids t) (Int.toNat i) M.aa.zero))) default))]
 bif((decide (((List.length HQ)+(List.length q0))<=1073741824))&&((Option.isSome (eL (M.aa.re (List.getD (M.aa.Kids t) (Int.toNat i) M.aa.zero))))&&((Go.V.inB i (List.length (M.aa.Kids t)))&&true)))then
 M.nZ eL t2 t22 out yu o7 o8 o9 fuel (Go.IntKind.wrap Go.IntKind.i64 (i+(1:Int))) (M.aa.re t) (HQ++q0)
 else
 none
 else
 some ((t2,t22,out,yu,o7,o8,o9,HQ))
def wZ(eL:M.aa->Option (M.aa))(t:M.aa):Option (M.aa):=
 match(M.nZ eL (0:Int) [] (M.aa.Kind t) (M.aa.Name t) [] [] ([]++(M.aa.bY t)) Go.V.an (0:Int) (M.aa.re t) [])with
 |none=>none
 |some y0=>
 bif((decide ((0+(List.length (M.aa.bY t)))<=1073741824))&&true)then
 let q1:=y0.2.2
 let q2:=q1.2
 let q3:=q2.2.2.2
 some (M.aa.mk q1.1 q2.1 q3.1 q3.2)
 else
 none
def nY:Nat->M.aa->Option (M.aa)
 |0=>fun _=>none
 |n+1=>wZ (nY n)
def zu:M.aa->Option (M.aa):=nY Go.V.an
def mF(eM:M.af->Option (M.af))(t2:Int)(t22:Int)(t23:(List UInt8))(out:Int)(yu:Int)(UL:(List UInt8))(o5:(List M.af)):Nat->Int->M.af->(List M.af)->Option (Int×Int×(List UInt8)×Int×Int×(List UInt8)×(List M.af)×(List M.af))
 |0,_,_,_=>none
 |fuel+1,i,v,o6=>
 bif(decide (i<((List.length (M.af.Kids v)):Int)))then
 let q0:=[(M.af.re (Option.getD (eM (M.af.re (List.getD (M.af.Kids v) (Int.toNat i) M.af.zero))) default))]
 bif((decide (((List.length o6)+(List.length q0))<=1073741824))&&((Option.isSome (eM (M.af.re (List.getD (M.af.Kids v) (Int.toNat i) M.af.zero))))&&((Go.V.inB i (List.length (M.af.Kids v)))&&true)))then
 M.mF eM t2 t22 t23 out yu UL o5 fuel (Go.IntKind.wrap Go.IntKind.i64 (i+(1:Int))) (M.af.re v) (o6++q0)
 else
 none
 else
 some ((t2,t22,t23,out,yu,UL,o5,o6))
def w8(eM:M.af->Option (M.af))(v:M.af):Option (M.af):=
 match(M.mF eM (0:Int) (0:Int) [] (M.af.Kind v) (M.af.Num v) (M.af.Text v) [] Go.V.an (0:Int) (M.af.re v) [])with
 |none=>none
 |some y0=>
 let q1:=y0.2.2.2
 let q2:=q1.2
 let q3:=q2.2
 some (M.af.mk q1.1 q2.1 q3.1 q3.2.2)
def mE:Nat->M.af->Option (M.af)
 |0=>fun _=>none
 |n+1=>w8 (mE n)
def zt:M.af->Option (M.af):=mE Go.V.an
def sX(s:M.ae):Option (M.ae×Int):=
 bif(M.ae.Gone s)then
 some ((M.ae.mk (M.aa.mk (0:Int) [] [] []) (0:Int) false [] (0:Int) (0:Int) false false),(5:Int))
 else
 some ((M.ae.mk (M.aa.re (M.ae.cq s)) (M.ae.Room s) (M.ae.cR s) [] (M.ae.Put s) (M.ae.dz s) (M.ae.Shut s) true),(0:Int))
def tZ(t:M.aa):Option (Bool):=
 let q0:=(M.zF (M.aa.re t))
 let q1:=(M.zG (M.aa.re t) (4:Int))
 let q2:=(M.zH (M.aa.re t))
 let q3:=((decide ((Option.getD q1 default)<=(4:Int)))&&(decide ((Option.getD q2 default)<=(24:Int))))
 bif(((Option.isSome q0)||(!(q3==true)))&&(((Option.isSome q2)||(!((decide ((Option.getD q1 default)<=(4:Int)))==true)))&&((Option.isSome q1)&&true)))then
 some (q3&&(Option.getD q0 default))
 else
 none
def uk(t:M.aa):Option (Bool):=
 let q0:=(M.lP (M.aa.re t) [(20:Int),(21:Int),(22:Int),(23:Int)])
 let q1:=(M.tZ (M.aa.re t))
 let q2:=((Option.getD q1 default)&&(!((M.aa.Kind t)==(1:Int))))
 bif(((Option.isSome q0)||(!(q2==true)))&&((Option.isSome q1)&&true))then
 some (q2&&(!(Option.getD q0 default)))
 else
 none
def A4(list:(List M.af)):Option (Int):=
 some ((List.length list):Int)
def uf(kind:Int):Option (Int×Int×Bool):=
 bif(kind==(3:Int))then
 some ((0:Int),(255:Int),true)
 else
 bif(kind==(4:Int))then
 some ((-(128:Int)),(127:Int),true)
 else
 bif(kind==(5:Int))then
 some ((0:Int),(65535:Int),true)
 else
 bif(kind==(6:Int))then
 some ((-(32768:Int)),(32767:Int),true)
 else
 bif(kind==(7:Int))then
 some ((0:Int),(4294967295:Int),true)
 else
 bif(kind==(8:Int))then
 some ((-(2147483648:Int)),(2147483647:Int),true)
 else
 bif(kind==(9:Int))then
 some ((-(9223372036854775808:Int)),(9223372036854775807:Int),true)
 else
 some ((0:Int),(0:Int),false)
def A5(n:Int):Option (Bool):=
 some (((decide ((0:Int)<=n))&&(decide (n<=(55295:Int))))||((decide ((57344:Int)<=n))&&(decide (n<=(1114111:Int)))))
def ug(v:M.af)(t:M.aa):Option (Bool):=
 bif(bif((M.aa.Kind t)==(2:Int))then((M.aa.Kind t)==(2:Int))else(bif((M.aa.Kind t)==(13:Int))then((M.aa.Kind t)==(13:Int))else((M.aa.Kind t)==(14:Int))))then
 some ((decide ((0:Int)<=(M.af.Num v)))&&(decide ((M.af.Num v)<=(1:Int))))
 else
 bif(bif((M.aa.Kind t)==(3:Int))then((M.aa.Kind t)==(3:Int))else(bif((M.aa.Kind t)==(4:Int))then((M.aa.Kind t)==(4:Int))else(bif((M.aa.Kind t)==(5:Int))then((M.aa.Kind t)==(5:Int))else(bif((M.aa.Kind t)==(6:Int))then((M.aa.Kind t)==(6:Int))else(bif((M.aa.Kind t)==(7:Int))then((M.aa.Kind t)==(7:Int))else(bif((M.aa.Kind t)==(8:Int))then((M.aa.Kind t)==(8:Int))else((M.aa.Kind t)==(9:Int))))))))then
 let q0:=(M.uf (M.aa.Kind t))
 bif((Option.isSome q0)&&true)then
 some ((decide ((Option.getD q0 default).1<=(M.af.Num v)))&&(decide ((M.af.Num v)<=(Option.getD q0 default).2.1)))
 else
 none
 else
 bif((M.aa.Kind t)==(10:Int))then
 some (Option.getD (M.A5 (M.af.Num v)) default)
 else
 some ((decide ((0:Int)<=(M.af.Num v)))&&(decide ((M.af.Num v)<=(bif(bif((M.aa.Kind t)==(17:Int))then((M.aa.Kind t)==(17:Int))else((M.aa.Kind t)==(18:Int)))then(Go.IntKind.wrap Go.IntKind.i64 (((List.length (M.aa.bY t)):Int)-(1:Int)))else(bif((M.aa.Kind t)==(19:Int))then(Go.IntKind.wrap Go.IntKind.i64 ((Go.V.mY Go.IntKind.i64 (1:Int) ((List.length (M.aa.bY t)):Int))-(1:Int)))else(bif(bif((M.aa.Kind t)==(20:Int))then((M.aa.Kind t)==(20:Int))else(bif((M.aa.Kind t)==(21:Int))then((M.aa.Kind t)==(21:Int))else(bif((M.aa.Kind t)==(22:Int))then((M.aa.Kind t)==(22:Int))else((M.aa.Kind t)==(23:Int)))))then(2147483647:Int)else(0:Int)))))))
def ue(s:(List UInt8)):Option (Bool):=
 let q0:=(M.nW s)
 bif(((Option.isSome q0)||(!((decide (((List.length s):Int)<=(24:Int)))==true)))&&true)then
 some ((decide (((List.length s):Int)<=(24:Int)))&&(Option.getD q0 default))
 else
 none
def oW(t:M.aa)(num:Int):Option (M.aa×Bool):=
 bif((M.aa.Kind t)==(13:Int))then
 bif(num==(0:Int))then
 some ((M.aa.mk (1:Int) [] [] []),true)
 else
 bif(!((decide ((0:Int)<=(Go.IntKind.wrap Go.IntKind.i64 (num-(1:Int)))))&&(decide ((Go.IntKind.wrap Go.IntKind.i64 (num-(1:Int)))<=(Go.IntKind.wrap Go.IntKind.i64 (((List.length (M.aa.Kids t)):Int)-(1:Int)))))))then
 some ((M.aa.mk (0:Int) [] [] []),false)
 else
 bif((Go.V.inB (Go.IntKind.wrap Go.IntKind.i64 (num-(1:Int))) (List.length (M.aa.Kids t)))&&true)then
 some ((M.aa.re (List.getD (M.aa.Kids t) (Int.toNat (Go.IntKind.wrap Go.IntKind.i64 (num-(1:Int)))) M.aa.zero)),true)
 else
 none
 else
 bif(!((decide ((0:Int)<=num))&&(decide (num<=(Go.IntKind.wrap Go.IntKind.i64 (((List.length (M.aa.Kids t)):Int)-(1:Int)))))))then
 some ((M.aa.mk (0:Int) [] [] []),false)
 else
 bif((Go.V.inB num (List.length (M.aa.Kids t)))&&true)then
 some ((M.aa.re (List.getD (M.aa.Kids t) (Int.toNat num) M.aa.zero)),true)
 else
 none
def uh(v:M.af)(t:M.aa):Option ((List M.aa)×Bool):=
 bif((M.aa.Kind t)==(12:Int))then
 let q0:=(M.nV (M.aa.Kids t) (bif(decide ((8:Int)<((List.length (M.af.Kids v)):Int)))then(8:Int)else((List.length (M.af.Kids v)):Int)))
 bif((Option.isSome q0)&&true)then
 some ((Option.getD q0 default),true)
 else
 none
 else
 bif(bif((M.aa.Kind t)==(15:Int))then((M.aa.Kind t)==(15:Int))else((M.aa.Kind t)==(16:Int)))then
 some ((M.aa.Kids t),true)
 else
 bif(bif((M.aa.Kind t)==(13:Int))then((M.aa.Kind t)==(13:Int))else(bif((M.aa.Kind t)==(14:Int))then((M.aa.Kind t)==(14:Int))else((M.aa.Kind t)==(17:Int))))then
 let q0:=(M.oW (M.aa.re t) (M.af.Num v))
 bif((M.aa.Kind (Option.getD q0 default).1)==(1:Int))then
 bif((Option.isSome q0)&&true)then
 some ([],(Option.getD q0 default).2)
 else
 none
 else
 bif((Option.isSome q0)&&true)then
 some ([(M.aa.re (Option.getD q0 default).1)],(Option.getD q0 default).2)
 else
 none
 else
 some ([],true)
def lU(eC:M.af->M.aa->Option (Bool))(kids:(List M.aa))(t53:(List M.af))(t54:Int):Nat->Int->Option ((Bool)⊕(Unit))
 |0,_=>none
 |fuel+1,t55=>
 bif(decide (t55<t54))then
 bif(!(Option.getD (eC (M.af.re (List.getD t53 (Int.toNat t55) M.af.zero)) (M.aa.re (List.getD kids (Int.toNat t55) M.aa.zero))) default))then
 let q0:=((Option.isSome (eC (M.af.re (List.getD t53 (Int.toNat t55) M.af.zero)) (M.aa.re (List.getD kids (Int.toNat t55) M.aa.zero))))&&((Go.V.inB t55 (List.length kids))&&((Go.V.inB t55 (List.length t53))&&true)))
 bif q0 then
 some (.inl false)
 else
 none
 else
 let q0:=((Option.isSome (eC (M.af.re (List.getD t53 (Int.toNat t55) M.af.zero)) (M.aa.re (List.getD kids (Int.toNat t55) M.aa.zero))))&&((Go.V.inB t55 (List.length kids))&&((Go.V.inB t55 (List.length t53))&&true)))
 bif q0 then
 M.lU eC kids t53 t54 fuel (Go.IntKind.wrap Go.IntKind.i64 (t55+(1:Int)))
 else
 none
 else
 some ((.inr (())))
def xE(eC:M.af->M.aa->Option (Bool))(v:M.af)(t:M.aa):Option (Bool):=
 let q0:=(M.ug (M.af.re v) (M.aa.re t))
 let q1:=((((M.af.Kind v) !=(M.aa.Kind t))||(!(Option.getD q0 default)))||((!((M.af.Text v)==[]))&&((M.aa.Kind t) !=(11:Int))))
 let q2:=(M.ue (M.af.Text v))
 bif(q1||(!(Option.getD q2 default)))then
 let q3:=(((Option.isSome q2)||(!(q1==false)))&&(((Option.isSome q0)||(!(((M.af.Kind v) !=(M.aa.Kind t))==false)))&&true))
 bif q3 then
 some false
 else
 none
 else
 let q3:=(M.uh (M.af.re v) (M.aa.re t))
 let q4:=(Option.getD q3 default).1
 bif((!(Option.getD q3 default).2)||(((List.length q4):Int) !=((List.length (M.af.Kids v)):Int)))then
 let q5:=(((Option.isSome q2)||(!(q1==false)))&&(((Option.isSome q0)||(!(((M.af.Kind v) !=(M.aa.Kind t))==false)))&&true))
 let q6:=((Option.isSome q3)&&q5)
 bif q6 then
 some false
 else
 none
 else
 match(M.lU eC q4 (M.af.Kids v) ((List.length (M.af.Kids v)):Int) Go.V.an (0:Int))with
 |none=>none
 |some y5=>
 (match y5 with
 |.inl a6=>
 let q7:=(((Option.isSome q2)||(!(q1==false)))&&(((Option.isSome q0)||(!(((M.af.Kind v) !=(M.aa.Kind t))==false)))&&true))
 let q8:=((Option.isSome q3)&&q7)
 bif q8 then
 some a6
 else
 none
 |.inr b6=>
 let q7:=(((Option.isSome q2)||(!(q1==false)))&&(((Option.isSome q0)||(!(((M.af.Kind v) !=(M.aa.Kind t))==false)))&&true))
 let q8:=((Option.isSome q3)&&q7)
 bif q8 then
 some true
 else
 none)
def lT:Nat->M.af->M.aa->Option (Bool)
 |0=>fun _ _=>none
 |n+1=>xE (lT n)
def zQ:M.af->M.aa->Option (Bool):=lT Go.V.an
def uv(v:M.af)(t1:M.ae):Option (Bool):=
 let q0:=(M.zQ (M.af.re v) (M.aa.re (M.ae.cq t1)))
 bif((Option.isSome q0)&&true)then
 some (!(Option.getD q0 default))
 else
 none
def qV(s:(List M.af))(f:M.ae)(t7:Int):Nat->Int->Option ((Int)⊕(Unit))
 |0,_=>none
 |fuel+1,t8=>
 bif(decide (t8<t7))then
 let q0:=(M.uv (M.af.re (List.getD s (Int.toNat t8) M.af.zero)) f)
 bif(Option.getD q0 default)then
 let q1:=((Option.isSome q0)&&((Go.V.inB t8 (List.length s))&&true))
 bif q1 then
 some (.inl t8)
 else
 none
 else
 let q1:=((Option.isSome q0)&&((Go.V.inB t8 (List.length s))&&true))
 bif q1 then
 M.qV s f t7 fuel (Go.IntKind.wrap Go.IntKind.i64 (t8+(1:Int)))
 else
 none
 else
 some ((.inr (())))
def xG(s:(List M.af))(f:M.ae):Option (Int):=
 match(M.qV s f ((List.length s):Int) Go.V.an (0:Int))with
 |none=>none
 |some y0=>
 (match y0 with
 |.inl a1=>
 some a1
 |.inr b1=>
 some (-(1:Int)))
def uu(s:(List M.af))(f:M.ae):Option (Bool):=
 let q0:=(M.xG s f)
 bif((Option.isSome q0)&&true)then
 some (decide ((0:Int)<=(Option.getD q0 default)))
 else
 none
def kC(s:M.ae):Option (Int):=
 bif(M.ae.cR s)then
 some (1:Int)
 else
 some (1000000:Int)
def ux(s:M.ae):Option (Bool):=
 let q0:=(M.uk (M.aa.re (M.ae.cq s)))
 bif((((!(Option.getD q0 default))||(!((decide ((1:Int)<=(M.ae.Room s)))&&(decide ((M.ae.Room s)<=(6:Int))))))||((M.ae.cR s)&&((M.ae.Room s) !=(1:Int))))||(decide ((M.ae.Room s)<((List.length (M.ae.Buffer s)):Int))))then
 bif((Option.isSome q0)&&true)then
 some false
 else
 none
 else
 let q1:=(M.uu (M.ae.Buffer s) (M.ae.re s))
 let q2:=((Option.getD q1 default)||(decide ((M.ae.dz s)<(0:Int))))
 let q3:=(M.kC (M.ae.re s))
 bif(q2||(!((decide ((M.ae.dz s)<=(M.ae.Put s)))&&(decide ((M.ae.Put s)<=(Option.getD q3 default))))))then
 let q4:=(((Option.isSome q3)||(!(q2==false)))&&((Option.isSome q1)&&((Option.isSome q0)&&true)))
 bif q4 then
 some false
 else
 none
 else
 bif(((M.ae.Gone s)&&(decide ((0:Int)<((List.length (M.ae.Buffer s)):Int))))||((!(M.ae.Gone s))&&((Go.IntKind.wrap Go.IntKind.i64 ((M.ae.Put s)-(M.ae.dz s))) !=((List.length (M.ae.Buffer s)):Int))))then
 let q4:=(((Option.isSome q3)||(!(q2==false)))&&((Option.isSome q1)&&((Option.isSome q0)&&true)))
 bif q4 then
 some false
 else
 none
 else
 let q4:=(((Option.isSome q3)||(!(q2==false)))&&((Option.isSome q1)&&((Option.isSome q0)&&true)))
 bif q4 then
 some ((((!(M.ae.cR s))||(!(M.ae.Shut s)))||((M.ae.Put s)==(1:Int)))||(M.ae.Gone s))
 else
 none
def alV:Nat->Int->(List UInt8)->Option ((List UInt8))
 |0,_,_=>none
 |fuel+1,k,out=>
 bif(decide ((0:Int)<k))then
 let q0:=(Go.IntKind.wrap Go.IntKind.u8 (Go.IntKind.wrap Go.IntKind.i64 ((48:Int)+(Int.tmod k (10:Int)))))
 let q1:=(List.map (fun a=>a) [(Go.V.fy q0)])
 bif(((10:Int) !=(0:Int))&&((Go.V.VJ q1 out)&&(((Go.V.iz q0)&&true)&&(((10:Int) !=(0:Int))&&true))))then
 M.alV fuel (Go.IntKind.wrap Go.IntKind.i64 (Int.tdiv k (10:Int))) (q1++out)
 else
 none
 else
 some (out)
def ajx(k:Int):Option ((List UInt8)):=
 bif(decide (k<=(0:Int)))then
 some [(109:UInt8),(48:UInt8)]
 else
 match(M.alV Go.V.an k [])with
 |none=>none
 |some y0=>
 bif((Go.V.VJ [(109:UInt8)] y0)&&true)then
 some ([(109:UInt8)]++y0)
 else
 none
def amq:Nat->Int->Int->(List (List UInt8))->Option (Int×(List (List UInt8)))
 |0,_,_,_=>none
 |fuel+1,k,i,a=>
 bif(decide (i<((List.length a):Int)))then
 let q0:=(M.ajx k)
 bif((Go.V.inB i (List.length a))&&(((Option.isSome q0)&&true)&&true))then
 M.amq fuel (Go.IntKind.wrap Go.IntKind.i64 (k+(1:Int))) (Go.IntKind.wrap Go.IntKind.i64 (i+(1:Int))) (List.set a (Int.toNat i) (Option.getD q0 default))
 else
 none
 else
 some ((k,a))
def akm(k:Int)(a:(List (List UInt8))):Option (Int×(List (List UInt8))):=
 match(M.amq Go.V.an k (0:Int) a)with
 |none=>none
 |some y0=>
 some (y0.1,y0.2)
def ame(f8:Int->(List M.aa)->Option (Int×(List M.aa))):Nat->Int->Int->(List M.aa)->Option (Int×(List M.aa))
 |0,_,_,_=>none
 |fuel+1,k,i,a=>
 bif(decide (i<((List.length a):Int)))then
 let q0:=(List.set a (Int.toNat i) (M.aa.mk k (M.aa.Name (List.getD a (Int.toNat i) M.aa.zero)) (M.aa.bY (List.getD a (Int.toNat i) M.aa.zero)) (M.aa.Kids (List.getD a (Int.toNat i) M.aa.zero))))
 let q1:=(List.getD q0 (Int.toNat i) M.aa.zero)
 let q2:=(M.ajx (Go.IntKind.wrap Go.IntKind.i64 (k+(1:Int))))
 let q3:=(List.set q0 (Int.toNat i) (M.aa.mk (M.aa.Kind q1) (Option.getD q2 default) (M.aa.bY q1) (M.aa.Kids q1)))
 let q4:=(List.getD q3 (Int.toNat i) M.aa.zero)
 let q5:=(M.akm (Go.IntKind.wrap Go.IntKind.i64 ((Go.IntKind.wrap Go.IntKind.i64 (k+(1:Int)))+(1:Int))) (M.aa.bY q4))
 let q6:=(Option.getD q5 default)
 let q7:=(List.set q3 (Int.toNat i) (M.aa.mk (M.aa.Kind q4) (M.aa.Name q4) q6.2 (M.aa.Kids q4)))
 let q8:=(List.getD q7 (Int.toNat i) M.aa.zero)
 bif(((Option.isSome (f8 q6.1 (M.aa.Kids q8)))&&true)&&((Go.V.inB i (List.length q7))&&(((Option.isSome q5)&&true)&&((Go.V.inB i (List.length q3))&&((Go.V.inB i (List.length q0))&&(((Option.isSome q2)&&true)&&((Go.V.inB i (List.length a))&&true)))))))then
 let q9:=(Option.getD (f8 q6.1 (M.aa.Kids q8)) default)
 M.ame f8 fuel q9.1 (Go.IntKind.wrap Go.IntKind.i64 (i+(1:Int))) (List.set q7 (Int.toNat i) (M.aa.mk (M.aa.Kind q8) (M.aa.Name q8) (M.aa.bY q8) q9.2))
 else
 none
 else
 some ((k,a))
def amF(f8:Int->(List M.aa)->Option (Int×(List M.aa)))(k:Int)(a:(List M.aa)):Option (Int×(List M.aa)):=
 match(M.ame f8 Go.V.an k (0:Int) a)with
 |none=>none
 |some y0=>
 some (y0.1,y0.2)
def amd:Nat->Int->(List M.aa)->Option (Int×(List M.aa))
 |0=>fun _ _=>none
 |n+1=>amF (amd n)
def amN:Int->(List M.aa)->Option (Int×(List M.aa)):=amd Go.V.an
def amg(aiV:Int->(List M.af)->Option (Int×(List M.af))):Nat->Int->Int->(List M.af)->Option (Int×(List M.af))
 |0,_,_,_=>none
 |fuel+1,k,i,a=>
 bif(decide (i<((List.length a):Int)))then
 let q0:=(Go.IntKind.wrap Go.IntKind.i64 ((Go.IntKind.wrap Go.IntKind.i64 (k+(1:Int)))+(1:Int)))
 let q1:=(List.set a (Int.toNat i) (M.af.mk k (M.af.Num (List.getD a (Int.toNat i) M.af.zero)) (M.af.Text (List.getD a (Int.toNat i) M.af.zero)) (M.af.Kids (List.getD a (Int.toNat i) M.af.zero))))
 let q2:=(List.getD q1 (Int.toNat i) M.af.zero)
 let q3:=(List.set q1 (Int.toNat i) (M.af.mk (M.af.Kind q2) (Go.IntKind.wrap Go.IntKind.i64 (k+(1:Int))) (M.af.Text q2) (M.af.Kids q2)))
 let q4:=(List.getD q3 (Int.toNat i) M.af.zero)
 let q5:=(M.ajx q0)
 let q6:=(List.set q3 (Int.toNat i) (M.af.mk (M.af.Kind q4) (M.af.Num q4) (Option.getD q5 default) (M.af.Kids q4)))
 let q7:=(List.getD q6 (Int.toNat i) M.af.zero)
 bif(((Option.isSome (aiV (Go.IntKind.wrap Go.IntKind.i64 (q0+(1:Int))) (M.af.Kids q7)))&&true)&&((Go.V.inB i (List.length q6))&&((Go.V.inB i (List.length q3))&&(((Option.isSome q5)&&true)&&((Go.V.inB i (List.length q1))&&((Go.V.inB i (List.length a))&&true))))))then
 let q8:=(Option.getD (aiV (Go.IntKind.wrap Go.IntKind.i64 (q0+(1:Int))) (M.af.Kids q7)) default)
 M.amg aiV fuel q8.1 (Go.IntKind.wrap Go.IntKind.i64 (i+(1:Int))) (List.set q6 (Int.toNat i) (M.af.mk (M.af.Kind q7) (M.af.Num q7) (M.af.Text q7) q8.2))
 else
 none
 else
 some ((k,a))
def amG(aiV:Int->(List M.af)->Option (Int×(List M.af)))(k:Int)(a:(List M.af)):Option (Int×(List M.af)):=
 match(M.amg aiV Go.V.an k (0:Int) a)with
 |none=>none
 |some y0=>
 some (y0.1,y0.2)
def amf:Nat->Int->(List M.af)->Option (Int×(List M.af))
 |0=>fun _ _=>none
 |n+1=>amG (amf n)
def amO:Int->(List M.af)->Option (Int×(List M.af)):=amf Go.V.an
def sW(s:M.ae):Option (M.ae×Int):=
 bif(M.ae.Shut s)then
 some ((M.ae.mk (M.aa.mk (0:Int) [] [] []) (0:Int) false [] (0:Int) (0:Int) false false),(5:Int))
 else
 bif(((M.ae.cR s)&&(!(M.ae.Gone s)))&&((M.ae.Put s)==(0:Int)))then
 some ((M.ae.mk (M.aa.mk (0:Int) [] [] []) (0:Int) false [] (0:Int) (0:Int) false false),(3:Int))
 else
 some ((M.ae.mk (M.aa.re (M.ae.cq s)) (M.ae.Room s) (M.ae.cR s) (M.ae.Buffer s) (M.ae.Put s) (M.ae.dz s) true (M.ae.Gone s)),(0:Int))
def mH(s:M.ae):Option (Int):=
 bif(M.ae.cR s)then
 some (1:Int)
 else
 some (1000000:Int)
def jd(a:Int)(b:Int):Option (Int):=
 bif(decide (a<b))then
 some a
 else
 some b
def qs(first:Int)(many:Int):Nat->Int->(List M.af)->Option ((List M.af))
 |0,_,_=>none
 |fuel+1,k,out=>
 bif(decide (k<many))then
 let q0:=[(M.af.mk (9:Int) (Go.IntKind.wrap Go.IntKind.i64 (first+k)) [] [])]
 bif((decide (((List.length out)+(List.length q0))<=1073741824))&&true)then
 M.qs first many fuel (Go.IntKind.wrap Go.IntKind.i64 (k+(1:Int))) (out++q0)
 else
 none
 else
 some (out)
def s6(first:Int)(many:Int):Option ((List M.af)):=
 match(M.qs first many Go.V.an (0:Int) [])with
 |none=>none
 |some y0=>
 some y0
def rO(db:M.af->Int->Option (Int))(a:(List M.af)):Nat->Int->Int->Option ((Int)⊕(Int))
 |0,_,_=>none
 |fuel+1,left,i=>
 bif(decide (i<((List.length a):Int)))then
 let q0:=(Option.getD (db (M.af.re (List.getD a (Int.toNat i) M.af.zero)) left) default)
 bif(decide (q0<(0:Int)))then
 let q1:=((Option.isSome (db (M.af.re (List.getD a (Int.toNat i) M.af.zero)) left))&&((Go.V.inB i (List.length a))&&true))
 bif q1 then
 some (.inl (-(1:Int)))
 else
 none
 else
 let q1:=((Option.isSome (db (M.af.re (List.getD a (Int.toNat i) M.af.zero)) left))&&((Go.V.inB i (List.length a))&&true))
 bif q1 then
 M.rO db a fuel q0 (Go.IntKind.wrap Go.IntKind.i64 (i+(1:Int)))
 else
 none
 else
 some ((.inr (left)))
def ng(db:M.af->Int->Option (Int))(a:(List M.af))(left:Int):Option (Int):=
 bif(decide ((Go.IntKind.wrap Go.IntKind.i64 (left-((List.length a):Int)))<(0:Int)))then
 some (-(1:Int))
 else
 match(M.rO db a Go.V.an (Go.IntKind.wrap Go.IntKind.i64 (left-((List.length a):Int))) (0:Int))with
 |none=>none
 |some y0=>
 (match y0 with
 |.inl a1=>
 some a1
 |.inr b1=>
 some b1)
def x9(db:M.af->Int->Option (Int))(a:M.af)(left:Int):Option (Int):=
 bif(decide ((Go.IntKind.wrap Go.IntKind.i64 (left-((List.length (M.af.Text a)):Int)))<(0:Int)))then
 some (-(1:Int))
 else
 let q0:=(M.ng db (M.af.Kids a) (Go.IntKind.wrap Go.IntKind.i64 (left-((List.length (M.af.Text a)):Int))))
 let q1:=(Option.getD q0 default)
 bif(decide (q1<(0:Int)))then
 let q2:=((Option.isSome q0)&&true)
 bif q2 then
 some (-(1:Int))
 else
 none
 else
 let q2:=((Option.isSome q0)&&true)
 bif q2 then
 some q1
 else
 none
def rP:Nat->M.af->Int->Option (Int)
 |0=>fun _ _=>none
 |n+1=>x9 (rP n)
def vk:M.af->Int->Option (Int):=rP Go.V.an
def pH(de:M.af->Option (Int×Int×(List UInt8)×(List M.af)))(a:(List M.af)):Nat->Int->(List M.af)->Option ((List M.af))
 |0,_,_=>none
 |fuel+1,i,out=>
 bif(decide (i<((List.length a):Int)))then
 bif((Go.V.inB i (List.length out))&&((Option.isSome (de (M.af.re (List.getD a (Int.toNat i) M.af.zero))))&&((Go.V.inB i (List.length a))&&true)))then
 let q0:=(Option.getD (de (M.af.re (List.getD a (Int.toNat i) M.af.zero))) default)
 let q1:=q0.2
 let q2:=q1.2
 M.pH de a fuel (Go.IntKind.wrap Go.IntKind.i64 (i+(1:Int))) (List.set out (Int.toNat i) (M.af.mk q0.1 q1.1 q2.1 q2.2))
 else
 none
 else
 some (out)
def ni(de:M.af->Option (Int×Int×(List UInt8)×(List M.af)))(a:(List M.af)):Option ((List M.af)):=
 match(M.pH de a Go.V.an (0:Int) (List.replicate (Int.toNat ((List.length a):Int)) (M.af.mk (0:Int) (0:Int) [] [])))with
 |none=>none
 |some y0=>
 bif(((decide (((List.length a):Int)<=((List.length a):Int)))&&(decide (((List.length a):Int)<=(1073741824:Int))))&&true)then
 some y0
 else
 none
def ya(de:M.af->Option (Int×Int×(List UInt8)×(List M.af)))(a:M.af):Option (Int×Int×(List UInt8)×(List M.af)):=
 let q0:=(M.ni de (M.af.Kids a))
 bif((Option.isSome q0)&&true)then
 some ((M.af.Kind a),(M.af.Num a),(M.af.Text a),(Option.getD q0 default))
 else
 none
def rQ:Nat->M.af->Option (Int×Int×(List UInt8)×(List M.af))
 |0=>fun _=>none
 |n+1=>ya (rQ n)
def vl:M.af->Option (Int×Int×(List UInt8)×(List M.af)):=rQ Go.V.an
def vm(a:M.ae)(left:Int):Option (Int):=
 let q0:=(M.Ao (M.aa.re (M.ae.cq a)) left)
 bif(decide ((Option.getD q0 default)<(0:Int)))then
 bif((Option.isSome q0)&&true)then
 some (-(1:Int))
 else
 none
 else
 let q1:=(M.ng M.vk (M.ae.Buffer a) (Option.getD q0 default))
 let q2:=(Option.getD q1 default)
 bif(decide (q2<(0:Int)))then
 let q3:=((Option.isSome q1)&&((Option.isSome q0)&&true))
 bif q3 then
 some (-(1:Int))
 else
 none
 else
 let q3:=((Option.isSome q1)&&((Option.isSome q0)&&true))
 bif q3 then
 some q2
 else
 none
def vn(a:M.ae):Option (Int×(List UInt8)×Int×Bool×Int×Int×Bool×Bool×(List (List UInt8))×(List M.aa)×(List M.af)):=
 let q0:=(M.ni M.vl (M.ae.Buffer a))
 let q1:=(M.Ar (M.aa.re (M.ae.cq a)))
 bif((Option.isSome q0)&&((Option.isSome q1)&&true))then
 let q2:=(Option.getD q1 default)
 let q3:=q2.2
 let q4:=q3.2
 some (q2.1,q3.1,(M.ae.Room a),(M.ae.cR a),(M.ae.Put a),(M.ae.dz a),(M.ae.Shut a),(M.ae.Gone a),q4.1,q4.2,(Option.getD q0 default))
 else
 none
def qn(list:(List M.af)):Nat->Int->(List M.af)->Option ((List M.af))
 |0,_,_=>none
 |fuel+1,i,out=>
 bif(decide (i<((List.length list):Int)))then
 let q0:=(M.zt (M.af.re (List.getD list (Int.toNat i) M.af.zero)))
 let q1:=[(M.af.re (Option.getD q0 default))]
 bif((decide (((List.length out)+(List.length q1))<=1073741824))&&((Option.isSome q0)&&((Go.V.inB i (List.length list))&&true)))then
 M.qn list fuel (Go.IntKind.wrap Go.IntKind.i64 (i+(1:Int))) (out++q1)
 else
 none
 else
 some (out)
def j0(list:(List M.af)):Option ((List M.af)):=
 match(M.qn list Go.V.an (0:Int) [])with
 |none=>none
 |some y0=>
 some y0
def sR(s:M.ae):Option (M.ae):=
 let q0:=(M.j0 (M.ae.Buffer s))
 let q1:=(M.zu (M.aa.re (M.ae.cq s)))
 bif((Option.isSome q0)&&((Option.isSome q1)&&true))then
 some (M.ae.mk (M.aa.re (Option.getD q1 default)) (M.ae.Room s) (M.ae.cR s) (Option.getD q0 default) (M.ae.Put s) (M.ae.dz s) (M.ae.Shut s) (M.ae.Gone s))
 else
 none
def sV(s:M.ae)(list:(List M.af)):Option (M.ae×Int×Int):=
 let q0:=(M.mH (M.ae.re s))
 bif((decide ((8:Int)<((List.length list):Int)))||(decide ((Option.getD q0 default)<(Go.IntKind.wrap Go.IntKind.i64 ((M.ae.Put s)+((List.length list):Int))))))then
 let q1:=(((Option.isSome q0)||(!((decide ((8:Int)<((List.length list):Int)))==false)))&&true)
 bif q1 then
 some ((M.ae.mk (M.aa.mk (0:Int) [] [] []) (0:Int) false [] (0:Int) (0:Int) false false),(0:Int),(4:Int))
 else
 none
 else
 bif(M.ae.Shut s)then
 let q1:=(((Option.isSome q0)||(!((decide ((8:Int)<((List.length list):Int)))==false)))&&true)
 bif q1 then
 some ((M.ae.mk (M.aa.mk (0:Int) [] [] []) (0:Int) false [] (0:Int) (0:Int) false false),(0:Int),(5:Int))
 else
 none
 else
 bif(M.ae.Gone s)then
 let q1:=(((Option.isSome q0)||(!((decide ((8:Int)<((List.length list):Int)))==false)))&&true)
 bif q1 then
 some ((M.ae.mk (M.aa.mk (0:Int) [] [] []) (0:Int) false [] (0:Int) (0:Int) false false),(0:Int),(17:Int))
 else
 none
 else
 let q1:=(M.j0 (M.ae.Buffer s))
 let q2:=(M.jd ((List.length list):Int) (Go.IntKind.wrap Go.IntKind.i64 ((M.ae.Room s)-((List.length (M.ae.Buffer s)):Int))))
 let q3:=(Option.getD q2 default)
 let q4:=(M.j0 (List.drop (Int.toNat (0:Int)) (List.take (Int.toNat q3) list)))
 let q5:=(Option.getD q4 default)
 let q6:=(((Option.isSome q0)||(!((decide ((8:Int)<((List.length list):Int)))==false)))&&true)
 bif((decide (((List.length (Option.getD q1 default))+(List.length q5))<=1073741824))&&((Option.isSome q4)&&((Go.V.cC (0:Int) q3 (List.length list))&&((Option.isSome q1)&&((Option.isSome q2)&&q6)))))then
 some ((M.ae.mk (M.aa.re (M.ae.cq s)) (M.ae.Room s) (M.ae.cR s) ((Option.getD q1 default)++q5) (Go.IntKind.wrap Go.IntKind.i64 ((M.ae.Put s)+q3)) (M.ae.dz s) (M.ae.Shut s) (M.ae.Gone s)),q3,(0:Int))
 else
 none
def oY(o:M.aw):Option (Bool):=
 let q0:=(bif((M.aw.Kind o)==(2:Int))then((M.aw.Kind o)==(2:Int))else((M.aw.Kind o)==(10:Int)))
 let q1:=(bif((M.aw.Kind o)==(5:Int))then((M.aw.Kind o)==(5:Int))else((M.aw.Kind o)==(6:Int)))
 some ((((decide ((1:Int)<=(M.aw.Kind o)))&&(decide ((M.aw.Kind o)<=(12:Int))))&&((decide ((0:Int)<=(M.aw.A o)))&&(decide ((M.aw.A o)<=(bif((M.aw.Kind o)==(1:Int))then(5:Int)else(bif q0 then(7:Int)else(bif q1 then(3:Int)else(bif(bif((M.aw.Kind o)==(7:Int))then((M.aw.Kind o)==(7:Int))else((M.aw.Kind o)==(8:Int)))then(3:Int)else(bif((M.aw.Kind o)==(9:Int))then(999:Int)else(bif((M.aw.Kind o)==(11:Int))then(1:Int)else(0:Int)))))))))))&&((decide ((bif((M.aw.Kind o)==(1:Int))then(0:Int)else(bif q0 then(0:Int)else(bif q1 then(1:Int)else(0:Int))))<=(M.aw.B o)))&&(decide ((M.aw.B o)<=(bif((M.aw.Kind o)==(1:Int))then(0:Int)else(bif q0 then(0:Int)else(bif q1 then(4:Int)else(0:Int))))))))
def F4(o:M.aw):Option (Bool):=
 some (!(Option.getD (M.oY o) default))
def pe(s:(List M.aw))(t7:Int):Nat->Int->Option ((Int)⊕(Unit))
 |0,_=>none
 |fuel+1,t8=>
 bif(decide (t8<t7))then
 bif(!(Option.getD (M.oY (List.getD s (Int.toNat t8) M.aw.zero)) default))then
 bif((Go.V.inB t8 (List.length s))&&true)then
 some (.inl t8)
 else
 none
 else
 bif((Go.V.inB t8 (List.length s))&&true)then
 M.pe s t7 fuel (Go.IntKind.wrap Go.IntKind.i64 (t8+(1:Int)))
 else
 none
 else
 some ((.inr (())))
def xH(s:(List M.aw)):Option (Int):=
 match(M.pe s ((List.length s):Int) Go.V.an (0:Int))with
 |none=>none
 |some y0=>
 (match y0 with
 |.inl a1=>
 some a1
 |.inr b1=>
 some (-(1:Int)))
def uz(s:(List M.aw)):Option (Bool):=
 let q0:=(M.xH s)
 bif((Option.isSome q0)&&true)then
 some (decide ((0:Int)<=(Option.getD q0 default)))
 else
 none
def qX(p:M.ar):Option (Bool):=
 let q0:=(M.uz (M.ar.Ops p))
 let q1:=(((decide ((1:Int)<=(M.ar.dQ p)))&&(decide ((M.ar.dQ p)<=(6:Int))))&&(decide (((List.length (M.ar.Ops p)):Int)<=(12:Int))))
 bif(((Option.isSome q0)||(!(q1==true)))&&true)then
 some (q1&&(!(Option.getD q0 default)))
 else
 none
def uC(p:M.ar):Option (Bool):=
 let q0:=(M.qX p)
 bif((Option.isSome q0)&&true)then
 some (!(Option.getD q0 default))
 else
 none
def qZ(s:(List M.ar))(t7:Int):Nat->Int->Option ((Int)⊕(Unit))
 |0,_=>none
 |fuel+1,t8=>
 bif(decide (t8<t7))then
 let q0:=(M.uC (List.getD s (Int.toNat t8) M.ar.zero))
 bif(Option.getD q0 default)then
 let q1:=((Option.isSome q0)&&((Go.V.inB t8 (List.length s))&&true))
 bif q1 then
 some (.inl t8)
 else
 none
 else
 let q1:=((Option.isSome q0)&&((Go.V.inB t8 (List.length s))&&true))
 bif q1 then
 M.qZ s t7 fuel (Go.IntKind.wrap Go.IntKind.i64 (t8+(1:Int)))
 else
 none
 else
 some ((.inr (())))
def xI(s:(List M.ar)):Option (Int):=
 match(M.qZ s ((List.length s):Int) Go.V.an (0:Int))with
 |none=>none
 |some y0=>
 (match y0 with
 |.inl a1=>
 some a1
 |.inr b1=>
 some (-(1:Int)))
def uD(s:(List M.ar)):Option (Bool):=
 let q0:=(M.xI s)
 bif((Option.isSome q0)&&true)then
 some (decide ((0:Int)<=(Option.getD q0 default)))
 else
 none
def uB(j5:(List M.ar)):Option (Bool):=
 let q0:=(M.uD j5)
 let q1:=((decide ((1:Int)<=((List.length j5):Int)))&&(decide (((List.length j5):Int)<=(6:Int))))
 bif(((Option.isSome q0)||(!(q1==true)))&&true)then
 some (q1&&(!(Option.getD q0 default)))
 else
 none
def uF(n:M.az):Option (Bool):=
 some ((!((decide ((1:Int)<=(M.az.Task n)))&&(decide ((M.az.Task n)<=(8:Int)))))||(!((decide ((1:Int)<=(M.az.Kind n)))&&(decide ((M.az.Kind n)<=(9:Int))))))
def rf(s:(List M.az))(t7:Int):Nat->Int->Option ((Int)⊕(Unit))
 |0,_=>none
 |fuel+1,t8=>
 bif(decide (t8<t7))then
 let q0:=(M.uF (List.getD s (Int.toNat t8) M.az.zero))
 bif(Option.getD q0 default)then
 let q1:=((Option.isSome q0)&&((Go.V.inB t8 (List.length s))&&true))
 bif q1 then
 some (.inl t8)
 else
 none
 else
 let q1:=((Option.isSome q0)&&((Go.V.inB t8 (List.length s))&&true))
 bif q1 then
 M.rf s t7 fuel (Go.IntKind.wrap Go.IntKind.i64 (t8+(1:Int)))
 else
 none
 else
 some ((.inr (())))
def xJ(s:(List M.az)):Option (Int):=
 match(M.rf s ((List.length s):Int) Go.V.an (0:Int))with
 |none=>none
 |some y0=>
 (match y0 with
 |.inl a1=>
 some a1
 |.inr b1=>
 some (-(1:Int)))
def uG(s:(List M.az)):Option (Bool):=
 let q0:=(M.xJ s)
 bif((Option.isSome q0)&&true)then
 some (decide ((0:Int)<=(Option.getD q0 default)))
 else
 none
def uE(notes:(List M.az)):Option (Bool):=
 let q0:=(M.uG notes)
 bif(((Option.isSome q0)||(!((decide (((List.length notes):Int)<=(120:Int)))==true)))&&true)then
 some ((decide (((List.length notes):Int)<=(120:Int)))&&(!(Option.getD q0 default)))
 else
 none
def uL(s:M.ae):Option (Bool):=
 let q0:=(M.ux (M.ae.re s))
 bif((Option.isSome q0)&&true)then
 some (((!(Option.getD q0 default))||((M.aa.Kind (M.ae.cq s)) !=(9:Int)))||(M.ae.cR s))
 else
 none
def rq(s:(List M.ae))(t7:Int):Nat->Int->Option ((Int)⊕(Unit))
 |0,_=>none
 |fuel+1,t8=>
 bif(decide (t8<t7))then
 let q0:=(M.uL (M.ae.re (List.getD s (Int.toNat t8) M.ae.zero)))
 bif(Option.getD q0 default)then
 let q1:=((Option.isSome q0)&&((Go.V.inB t8 (List.length s))&&true))
 bif q1 then
 some (.inl t8)
 else
 none
 else
 let q1:=((Option.isSome q0)&&((Go.V.inB t8 (List.length s))&&true))
 bif q1 then
 M.rq s t7 fuel (Go.IntKind.wrap Go.IntKind.i64 (t8+(1:Int)))
 else
 none
 else
 some ((.inr (())))
def xN(s:(List M.ae)):Option (Int):=
 match(M.rq s ((List.length s):Int) Go.V.an (0:Int))with
 |none=>none
 |some y0=>
 (match y0 with
 |.inl a1=>
 some a1
 |.inr b1=>
 some (-(1:Int)))
def uK(s:(List M.ae)):Option (Bool):=
 let q0:=(M.xN s)
 bif((Option.isSome q0)&&true)then
 some (decide ((0:Int)<=(Option.getD q0 default)))
 else
 none
def Bn(list:(List M.aw)):Option (Int):=
 some ((List.length list):Int)
def Bq(list:(List M.ad)):Option (Int):=
 some ((List.length list):Int)
def rm(t10:(List Int))(t11:Int)(w:M.ai)(t:M.ad):Nat->Int->Option ((Bool)⊕(M.ad))
 |0,_=>none
 |fuel+1,t12=>
 bif(decide (t12<t11))then
 let q0:=(!((decide ((1:Int)<=(List.getD t10 (Int.toNat t12) (0:Int))))&&(decide ((List.getD t10 (Int.toNat t12) (0:Int))<=((List.length (M.ai.aC w)):Int)))))
 let q1:=(Go.IntKind.wrap Go.IntKind.i64 ((List.getD t10 (Int.toNat t12) (0:Int))-(1:Int)))
 let q2:=(q0||((M.ad.dy (List.getD (M.ai.aC w) (Int.toNat q1) M.ad.zero)) !=(M.ad.Id t)))
 bif(q2||((decide ((0:Int)<t12))&&(decide ((List.getD t10 (Int.toNat t12) (0:Int))<=(List.getD (M.ad.bg t) (Int.toNat (Go.IntKind.wrap Go.IntKind.i64 (t12-(1:Int)))) (0:Int))))))then
 let q3:=(((Go.V.inB (Go.IntKind.wrap Go.IntKind.i64 (t12-(1:Int))) (List.length (M.ad.bg t)))||(!((q2==false)&&((decide ((0:Int)<t12))==true))))&&(((Go.V.inB q1 (List.length (M.ai.aC w)))||(!(q0==false)))&&((Go.V.inB t12 (List.length t10))&&true)))
 bif q3 then
 some (.inl false)
 else
 none
 else
 let q3:=(((Go.V.inB (Go.IntKind.wrap Go.IntKind.i64 (t12-(1:Int))) (List.length (M.ad.bg t)))||(!((q2==false)&&((decide ((0:Int)<t12))==true))))&&(((Go.V.inB q1 (List.length (M.ai.aC w)))||(!(q0==false)))&&((Go.V.inB t12 (List.length t10))&&true)))
 bif q3 then
 M.rm t10 t11 w t fuel (Go.IntKind.wrap Go.IntKind.i64 (t12+(1:Int)))
 else
 none
 else
 some ((.inr (t)))
def rn(t51:(List Int))(t52:Int)(t:M.ad):Nat->Int->Option ((Bool)⊕(Unit))
 |0,_=>none
 |fuel+1,t53=>
 bif(decide (t53<t52))then
 let q0:=(M.kN (M.ad.bg t) (List.getD t51 (Int.toNat t53) (0:Int)))
 let q1:=(!(Option.getD q0 default))
 bif(q1||((decide ((0:Int)<t53))&&(decide ((List.getD t51 (Int.toNat t53) (0:Int))<=(List.getD (M.ad.Set t) (Int.toNat (Go.IntKind.wrap Go.IntKind.i64 (t53-(1:Int)))) (0:Int))))))then
 let q2:=(((Go.V.inB (Go.IntKind.wrap Go.IntKind.i64 (t53-(1:Int))) (List.length (M.ad.Set t)))||(!((q1==false)&&((decide ((0:Int)<t53))==true))))&&((Option.isSome q0)&&((Go.V.inB t53 (List.length t51))&&true)))
 bif q2 then
 some (.inl false)
 else
 none
 else
 let q2:=(((Go.V.inB (Go.IntKind.wrap Go.IntKind.i64 (t53-(1:Int))) (List.length (M.ad.Set t)))||(!((q1==false)&&((decide ((0:Int)<t53))==true))))&&((Option.isSome q0)&&((Go.V.inB t53 (List.length t51))&&true)))
 bif q2 then
 M.rn t51 t52 t fuel (Go.IntKind.wrap Go.IntKind.i64 (t53+(1:Int)))
 else
 none
 else
 some ((.inr (())))
def uH(w:M.ai)(t:M.ad):Option (Bool):=
 match(M.rm (M.ad.bg t) ((List.length (M.ad.bg t)):Int) w t Go.V.an (0:Int))with
 |none=>none
 |some y0=>
 (match y0 with
 |.inl a1=>
 some a1
 |.inr b1=>
 match(M.rn (M.ad.Set b1) ((List.length (M.ad.Set b1)):Int) b1 Go.V.an (0:Int))with
 |none=>none
 |some y2=>
 (match y2 with
 |.inl a3=>
 some a3
 |.inr b3=>
 some true))
def yd(t:M.ad):Option (Bool):=
 some (((M.ad.bU t)||((M.ad.Status t)==(4:Int)))||((M.ad.Status t)==(5:Int)))
def uI(w:M.ai)(k:Int):Option (Bool):=
 bif(((((M.ad.Id (List.getD (M.ai.aC w) (Int.toNat k) M.ad.zero)) !=(Go.IntKind.wrap Go.IntKind.i64 (k+(1:Int))))||(!((decide ((0:Int)<=(M.ad.Prog (List.getD (M.ai.aC w) (Int.toNat k) M.ad.zero))))&&(decide ((M.ad.Prog (List.getD (M.ai.aC w) (Int.toNat k) M.ad.zero))<=(Go.IntKind.wrap Go.IntKind.i64 (((List.length (M.ai.aT w)):Int)-(1:Int))))))))||(!((decide ((0:Int)<=(M.ad.dy (List.getD (M.ai.aC w) (Int.toNat k) M.ad.zero))))&&(decide ((M.ad.dy (List.getD (M.ai.aC w) (Int.toNat k) M.ad.zero))<=(Go.IntKind.wrap Go.IntKind.i64 ((M.ad.Id (List.getD (M.ai.aC w) (Int.toNat k) M.ad.zero))-(1:Int))))))))||(!((decide ((1:Int)<=(M.ad.Status (List.getD (M.ai.aC w) (Int.toNat k) M.ad.zero))))&&(decide ((M.ad.Status (List.getD (M.ai.aC w) (Int.toNat k) M.ad.zero))<=(5:Int))))))then
 bif((Go.V.inB k (List.length (M.ai.aC w)))&&true)then
 some false
 else
 none
 else
 let q0:=(!(M.ad.bU (List.getD (M.ai.aC w) (Int.toNat k) M.ad.zero)))
 let q1:=(((!((decide ((0:Int)<=(M.ad.PC (List.getD (M.ai.aC w) (Int.toNat k) M.ad.zero))))&&(decide ((M.ad.PC (List.getD (M.ai.aC w) (Int.toNat k) M.ad.zero))<=((List.length (M.ar.Ops (List.getD (M.ai.aT w) (Int.toNat (M.ad.Prog (List.getD (M.ai.aC w) (Int.toNat k) M.ad.zero))) M.ar.zero))):Int)))))||(!((decide ((0:Int)<=(M.ad.Result (List.getD (M.ai.aC w) (Int.toNat k) M.ad.zero))))&&(decide ((M.ad.Result (List.getD (M.ai.aC w) (Int.toNat k) M.ad.zero))<=(999:Int))))))||(((M.ad.Result (List.getD (M.ai.aC w) (Int.toNat k) M.ad.zero)) !=(0:Int))&&q0))
 let q2:=(M.uH w (List.getD (M.ai.aC w) (Int.toNat k) M.ad.zero))
 bif(q1||(!(Option.getD q2 default)))then
 let q3:=(((Option.isSome q2)||(!(q1==false)))&&((Go.V.inB (M.ad.Prog (List.getD (M.ai.aC w) (Int.toNat k) M.ad.zero)) (List.length (M.ai.aT w)))&&((Go.V.inB k (List.length (M.ai.aC w)))&&true)))
 bif q3 then
 some false
 else
 none
 else
 bif((M.ad.Told (List.getD (M.ai.aC w) (Int.toNat k) M.ad.zero))&&(!(((M.ad.bU (List.getD (M.ai.aC w) (Int.toNat k) M.ad.zero))||((M.ad.Status (List.getD (M.ai.aC w) (Int.toNat k) M.ad.zero))==(4:Int)))||((M.ad.Status (List.getD (M.ai.aC w) (Int.toNat k) M.ad.zero))==(5:Int)))))then
 let q3:=(((Option.isSome q2)||(!(q1==false)))&&((Go.V.inB (M.ad.Prog (List.getD (M.ai.aC w) (Int.toNat k) M.ad.zero)) (List.length (M.ai.aT w)))&&((Go.V.inB k (List.length (M.ai.aC w)))&&true)))
 bif q3 then
 some false
 else
 none
 else
 bif((M.ad.Status (List.getD (M.ai.aC w) (Int.toNat k) M.ad.zero))==(1:Int))then
 let q3:=(((Option.isSome q2)||(!(q1==false)))&&((Go.V.inB (M.ad.Prog (List.getD (M.ai.aC w) (Int.toNat k) M.ad.zero)) (List.length (M.ai.aT w)))&&((Go.V.inB k (List.length (M.ai.aC w)))&&true)))
 bif q3 then
 some (((((M.ad.PC (List.getD (M.ai.aC w) (Int.toNat k) M.ad.zero))==(0:Int))&&(((List.length (M.ad.bg (List.getD (M.ai.aC w) (Int.toNat k) M.ad.zero))):Int)==(0:Int)))&&q0)&&(!(M.ad.Asked (List.getD (M.ai.aC w) (Int.toNat k) M.ad.zero))))
 else
 none
 else
 bif((M.ad.Status (List.getD (M.ai.aC w) (Int.toNat k) M.ad.zero))==(3:Int))then
 let q3:=(((Option.isSome q2)||(!(q1==false)))&&((Go.V.inB (M.ad.Prog (List.getD (M.ai.aC w) (Int.toNat k) M.ad.zero)) (List.length (M.ai.aT w)))&&((Go.V.inB k (List.length (M.ai.aC w)))&&true)))
 bif q3 then
 some ((M.ad.bU (List.getD (M.ai.aC w) (Int.toNat k) M.ad.zero))&&((M.ad.PC (List.getD (M.ai.aC w) (Int.toNat k) M.ad.zero))==((List.length (M.ar.Ops (List.getD (M.ai.aT w) (Int.toNat (M.ad.Prog (List.getD (M.ai.aC w) (Int.toNat k) M.ad.zero))) M.ar.zero))):Int)))
 else
 none
 else
 let q3:=(((Option.isSome q2)||(!(q1==false)))&&((Go.V.inB (M.ad.Prog (List.getD (M.ai.aC w) (Int.toNat k) M.ad.zero)) (List.length (M.ai.aT w)))&&((Go.V.inB k (List.length (M.ai.aC w)))&&true)))
 bif q3 then
 some (((M.ad.Status (List.getD (M.ai.aC w) (Int.toNat k) M.ad.zero)) !=(4:Int))||q0)
 else
 none
def po(t33:Int)(w:M.ai):Nat->Int->Option ((Bool)⊕(M.ai))
 |0,_=>none
 |fuel+1,t34=>
 bif(decide (t34<t33))then
 let q0:=(M.uI w t34)
 bif(!(Option.getD q0 default))then
 bif((Option.isSome q0)&&true)then
 some (.inl false)
 else
 none
 else
 bif((Option.isSome q0)&&true)then
 M.po t33 w fuel (Go.IntKind.wrap Go.IntKind.i64 (t34+(1:Int)))
 else
 none
 else
 some ((.inr (w)))
def pq(t43:(List Int))(t44:Int)(w:M.ai):Nat->Int->Option ((Bool)⊕(Unit))
 |0,_=>none
 |fuel+1,t45=>
 bif(decide (t45<t44))then
 let q0:=(!((decide ((1:Int)<=(List.getD t43 (Int.toNat t45) (0:Int))))&&(decide ((List.getD t43 (Int.toNat t45) (0:Int))<=(6:Int)))))
 bif(q0||((decide ((0:Int)<t45))&&(decide ((List.getD t43 (Int.toNat t45) (0:Int))<=(List.getD (M.ai.Back w) (Int.toNat (Go.IntKind.wrap Go.IntKind.i64 (t45-(1:Int)))) (0:Int))))))then
 let q1:=(((Go.V.inB (Go.IntKind.wrap Go.IntKind.i64 (t45-(1:Int))) (List.length (M.ai.Back w)))||(!((q0==false)&&((decide ((0:Int)<t45))==true))))&&((Go.V.inB t45 (List.length t43))&&true))
 bif q1 then
 some (.inl false)
 else
 none
 else
 let q1:=(((Go.V.inB (Go.IntKind.wrap Go.IntKind.i64 (t45-(1:Int))) (List.length (M.ai.Back w)))||(!((q0==false)&&((decide ((0:Int)<t45))==true))))&&((Go.V.inB t45 (List.length t43))&&true))
 bif q1 then
 M.pq t43 t44 w fuel (Go.IntKind.wrap Go.IntKind.i64 (t45+(1:Int)))
 else
 none
 else
 some ((.inr (())))
def uM(w:M.ai):Option (Bool):=
 let q0:=(M.uB (M.ai.aT w))
 let q1:=(((!(Option.getD q0 default))||(decide ((4:Int)<((List.length (M.ai.aX w)):Int))))||(decide ((8:Int)<((List.length (M.ai.aC w)):Int))))
 let q2:=(M.uE (M.ai.Notes w))
 bif(q1||(!(Option.getD q2 default)))then
 let q3:=(((Option.isSome q2)||(!(q1==false)))&&((Option.isSome q0)&&true))
 bif q3 then
 some false
 else
 none
 else
 let q3:=(M.uK (M.ai.aX w))
 bif(Option.getD q3 default)then
 let q4:=(((Option.isSome q2)||(!(q1==false)))&&((Option.isSome q0)&&true))
 let q5:=((Option.isSome q3)&&q4)
 bif q5 then
 some false
 else
 none
 else
 match(M.po ((List.length (M.ai.aC w)):Int) w Go.V.an (0:Int))with
 |none=>none
 |some y4=>
 (match y4 with
 |.inl a5=>
 let q6:=(((Option.isSome q2)||(!(q1==false)))&&((Option.isSome q0)&&true))
 let q7:=((Option.isSome q3)&&q6)
 bif q7 then
 some a5
 else
 none
 |.inr b5=>
 match(M.pq (M.ai.Back b5) ((List.length (M.ai.Back b5)):Int) b5 Go.V.an (0:Int))with
 |none=>none
 |some y6=>
 (match y6 with
 |.inl a7=>
 let q8:=(((Option.isSome q2)||(!(q1==false)))&&((Option.isSome q0)&&true))
 let q9:=((Option.isSome q3)&&q8)
 bif q9 then
 some a7
 else
 none
 |.inr b7=>
 let q8:=(((Option.isSome q2)||(!(q1==false)))&&((Option.isSome q0)&&true))
 let q9:=((Option.isSome q3)&&q8)
 bif q9 then
 some true
 else
 none))
def lE(ba:Int)(w:M.bh):Option (M.ad×M.bh):=
 bif((Go.V.inB (Go.IntKind.wrap Go.IntKind.i64 (ba-(1:Int))) (List.length (M.ai.aC (M.bh.Async w))))&&true)then
 some ((List.getD (M.ai.aC (M.bh.Async w)) (Int.toNat (Go.IntKind.wrap Go.IntKind.i64 (ba-(1:Int)))) M.ad.zero),w)
 else
 none
def ta(t:M.ad)(w:M.bh):Option (M.aw×Bool×M.bh):=
 bif((M.ad.PC t)==((List.length (M.ar.Ops (List.getD (M.ai.aT (M.bh.Async w)) (Int.toNat (M.ad.Prog t)) M.ar.zero))):Int))then
 bif((Go.V.inB (M.ad.Prog t) (List.length (M.ai.aT (M.bh.Async w))))&&true)then
 some ((M.aw.mk (0:Int) (0:Int) (0:Int)),false,w)
 else
 none
 else
 bif((Go.V.inB (M.ad.PC t) (List.length (M.ar.Ops (List.getD (M.ai.aT (M.bh.Async w)) (Int.toNat (M.ad.Prog t)) M.ar.zero))))&&((Go.V.inB (M.ad.Prog t) (List.length (M.ai.aT (M.bh.Async w))))&&true))then
 some ((List.getD (M.ar.Ops (List.getD (M.ai.aT (M.bh.Async w)) (Int.toNat (M.ad.Prog t)) M.ar.zero)) (Int.toNat (M.ad.PC t)) M.aw.zero),true,w)
 else
 none
def Gy(t:M.ad):Option (Bool):=
 some ((decide ((3:Int)<=(M.ad.Status t)))&&(decide ((M.ad.Status t)<=(5:Int))))
def Bt(list:(List M.ae)):Option (Int):=
 some ((List.length list):Int)
def kF(o:M.aw):Option (Bool):=
 bif((!((decide ((1:Int)<=(M.aw.Kind o)))&&(decide ((M.aw.Kind o)<=(12:Int)))))||(!((decide ((0:Int)<=(M.aw.A o)))&&(decide ((M.aw.A o)<=(bif((M.aw.Kind o)==(1:Int))then(5:Int)else(bif(bif((M.aw.Kind o)==(2:Int))then((M.aw.Kind o)==(2:Int))else((M.aw.Kind o)==(10:Int)))then(7:Int)else(bif(bif((M.aw.Kind o)==(5:Int))then((M.aw.Kind o)==(5:Int))else(bif((M.aw.Kind o)==(6:Int))then((M.aw.Kind o)==(6:Int))else(bif((M.aw.Kind o)==(7:Int))then((M.aw.Kind o)==(7:Int))else((M.aw.Kind o)==(8:Int)))))then(3:Int)else(bif((M.aw.Kind o)==(9:Int))then(999:Int)else(bif((M.aw.Kind o)==(11:Int))then(1:Int)else(0:Int)))))))))))then
 some false
 else
 bif(((M.aw.Kind o)==(5:Int))||((M.aw.Kind o)==(6:Int)))then
 some ((decide ((1:Int)<=(M.aw.B o)))&&(decide ((M.aw.B o)<=(4:Int))))
 else
 some ((M.aw.B o)==(0:Int))
def oZ(p:M.ar):Nat->Int->Option ((Bool)⊕(Unit))
 |0,_=>none
 |fuel+1,i=>
 bif(decide (i<((List.length (M.ar.Ops p)):Int)))then
 let q0:=(M.kF (List.getD (M.ar.Ops p) (Int.toNat i) M.aw.zero))
 bif(!(Option.getD q0 default))then
 let q1:=((Option.isSome q0)&&((Go.V.inB i (List.length (M.ar.Ops p)))&&true))
 bif q1 then
 some (.inl false)
 else
 none
 else
 let q1:=((Option.isSome q0)&&((Go.V.inB i (List.length (M.ar.Ops p)))&&true))
 bif q1 then
 M.oZ p fuel (Go.IntKind.wrap Go.IntKind.i64 (i+(1:Int)))
 else
 none
 else
 some ((.inr (())))
def qW(p:M.ar):Option (Bool):=
 bif((!((decide ((1:Int)<=(M.ar.dQ p)))&&(decide ((M.ar.dQ p)<=(6:Int)))))||(decide ((12:Int)<((List.length (M.ar.Ops p)):Int))))then
 some false
 else
 match(M.oZ p Go.V.an (0:Int))with
 |none=>none
 |some y0=>
 (match y0 with
 |.inl a1=>
 some a1
 |.inr b1=>
 some true)
def qY(list:(List M.ar)):Nat->Int->Option ((Bool)⊕(Unit))
 |0,_=>none
 |fuel+1,i=>
 bif(decide (i<((List.length list):Int)))then
 let q0:=(M.qW (List.getD list (Int.toNat i) M.ar.zero))
 bif(!(Option.getD q0 default))then
 let q1:=((Option.isSome q0)&&((Go.V.inB i (List.length list))&&true))
 bif q1 then
 some (.inl false)
 else
 none
 else
 let q1:=((Option.isSome q0)&&((Go.V.inB i (List.length list))&&true))
 bif q1 then
 M.qY list fuel (Go.IntKind.wrap Go.IntKind.i64 (i+(1:Int)))
 else
 none
 else
 some ((.inr (())))
def uA(list:(List M.ar)):Option (Bool):=
 bif((decide (((List.length list):Int)<(1:Int)))||(decide ((6:Int)<((List.length list):Int))))then
 some false
 else
 match(M.qY list Go.V.an (0:Int))with
 |none=>none
 |some y0=>
 (match y0 with
 |.inl a1=>
 some a1
 |.inr b1=>
 some true)
def pn(w:M.ai):Nat->Int->Option ((Bool×(List M.ar)×(List M.ae)×(List M.ad)×(List Int)×(List M.az))⊕(M.ai))
 |0,_=>none
 |fuel+1,i=>
 bif(decide (i<((List.length (M.ai.aX w)):Int)))then
 let q0:=(M.uw (M.ae.re (List.getD (M.ai.aX w) (Int.toNat i) M.ae.zero)))
 let q1:=(!(Option.getD q0 default))
 let q2:=(q1||(M.ae.cR (List.getD (M.ai.aX w) (Int.toNat i) M.ae.zero)))
 bif(q2||((M.aa.Kind (M.ae.cq (List.getD (M.ai.aX w) (Int.toNat i) M.ae.zero))) !=(9:Int)))then
 let q3:=(((Go.V.inB i (List.length (M.ai.aX w)))||(!(q2==false)))&&(((Go.V.inB i (List.length (M.ai.aX w)))||(!(q1==false)))&&((Option.isSome q0)&&((Go.V.inB i (List.length (M.ai.aX w)))&&true))))
 bif q3 then
 some (.inl (false,(M.ai.aT w),(M.ai.aX w),(M.ai.aC w),(M.ai.Back w),(M.ai.Notes w)))
 else
 none
 else
 let q3:=(((Go.V.inB i (List.length (M.ai.aX w)))||(!(q2==false)))&&(((Go.V.inB i (List.length (M.ai.aX w)))||(!(q1==false)))&&((Option.isSome q0)&&((Go.V.inB i (List.length (M.ai.aX w)))&&true))))
 bif q3 then
 M.pn w fuel (Go.IntKind.wrap Go.IntKind.i64 (i+(1:Int)))
 else
 none
 else
 some ((.inr (w)))
def ri(list:(List Int)):Nat->Int->Option ((Bool)⊕(Unit))
 |0,_=>none
 |fuel+1,i=>
 bif(decide (i<((List.length list):Int)))then
 bif(decide ((List.getD list (Int.toNat i) (0:Int))<=(List.getD list (Int.toNat (Go.IntKind.wrap Go.IntKind.i64 (i-(1:Int)))) (0:Int))))then
 let q0:=((Go.V.inB i (List.length list))&&((Go.V.inB (Go.IntKind.wrap Go.IntKind.i64 (i-(1:Int))) (List.length list))&&true))
 bif q0 then
 some (.inl false)
 else
 none
 else
 let q0:=((Go.V.inB i (List.length list))&&((Go.V.inB (Go.IntKind.wrap Go.IntKind.i64 (i-(1:Int))) (List.length list))&&true))
 bif q0 then
 M.ri list fuel (Go.IntKind.wrap Go.IntKind.i64 (i+(1:Int)))
 else
 none
 else
 some ((.inr (())))
def rj(list:(List Int)):Option (Bool):=
 match(M.ri list Go.V.an (1:Int))with
 |none=>none
 |some y0=>
 (match y0 with
 |.inl a1=>
 some a1
 |.inr b1=>
 some true)
def pg(n:Int)(w:M.ai)(t:M.ad):Nat->Int->Option ((Bool×(List M.ar)×(List M.ae)×(List M.ad)×(List Int)×(List M.az))⊕(Int×(List M.ar)×(List M.ae)×(List M.ad)×(List Int)×(List M.az)×M.ad))
 |0,_=>none
 |fuel+1,i=>
 bif(decide (i<((List.length (M.ad.bg t)):Int)))then
 let q0:=(!((decide ((1:Int)<=(List.getD (M.ad.bg t) (Int.toNat i) (0:Int))))&&(decide ((List.getD (M.ad.bg t) (Int.toNat i) (0:Int))<=((List.length (M.ai.aC w)):Int)))))
 let q1:=(Go.IntKind.wrap Go.IntKind.i64 ((List.getD (M.ad.bg t) (Int.toNat i) (0:Int))-(1:Int)))
 bif(q0||((M.ad.dy (List.getD (M.ai.aC w) (Int.toNat q1) M.ad.zero)) !=(M.ad.Id t)))then
 let q2:=(!(q0==false))
 let q3:=(((Go.V.inB q1 (List.length (M.ai.aC w)))||q2)&&(((Go.V.inB i (List.length (M.ad.bg t)))||q2)&&((Go.V.inB i (List.length (M.ad.bg t)))&&true)))
 bif q3 then
 some (.inl (false,(M.ai.aT w),(M.ai.aX w),(M.ai.aC w),(M.ai.Back w),(M.ai.Notes w)))
 else
 none
 else
 let q2:=(!(q0==false))
 let q3:=(((Go.V.inB q1 (List.length (M.ai.aC w)))||q2)&&(((Go.V.inB i (List.length (M.ad.bg t)))||q2)&&((Go.V.inB i (List.length (M.ad.bg t)))&&true)))
 bif q3 then
 M.pg n w t fuel (Go.IntKind.wrap Go.IntKind.i64 (i+(1:Int)))
 else
 none
 else
 some ((.inr ((n,(M.ai.aT w),(M.ai.aX w),(M.ai.aC w),(M.ai.Back w),(M.ai.Notes w),t))))
def rl(list:(List Int))(n:Int):Nat->Int->Option ((Bool)⊕(Unit))
 |0,_=>none
 |fuel+1,i=>
 bif(decide (i<((List.length list):Int)))then
 bif((List.getD list (Int.toNat i) (0:Int))==n)then
 bif((Go.V.inB i (List.length list))&&true)then
 some (.inl true)
 else
 none
 else
 bif((Go.V.inB i (List.length list))&&true)then
 M.rl list n fuel (Go.IntKind.wrap Go.IntKind.i64 (i+(1:Int)))
 else
 none
 else
 some ((.inr (())))
def pf(list:(List Int))(n:Int):Option (Bool):=
 match(M.rl list n Go.V.an (0:Int))with
 |none=>none
 |some y0=>
 (match y0 with
 |.inl a1=>
 some a1
 |.inr b1=>
 some false)
def pj(n:Int)(t:M.ad):Nat->Int->Option ((Bool)⊕(Int×M.ad))
 |0,_=>none
 |fuel+1,i=>
 bif(decide (i<((List.length (M.ad.Set t)):Int)))then
 let q0:=(M.pf (M.ad.bg t) (List.getD (M.ad.Set t) (Int.toNat i) (0:Int)))
 bif(!(Option.getD q0 default))then
 let q1:=((Option.isSome q0)&&((Go.V.inB i (List.length (M.ad.Set t)))&&true))
 bif q1 then
 some (.inl false)
 else
 none
 else
 let q1:=((Option.isSome q0)&&((Go.V.inB i (List.length (M.ad.Set t)))&&true))
 bif q1 then
 M.pj n t fuel (Go.IntKind.wrap Go.IntKind.i64 (i+(1:Int)))
 else
 none
 else
 some ((.inr ((n,t))))
def yg(t:M.ad):Option (Bool):=
 some (((M.ad.bU t)||((M.ad.Status t)==(4:Int)))||((M.ad.Status t)==(5:Int)))
def uJ(k:Int)(w:M.ai):Option (Bool×M.ai):=
 bif(((((((M.ad.Id (List.getD (M.ai.aC w) (Int.toNat k) M.ad.zero)) !=(Go.IntKind.wrap Go.IntKind.i64 (k+(1:Int))))||(!((decide ((0:Int)<=(M.ad.Prog (List.getD (M.ai.aC w) (Int.toNat k) M.ad.zero))))&&(decide ((M.ad.Prog (List.getD (M.ai.aC w) (Int.toNat k) M.ad.zero))<=(Go.IntKind.wrap Go.IntKind.i64 (((List.length (M.ai.aT w)):Int)-(1:Int))))))))||(!((decide ((0:Int)<=(M.ad.dy (List.getD (M.ai.aC w) (Int.toNat k) M.ad.zero))))&&(decide ((M.ad.dy (List.getD (M.ai.aC w) (Int.toNat k) M.ad.zero))<=(Go.IntKind.wrap Go.IntKind.i64 ((M.ad.Id (List.getD (M.ai.aC w) (Int.toNat k) M.ad.zero))-(1:Int))))))))||(!((decide ((1:Int)<=(M.ad.Status (List.getD (M.ai.aC w) (Int.toNat k) M.ad.zero))))&&(decide ((M.ad.Status (List.getD (M.ai.aC w) (Int.toNat k) M.ad.zero))<=(5:Int))))))||(!((decide ((0:Int)<=(M.ad.Result (List.getD (M.ai.aC w) (Int.toNat k) M.ad.zero))))&&(decide ((M.ad.Result (List.getD (M.ai.aC w) (Int.toNat k) M.ad.zero))<=(999:Int))))))||((!(M.ad.bU (List.getD (M.ai.aC w) (Int.toNat k) M.ad.zero)))&&((M.ad.Result (List.getD (M.ai.aC w) (Int.toNat k) M.ad.zero)) !=(0:Int))))then
 bif((Go.V.inB k (List.length (M.ai.aC w)))&&true)then
 some (false,w)
 else
 none
 else
 let q0:=(((!((decide ((0:Int)<=(M.ad.PC (List.getD (M.ai.aC w) (Int.toNat k) M.ad.zero))))&&(decide ((M.ad.PC (List.getD (M.ai.aC w) (Int.toNat k) M.ad.zero))<=((List.length (M.ar.Ops (List.getD (M.ai.aT w) (Int.toNat (M.ad.Prog (List.getD (M.ai.aC w) (Int.toNat k) M.ad.zero))) M.ar.zero))):Int)))))||(decide ((8:Int)<((List.length (M.ad.bg (List.getD (M.ai.aC w) (Int.toNat k) M.ad.zero))):Int))))||(decide (((List.length (M.ad.bg (List.getD (M.ai.aC w) (Int.toNat k) M.ad.zero))):Int)<((List.length (M.ad.Set (List.getD (M.ai.aC w) (Int.toNat k) M.ad.zero))):Int))))
 let q1:=(M.rj (M.ad.bg (List.getD (M.ai.aC w) (Int.toNat k) M.ad.zero)))
 let q2:=(q0||(!(Option.getD q1 default)))
 let q3:=(M.rj (M.ad.Set (List.getD (M.ai.aC w) (Int.toNat k) M.ad.zero)))
 bif(q2||(!(Option.getD q3 default)))then
 let q4:=(((Option.isSome q3)||(!(q2==false)))&&(((Option.isSome q1)||(!(q0==false)))&&((Go.V.inB (M.ad.Prog (List.getD (M.ai.aC w) (Int.toNat k) M.ad.zero)) (List.length (M.ai.aT w)))&&((Go.V.inB k (List.length (M.ai.aC w)))&&true))))
 bif q4 then
 some (false,w)
 else
 none
 else
 match(M.pg ((List.length (M.ar.Ops (List.getD (M.ai.aT w) (Int.toNat (M.ad.Prog (List.getD (M.ai.aC w) (Int.toNat k) M.ad.zero))) M.ar.zero))):Int) w (List.getD (M.ai.aC w) (Int.toNat k) M.ad.zero) Go.V.an (0:Int))with
 |none=>none
 |some y4=>
 (match y4 with
 |.inl a5=>
 let q6:=(((Option.isSome q3)||(!(q2==false)))&&(((Option.isSome q1)||(!(q0==false)))&&((Go.V.inB (M.ad.Prog (List.getD (M.ai.aC w) (Int.toNat k) M.ad.zero)) (List.length (M.ai.aT w)))&&((Go.V.inB k (List.length (M.ai.aC w)))&&true))))
 bif q6 then
 let q7:=a5.2
 let q8:=q7.2
 let q9:=q8.2
 let q10:=q9.2
 some (a5.1,(M.ai.mk q7.1 q8.1 q9.1 q10.1 q10.2))
 else
 none
 |.inr b5=>
 let q6:=b5.2
 let q7:=q6.2
 let q8:=q7.2
 let q9:=q8.2
 let q10:=q9.2
 match(M.pj b5.1 q10.2 Go.V.an (0:Int))with
 |none=>none
 |some y11=>
 (match y11 with
 |.inl a12=>
 let q13:=(((Option.isSome q3)||(!(q2==false)))&&(((Option.isSome q1)||(!(q0==false)))&&((Go.V.inB (M.ad.Prog (List.getD (M.ai.aC w) (Int.toNat k) M.ad.zero)) (List.length (M.ai.aT w)))&&((Go.V.inB k (List.length (M.ai.aC w)))&&true))))
 bif q13 then
 some (a12,(M.ai.mk q6.1 q7.1 q8.1 q9.1 q10.1))
 else
 none
 |.inr b12=>
 bif((M.ad.Status b12.2)==(1:Int))then
 bif(((((M.ad.PC b12.2) !=(0:Int))||(M.ad.bU b12.2))||(M.ad.Asked b12.2))||(decide ((0:Int)<((List.length (M.ad.bg b12.2)):Int))))then
 let q13:=(((Option.isSome q3)||(!(q2==false)))&&(((Option.isSome q1)||(!(q0==false)))&&((Go.V.inB (M.ad.Prog (List.getD (M.ai.aC w) (Int.toNat k) M.ad.zero)) (List.length (M.ai.aT w)))&&((Go.V.inB k (List.length (M.ai.aC w)))&&true))))
 bif q13 then
 some (false,(M.ai.mk q6.1 q7.1 q8.1 q9.1 q10.1))
 else
 none
 else
 let q13:=(((Option.isSome q3)||(!(q2==false)))&&(((Option.isSome q1)||(!(q0==false)))&&((Go.V.inB (M.ad.Prog (List.getD (M.ai.aC w) (Int.toNat k) M.ad.zero)) (List.length (M.ai.aT w)))&&((Go.V.inB k (List.length (M.ai.aC w)))&&true))))
 bif q13 then
 let bI:=((!(M.ad.Told b12.2))||(((M.ad.bU b12.2)||((M.ad.Status b12.2)==(4:Int)))||((M.ad.Status b12.2)==(5:Int))))
 some (bI,(M.ai.mk q6.1 q7.1 q8.1 q9.1 q10.1))
 else
 none
 else
 bif((M.ad.Status b12.2)==(3:Int))then
 bif((!(M.ad.bU b12.2))||((M.ad.PC b12.2) !=b12.1))then
 let q13:=(((Option.isSome q3)||(!(q2==false)))&&(((Option.isSome q1)||(!(q0==false)))&&((Go.V.inB (M.ad.Prog (List.getD (M.ai.aC w) (Int.toNat k) M.ad.zero)) (List.length (M.ai.aT w)))&&((Go.V.inB k (List.length (M.ai.aC w)))&&true))))
 bif q13 then
 some (false,(M.ai.mk q6.1 q7.1 q8.1 q9.1 q10.1))
 else
 none
 else
 let q13:=(((Option.isSome q3)||(!(q2==false)))&&(((Option.isSome q1)||(!(q0==false)))&&((Go.V.inB (M.ad.Prog (List.getD (M.ai.aC w) (Int.toNat k) M.ad.zero)) (List.length (M.ai.aT w)))&&((Go.V.inB k (List.length (M.ai.aC w)))&&true))))
 bif q13 then
 let bI:=((!(M.ad.Told b12.2))||(((M.ad.bU b12.2)||((M.ad.Status b12.2)==(4:Int)))||((M.ad.Status b12.2)==(5:Int))))
 some (bI,(M.ai.mk q6.1 q7.1 q8.1 q9.1 q10.1))
 else
 none
 else
 bif((M.ad.Status b12.2)==(4:Int))then
 bif(M.ad.bU b12.2)then
 let q13:=(((Option.isSome q3)||(!(q2==false)))&&(((Option.isSome q1)||(!(q0==false)))&&((Go.V.inB (M.ad.Prog (List.getD (M.ai.aC w) (Int.toNat k) M.ad.zero)) (List.length (M.ai.aT w)))&&((Go.V.inB k (List.length (M.ai.aC w)))&&true))))
 bif q13 then
 some (false,(M.ai.mk q6.1 q7.1 q8.1 q9.1 q10.1))
 else
 none
 else
 let q13:=(((Option.isSome q3)||(!(q2==false)))&&(((Option.isSome q1)||(!(q0==false)))&&((Go.V.inB (M.ad.Prog (List.getD (M.ai.aC w) (Int.toNat k) M.ad.zero)) (List.length (M.ai.aT w)))&&((Go.V.inB k (List.length (M.ai.aC w)))&&true))))
 bif q13 then
 let bI:=((!(M.ad.Told b12.2))||(((M.ad.bU b12.2)||((M.ad.Status b12.2)==(4:Int)))||((M.ad.Status b12.2)==(5:Int))))
 some (bI,(M.ai.mk q6.1 q7.1 q8.1 q9.1 q10.1))
 else
 none
 else
 let q13:=(((Option.isSome q3)||(!(q2==false)))&&(((Option.isSome q1)||(!(q0==false)))&&((Go.V.inB (M.ad.Prog (List.getD (M.ai.aC w) (Int.toNat k) M.ad.zero)) (List.length (M.ai.aT w)))&&((Go.V.inB k (List.length (M.ai.aC w)))&&true))))
 bif q13 then
 let bI:=((!(M.ad.Told b12.2))||(((M.ad.bU b12.2)||((M.ad.Status b12.2)==(4:Int)))||((M.ad.Status b12.2)==(5:Int))))
 some (bI,(M.ai.mk q6.1 q7.1 q8.1 q9.1 q10.1))
 else
 none))
def lY:Nat->Int->M.ai->Option ((Bool×(List M.ar)×(List M.ae)×(List M.ad)×(List Int)×(List M.az))⊕(M.ai))
 |0,_,_=>none
 |fuel+1,i,w=>
 bif(decide (i<((List.length (M.ai.aC w)):Int)))then
 let q0:=(M.uJ i w)
 bif(!(Option.getD q0 default).1)then
 bif((Option.isSome q0)&&true)then
 some (.inl (false,(M.ai.aT (Option.getD q0 default).2),(M.ai.aX (Option.getD q0 default).2),(M.ai.aC (Option.getD q0 default).2),(M.ai.Back (Option.getD q0 default).2),(M.ai.Notes (Option.getD q0 default).2)))
 else
 none
 else
 bif((Option.isSome q0)&&true)then
 M.lY fuel (Go.IntKind.wrap Go.IntKind.i64 (i+(1:Int))) (Option.getD q0 default).2
 else
 none
 else
 some ((.inr (w)))
def pr(w:M.ai):Nat->Int->Option ((Bool×(List M.ar)×(List M.ae)×(List M.ad)×(List Int)×(List M.az))⊕(M.ai))
 |0,_=>none
 |fuel+1,i=>
 bif(decide (i<((List.length (M.ai.Back w)):Int)))then
 let q0:=(!((decide ((1:Int)<=(List.getD (M.ai.Back w) (Int.toNat i) (0:Int))))&&(decide ((List.getD (M.ai.Back w) (Int.toNat i) (0:Int))<=(6:Int)))))
 bif(q0||((decide ((0:Int)<i))&&(decide ((List.getD (M.ai.Back w) (Int.toNat i) (0:Int))<=(List.getD (M.ai.Back w) (Int.toNat (Go.IntKind.wrap Go.IntKind.i64 (i-(1:Int)))) (0:Int))))))then
 let q1:=(!((q0==false)&&((decide ((0:Int)<i))==true)))
 let q2:=(((Go.V.inB i (List.length (M.ai.Back w)))||q1)&&(((Go.V.inB (Go.IntKind.wrap Go.IntKind.i64 (i-(1:Int))) (List.length (M.ai.Back w)))||q1)&&((Go.V.inB i (List.length (M.ai.Back w)))&&true)))
 bif q2 then
 some (.inl (false,(M.ai.aT w),(M.ai.aX w),(M.ai.aC w),(M.ai.Back w),(M.ai.Notes w)))
 else
 none
 else
 let q1:=(!((q0==false)&&((decide ((0:Int)<i))==true)))
 let q2:=(((Go.V.inB i (List.length (M.ai.Back w)))||q1)&&(((Go.V.inB (Go.IntKind.wrap Go.IntKind.i64 (i-(1:Int))) (List.length (M.ai.Back w)))||q1)&&((Go.V.inB i (List.length (M.ai.Back w)))&&true)))
 bif q2 then
 M.pr w fuel (Go.IntKind.wrap Go.IntKind.i64 (i+(1:Int)))
 else
 none
 else
 some ((.inr (w)))
def pt(w:M.ai):Nat->Int->Option ((Bool×(List M.ar)×(List M.ae)×(List M.ad)×(List Int)×(List M.az))⊕((List M.ar)×(List M.ae)×(List M.ad)×(List Int)×(List M.az)))
 |0,_=>none
 |fuel+1,i=>
 bif(decide (i<((List.length (M.ai.Notes w)):Int)))then
 let q0:=(!((decide ((1:Int)<=(M.az.Task (List.getD (M.ai.Notes w) (Int.toNat i) M.az.zero))))&&(decide ((M.az.Task (List.getD (M.ai.Notes w) (Int.toNat i) M.az.zero))<=(8:Int)))))
 bif(q0||(!((decide ((1:Int)<=(M.az.Kind (List.getD (M.ai.Notes w) (Int.toNat i) M.az.zero))))&&(decide ((M.az.Kind (List.getD (M.ai.Notes w) (Int.toNat i) M.az.zero))<=(9:Int))))))then
 let q1:=(((Go.V.inB i (List.length (M.ai.Notes w)))||(!(q0==false)))&&((Go.V.inB i (List.length (M.ai.Notes w)))&&true))
 bif q1 then
 some (.inl (false,(M.ai.aT w),(M.ai.aX w),(M.ai.aC w),(M.ai.Back w),(M.ai.Notes w)))
 else
 none
 else
 let q1:=(((Go.V.inB i (List.length (M.ai.Notes w)))||(!(q0==false)))&&((Go.V.inB i (List.length (M.ai.Notes w)))&&true))
 bif q1 then
 M.pt w fuel (Go.IntKind.wrap Go.IntKind.i64 (i+(1:Int)))
 else
 none
 else
 some ((.inr (((M.ai.aT w),(M.ai.aX w),(M.ai.aC w),(M.ai.Back w),(M.ai.Notes w)))))
def ru(w:M.ai):Option (Bool×M.ai):=
 let q0:=(M.uA (M.ai.aT w))
 bif(((((!(Option.getD q0 default))||(decide ((4:Int)<((List.length (M.ai.aX w)):Int))))||(decide ((8:Int)<((List.length (M.ai.aC w)):Int))))||(decide ((6:Int)<((List.length (M.ai.Back w)):Int))))||(decide ((120:Int)<((List.length (M.ai.Notes w)):Int))))then
 bif((Option.isSome q0)&&true)then
 some (false,w)
 else
 none
 else
 match(M.pn w Go.V.an (0:Int))with
 |none=>none
 |some y1=>
 (match y1 with
 |.inl a2=>
 bif((Option.isSome q0)&&true)then
 let q3:=a2.2
 let q4:=q3.2
 let q5:=q4.2
 let q6:=q5.2
 some (a2.1,(M.ai.mk q3.1 q4.1 q5.1 q6.1 q6.2))
 else
 none
 |.inr b2=>
 match(M.lY Go.V.an (0:Int) b2)with
 |none=>none
 |some y3=>
 (match y3 with
 |.inl a4=>
 bif((Option.isSome q0)&&true)then
 let q5:=a4.2
 let q6:=q5.2
 let q7:=q6.2
 let q8:=q7.2
 some (a4.1,(M.ai.mk q5.1 q6.1 q7.1 q8.1 q8.2))
 else
 none
 |.inr b4=>
 match(M.pr b4 Go.V.an (0:Int))with
 |none=>none
 |some y5=>
 (match y5 with
 |.inl a6=>
 bif((Option.isSome q0)&&true)then
 let q7:=a6.2
 let q8:=q7.2
 let q9:=q8.2
 let q10:=q9.2
 some (a6.1,(M.ai.mk q7.1 q8.1 q9.1 q10.1 q10.2))
 else
 none
 |.inr b6=>
 match(M.pt b6 Go.V.an (0:Int))with
 |none=>none
 |some y7=>
 (match y7 with
 |.inl a8=>
 bif((Option.isSome q0)&&true)then
 let q9:=a8.2
 let q10:=q9.2
 let q11:=q10.2
 let q12:=q11.2
 some (a8.1,(M.ai.mk q9.1 q10.1 q11.1 q12.1 q12.2))
 else
 none
 |.inr b8=>
 bif((Option.isSome q0)&&true)then
 let q9:=b8.2.2
 let q10:=q9.2
 some (true,(M.ai.mk b8.1 b8.2.1 q9.1 q10.1 q10.2))
 else
 none))))
def ow(list:(List Int)):Option ((List Int)):=
 bif((decide ((0+(List.length list))<=1073741824))&&true)then
 some ([]++list)
 else
 none
def ox(w:M.ai)(out:(List M.ar))(yv:(List M.ar))(yw:(List M.ae))(yx:(List M.ad))(yy:(List Int))(o16:(List M.az))(vK:(List M.ad))(yz:(List Int))(yA:(List M.az)):Nat->Int->(List M.ae)->Option (M.ai×(List M.ar)×(List M.ar)×(List M.ae)×(List M.ad)×(List Int)×(List M.az)×(List M.ae)×(List M.ad)×(List Int)×(List M.az))
 |0,_,_=>none
 |fuel+1,i,vL=>
 bif(decide (i<((List.length (M.ai.aX w)):Int)))then
 let q0:=(M.sR (M.ae.re (List.getD (M.ai.aX w) (Int.toNat i) M.ae.zero)))
 let q1:=[(M.ae.re (Option.getD q0 default))]
 bif((decide (((List.length vL)+(List.length q1))<=1073741824))&&((Option.isSome q0)&&((Go.V.inB i (List.length (M.ai.aX w)))&&true)))then
 M.ox w out yv yw yx yy o16 vK yz yA fuel (Go.IntKind.wrap Go.IntKind.i64 (i+(1:Int))) (vL++q1)
 else
 none
 else
 some ((w,out,yv,yw,yx,yy,o16,vL,vK,yz,yA))
def oy(w:M.ai)(out:(List M.ar))(yv:(List M.ar))(yw:(List M.ae))(yx:(List M.ad))(yy:(List Int))(o16:(List M.az))(vL:(List M.ae))(yz:(List Int))(yA:(List M.az)):Nat->Int->(List M.ad)->Option ((List M.ar)×(List M.ae)×(List M.ad)×(List Int)×(List M.az)×(List M.ar)×(List M.ar)×(List M.ae)×(List M.ad)×(List Int)×(List M.az)×(List M.ae)×(List M.ad)×(List Int)×(List M.az))
 |0,_,_=>none
 |fuel+1,i,vK=>
 bif(decide (i<((List.length (M.ai.aC w)):Int)))then
 let q0:=(M.ow (M.ad.bg (List.getD (M.ai.aC w) (Int.toNat i) M.ad.zero)))
 let q1:=(M.ow (M.ad.Set (List.getD (M.ai.aC w) (Int.toNat i) M.ad.zero)))
 let q2:=[(M.ad.mk (M.ad.Id (List.getD (M.ai.aC w) (Int.toNat i) M.ad.zero)) (M.ad.Prog (List.getD (M.ai.aC w) (Int.toNat i) M.ad.zero)) (M.ad.PC (List.getD (M.ai.aC w) (Int.toNat i) M.ad.zero)) (M.ad.dy (List.getD (M.ai.aC w) (Int.toNat i) M.ad.zero)) (M.ad.Status (List.getD (M.ai.aC w) (Int.toNat i) M.ad.zero)) (M.ad.Result (List.getD (M.ai.aC w) (Int.toNat i) M.ad.zero)) (M.ad.bU (List.getD (M.ai.aC w) (Int.toNat i) M.ad.zero)) (M.ad.Asked (List.getD (M.ai.aC w) (Int.toNat i) M.ad.zero)) (M.ad.Told (List.getD (M.ai.aC w) (Int.toNat i) M.ad.zero)) (Option.getD q0 default) (Option.getD q1 default))]
 bif((decide (((List.length vK)+(List.length q2))<=1073741824))&&((Option.isSome q1)&&((Option.isSome q0)&&((Go.V.inB i (List.length (M.ai.aC w)))&&true))))then
 M.oy w out yv yw yx yy o16 vL yz yA fuel (Go.IntKind.wrap Go.IntKind.i64 (i+(1:Int))) (vK++q2)
 else
 none
 else
 some (((M.ai.aT w),(M.ai.aX w),(M.ai.aC w),(M.ai.Back w),(M.ai.Notes w),out,yv,yw,yx,yy,o16,vL,vK,yz,yA))
def tC(w:M.ai):Option ((List M.ar)×M.ai×(List M.ae)×(List M.ad)×(List Int)×(List M.az)):=
 let q0:=(M.tB (M.ai.aT w))
 let q1:=(M.ow (M.ai.Back w))
 match(M.ox w (Option.getD q0 default) [] [] [] [] [] [] (Option.getD q1 default) ([]++(M.ai.Notes w)) Go.V.an (0:Int) [])with
 |none=>none
 |some y2=>
 let q3:=y2.2
 let q4:=q3.2
 let q5:=q4.2
 let q6:=q5.2
 let q7:=q6.2
 let q8:=q7.2
 let q9:=q8.2
 let q10:=q9.2
 let q11:=q10.2
 match(M.oy y2.1 q3.1 q4.1 q5.1 q6.1 q7.1 q8.1 q9.1 q11.1 q11.2 Go.V.an (0:Int) q10.1)with
 |none=>none
 |some UM=>
 bif((decide ((0+(List.length (M.ai.Notes w)))<=1073741824))&&((Option.isSome q1)&&((Option.isSome q0)&&true)))then
 let q13:=UM.2
 let bI:=q13.2
 let cE:=bI.2
 let q16:=cE.2
 let du:=q16.2
 let fe:=du.2.2.2.2.2.2
 let fM:=fe.2
 let gv:=fM.2
 some (du.1,(M.ai.mk UM.1 q13.1 bI.1 cE.1 q16.1),fe.1,fM.1,gv.1,gv.2)
 else
 none
def BD(t:M.ad):Option (Bool):=
 some (decide ((3:Int)<=(M.ad.Status t)))
def qD(w:M.ai)(rY:(List Int)):Nat->Int->Option ((Bool)⊕(Unit))
 |0,_=>none
 |fuel+1,i=>
 bif(decide (i<((List.length rY):Int)))then
 let q0:=(Go.IntKind.wrap Go.IntKind.i64 ((List.getD rY (Int.toNat i) (0:Int))-(1:Int)))
 let q1:=(List.getD (M.ai.aC w) (Int.toNat q0) M.ad.zero)
 bif((((M.ad.bU q1)||((M.ad.Status q1)==(4:Int)))||((M.ad.Status q1)==(5:Int)))&&(!(M.ad.Told q1)))then
 let q2:=((Go.V.inB q0 (List.length (M.ai.aC w)))&&((Go.V.inB i (List.length rY))&&true))
 bif q2 then
 some (.inl true)
 else
 none
 else
 let q2:=((Go.V.inB q0 (List.length (M.ai.aC w)))&&((Go.V.inB i (List.length rY))&&true))
 bif q2 then
 M.qD w rY fuel (Go.IntKind.wrap Go.IntKind.i64 (i+(1:Int)))
 else
 none
 else
 some ((.inr (())))
def tz(w:M.ai)(rY:(List Int)):Option (Bool):=
 match(M.qD w rY Go.V.an (0:Int))with
 |none=>none
 |some y0=>
 (match y0 with
 |.inl a1=>
 some a1
 |.inr b1=>
 some false)
def oo(s:M.ae):Option (Bool):=
 bif(M.ae.Shut s)then
 some false
 else
 let q0:=(M.mH (M.ae.re s))
 bif(((Option.isSome q0)||(!(((M.ae.Gone s)==false)&&((decide (((List.length (M.ae.Buffer s)):Int)<(M.ae.Room s)))==true))))&&true)then
 some ((M.ae.Gone s)||((decide (((List.length (M.ae.Buffer s)):Int)<(M.ae.Room s)))&&(decide ((M.ae.Put s)<(Option.getD q0 default)))))
 else
 none
def qB(s:M.ae):Option (Bool):=
 some ((!(M.ae.Gone s))&&((decide ((0:Int)<((List.length (M.ae.Buffer s)):Int)))||(M.ae.Shut s)))
def tA(w:M.ai)(ba:Int):Option (Bool):=
 let q0:=(List.getD (M.ai.aC w) (Int.toNat (Go.IntKind.wrap Go.IntKind.i64 (ba-(1:Int)))) M.ad.zero)
 bif((M.ad.Status q0)==(1:Int))then
 let q1:=(List.getD (M.ai.aT w) (Int.toNat (M.ad.Prog q0)) M.ar.zero)
 let q2:=(M.pf (M.ai.Back w) (M.ar.dQ q1))
 let q3:=((Go.V.inB (M.ad.Prog q0) (List.length (M.ai.aT w)))&&((Go.V.inB (Go.IntKind.wrap Go.IntKind.i64 (ba-(1:Int))) (List.length (M.ai.aC w)))&&true))
 bif((Option.isSome q2)&&q3)then
 some (Option.getD q2 default)
 else
 none
 else
 let q1:=(List.getD (M.ai.aT w) (Int.toNat (M.ad.Prog q0)) M.ar.zero)
 let q2:=(List.length (M.ar.Ops q1))
 bif(((M.ad.PC q0)==(q2:Int))||((M.ad.Asked q0)&&(!(M.ad.bU q0))))then
 let q3:=((Go.V.inB (M.ad.Prog q0) (List.length (M.ai.aT w)))&&((Go.V.inB (Go.IntKind.wrap Go.IntKind.i64 (ba-(1:Int))) (List.length (M.ai.aC w)))&&true))
 bif q3 then
 some false
 else
 none
 else
 let q3:=(List.getD (M.ar.Ops q1) (Int.toNat (M.ad.PC q0)) M.aw.zero)
 bif((M.aw.Kind q3)==(3:Int))then
 let q4:=(M.tz w (M.ad.Set q0))
 let q5:=((Go.V.inB (M.ad.Prog q0) (List.length (M.ai.aT w)))&&((Go.V.inB (Go.IntKind.wrap Go.IntKind.i64 (ba-(1:Int))) (List.length (M.ai.aC w)))&&true))
 let q6:=((Go.V.inB (M.ad.PC q0) q2)&&q5)
 bif(((Option.isSome q4)||(!((decide ((0:Int)<((List.length (M.ad.Set q0)):Int)))==true)))&&q6)then
 some ((decide ((0:Int)<((List.length (M.ad.Set q0)):Int)))&&(!(Option.getD q4 default)))
 else
 none
 else
 bif((M.aw.Kind q3)==(5:Int))then
 let q4:=(List.getD (M.ai.aX w) (Int.toNat (M.aw.A q3)) M.ae.zero)
 let q5:=(M.oo (M.ae.re q4))
 let q6:=((decide ((M.aw.A q3)<((List.length (M.ai.aX w)):Int)))&&(!(M.ae.Shut q4)))
 let q7:=(!(q6==true))
 let q8:=(Go.V.inB (M.aw.A q3) (List.length (M.ai.aX w)))
 let q9:=((Go.V.inB (M.ad.Prog q0) (List.length (M.ai.aT w)))&&((Go.V.inB (Go.IntKind.wrap Go.IntKind.i64 (ba-(1:Int))) (List.length (M.ai.aC w)))&&true))
 let q10:=((Go.V.inB (M.ad.PC q0) q2)&&q9)
 let q11:=((q8||(!((decide ((M.aw.A q3)<((List.length (M.ai.aX w)):Int)))==true)))&&q10)
 bif(((Option.isSome q5)||q7)&&((q8||q7)&&q11))then
 some (q6&&(!(Option.getD q5 default)))
 else
 none
 else
 bif((M.aw.Kind q3)==(6:Int))then
 let q4:=(List.getD (M.ai.aX w) (Int.toNat (M.aw.A q3)) M.ae.zero)
 let q5:=(M.qB (M.ae.re q4))
 let q6:=((decide ((M.aw.A q3)<((List.length (M.ai.aX w)):Int)))&&(!(M.ae.Gone q4)))
 let q7:=(!(q6==true))
 let q8:=(Go.V.inB (M.aw.A q3) (List.length (M.ai.aX w)))
 let q9:=((Go.V.inB (M.ad.Prog q0) (List.length (M.ai.aT w)))&&((Go.V.inB (Go.IntKind.wrap Go.IntKind.i64 (ba-(1:Int))) (List.length (M.ai.aC w)))&&true))
 let q10:=((Go.V.inB (M.ad.PC q0) q2)&&q9)
 let q11:=((q8||(!((decide ((M.aw.A q3)<((List.length (M.ai.aX w)):Int)))==true)))&&q10)
 bif(((Option.isSome q5)||q7)&&((q8||q7)&&q11))then
 some (q6&&(!(Option.getD q5 default)))
 else
 none
 else
 let q4:=((Go.V.inB (M.ad.Prog q0) (List.length (M.ai.aT w)))&&((Go.V.inB (Go.IntKind.wrap Go.IntKind.i64 (ba-(1:Int))) (List.length (M.ai.aC w)))&&true))
 let q5:=((Go.V.inB (M.ad.PC q0) q2)&&q4)
 bif q5 then
 some false
 else
 none
def ft(ba:Int)(kind:Int)(a:Int)(b:Int)(w:(List M.ar))(o1:(List M.ae))(o2:(List M.ad))(o3:(List Int))(o4:(List M.az)):Option ((List M.ar)×(List M.ae)×(List M.ad)×(List Int)×(List M.az)):=
 let q0:=[(M.az.mk ba kind a b)]
 bif((decide (((List.length o4)+(List.length q0))<=1073741824))&&true)then
 some (w,o1,o2,o3,(o4++q0))
 else
 none
def ov(ba:Int)(result:Int)(w:(List M.ar))(o1:(List M.ae))(o2:(List M.ad))(o3:(List Int))(o4:(List M.az)):Option ((List M.ar)×(List M.ae)×(List M.ad)×(List Int)×(List M.az)):=
 let q0:=(Int.toNat (Go.IntKind.wrap Go.IntKind.i64 (ba-(1:Int))))
 let q1:=(List.getD o2 q0 M.ad.zero)
 let q2:=(List.set o2 q0 (M.ad.mk (M.ad.Id q1) (M.ad.Prog q1) (M.ad.PC q1) (M.ad.dy q1) (M.ad.Status q1) (M.ad.Result q1) true (M.ad.Asked q1) (M.ad.Told q1) (M.ad.bg q1) (M.ad.Set q1)))
 let q3:=(List.getD q2 q0 M.ad.zero)
 let q4:=(M.ft ba (2:Int) result (0:Int) w o1 (List.set q2 q0 (M.ad.mk (M.ad.Id q3) (M.ad.Prog q3) (M.ad.PC q3) (M.ad.dy q3) (M.ad.Status q3) result (M.ad.bU q3) (M.ad.Asked q3) (M.ad.Told q3) (M.ad.bg q3) (M.ad.Set q3))) o3 o4)
 bif((Option.isSome q4)&&((Go.V.inB (Go.IntKind.wrap Go.IntKind.i64 (ba-(1:Int))) (List.length o2))&&true))then
 let q5:=(Option.getD q4 default)
 let q6:=q5.2
 let q7:=q6.2
 let q8:=q7.2
 some (q5.1,q6.1,q7.1,q8.1,q8.2)
 else
 none
def gG(ba:Int)(w:(List M.ar))(o1:(List M.ae))(o2:(List M.ad))(o3:(List Int))(o4:(List M.az)):Option (Int×(List M.ar)×(List M.ae)×(List M.ad)×(List Int)×(List M.az)):=
 let q0:=(Int.toNat (Go.IntKind.wrap Go.IntKind.i64 (ba-(1:Int))))
 let q1:=(List.getD o2 q0 M.ad.zero)
 let q2:=(M.ft ba (9:Int) (0:Int) (0:Int) w o1 (List.set o2 q0 (M.ad.mk (M.ad.Id q1) (M.ad.Prog q1) (M.ad.PC q1) (M.ad.dy q1) (5:Int) (M.ad.Result q1) (M.ad.bU q1) (M.ad.Asked q1) (M.ad.Told q1) (M.ad.bg q1) (M.ad.Set q1))) o3 o4)
 bif((Option.isSome q2)&&((Go.V.inB (Go.IntKind.wrap Go.IntKind.i64 (ba-(1:Int))) (List.length o2))&&true))then
 let q3:=(Option.getD q2 default)
 let q4:=q3.2
 let q5:=q4.2
 let q6:=q5.2
 some ((0:Int),q3.1,q4.1,q5.1,q6.1,q6.2)
 else
 none
def tw(prog:Int)(parent:Int)(w:(List M.ar))(o1:(List M.ae))(o2:(List M.ad))(o3:(List Int))(o4:(List M.az)):Option (Int×(List M.ar)×(List M.ae)×(List M.ad)×(List Int)×(List M.az)):=
 let q0:=(Go.IntKind.wrap Go.IntKind.i64 (((List.length o2):Int)+(1:Int)))
 let q1:=[(M.ad.mk q0 prog (0:Int) parent (1:Int) (0:Int) false false false [] [])]
 bif((decide (((List.length o2)+(List.length q1))<=1073741824))&&true)then
 some (q0,w,o1,(o2++q1),o3,o4)
 else
 none
def eF(ba:Int)(w:(List M.ar))(o1:(List M.ae))(o2:(List M.ad))(o3:(List Int))(o4:(List M.az)):Option (Int×(List M.ar)×(List M.ae)×(List M.ad)×(List Int)×(List M.az)):=
 let q0:=(Go.V.inB (Go.IntKind.wrap Go.IntKind.i64 (ba-(1:Int))) (List.length o2))
 bif(q0&&(q0&&true))then
 let q1:=(Int.toNat (Go.IntKind.wrap Go.IntKind.i64 (ba-(1:Int))))
 let q2:=(List.getD o2 q1 M.ad.zero)
 some ((0:Int),w,o1,(List.set o2 q1 (M.ad.mk (M.ad.Id q2) (M.ad.Prog q2) (Go.IntKind.wrap Go.IntKind.i64 ((M.ad.PC q2)+(1:Int))) (M.ad.dy q2) (M.ad.Status q2) (M.ad.Result q2) (M.ad.bU q2) (M.ad.Asked q2) (M.ad.Told q2) (M.ad.bg q2) (M.ad.Set q2))),o3,o4)
 else
 none
def lG(ba:Int)(w:(List M.ar))(o1:(List M.ae))(o2:(List M.ad))(o3:(List Int))(o4:(List M.az)):Option (Int×(List M.ar)×(List M.ae)×(List M.ad)×(List Int)×(List M.az)):=
 let q0:=(Int.toNat (Go.IntKind.wrap Go.IntKind.i64 (ba-(1:Int))))
 let q1:=(List.getD o2 q0 M.ad.zero)
 let q2:=(M.ft ba (8:Int) (0:Int) (0:Int) w o1 (List.set o2 q0 (M.ad.mk (M.ad.Id q1) (M.ad.Prog q1) (M.ad.PC q1) (M.ad.dy q1) (4:Int) (M.ad.Result q1) (M.ad.bU q1) (M.ad.Asked q1) (M.ad.Told q1) (M.ad.bg q1) (M.ad.Set q1))) o3 o4)
 bif((Option.isSome q2)&&((Go.V.inB (Go.IntKind.wrap Go.IntKind.i64 (ba-(1:Int))) (List.length o2))&&true))then
 let q3:=(Option.getD q2 default)
 let q4:=q3.2
 let q5:=q4.2
 let q6:=q5.2
 some ((0:Int),q3.1,q4.1,q5.1,q6.1,q6.2)
 else
 none
def lH(ba:Int)(w:(List M.ar))(o1:(List M.ae))(o2:(List M.ad))(o3:(List Int))(o4:(List M.az)):Option (Int×(List M.ar)×(List M.ae)×(List M.ad)×(List Int)×(List M.az)):=
 let q0:=(List.getD o2 (Int.toNat (Go.IntKind.wrap Go.IntKind.i64 (ba-(1:Int)))) M.ad.zero)
 bif((M.ad.Asked q0)&&(!(M.ad.bU q0)))then
 let q1:=(M.lG ba w o1 o2 o3 o4)
 let q2:=((Go.V.inB (Go.IntKind.wrap Go.IntKind.i64 (ba-(1:Int))) (List.length o2))&&true)
 bif((Option.isSome q1)&&q2)then
 let q3:=(Option.getD q1 default)
 let q4:=q3.2
 let q5:=q4.2
 let q6:=q5.2
 let q7:=q6.2
 some (q3.1,q4.1,q5.1,q6.1,q7.1,q7.2)
 else
 none
 else
 let q1:=((Go.V.inB (Go.IntKind.wrap Go.IntKind.i64 (ba-(1:Int))) (List.length o2))&&true)
 bif q1 then
 some ((5:Int),w,o1,o2,o3,o4)
 else
 none
def tn(ba:Int)(o:M.aw)(w:(List M.ar))(o1:(List M.ae))(o2:(List M.ad))(o3:(List Int))(o4:(List M.az)):Option (Int×(List M.ar)×(List M.ae)×(List M.ad)×(List Int)×(List M.az)):=
 bif(M.ae.Shut (List.getD o1 (Int.toNat (M.aw.A o)) M.ae.zero))then
 let q0:=(M.gG ba w o1 o2 o3 o4)
 bif((Option.isSome q0)&&((Go.V.inB (M.aw.A o) (List.length o1))&&true))then
 let q1:=default
 let q2:=(Option.getD q0 q1)
 let q3:=q2.2
 let q4:=q3.2
 let q5:=q4.2
 let q6:=q5.2
 some (q2.1,q3.1,q4.1,q5.1,q6.1,q6.2)
 else
 none
 else
 let q0:=(M.oo (M.ae.re (List.getD o1 (Int.toNat (M.aw.A o)) M.ae.zero)))
 bif(!(Option.getD q0 default))then
 let q1:=(M.lH ba w o1 o2 o3 o4)
 let q2:=((Option.isSome q0)&&((Go.V.inB (M.aw.A o) (List.length o1))&&true))
 bif((Option.isSome q1)&&q2)then
 let q3:=default
 let q4:=(Option.getD q1 q3)
 let q5:=q4.2
 let q6:=q5.2
 let q7:=q6.2
 let q8:=q7.2
 some (q4.1,q5.1,q6.1,q7.1,q8.1,q8.2)
 else
 none
 else
 let q1:=(M.jd (M.aw.B o) (Go.IntKind.wrap Go.IntKind.i64 ((1000000:Int)-(M.ae.Put (List.getD o1 (Int.toNat (M.aw.A o)) M.ae.zero)))))
 let q2:=(M.s6 (Go.IntKind.wrap Go.IntKind.i64 ((M.ae.Put (List.getD o1 (Int.toNat (M.aw.A o)) M.ae.zero))+(1:Int))) (Option.getD q1 default))
 let q3:=(M.sV (M.ae.re (List.getD o1 (Int.toNat (M.aw.A o)) M.ae.zero)) (Option.getD q2 default))
 let q4:=(Option.getD q3 default)
 let q5:=q4.2
 bif(q5.2==(17:Int))then
 let q6:=(M.ft ba (5:Int) (M.aw.A o) (-(1:Int)) w o1 o2 o3 o4)
 let q7:=default
 let q8:=(Option.getD q6 q7)
 let q9:=q8.2
 let q10:=q9.2
 let q11:=q10.2
 let q12:=(M.eF ba q8.1 q9.1 q10.1 q11.1 q11.2)
 let q13:=((Option.isSome q0)&&((Go.V.inB (M.aw.A o) (List.length o1))&&true))
 let bI:=((Option.isSome q3)&&((Option.isSome q2)&&((Option.isSome q1)&&q13)))
 bif((Option.isSome q12)&&((Option.isSome q6)&&bI))then
 let cE:=default
 let q16:=(Option.getD q12 cE)
 let du:=q16.2
 let fe:=du.2
 let fM:=fe.2
 let gv:=fM.2
 some (q16.1,du.1,fe.1,fM.1,gv.1,gv.2)
 else
 none
 else
 let q6:=(M.ft ba (5:Int) (M.aw.A o) q5.1 w (List.set o1 (Int.toNat (M.aw.A o)) (M.ae.re q4.1)) o2 o3 o4)
 let q7:=default
 let q8:=(Option.getD q6 q7)
 let q9:=q8.2
 let q10:=q9.2
 let q11:=q10.2
 let q12:=(M.eF ba q8.1 q9.1 q10.1 q11.1 q11.2)
 let q13:=((Option.isSome q0)&&((Go.V.inB (M.aw.A o) (List.length o1))&&true))
 let bI:=((Option.isSome q3)&&((Option.isSome q2)&&((Option.isSome q1)&&q13)))
 bif((Option.isSome q12)&&((Option.isSome q6)&&((Go.V.inB (M.aw.A o) (List.length o1))&&bI)))then
 let cE:=default
 let q16:=(Option.getD q12 cE)
 let du:=q16.2
 let fe:=du.2
 let fM:=fe.2
 let gv:=fM.2
 some (q16.1,du.1,fe.1,fM.1,gv.1,gv.2)
 else
 none
def sY(s:M.ae)(most:Int):Option (M.ae×(List M.af)×Int):=
 bif(M.ae.Gone s)then
 some ((M.ae.mk (M.aa.mk (0:Int) [] [] []) (0:Int) false [] (0:Int) (0:Int) false false),[],(5:Int))
 else
 bif((((List.length (M.ae.Buffer s)):Int)==(0:Int))&&(M.ae.Shut s))then
 some ((M.ae.mk (M.aa.mk (0:Int) [] [] []) (0:Int) false [] (0:Int) (0:Int) false false),[],(3:Int))
 else
 let q0:=(M.jd most ((List.length (M.ae.Buffer s)):Int))
 let q1:=(Option.getD q0 default)
 let q2:=(Int.toNat q1)
 let q3:=(M.j0 (List.drop q2 (List.take (Int.toNat ((List.length (M.ae.Buffer s)):Int)) (M.ae.Buffer s))))
 let q4:=(M.j0 (List.drop (Int.toNat (0:Int)) (List.take q2 (M.ae.Buffer s))))
 bif((Option.isSome q3)&&((Go.V.cC q1 ((List.length (M.ae.Buffer s)):Int) (List.length (M.ae.Buffer s)))&&((Option.isSome q4)&&((Go.V.cC (0:Int) q1 (List.length (M.ae.Buffer s)))&&((Option.isSome q0)&&true)))))then
 some ((M.ae.mk (M.aa.re (M.ae.cq s)) (M.ae.Room s) (M.ae.cR s) (Option.getD q3 default) (M.ae.Put s) (Go.IntKind.wrap Go.IntKind.i64 ((M.ae.dz s)+q1)) (M.ae.Shut s) (M.ae.Gone s)),(Option.getD q4 default),(0:Int))
 else
 none
def qC(ba:Int)(list:(List M.af))(o:M.aw):Nat->Int->(List M.ar)->(List M.ae)->(List M.ad)->(List Int)->(List M.az)->Option (Int×(List M.ar)×(List M.ae)×(List M.ad)×(List Int)×(List M.az))
 |0,_,_,_,_,_,_=>none
 |fuel+1,i,w,o6,o7,o8,o9=>
 bif(decide (i<((List.length list):Int)))then
 let q0:=(M.ft ba (6:Int) (M.aw.A o) (M.af.Num (List.getD list (Int.toNat i) M.af.zero)) w o6 o7 o8 o9)
 bif((Option.isSome q0)&&((Go.V.inB i (List.length list))&&true))then
 let q1:=(Option.getD q0 default)
 let q2:=q1.2
 let q3:=q2.2
 let q4:=q3.2
 M.qC ba list o fuel (Go.IntKind.wrap Go.IntKind.i64 (i+(1:Int))) q1.1 q2.1 q3.1 q4.1 q4.2
 else
 none
 else
 some ((ba,w,o6,o7,o8,o9))
def tp(ba:Int)(o:M.aw)(w:(List M.ar))(o1:(List M.ae))(o2:(List M.ad))(o3:(List Int))(o4:(List M.az)):Option (Int×(List M.ar)×(List M.ae)×(List M.ad)×(List Int)×(List M.az)):=
 bif(M.ae.Gone (List.getD o1 (Int.toNat (M.aw.A o)) M.ae.zero))then
 let q0:=(M.gG ba w o1 o2 o3 o4)
 bif((Option.isSome q0)&&((Go.V.inB (M.aw.A o) (List.length o1))&&true))then
 let q1:=default
 let q2:=(Option.getD q0 q1)
 let q3:=q2.2
 let q4:=q3.2
 let q5:=q4.2
 let q6:=q5.2
 some (q2.1,q3.1,q4.1,q5.1,q6.1,q6.2)
 else
 none
 else
 let q0:=(M.qB (M.ae.re (List.getD o1 (Int.toNat (M.aw.A o)) M.ae.zero)))
 bif(!(Option.getD q0 default))then
 let q1:=(M.lH ba w o1 o2 o3 o4)
 let q2:=((Option.isSome q0)&&((Go.V.inB (M.aw.A o) (List.length o1))&&true))
 bif((Option.isSome q1)&&q2)then
 let q3:=default
 let q4:=(Option.getD q1 q3)
 let q5:=q4.2
 let q6:=q5.2
 let q7:=q6.2
 let q8:=q7.2
 some (q4.1,q5.1,q6.1,q7.1,q8.1,q8.2)
 else
 none
 else
 let q1:=(M.sY (M.ae.re (List.getD o1 (Int.toNat (M.aw.A o)) M.ae.zero)) (M.aw.B o))
 let q2:=(Option.getD q1 default)
 let q3:=q2.2
 bif(q3.2==(3:Int))then
 let q4:=(M.ft ba (7:Int) (M.aw.A o) (0:Int) w o1 o2 o3 o4)
 let q5:=(Option.getD q4 default)
 let q6:=q5.2
 let q7:=q6.2
 let q8:=q7.2
 let q9:=(M.eF ba q5.1 q6.1 q7.1 q8.1 q8.2)
 let q10:=((Option.isSome q0)&&((Go.V.inB (M.aw.A o) (List.length o1))&&true))
 let q11:=((Option.isSome q1)&&q10)
 bif((Option.isSome q9)&&((Option.isSome q4)&&q11))then
 let q12:=default
 let q13:=(Option.getD q9 q12)
 let bI:=q13.2
 let cE:=bI.2
 let q16:=cE.2
 let du:=q16.2
 some (q13.1,bI.1,cE.1,q16.1,du.1,du.2)
 else
 none
 else
 match(M.qC ba q3.1 o Go.V.an (0:Int) w (List.set o1 (Int.toNat (M.aw.A o)) (M.ae.re q2.1)) o2 o3 o4)with
 |none=>none
 |some y4=>
 let q5:=y4.2
 let q6:=q5.2
 let q7:=q6.2
 let q8:=q7.2
 let q9:=(M.eF y4.1 q5.1 q6.1 q7.1 q8.1 q8.2)
 let q10:=((Option.isSome q0)&&((Go.V.inB (M.aw.A o) (List.length o1))&&true))
 let q11:=((Option.isSome q1)&&q10)
 bif((Option.isSome q9)&&((Go.V.inB (M.aw.A o) (List.length o1))&&q11))then
 let q12:=default
 let q13:=(Option.getD q9 q12)
 let bI:=q13.2
 let cE:=bI.2
 let q16:=cE.2
 let du:=q16.2
 some (q13.1,bI.1,cE.1,q16.1,du.1,du.2)
 else
 none
def tq(ba:Int)(o:M.aw)(w:(List M.ar))(o1:(List M.ae))(o2:(List M.ad))(o3:(List Int))(o4:(List M.az)):Option (Int×(List M.ar)×(List M.ae)×(List M.ad)×(List Int)×(List M.az)):=
 bif(decide (((List.length o1):Int)<=(M.aw.A o)))then
 let q0:=(M.gG ba w o1 o2 o3 o4)
 bif((Option.isSome q0)&&true)then
 let q1:=default
 let q2:=(Option.getD q0 q1)
 let q3:=q2.1
 let q4:=q2.2
 let q5:=q4.1
 let q6:=q4.2
 let q7:=q6.1
 let q8:=q6.2
 let q9:=q8.1
 let q10:=q8.2
 let q11:=q10.1
 let q12:=q10.2
 some (q3,q5,q7,q9,q11,q12)
 else
 none
 else
 bif((M.aw.Kind o)==(5:Int))then
 let q0:=(M.tn ba o w o1 o2 o3 o4)
 bif((Option.isSome q0)&&true)then
 let q1:=default
 let q2:=(Option.getD q0 q1)
 let q3:=q2.2
 let q4:=q3.2
 let q5:=q4.2
 let q6:=q5.2
 some (q2.1,q3.1,q4.1,q5.1,q6.1,q6.2)
 else
 none
 else
 bif((M.aw.Kind o)==(6:Int))then
 let q0:=(M.tp ba o w o1 o2 o3 o4)
 bif((Option.isSome q0)&&true)then
 let q1:=default
 let q2:=(Option.getD q0 q1)
 let q3:=q2.2
 let q4:=q3.2
 let q5:=q4.2
 let q6:=q5.2
 some (q2.1,q3.1,q4.1,q5.1,q6.1,q6.2)
 else
 none
 else
 bif((M.aw.Kind o)==(7:Int))then
 let q0:=(M.sW (M.ae.re (List.getD o1 (Int.toNat (M.aw.A o)) M.ae.zero)))
 let q1:=(Option.getD q0 default)
 bif(q1.2 !=(0:Int))then
 let q2:=(M.gG ba w o1 o2 o3 o4)
 let q3:=((Option.isSome q0)&&((Go.V.inB (M.aw.A o) (List.length o1))&&true))
 bif((Option.isSome q2)&&q3)then
 let q4:=default
 let q5:=(Option.getD q2 q4)
 let q6:=q5.1
 let q7:=q5.2
 let q8:=q7.1
 let q9:=q7.2
 let q10:=q9.1
 let q11:=q9.2
 let q12:=q11.1
 let q13:=q11.2
 let bI:=q13.1
 let cE:=q13.2
 some (q6,q8,q10,q12,bI,cE)
 else
 none
 else
 let q2:=(M.eF ba w (List.set o1 (Int.toNat (M.aw.A o)) (M.ae.re q1.1)) o2 o3 o4)
 let q3:=((Option.isSome q0)&&((Go.V.inB (M.aw.A o) (List.length o1))&&true))
 bif((Option.isSome q2)&&((Go.V.inB (M.aw.A o) (List.length o1))&&q3))then
 let q4:=default
 let q5:=(Option.getD q2 q4)
 let q6:=q5.2
 let q7:=q6.2
 let q8:=q7.2
 let q9:=q8.2
 some (q5.1,q6.1,q7.1,q8.1,q9.1,q9.2)
 else
 none
 else
 let q0:=(M.sX (M.ae.re (List.getD o1 (Int.toNat (M.aw.A o)) M.ae.zero)))
 let q1:=(Option.getD q0 default)
 bif(q1.2 !=(0:Int))then
 let q2:=(M.gG ba w o1 o2 o3 o4)
 let q3:=((Option.isSome q0)&&((Go.V.inB (M.aw.A o) (List.length o1))&&true))
 bif((Option.isSome q2)&&q3)then
 let q4:=default
 let q5:=(Option.getD q2 q4)
 let q6:=q5.1
 let q7:=q5.2
 let q8:=q7.1
 let q9:=q7.2
 let q10:=q9.1
 let q11:=q9.2
 let q12:=q11.1
 let q13:=q11.2
 let bI:=q13.1
 let cE:=q13.2
 some (q6,q8,q10,q12,bI,cE)
 else
 none
 else
 let q2:=(M.eF ba w (List.set o1 (Int.toNat (M.aw.A o)) (M.ae.re q1.1)) o2 o3 o4)
 let q3:=((Option.isSome q0)&&((Go.V.inB (M.aw.A o) (List.length o1))&&true))
 bif((Option.isSome q2)&&((Go.V.inB (M.aw.A o) (List.length o1))&&q3))then
 let q4:=default
 let q5:=(Option.getD q2 q4)
 let q6:=q5.2
 let q7:=q6.2
 let q8:=q7.2
 let q9:=q8.2
 some (q5.1,q6.1,q7.1,q8.1,q9.1,q9.2)
 else
 none
def kG(k:Int)(w:M.bh):Option (M.bh):=
 bif(!((decide ((0:Int)<=k))&&(decide (k<=(Go.IntKind.wrap Go.IntKind.i64 (((List.length (M.ai.aX (M.bh.Async w))):Int)-(1:Int)))))))then
 some w
 else
 bif((Go.V.inB k (List.length (M.ai.aX (M.bh.Async w))))&&true)then
 none
 else
 none
def kH(k:Int)(w:M.bh):Option (M.ae×M.bh):=
 bif(!((decide ((0:Int)<=k))&&(decide (k<=(Go.IntKind.wrap Go.IntKind.i64 (((List.length (M.ai.aX (M.bh.Async w))):Int)-(1:Int)))))))then
 none
 else
 bif((Go.V.inB k (List.length (M.ai.aX (M.bh.Async w))))&&true)then
 some ((List.getD (M.ai.aX (M.bh.Async w)) (Int.toNat k) M.ae.zero),w)
 else
 none
def qx(t11:(List Int))(t12:Int):Nat->Int->M.bh->Option ((M.ad×(List M.ar)×(List M.ae)×(List M.ad)×(List Int)×(List M.az))⊕((List M.ar)×(List M.ae)×(List M.ad)×(List Int)×(List M.az)))
 |0,_,_=>none
 |fuel+1,t13,w=>
 bif(decide (t13<t12))then
 let q0:=(M.lE (List.getD t11 (Int.toNat t13) (0:Int)) w)
 let q1:=(Option.getD q0 default)
 let q2:=q1.1
 bif((((M.ad.bU q2)||((M.ad.Status q2)==(4:Int)))||((M.ad.Status q2)==(5:Int)))&&(!(M.ad.Told q2)))then
 let q3:=((Option.isSome q0)&&((Go.V.inB t13 (List.length t11))&&true))
 bif q3 then
 let q4:=q1.2
 some (.inl (q2,(M.ai.aT (M.bh.Async q4)),(M.ai.aX (M.bh.Async q4)),(M.ai.aC (M.bh.Async q4)),(M.ai.Back (M.bh.Async q4)),(M.ai.Notes (M.bh.Async q4))))
 else
 none
 else
 let q3:=((Option.isSome q0)&&((Go.V.inB t13 (List.length t11))&&true))
 bif q3 then
 let q4:=q1.2
 M.qx t11 t12 fuel (Go.IntKind.wrap Go.IntKind.i64 (t13+(1:Int))) q4
 else
 none
 else
 some ((.inr (((M.ai.aT (M.bh.Async w)),(M.ai.aX (M.bh.Async w)),(M.ai.aC (M.bh.Async w)),(M.ai.Back (M.bh.Async w)),(M.ai.Notes (M.bh.Async w))))))
def qz(t:M.ad)(w:M.bh):Option (M.ad×M.bh):=
 match(M.qx (M.ad.Set t) ((List.length (M.ad.Set t)):Int) Go.V.an (0:Int) w)with
 |none=>none
 |some y0=>
 (match y0 with
 |.inl a1=>
 let q2:=a1.2
 let q3:=q2.2
 let q4:=q3.2
 let q5:=q4.2
 some (a1.1,(M.bh.mk (M.ai.mk q2.1 q3.1 q4.1 q5.1 q5.2)))
 |.inr b1=>
 none)
def qy(t11:(List Int))(t12:Int):Nat->Int->M.bh->Option ((M.ad×(List M.ar)×(List M.ae)×(List M.ad)×(List Int)×(List M.az))⊕((List M.ar)×(List M.ae)×(List M.ad)×(List Int)×(List M.az)))
 |0,_,_=>none
 |fuel+1,t13,w=>
 bif(decide (t13<t12))then
 let q0:=(M.lE (List.getD t11 (Int.toNat t13) (0:Int)) w)
 let q1:=(Option.getD q0 default)
 let q2:=q1.1
 bif((((M.ad.bU q2)||((M.ad.Status q2)==(4:Int)))||((M.ad.Status q2)==(5:Int)))&&(!(M.ad.Told q2)))then
 let q3:=((Option.isSome q0)&&((Go.V.inB t13 (List.length t11))&&true))
 bif q3 then
 let q4:=q1.2
 some (.inl (q2,(M.ai.aT (M.bh.Async q4)),(M.ai.aX (M.bh.Async q4)),(M.ai.aC (M.bh.Async q4)),(M.ai.Back (M.bh.Async q4)),(M.ai.Notes (M.bh.Async q4))))
 else
 none
 else
 let q3:=((Option.isSome q0)&&((Go.V.inB t13 (List.length t11))&&true))
 bif q3 then
 let q4:=q1.2
 M.qy t11 t12 fuel (Go.IntKind.wrap Go.IntKind.i64 (t13+(1:Int))) q4
 else
 none
 else
 some ((.inr (((M.ai.aT (M.bh.Async w)),(M.ai.aX (M.bh.Async w)),(M.ai.aC (M.bh.Async w)),(M.ai.Back (M.bh.Async w)),(M.ai.Notes (M.bh.Async w))))))
def qA(t:M.ad)(w:M.bh):Option (M.bh):=
 match(M.qy (M.ad.Set t) ((List.length (M.ad.Set t)):Int) Go.V.an (0:Int) w)with
 |none=>none
 |some y0=>
 (match y0 with
 |.inl a1=>
 none
 |.inr b1=>
 let q2:=b1.2.2
 let q3:=q2.2
 some (M.bh.mk (M.ai.mk b1.1 b1.2.1 q2.1 q3.1 q3.2)))
def oj(s:M.ae):Option (Bool):=
 let q0:=(M.kC (M.ae.re s))
 bif(((Option.isSome q0)||(!((((!(M.ae.Shut s))==true)&&((M.ae.Gone s)==false))&&((decide (((List.length (M.ae.Buffer s)):Int)<(M.ae.Room s)))==true))))&&true)then
 some ((!(M.ae.Shut s))&&((M.ae.Gone s)||((decide (((List.length (M.ae.Buffer s)):Int)<(M.ae.Room s)))&&(decide ((M.ae.Put s)<(Option.getD q0 default))))))
 else
 none
def om(s:M.ae):Option (Bool):=
 some ((!(M.ae.Gone s))&&((decide ((0:Int)<((List.length (M.ae.Buffer s)):Int)))||(M.ae.Shut s)))
def te(t:M.ad)(o:M.aw)(w:M.bh):Option (Bool×M.bh):=
 Go.V.rZ (bif((M.aw.Kind o)==(3:Int))then
 bif(decide ((0:Int)<((List.length (M.ad.Set t)):Int)))then
 Go.V.rZ (let q0:=((decide ((0:Int)<((List.length (M.ad.Set t)):Int)))==true)
 let q1:=(M.kH (M.aw.A o) w)
 let q2:=(M.qA t (Option.getD q1 default).2)
 let q3:=(q0&&(q0&&((Option.isSome q1)&&true)))
 bif(q0&&(q0&&(((Option.isSome q2)&&q0)&&q3)))then
 some (true,(Option.getD q2 default))
 else
 none) (let q0:=((decide ((0:Int)<((List.length (M.ad.Set t)):Int)))==true)
 let q1:=(M.kH (M.aw.A o) w)
 let q2:=(M.qz t (Option.getD q1 default).2)
 let q3:=(q0&&(q0&&((Option.isSome q1)&&true)))
 bif(q0&&(q0&&(((Option.isSome q2)&&q0)&&q3)))then
 some (false,(Option.getD q2 default).2)
 else
 none)
 else
 let q0:=((decide ((0:Int)<((List.length (M.ad.Set t)):Int)))==false)
 let q1:=(M.kH (M.aw.A o) w)
 bif(q0&&(q0&&(q0&&(q0&&(q0&&((Option.isSome q1)&&true))))))then
 some (false,(Option.getD q1 default).2)
 else
 none
 else
 bif((M.aw.Kind o)==(5:Int))then
 let q0:=(M.kH (M.aw.A o) w)
 let q1:=(M.oj (M.ae.re (Option.getD q0 default).1))
 let q2:=(!(M.ae.Shut (Option.getD q0 default).1))
 bif(((Option.isSome q1)||(!(q2==true)))&&((Option.isSome q0)&&true))then
 some ((q2&&(!(Option.getD q1 default))),(Option.getD q0 default).2)
 else
 none
 else
 bif((M.aw.Kind o)==(6:Int))then
 let q0:=(M.kH (M.aw.A o) w)
 let q1:=(M.om (M.ae.re (Option.getD q0 default).1))
 let q2:=(!(M.ae.Gone (Option.getD q0 default).1))
 bif(((Option.isSome q1)||(!(q2==true)))&&((Option.isSome q0)&&true))then
 some ((q2&&(!(Option.getD q1 default))),(Option.getD q0 default).2)
 else
 none
 else
 let q0:=(M.kH (M.aw.A o) w)
 bif((Option.isSome q0)&&true)then
 some (false,(Option.getD q0 default).2)
 else
 none) (bif((M.aw.Kind o)==(3:Int))then
 bif(decide ((0:Int)<((List.length (M.ad.Set t)):Int)))then
 Go.V.rZ (let q0:=((decide ((0:Int)<((List.length (M.ad.Set t)):Int)))==true)
 let q1:=(M.kG (M.aw.A o) w)
 let q2:=(M.qA t (Option.getD q1 default))
 let q3:=(q0&&(q0&&((Option.isSome q1)&&true)))
 bif(q0&&(q0&&(((Option.isSome q2)&&q0)&&q3)))then
 some (true,(Option.getD q2 default))
 else
 none) (let q0:=((decide ((0:Int)<((List.length (M.ad.Set t)):Int)))==true)
 let q1:=(M.kG (M.aw.A o) w)
 let q2:=(M.qz t (Option.getD q1 default))
 let q3:=(q0&&(q0&&((Option.isSome q1)&&true)))
 bif(q0&&(q0&&(((Option.isSome q2)&&q0)&&q3)))then
 some (false,(Option.getD q2 default).2)
 else
 none)
 else
 let q0:=((decide ((0:Int)<((List.length (M.ad.Set t)):Int)))==false)
 let q1:=(M.kG (M.aw.A o) w)
 bif(q0&&(q0&&(q0&&(q0&&(q0&&((Option.isSome q1)&&true))))))then
 some (false,(Option.getD q1 default))
 else
 none
 else
 bif((M.aw.Kind o)==(5:Int))then
 let q0:=(M.kG (M.aw.A o) w)
 bif((Option.isSome q0)&&true)then
 some (false,(Option.getD q0 default))
 else
 none
 else
 bif((M.aw.Kind o)==(6:Int))then
 let q0:=(M.kG (M.aw.A o) w)
 bif((Option.isSome q0)&&true)then
 some (false,(Option.getD q0 default))
 else
 none
 else
 let q0:=(M.kG (M.aw.A o) w)
 bif((Option.isSome q0)&&true)then
 some (false,(Option.getD q0 default))
 else
 none)
def tf(ba:Int)(w:M.bh):Option (Int×M.bh):=
 bif(!((decide ((1:Int)<=ba))&&(decide (ba<=((List.length (M.ai.aC (M.bh.Async w))):Int)))))then
 some ((3:Int),w)
 else
 let q0:=(M.lE ba w)
 let q1:=((decide ((3:Int)<=(M.ad.Status (Option.getD q0 default).1)))&&(decide ((M.ad.Status (Option.getD q0 default).1)<=(5:Int))))
 let q2:=((M.ad.Status (Option.getD q0 default).1)==(1:Int))
 let q3:=(M.ta (Option.getD q0 default).1 (Option.getD q0 default).2)
 let q4:=(Option.getD q3 default)
 let q5:=q4.2
 let q6:=q5.2
 let q7:=(M.kN (M.ai.Back (M.bh.Async q6)) (M.ar.dQ (List.getD (M.ai.aT (M.bh.Async q6)) (Int.toNat (M.ad.Prog (Option.getD q0 default).1)) M.ar.zero)))
 bif(q1||(q2&&(Option.getD q7 default)))then
 let q8:=(!((q1==false)&&(q2==true)))
 let q9:=(((Option.isSome q7)||q8)&&(((Go.V.inB (M.ad.Prog (Option.getD q0 default).1) (List.length (M.ai.aT (M.bh.Async q6))))||q8)&&((Option.isSome q3)&&((Option.isSome q0)&&true))))
 bif q9 then
 some ((5:Int),q6)
 else
 none
 else
 let q8:=(((M.ad.Status (Option.getD q0 default).1)==(2:Int))&&q5.1)
 bif q8 then
 let q9:=q4.1
 let q10:=(M.te (Option.getD q0 default).1 q9 q6)
 let q11:=(Option.getD q10 default)
 bif(q11.1&&((!(M.ad.Asked (Option.getD q0 default).1))||(M.ad.bU (Option.getD q0 default).1)))then
 let q12:=(q8==true)
 let q13:=(!((q1==false)&&(q2==true)))
 let bI:=(((Option.isSome q7)||q13)&&(((Go.V.inB (M.ad.Prog (Option.getD q0 default).1) (List.length (M.ai.aT (M.bh.Async q6))))||q13)&&((Option.isSome q3)&&((Option.isSome q0)&&true))))
 let cE:=(q12&&(((Option.isSome q10)&&q12)&&(q12&&(q12&&(q12&&bI)))))
 bif cE then
 let q16:=q11.2
 some ((5:Int),q16)
 else
 none
 else
 let q12:=q11.2
 bif(decide ((116:Int)<((List.length (M.ai.Notes (M.bh.Async q12))):Int)))then
 let q13:=(q8==true)
 let bI:=(!((q1==false)&&(q2==true)))
 let cE:=(((Option.isSome q7)||bI)&&(((Go.V.inB (M.ad.Prog (Option.getD q0 default).1) (List.length (M.ai.aT (M.bh.Async q6))))||bI)&&((Option.isSome q3)&&((Option.isSome q0)&&true))))
 let q16:=(q13&&(((Option.isSome q10)&&q13)&&(q13&&(q13&&(q13&&cE)))))
 bif q16 then
 some ((4:Int),q12)
 else
 none
 else
 let q13:=(q8&&((M.aw.Kind q9)==(1:Int)))
 bif((q13&&((decide ((0:Int)<=(M.aw.A q9)))&&(decide ((M.aw.A q9)<=(Go.IntKind.wrap Go.IntKind.i64 (((List.length (M.ai.aT (M.bh.Async q12))):Int)-(1:Int)))))))&&(((List.length (M.ai.aC (M.bh.Async q12))):Int)==(8:Int)))then
 let bI:=(q8==true)
 let cE:=(!((q1==false)&&(q2==true)))
 let q16:=(((Option.isSome q7)||cE)&&(((Go.V.inB (M.ad.Prog (Option.getD q0 default).1) (List.length (M.ai.aT (M.bh.Async q6))))||cE)&&((Option.isSome q3)&&((Option.isSome q0)&&true))))
 let du:=(bI&&(((Option.isSome q10)&&bI)&&(bI&&(bI&&(bI&&q16)))))
 bif du then
 some ((4:Int),q12)
 else
 none
 else
 let bI:=(q8==true)
 let cE:=(!((q1==false)&&(q2==true)))
 let q16:=(((Option.isSome q7)||cE)&&(((Go.V.inB (M.ad.Prog (Option.getD q0 default).1) (List.length (M.ai.aT (M.bh.Async q6))))||cE)&&((Option.isSome q3)&&((Option.isSome q0)&&true))))
 let du:=(bI&&(((Option.isSome q10)&&bI)&&(bI&&(bI&&(bI&&q16)))))
 bif du then
 some ((0:Int),q12)
 else
 none
 else
 bif(decide ((116:Int)<((List.length (M.ai.Notes (M.bh.Async q6))):Int)))then
 let q9:=(q8==false)
 let q10:=(!((q1==false)&&(q2==true)))
 let q11:=(((Option.isSome q7)||q10)&&(((Go.V.inB (M.ad.Prog (Option.getD q0 default).1) (List.length (M.ai.aT (M.bh.Async q6))))||q10)&&((Option.isSome q3)&&((Option.isSome q0)&&true))))
 let q12:=(q9&&(q9&&(q9&&(q9&&(q9&&q11)))))
 bif q12 then
 some ((4:Int),q6)
 else
 none
 else
 let q9:=q4.1
 let q10:=(q8&&((M.aw.Kind q9)==(1:Int)))
 bif((q10&&((decide ((0:Int)<=(M.aw.A q9)))&&(decide ((M.aw.A q9)<=(Go.IntKind.wrap Go.IntKind.i64 (((List.length (M.ai.aT (M.bh.Async q6))):Int)-(1:Int)))))))&&(((List.length (M.ai.aC (M.bh.Async q6))):Int)==(8:Int)))then
 let q11:=(q8==false)
 let q12:=(!((q1==false)&&(q2==true)))
 let q13:=(((Option.isSome q7)||q12)&&(((Go.V.inB (M.ad.Prog (Option.getD q0 default).1) (List.length (M.ai.aT (M.bh.Async q6))))||q12)&&((Option.isSome q3)&&((Option.isSome q0)&&true))))
 let bI:=(q11&&(q11&&(q11&&(q11&&(q11&&q13)))))
 bif bI then
 some ((4:Int),q6)
 else
 none
 else
 let q11:=(q8==false)
 let q12:=(!((q1==false)&&(q2==true)))
 let q13:=(((Option.isSome q7)||q12)&&(((Go.V.inB (M.ad.Prog (Option.getD q0 default).1) (List.length (M.ai.aT (M.bh.Async q6))))||q12)&&((Option.isSome q3)&&((Option.isSome q0)&&true))))
 let bI:=(q11&&(q11&&(q11&&(q11&&(q11&&q13)))))
 bif bI then
 some ((0:Int),q6)
 else
 none
def rT(a:(List M.ae)):Nat->Int->Int->Option ((Int)⊕(Int))
 |0,_,_=>none
 |fuel+1,left,i=>
 bif(decide (i<((List.length a):Int)))then
 let q0:=(M.vm (M.ae.re (List.getD a (Int.toNat i) M.ae.zero)) left)
 let q1:=(Option.getD q0 default)
 bif(decide (q1<(0:Int)))then
 let q2:=((Option.isSome q0)&&((Go.V.inB i (List.length a))&&true))
 bif q2 then
 some (.inl (-(1:Int)))
 else
 none
 else
 let q2:=((Option.isSome q0)&&((Go.V.inB i (List.length a))&&true))
 bif q2 then
 M.rT a fuel q1 (Go.IntKind.wrap Go.IntKind.i64 (i+(1:Int)))
 else
 none
 else
 some ((.inr (left)))
def vt(a:(List M.ae))(left:Int):Option (Int):=
 bif(decide ((Go.IntKind.wrap Go.IntKind.i64 (left-((List.length a):Int)))<(0:Int)))then
 some (-(1:Int))
 else
 match(M.rT a Go.V.an (Go.IntKind.wrap Go.IntKind.i64 (left-((List.length a):Int))) (0:Int))with
 |none=>none
 |some y0=>
 (match y0 with
 |.inl a1=>
 some a1
 |.inr b1=>
 some b1)
def nj(a:(List Int))(left:Int):Option (Int):=
 bif(decide ((Go.IntKind.wrap Go.IntKind.i64 (left-((List.length a):Int)))<(0:Int)))then
 some (-(1:Int))
 else
 some (Go.IntKind.wrap Go.IntKind.i64 (left-((List.length a):Int)))
def vu(a:M.ad)(left:Int):Option (Int):=
 let q0:=(M.nj (M.ad.bg a) left)
 bif(decide ((Option.getD q0 default)<(0:Int)))then
 bif((Option.isSome q0)&&true)then
 some (-(1:Int))
 else
 none
 else
 let q1:=(M.nj (M.ad.Set a) (Option.getD q0 default))
 let q2:=(Option.getD q1 default)
 bif(decide (q2<(0:Int)))then
 let q3:=((Option.isSome q1)&&((Option.isSome q0)&&true))
 bif q3 then
 some (-(1:Int))
 else
 none
 else
 let q3:=((Option.isSome q1)&&((Option.isSome q0)&&true))
 bif q3 then
 some q2
 else
 none
def rU(a:(List M.ad)):Nat->Int->Int->Option ((Int)⊕(Int))
 |0,_,_=>none
 |fuel+1,left,i=>
 bif(decide (i<((List.length a):Int)))then
 let q0:=(M.vu (List.getD a (Int.toNat i) M.ad.zero) left)
 let q1:=(Option.getD q0 default)
 bif(decide (q1<(0:Int)))then
 let q2:=((Option.isSome q0)&&((Go.V.inB i (List.length a))&&true))
 bif q2 then
 some (.inl (-(1:Int)))
 else
 none
 else
 let q2:=((Option.isSome q0)&&((Go.V.inB i (List.length a))&&true))
 bif q2 then
 M.rU a fuel q1 (Go.IntKind.wrap Go.IntKind.i64 (i+(1:Int)))
 else
 none
 else
 some ((.inr (left)))
def vv(a:(List M.ad))(left:Int):Option (Int):=
 bif(decide ((Go.IntKind.wrap Go.IntKind.i64 (left-((List.length a):Int)))<(0:Int)))then
 some (-(1:Int))
 else
 match(M.rU a Go.V.an (Go.IntKind.wrap Go.IntKind.i64 (left-((List.length a):Int))) (0:Int))with
 |none=>none
 |some y0=>
 (match y0 with
 |.inl a1=>
 some a1
 |.inr b1=>
 some b1)
def vx(a:(List M.az))(left:Int):Option (Int):=
 bif(decide ((Go.IntKind.wrap Go.IntKind.i64 (left-((List.length a):Int)))<(0:Int)))then
 some (-(1:Int))
 else
 some (Go.IntKind.wrap Go.IntKind.i64 (left-((List.length a):Int)))
def vy(a:M.ai)(left:Int):Option (Int):=
 let q0:=(M.uQ (M.ai.aT a) left)
 bif(decide ((Option.getD q0 default)<(0:Int)))then
 bif((Option.isSome q0)&&true)then
 some (-(1:Int))
 else
 none
 else
 let q1:=(M.vt (M.ai.aX a) (Option.getD q0 default))
 let q2:=(Option.getD q1 default)
 bif(decide (q2<(0:Int)))then
 let q3:=((Option.isSome q1)&&((Option.isSome q0)&&true))
 bif q3 then
 some (-(1:Int))
 else
 none
 else
 let q3:=(M.vv (M.ai.aC a) q2)
 let q4:=(Option.getD q3 default)
 bif(decide (q4<(0:Int)))then
 let q5:=((Option.isSome q1)&&((Option.isSome q0)&&true))
 let q6:=((Option.isSome q3)&&q5)
 bif q6 then
 some (-(1:Int))
 else
 none
 else
 let q5:=(M.nj (M.ai.Back a) q4)
 let q6:=(Option.getD q5 default)
 bif(decide (q6<(0:Int)))then
 let q7:=((Option.isSome q1)&&((Option.isSome q0)&&true))
 let q8:=((Option.isSome q3)&&q7)
 let q9:=((Option.isSome q5)&&q8)
 bif q9 then
 some (-(1:Int))
 else
 none
 else
 let q7:=(M.vx (M.ai.Notes a) q6)
 let q8:=(Option.getD q7 default)
 bif(decide (q8<(0:Int)))then
 let q9:=((Option.isSome q1)&&((Option.isSome q0)&&true))
 let q10:=((Option.isSome q3)&&q9)
 let q11:=((Option.isSome q5)&&q10)
 let q12:=((Option.isSome q7)&&q11)
 bif q12 then
 some (-(1:Int))
 else
 none
 else
 let q9:=((Option.isSome q1)&&((Option.isSome q0)&&true))
 let q10:=((Option.isSome q3)&&q9)
 let q11:=((Option.isSome q5)&&q10)
 let q12:=((Option.isSome q7)&&q11)
 bif q12 then
 some q8
 else
 none
def pJ(a:(List M.ae)):Nat->Int->(List M.ae)->Option ((List M.ae))
 |0,_,_=>none
 |fuel+1,i,out=>
 bif(decide (i<((List.length a):Int)))then
 let q0:=(M.vn (M.ae.re (List.getD a (Int.toNat i) M.ae.zero)))
 bif((Go.V.inB i (List.length out))&&((Option.isSome q0)&&((Go.V.inB i (List.length a))&&true)))then
 let q1:=(Option.getD q0 default)
 let q2:=q1.2
 let q3:=q2.2
 let q4:=q3.2
 let q5:=q4.2
 let q6:=q5.2
 let q7:=q6.2
 let q8:=q7.2
 let q9:=q8.2
 let q10:=q9.2
 M.pJ a fuel (Go.IntKind.wrap Go.IntKind.i64 (i+(1:Int))) (List.set out (Int.toNat i) (M.ae.mk (M.aa.mk q1.1 q2.1 q9.1 q10.1) q3.1 q4.1 q10.2 q5.1 q6.1 q7.1 q8.1))
 else
 none
 else
 some (out)
def vz(a:(List M.ae)):Option ((List M.ae)):=
 match(M.pJ a Go.V.an (0:Int) (List.replicate (Int.toNat ((List.length a):Int)) (M.ae.mk (M.aa.mk (0:Int) [] [] []) (0:Int) false [] (0:Int) (0:Int) false false)))with
 |none=>none
 |some y0=>
 bif(((decide (((List.length a):Int)<=((List.length a):Int)))&&(decide (((List.length a):Int)<=(1073741824:Int))))&&true)then
 some y0
 else
 none
def vA(a:M.ad):Option (Int×Int×Int×Int×Int×Int×Bool×Bool×Bool×(List Int)×(List Int)):=
 let q0:=(M.m5 (M.ad.Set a))
 let q1:=(M.m5 (M.ad.bg a))
 bif((Option.isSome q0)&&((Option.isSome q1)&&true))then
 some ((M.ad.Id a),(M.ad.Prog a),(M.ad.PC a),(M.ad.dy a),(M.ad.Status a),(M.ad.Result a),(M.ad.bU a),(M.ad.Asked a),(M.ad.Told a),(Option.getD q1 default),(Option.getD q0 default))
 else
 none
def pK(a:(List M.ad)):Nat->Int->(List M.ad)->Option ((List M.ad))
 |0,_,_=>none
 |fuel+1,i,out=>
 bif(decide (i<((List.length a):Int)))then
 let q0:=(M.vA (List.getD a (Int.toNat i) M.ad.zero))
 bif((Go.V.inB i (List.length out))&&((Option.isSome q0)&&((Go.V.inB i (List.length a))&&true)))then
 let q1:=(Option.getD q0 default)
 let q2:=q1.2
 let q3:=q2.2
 let q4:=q3.2
 let q5:=q4.2
 let q6:=q5.2
 let q7:=q6.2
 let q8:=q7.2
 let q9:=q8.2
 let q10:=q9.2
 M.pK a fuel (Go.IntKind.wrap Go.IntKind.i64 (i+(1:Int))) (List.set out (Int.toNat i) (M.ad.mk q1.1 q2.1 q3.1 q4.1 q5.1 q6.1 q7.1 q8.1 q9.1 q10.1 q10.2))
 else
 none
 else
 some (out)
def vB(a:(List M.ad)):Option ((List M.ad)):=
 match(M.pK a Go.V.an (0:Int) (List.replicate (Int.toNat ((List.length a):Int)) (M.ad.mk (0:Int) (0:Int) (0:Int) (0:Int) (0:Int) (0:Int) false false false [] [])))with
 |none=>none
 |some y0=>
 bif(((decide (((List.length a):Int)<=((List.length a):Int)))&&(decide (((List.length a):Int)<=(1073741824:Int))))&&true)then
 some y0
 else
 none
def yo(a:M.az):Option (M.az):=
 some a
def pL(a:(List M.az)):Nat->Int->(List M.az)->Option ((List M.az))
 |0,_,_=>none
 |fuel+1,i,out=>
 bif(decide (i<((List.length a):Int)))then
 bif((Go.V.inB i (List.length out))&&((Go.V.inB i (List.length a))&&true))then
 M.pL a fuel (Go.IntKind.wrap Go.IntKind.i64 (i+(1:Int))) (List.set out (Int.toNat i) (List.getD a (Int.toNat i) M.az.zero))
 else
 none
 else
 some (out)
def vC(a:(List M.az)):Option ((List M.az)):=
 match(M.pL a Go.V.an (0:Int) (List.replicate (Int.toNat ((List.length a):Int)) (M.az.mk (0:Int) (0:Int) (0:Int) (0:Int))))with
 |none=>none
 |some y0=>
 bif(((decide (((List.length a):Int)<=((List.length a):Int)))&&(decide (((List.length a):Int)<=(1073741824:Int))))&&true)then
 some y0
 else
 none
def vD(a:M.ai):Option ((List M.ar)×(List M.ae)×(List M.ad)×(List Int)×(List M.az)):=
 let q0:=(M.vC (M.ai.Notes a))
 let q1:=(M.m5 (M.ai.Back a))
 let q2:=(M.vB (M.ai.aC a))
 let q3:=(M.vz (M.ai.aX a))
 let q4:=(M.uT (M.ai.aT a))
 bif((Option.isSome q0)&&((Option.isSome q1)&&((Option.isSome q2)&&((Option.isSome q3)&&((Option.isSome q4)&&true)))))then
 some ((Option.getD q4 default),(Option.getD q3 default),(Option.getD q2 default),(Option.getD q1 default),(Option.getD q0 default))
 else
 none
def rV(a:(List M.af))(b:(List M.af)):Nat->Int->Option ((Bool)⊕(Unit))
 |0,_=>none
 |fuel+1,i=>
 bif(decide (i<((List.length a):Int)))then
 let q0:=(M.zY (M.af.re (List.getD a (Int.toNat i) M.af.zero)) (M.af.re (List.getD b (Int.toNat i) M.af.zero)))
 bif(!(Option.getD q0 default))then
 let q1:=((Option.isSome q0)&&((Go.V.inB i (List.length b))&&((Go.V.inB i (List.length a))&&true)))
 bif q1 then
 some (.inl false)
 else
 none
 else
 let q1:=((Option.isSome q0)&&((Go.V.inB i (List.length b))&&((Go.V.inB i (List.length a))&&true)))
 bif q1 then
 M.rV a b fuel (Go.IntKind.wrap Go.IntKind.i64 (i+(1:Int)))
 else
 none
 else
 some ((.inr (())))
def vE(a:(List M.af))(b:(List M.af)):Option (Bool):=
 bif(((List.length a):Int) !=((List.length b):Int))then
 some false
 else
 match(M.rV a b Go.V.an (0:Int))with
 |none=>none
 |some y0=>
 (match y0 with
 |.inl a1=>
 some a1
 |.inr b1=>
 some true)
def vF(a:M.ae)(b:M.ae):Option (Bool):=
 let q0:=(M.Av (M.aa.re (M.ae.cq a)) (M.aa.re (M.ae.cq b)))
 bif(!(Option.getD q0 default))then
 bif((Option.isSome q0)&&true)then
 some false
 else
 none
 else
 bif((M.ae.Room a) !=(M.ae.Room b))then
 bif((Option.isSome q0)&&true)then
 some false
 else
 none
 else
 bif(!((M.ae.cR a)==(M.ae.cR b)))then
 bif((Option.isSome q0)&&true)then
 some false
 else
 none
 else
 let q1:=(M.vE (M.ae.Buffer a) (M.ae.Buffer b))
 bif(!(Option.getD q1 default))then
 let q2:=((Option.isSome q1)&&((Option.isSome q0)&&true))
 bif q2 then
 some false
 else
 none
 else
 bif((M.ae.Put a) !=(M.ae.Put b))then
 let q2:=((Option.isSome q1)&&((Option.isSome q0)&&true))
 bif q2 then
 some false
 else
 none
 else
 bif((M.ae.dz a) !=(M.ae.dz b))then
 let q2:=((Option.isSome q1)&&((Option.isSome q0)&&true))
 bif q2 then
 some false
 else
 none
 else
 bif(!((M.ae.Shut a)==(M.ae.Shut b)))then
 let q2:=((Option.isSome q1)&&((Option.isSome q0)&&true))
 bif q2 then
 some false
 else
 none
 else
 bif(!((M.ae.Gone a)==(M.ae.Gone b)))then
 let q2:=((Option.isSome q1)&&((Option.isSome q0)&&true))
 bif q2 then
 some false
 else
 none
 else
 let q2:=((Option.isSome q1)&&((Option.isSome q0)&&true))
 bif q2 then
 some true
 else
 none
def rW(a:(List M.ae))(b:(List M.ae)):Nat->Int->Option ((Bool)⊕(Unit))
 |0,_=>none
 |fuel+1,i=>
 bif(decide (i<((List.length a):Int)))then
 let q0:=(M.vF (M.ae.re (List.getD a (Int.toNat i) M.ae.zero)) (M.ae.re (List.getD b (Int.toNat i) M.ae.zero)))
 bif(!(Option.getD q0 default))then
 let q1:=((Option.isSome q0)&&((Go.V.inB i (List.length b))&&((Go.V.inB i (List.length a))&&true)))
 bif q1 then
 some (.inl false)
 else
 none
 else
 let q1:=((Option.isSome q0)&&((Go.V.inB i (List.length b))&&((Go.V.inB i (List.length a))&&true)))
 bif q1 then
 M.rW a b fuel (Go.IntKind.wrap Go.IntKind.i64 (i+(1:Int)))
 else
 none
 else
 some ((.inr (())))
def vG(a:(List M.ae))(b:(List M.ae)):Option (Bool):=
 bif(((List.length a):Int) !=((List.length b):Int))then
 some false
 else
 match(M.rW a b Go.V.an (0:Int))with
 |none=>none
 |some y0=>
 (match y0 with
 |.inl a1=>
 some a1
 |.inr b1=>
 some true)
def vH(a:M.ai)(b:M.ai):Option (Bool):=
 let q0:=(M.uX (M.ai.aT a) (M.ai.aT b))
 bif(!(Option.getD q0 default))then
 bif((Option.isSome q0)&&true)then
 some false
 else
 none
 else
 let q1:=(M.vG (M.ai.aX a) (M.ai.aX b))
 bif(!(Option.getD q1 default))then
 bif((Option.isSome q1)&&((Option.isSome q0)&&true))then
 some false
 else
 none
 else
 let q2:=(M.uZ (M.ai.aC a) (M.ai.aC b))
 bif(!(Option.getD q2 default))then
 let q3:=((Option.isSome q2)&&((Option.isSome q1)&&((Option.isSome q0)&&true)))
 bif q3 then
 some false
 else
 none
 else
 let q3:=(M.m6 (M.ai.Back a) (M.ai.Back b))
 bif(!(Option.getD q3 default))then
 let q4:=((Option.isSome q2)&&((Option.isSome q1)&&((Option.isSome q0)&&true)))
 let q5:=((Option.isSome q3)&&q4)
 bif q5 then
 some false
 else
 none
 else
 let q4:=(M.u3 (M.ai.Notes a) (M.ai.Notes b))
 bif(!(Option.getD q4 default))then
 let q5:=((Option.isSome q2)&&((Option.isSome q1)&&((Option.isSome q0)&&true)))
 let q6:=((Option.isSome q3)&&q5)
 let q7:=((Option.isSome q4)&&q6)
 bif q7 then
 some false
 else
 none
 else
 let q5:=((Option.isSome q2)&&((Option.isSome q1)&&((Option.isSome q0)&&true)))
 let q6:=((Option.isSome q3)&&q5)
 let q7:=((Option.isSome q4)&&q6)
 bif q7 then
 some true
 else
 none
def mM(list:(List Int))(n:Int):Nat->Bool->Int->(List Int)->Option (Int×Bool×(List Int))
 |0,_,_,_=>none
 |fuel+1,done,i,out=>
 bif(decide (i<((List.length list):Int)))then
 bif((!done)&&(decide (n<=(List.getD list (Int.toNat i) (0:Int)))))then
 bif(decide (n<(List.getD list (Int.toNat i) (0:Int))))then
 let q0:=[n]
 let q1:=(out++q0)
 let q2:=[(List.getD list (Int.toNat i) (0:Int))]
 let q3:=(List.length q2)
 let q4:=(List.length out)
 let q5:=((Go.V.inB i (List.length list))&&(((Go.V.inB i (List.length list))||(!((!done)==true)))&&true))
 bif((decide (((List.length q1)+q3)<=1073741824))&&((Go.V.inB i (List.length list))&&((decide ((q4+(List.length q0))<=1073741824))&&q5)))then
 M.mM list n fuel true (Go.IntKind.wrap Go.IntKind.i64 (i+(1:Int))) (q1++q2)
 else
 none
 else
 let q0:=(List.length out)
 let q1:=[(List.getD list (Int.toNat i) (0:Int))]
 let q2:=(List.length q1)
 let q3:=((Go.V.inB i (List.length list))&&(((Go.V.inB i (List.length list))||(!((!done)==true)))&&true))
 bif((decide ((q0+q2)<=1073741824))&&((Go.V.inB i (List.length list))&&q3))then
 let q4:=(out++q1)
 M.mM list n fuel true (Go.IntKind.wrap Go.IntKind.i64 (i+(1:Int))) q4
 else
 none
 else
 let q0:=(List.length out)
 let q1:=[(List.getD list (Int.toNat i) (0:Int))]
 let q2:=(List.length q1)
 let q3:=((Go.V.inB i (List.length list))&&(((Go.V.inB i (List.length list))||(!((!done)==true)))&&true))
 bif((decide ((q0+q2)<=1073741824))&&q3)then
 let q4:=(out++q1)
 M.mM list n fuel done (Go.IntKind.wrap Go.IntKind.i64 (i+(1:Int))) q4
 else
 none
 else
 some ((n,done,out))
def ako(list:(List Int))(n:Int):Option ((List Int)):=
 match(M.mM list n Go.V.an false (0:Int) [])with
 |none=>none
 |some y0=>
 bif(!y0.2.1)then
 let q1:=[y0.1]
 bif((decide (((List.length y0.2.2)+(List.length q1))<=1073741824))&&true)then
 some (y0.2.2++q1)
 else
 none
 else
 some y0.2.2
def tr(ba:Int)(o:M.aw)(w:(List M.ar))(o1:(List M.ae))(o2:(List M.ad))(o3:(List Int))(o4:(List M.az)):Option (Int×(List M.ar)×(List M.ae)×(List M.ad)×(List Int)×(List M.az)):=
 let q0:=(Int.toNat (Go.IntKind.wrap Go.IntKind.i64 (ba-(1:Int))))
 let q1:=(List.getD o2 q0 M.ad.zero)
 let q2:=(List.length (M.ad.bg q1))
 bif(decide ((q2:Int)<=(M.aw.A o)))then
 let q3:=(M.gG ba w o1 o2 o3 o4)
 let q4:=((Go.V.inB (Go.IntKind.wrap Go.IntKind.i64 (ba-(1:Int))) (List.length o2))&&true)
 bif((Option.isSome q3)&&q4)then
 let q5:=default
 let q6:=(Option.getD q3 q5)
 let q7:=q6.2
 let q8:=q7.2
 let q9:=q8.2
 let q10:=q9.2
 some (q6.1,q7.1,q8.1,q9.1,q10.1,q10.2)
 else
 none
 else
 bif((M.aw.Kind o)==(2:Int))then
 let q3:=(Go.IntKind.wrap Go.IntKind.i64 ((List.getD (M.ad.bg q1) (Int.toNat (M.aw.A o)) (0:Int))-(1:Int)))
 let q4:=(Int.toNat q3)
 let q5:=(List.getD o2 q4 M.ad.zero)
 let q6:=(M.ako (M.ad.Set q1) (M.ad.Id q5))
 let q7:=(M.eF ba w o1 (List.set o2 q0 (M.ad.mk (M.ad.Id q1) (M.ad.Prog q1) (M.ad.PC q1) (M.ad.dy q1) (M.ad.Status q1) (M.ad.Result q1) (M.ad.bU q1) (M.ad.Asked q1) (M.ad.Told q1) (M.ad.bg q1) (Option.getD q6 default))) o3 o4)
 let q8:=((Go.V.inB (Go.IntKind.wrap Go.IntKind.i64 (ba-(1:Int))) (List.length o2))&&true)
 let q9:=((Go.V.inB q3 (List.length o2))&&((Go.V.inB (M.aw.A o) q2)&&q8))
 bif((Option.isSome q7)&&((Option.isSome q6)&&q9))then
 let q10:=default
 let q11:=(Option.getD q7 q10)
 let q12:=q11.2
 let q13:=q12.2
 let bI:=q13.2
 let cE:=bI.2
 some (q11.1,q12.1,q13.1,bI.1,cE.1,cE.2)
 else
 none
 else
 let q3:=(Go.IntKind.wrap Go.IntKind.i64 ((List.getD (M.ad.bg q1) (Int.toNat (M.aw.A o)) (0:Int))-(1:Int)))
 let q4:=(Int.toNat q3)
 let q5:=(List.getD o2 q4 M.ad.zero)
 bif((M.ad.Status q5)==(1:Int))then
 let q6:=(M.lG (M.ad.Id q5) w o1 o2 o3 o4)
 let q7:=default
 let q8:=(Option.getD q6 q7).2
 let q9:=q8.2
 let q10:=q9.2
 let q11:=q10.2
 let q12:=(M.eF ba q8.1 q9.1 q10.1 q11.1 q11.2)
 let q13:=((Go.V.inB (Go.IntKind.wrap Go.IntKind.i64 (ba-(1:Int))) (List.length o2))&&true)
 let bI:=((Go.V.inB q3 (List.length o2))&&((Go.V.inB (M.aw.A o) q2)&&q13))
 bif((Option.isSome q12)&&((Option.isSome q6)&&bI))then
 let cE:=(Option.getD q12 q7)
 let q16:=cE.2
 let du:=q16.2
 let fe:=du.2
 let fM:=fe.2
 some (cE.1,q16.1,du.1,fe.1,fM.1,fM.2)
 else
 none
 else
 bif(!(decide ((3:Int)<=(M.ad.Status q5))))then
 let q6:=(M.eF ba w o1 (List.set o2 q4 (M.ad.mk (M.ad.Id q5) (M.ad.Prog q5) (M.ad.PC q5) (M.ad.dy q5) (M.ad.Status q5) (M.ad.Result q5) (M.ad.bU q5) true (M.ad.Told q5) (M.ad.bg q5) (M.ad.Set q5))) o3 o4)
 let q7:=((Go.V.inB (Go.IntKind.wrap Go.IntKind.i64 (ba-(1:Int))) (List.length o2))&&true)
 let q8:=((Go.V.inB q3 (List.length o2))&&((Go.V.inB (M.aw.A o) q2)&&q7))
 bif((Option.isSome q6)&&q8)then
 let q9:=default
 let q10:=(Option.getD q6 q9)
 let q11:=q10.2
 let q12:=q11.2
 let q13:=q12.2
 let bI:=q13.2
 some (q10.1,q11.1,q12.1,q13.1,bI.1,bI.2)
 else
 none
 else
 let q6:=(M.eF ba w o1 o2 o3 o4)
 let q7:=((Go.V.inB (Go.IntKind.wrap Go.IntKind.i64 (ba-(1:Int))) (List.length o2))&&true)
 let q8:=((Go.V.inB q3 (List.length o2))&&((Go.V.inB (M.aw.A o) q2)&&q7))
 bif((Option.isSome q6)&&q8)then
 let q9:=default
 let q10:=(Option.getD q6 q9)
 let q11:=q10.2
 let q12:=q11.2
 let q13:=q12.2
 let bI:=q13.2
 some (q10.1,q11.1,q12.1,q13.1,bI.1,bI.2)
 else
 none
def ot(list:(List Int))(n:Int):Nat->Int->(List Int)->Option ((List Int))
 |0,_,_=>none
 |fuel+1,i,out=>
 bif(decide (i<((List.length list):Int)))then
 bif((List.getD list (Int.toNat i) (0:Int)) !=n)then
 let q0:=[(List.getD list (Int.toNat i) (0:Int))]
 bif((decide (((List.length out)+(List.length q0))<=1073741824))&&((Go.V.inB i (List.length list))&&((Go.V.inB i (List.length list))&&true)))then
 M.ot list n fuel (Go.IntKind.wrap Go.IntKind.i64 (i+(1:Int))) (out++q0)
 else
 none
 else
 bif((Go.V.inB i (List.length list))&&true)then
 M.ot list n fuel (Go.IntKind.wrap Go.IntKind.i64 (i+(1:Int))) out
 else
 none
 else
 some (out)
def mO(list:(List Int))(n:Int):Option ((List Int)):=
 match(M.ot list n Go.V.an (0:Int) [])with
 |none=>none
 |some y0=>
 some y0
def mP(ba:Int)(t:Nat)(w:(List M.ar))(o5:(List M.ad))(o6:(List M.ae))(o7:(List Int))(o8:(List M.az)):Nat->Int->Option ((Bool×(List M.ar)×(List M.ae)×(List M.ad)×(List Int)×(List M.az))⊕((List M.ar)×(List M.ae)×(List M.ad)×(List Int)×(List M.az)))
 |0,_=>none
 |fuel+1,i=>
 let q0:=(List.length (M.ad.Set (List.getD o5 t M.ad.zero)))
 bif(decide (i<(q0:Int)))then
 let q1:=(Go.IntKind.wrap Go.IntKind.i64 ((List.getD (M.ad.Set (List.getD o5 t M.ad.zero)) (Int.toNat i) (0:Int))-(1:Int)))
 let q2:=(Int.toNat q1)
 let q3:=(List.getD o5 q2 M.ad.zero)
 bif((!(((M.ad.bU q3)||((M.ad.Status q3)==(4:Int)))||((M.ad.Status q3)==(5:Int))))||(M.ad.Told q3))then
 let q4:=((Go.V.inB q1 (List.length o5))&&((Go.V.inB i q0)&&true))
 bif q4 then
 M.mP ba t w o5 o6 o7 o8 fuel (Go.IntKind.wrap Go.IntKind.i64 (i+(1:Int)))
 else
 none
 else
 let q4:=(List.set o5 q2 (M.ad.mk (M.ad.Id q3) (M.ad.Prog q3) (M.ad.PC q3) (M.ad.dy q3) (M.ad.Status q3) (M.ad.Result q3) (M.ad.bU q3) (M.ad.Asked q3) true (M.ad.bg q3) (M.ad.Set q3)))
 let q5:=(List.getD q4 t M.ad.zero)
 let q6:=(List.getD q4 q2 M.ad.zero)
 let q7:=(M.mO (M.ad.Set q5) (M.ad.Id q6))
 let q8:=(List.set q4 t (M.ad.mk (M.ad.Id q5) (M.ad.Prog q5) (M.ad.PC q5) (M.ad.dy q5) (M.ad.Status q5) (M.ad.Result q5) (M.ad.bU q5) (M.ad.Asked q5) (M.ad.Told q5) (M.ad.bg q5) (Option.getD q7 default)))
 let q9:=(M.ft ba (3:Int) (M.ad.Id (List.getD q8 q2 M.ad.zero)) (bif(M.ad.bU q6)then(M.ad.Result q6)else(-(1:Int))) w o6 q8 o7 o8)
 let q10:=((Go.V.inB q1 (List.length o5))&&((Go.V.inB i q0)&&true))
 bif((Option.isSome q9)&&((Option.isSome q7)&&((q10||(!(M.ad.bU q6)))&&(q10||(M.ad.bU q6)))))then
 let q11:=(Option.getD q9 default)
 let q12:=q11.2
 let q13:=q12.2
 let bI:=q13.2
 some (.inl (true,q11.1,q12.1,q13.1,bI.1,bI.2))
 else
 none
 else
 some ((.inr ((w,o6,o5,o7,o8))))
def ou(ba:Int)(w:(List M.ar))(o1:(List M.ae))(o2:(List M.ad))(o3:(List Int))(o4:(List M.az)):Option (Bool×(List M.ar)×(List M.ae)×(List M.ad)×(List Int)×(List M.az)):=
 match(M.mP ba (Int.toNat (Go.IntKind.wrap Go.IntKind.i64 (ba-(1:Int)))) w o2 o1 o3 o4 Go.V.an (0:Int))with
 |none=>none
 |some y0=>
 (match y0 with
 |.inl a1=>
 let q2:=((Go.V.inB (Go.IntKind.wrap Go.IntKind.i64 (ba-(1:Int))) (List.length o2))&&true)
 bif q2 then
 let q3:=a1.2
 let q4:=q3.2
 let q5:=q4.2
 let q6:=q5.2
 some (a1.1,q3.1,q4.1,q5.1,q6.1,q6.2)
 else
 none
 |.inr b1=>
 let q2:=((Go.V.inB (Go.IntKind.wrap Go.IntKind.i64 (ba-(1:Int))) (List.length o2))&&true)
 bif q2 then
 let q3:=b1.2.2
 let q4:=q3.2
 some (false,b1.1,b1.2.1,q3.1,q4.1,q4.2)
 else
 none)
def tu(ba:Int)(o:M.aw)(w:(List M.ar))(o1:(List M.ae))(o2:(List M.ad))(o3:(List Int))(o4:(List M.az)):Option (Int×(List M.ar)×(List M.ae)×(List M.ad)×(List Int)×(List M.az)):=
 bif((M.aw.Kind o)==(1:Int))then
 bif(decide (((List.length w):Int)<=(M.aw.A o)))then
 let q0:=(M.gG ba w o1 o2 o3 o4)
 let q1:=((Go.V.inB (Go.IntKind.wrap Go.IntKind.i64 (ba-(1:Int))) (List.length o2))&&true)
 bif((Option.isSome q0)&&q1)then
 let q2:=default
 let q3:=(Option.getD q0 q2)
 let q4:=q3.1
 let q5:=q3.2
 let q6:=q5.1
 let q7:=q5.2
 let q8:=q7.1
 let q9:=q7.2
 let q10:=q9.1
 let q11:=q9.2
 let q12:=q11.1
 let q13:=q11.2
 some (q4,q6,q8,q10,q12,q13)
 else
 none
 else
 bif(decide ((8:Int)<=((List.length o2):Int)))then
 let q0:=((Go.V.inB (Go.IntKind.wrap Go.IntKind.i64 (ba-(1:Int))) (List.length o2))&&true)
 bif q0 then
 some ((4:Int),w,o1,o2,o3,o4)
 else
 none
 else
 let q0:=(M.tw (M.aw.A o) ba w o1 o2 o3 o4)
 let q1:=default
 let q2:=(Option.getD q0 q1)
 let q3:=q2.2
 let q4:=q3.2
 let q5:=q4.2
 let q6:=q5.1
 let q7:=(Int.toNat (Go.IntKind.wrap Go.IntKind.i64 (ba-(1:Int))))
 let q8:=(List.getD q6 q7 M.ad.zero)
 let q9:=(M.ako (M.ad.bg q8) q2.1)
 let q10:=q5.2
 let q11:=(M.eF ba q3.1 q4.1 (List.set q6 q7 (M.ad.mk (M.ad.Id q8) (M.ad.Prog q8) (M.ad.PC q8) (M.ad.dy q8) (M.ad.Status q8) (M.ad.Result q8) (M.ad.bU q8) (M.ad.Asked q8) (M.ad.Told q8) (Option.getD q9 default) (M.ad.Set q8))) q10.1 q10.2)
 let q12:=(Go.V.inB (Go.IntKind.wrap Go.IntKind.i64 (ba-(1:Int))) (List.length q6))
 let q13:=((Go.V.inB (Go.IntKind.wrap Go.IntKind.i64 (ba-(1:Int))) (List.length o2))&&true)
 bif((Option.isSome q11)&&(q12&&((Option.isSome q9)&&(q12&&((Option.isSome q0)&&q13)))))then
 let bI:=(Option.getD q11 q1)
 let cE:=bI.2
 let q16:=cE.2
 let du:=q16.2
 let fe:=du.2
 some (bI.1,cE.1,q16.1,du.1,fe.1,fe.2)
 else
 none
 else
 bif(bif((M.aw.Kind o)==(2:Int))then((M.aw.Kind o)==(2:Int))else((M.aw.Kind o)==(10:Int)))then
 let q0:=(M.tr ba o w o1 o2 o3 o4)
 let q1:=((Go.V.inB (Go.IntKind.wrap Go.IntKind.i64 (ba-(1:Int))) (List.length o2))&&true)
 let q2:=((q1||(!((M.aw.Kind o)==(2:Int))))&&(q1||((M.aw.Kind o)==(2:Int))))
 bif((Option.isSome q0)&&q2)then
 let q3:=default
 let q4:=(Option.getD q0 q3)
 let q5:=q4.2
 let q6:=q5.2
 let q7:=q6.2
 let q8:=q7.2
 some (q4.1,q5.1,q6.1,q7.1,q8.1,q8.2)
 else
 none
 else
 bif((M.aw.Kind o)==(3:Int))then
 let q0:=(Int.toNat (Go.IntKind.wrap Go.IntKind.i64 (ba-(1:Int))))
 let q1:=(List.getD o2 q0 M.ad.zero)
 bif(((List.length (M.ad.Set q1)):Int)==(0:Int))then
 let q2:=(M.gG ba w o1 o2 o3 o4)
 let q3:=((Go.V.inB (Go.IntKind.wrap Go.IntKind.i64 (ba-(1:Int))) (List.length o2))&&true)
 let q4:=((q3||(!((M.aw.Kind o)==(2:Int))))&&(q3||((M.aw.Kind o)==(2:Int))))
 let q5:=((Option.isSome q2)&&q4)
 bif q5 then
 let q6:=default
 let q7:=(Option.getD q2 q6)
 let q8:=q7.1
 let q9:=q7.2
 let q10:=q9.1
 let q11:=q9.2
 let q12:=q11.1
 let q13:=q11.2
 let bI:=q13.1
 let cE:=q13.2
 let q16:=cE.1
 let du:=cE.2
 some (q8,q10,q12,bI,q16,du)
 else
 none
 else
 let q2:=(M.ou ba w o1 o2 o3 o4)
 let q3:=(Option.getD q2 default)
 let q4:=(!q3.1)
 bif q4 then
 let q5:=q3.2
 let q6:=q5.1
 let q7:=q5.2
 let q8:=q7.1
 let q9:=q7.2
 let q10:=q9.1
 let q11:=q9.2
 let q12:=q11.1
 let q13:=q11.2
 let bI:=(M.lH ba q6 q8 q10 q12 q13)
 let cE:=((Go.V.inB (Go.IntKind.wrap Go.IntKind.i64 (ba-(1:Int))) (List.length o2))&&true)
 let q16:=((cE||(!((M.aw.Kind o)==(2:Int))))&&(cE||((M.aw.Kind o)==(2:Int))))
 let du:=((Option.isSome q2)&&q16)
 bif((Option.isSome bI)&&du)then
 let fe:=default
 let fM:=(Option.getD bI fe)
 let gv:=fM.2
 let pM:=gv.2
 let q22:=pM.2
 let q23:=q22.2
 some (fM.1,gv.1,pM.1,q22.1,q23.1,q23.2)
 else
 none
 else
 let q5:=q3.2
 let q6:=q5.1
 let q7:=q5.2
 let q8:=q7.1
 let q9:=q7.2
 let q10:=q9.1
 let q11:=q9.2
 let q12:=q11.1
 let q13:=q11.2
 let bI:=(M.eF ba q6 q8 q10 q12 q13)
 let cE:=((Go.V.inB (Go.IntKind.wrap Go.IntKind.i64 (ba-(1:Int))) (List.length o2))&&true)
 let q16:=((cE||(!((M.aw.Kind o)==(2:Int))))&&(cE||((M.aw.Kind o)==(2:Int))))
 let du:=((Option.isSome q2)&&q16)
 let fe:=((Option.isSome bI)&&du)
 bif fe then
 let fM:=default
 let gv:=(Option.getD bI fM)
 let pM:=gv.1
 let q22:=gv.2
 let q23:=q22.1
 let q24:=q22.2
 let vM:=q24.1
 let pN:=q24.2
 let vN:=pN.1
 let BZ:=pN.2
 let q29:=BZ.1
 let q30:=BZ.2
 some (pM,q23,vM,vN,q29,q30)
 else
 none
 else
 bif((M.aw.Kind o)==(4:Int))then
 let q0:=(M.ou ba w o1 o2 o3 o4)
 let q1:=(Option.getD q0 default)
 let q2:=(!q1.1)
 bif q2 then
 let q3:=q1.2
 let q4:=q3.1
 let q5:=q3.2
 let q6:=q5.1
 let q7:=q5.2
 let q8:=q7.1
 let q9:=q7.2
 let q10:=q9.1
 let q11:=q9.2
 let q12:=(M.ft ba (4:Int) (0:Int) (0:Int) q4 q6 q8 q10 q11)
 let q13:=default
 let bI:=(Option.getD q12 q13)
 let cE:=bI.2
 let q16:=cE.2
 let du:=q16.2
 let fe:=(M.eF ba bI.1 cE.1 q16.1 du.1 du.2)
 let fM:=((Go.V.inB (Go.IntKind.wrap Go.IntKind.i64 (ba-(1:Int))) (List.length o2))&&true)
 let gv:=((fM||(!((M.aw.Kind o)==(2:Int))))&&(fM||((M.aw.Kind o)==(2:Int))))
 let pM:=((Option.isSome q0)&&gv)
 bif((Option.isSome fe)&&((Option.isSome q12)&&pM))then
 let q22:=default
 let q23:=(Option.getD fe q22)
 let q24:=q23.2
 let vM:=q24.2
 let pN:=vM.2
 let vN:=pN.2
 some (q23.1,q24.1,vM.1,pN.1,vN.1,vN.2)
 else
 none
 else
 let q3:=q1.2
 let q4:=q3.1
 let q5:=q3.2
 let q6:=q5.1
 let q7:=q5.2
 let q8:=q7.1
 let q9:=q7.2
 let q10:=q9.1
 let q11:=q9.2
 let q12:=(M.eF ba q4 q6 q8 q10 q11)
 let q13:=((Go.V.inB (Go.IntKind.wrap Go.IntKind.i64 (ba-(1:Int))) (List.length o2))&&true)
 let bI:=((q13||(!((M.aw.Kind o)==(2:Int))))&&(q13||((M.aw.Kind o)==(2:Int))))
 let cE:=((Option.isSome q0)&&bI)
 let q16:=((Option.isSome q12)&&cE)
 bif q16 then
 let du:=default
 let fe:=(Option.getD q12 du)
 let fM:=fe.1
 let gv:=fe.2
 let pM:=gv.1
 let q22:=gv.2
 let q23:=q22.1
 let q24:=q22.2
 let vM:=q24.1
 let pN:=q24.2
 let vN:=pN.1
 let BZ:=pN.2
 some (fM,pM,q23,vM,vN,BZ)
 else
 none
 else
 bif((M.aw.Kind o)==(9:Int))then
 let q0:=(Int.toNat (Go.IntKind.wrap Go.IntKind.i64 (ba-(1:Int))))
 let q1:=(List.getD o2 q0 M.ad.zero)
 bif(M.ad.bU q1)then
 let q2:=(M.gG ba w o1 o2 o3 o4)
 let q3:=((Go.V.inB (Go.IntKind.wrap Go.IntKind.i64 (ba-(1:Int))) (List.length o2))&&true)
 let q4:=((q3||(!((M.aw.Kind o)==(2:Int))))&&(q3||((M.aw.Kind o)==(2:Int))))
 let q5:=((Option.isSome q2)&&q4)
 bif q5 then
 let q6:=default
 let q7:=(Option.getD q2 q6)
 let q8:=q7.1
 let q9:=q7.2
 let q10:=q9.1
 let q11:=q9.2
 let q12:=q11.1
 let q13:=q11.2
 let bI:=q13.1
 let cE:=q13.2
 let q16:=cE.1
 let du:=cE.2
 some (q8,q10,q12,bI,q16,du)
 else
 none
 else
 let q2:=(M.ov ba (M.aw.A o) w o1 o2 o3 o4)
 let q3:=default
 let q4:=(Option.getD q2 q3)
 let q5:=q4.2
 let q6:=q5.2
 let q7:=q6.2
 let q8:=(M.eF ba q4.1 q5.1 q6.1 q7.1 q7.2)
 let q9:=((Go.V.inB (Go.IntKind.wrap Go.IntKind.i64 (ba-(1:Int))) (List.length o2))&&true)
 let q10:=((q9||(!((M.aw.Kind o)==(2:Int))))&&(q9||((M.aw.Kind o)==(2:Int))))
 bif((Option.isSome q8)&&((Option.isSome q2)&&q10))then
 let q11:=default
 let q12:=(Option.getD q8 q11)
 let q13:=q12.2
 let bI:=q13.2
 let cE:=bI.2
 let q16:=cE.2
 some (q12.1,q13.1,bI.1,cE.1,q16.1,q16.2)
 else
 none
 else
 bif((M.aw.Kind o)==(11:Int))then
 bif((M.aw.A o)==(1:Int))then
 let q0:=(Int.toNat (Go.IntKind.wrap Go.IntKind.i64 (ba-(1:Int))))
 let q1:=(List.getD o2 q0 M.ad.zero)
 let q2:=(M.mO o3 (M.ar.dQ (List.getD w (Int.toNat (M.ad.Prog q1)) M.ar.zero)))
 let q3:=(Option.getD q2 default)
 let q4:=(M.ako q3 (M.ar.dQ (List.getD w (Int.toNat (M.ad.Prog q1)) M.ar.zero)))
 let q5:=(M.eF ba w o1 o2 (Option.getD q4 default) o4)
 let q6:=((Go.V.inB (Go.IntKind.wrap Go.IntKind.i64 (ba-(1:Int))) (List.length o2))&&true)
 let q7:=((q6||(!((M.aw.Kind o)==(2:Int))))&&(q6||((M.aw.Kind o)==(2:Int))))
 let q8:=((Option.isSome q2)&&((Go.V.inB (M.ad.Prog q1) (List.length w))&&q7))
 bif((Option.isSome q5)&&((Option.isSome q4)&&q8))then
 let q9:=default
 let q10:=(Option.getD q5 q9)
 let q11:=q10.2
 let q12:=q11.2
 let q13:=q12.2
 let bI:=q13.2
 some (q10.1,q11.1,q12.1,q13.1,bI.1,bI.2)
 else
 none
 else
 let q0:=(Int.toNat (Go.IntKind.wrap Go.IntKind.i64 (ba-(1:Int))))
 let q1:=(List.getD o2 q0 M.ad.zero)
 let q2:=(M.mO o3 (M.ar.dQ (List.getD w (Int.toNat (M.ad.Prog q1)) M.ar.zero)))
 let q3:=(Option.getD q2 default)
 let q4:=(M.eF ba w o1 o2 q3 o4)
 let q5:=((Go.V.inB (Go.IntKind.wrap Go.IntKind.i64 (ba-(1:Int))) (List.length o2))&&true)
 let q6:=((q5||(!((M.aw.Kind o)==(2:Int))))&&(q5||((M.aw.Kind o)==(2:Int))))
 let q7:=((Option.isSome q2)&&((Go.V.inB (M.ad.Prog q1) (List.length w))&&q6))
 bif((Option.isSome q4)&&q7)then
 let q8:=default
 let q9:=(Option.getD q4 q8)
 let q10:=q9.2
 let q11:=q10.2
 let q12:=q11.2
 let q13:=q12.2
 some (q9.1,q10.1,q11.1,q12.1,q13.1,q13.2)
 else
 none
 else
 bif((M.aw.Kind o)==(12:Int))then
 let q0:=(Int.toNat (Go.IntKind.wrap Go.IntKind.i64 (ba-(1:Int))))
 let q1:=(List.getD o2 q0 M.ad.zero)
 bif((M.ad.Asked q1)&&(!(M.ad.bU q1)))then
 let q2:=(M.lG ba w o1 o2 o3 o4)
 let q3:=((Go.V.inB (Go.IntKind.wrap Go.IntKind.i64 (ba-(1:Int))) (List.length o2))&&true)
 let q4:=((q3||(!((M.aw.Kind o)==(2:Int))))&&(q3||((M.aw.Kind o)==(2:Int))))
 bif((Option.isSome q2)&&q4)then
 let q5:=default
 let q6:=(Option.getD q2 q5)
 let q7:=q6.2
 let q8:=q7.2
 let q9:=q8.2
 let q10:=q9.2
 some (q6.1,q7.1,q8.1,q9.1,q10.1,q10.2)
 else
 none
 else
 let q2:=(M.eF ba w o1 o2 o3 o4)
 let q3:=((Go.V.inB (Go.IntKind.wrap Go.IntKind.i64 (ba-(1:Int))) (List.length o2))&&true)
 let q4:=((q3||(!((M.aw.Kind o)==(2:Int))))&&(q3||((M.aw.Kind o)==(2:Int))))
 bif((Option.isSome q2)&&q4)then
 let q5:=default
 let q6:=(Option.getD q2 q5)
 let q7:=q6.2
 let q8:=q7.2
 let q9:=q8.2
 let q10:=q9.2
 some (q6.1,q7.1,q8.1,q9.1,q10.1,q10.2)
 else
 none
 else
 let q0:=(M.tq ba o w o1 o2 o3 o4)
 let q1:=((Go.V.inB (Go.IntKind.wrap Go.IntKind.i64 (ba-(1:Int))) (List.length o2))&&true)
 let q2:=((q1||(!((M.aw.Kind o)==(2:Int))))&&(q1||((M.aw.Kind o)==(2:Int))))
 bif((Option.isSome q0)&&q2)then
 let q3:=default
 let q4:=(Option.getD q0 q3)
 let q5:=q4.2
 let q6:=q5.2
 let q7:=q6.2
 let q8:=q7.2
 some (q4.1,q5.1,q6.1,q7.1,q8.1,q8.2)
 else
 none
def tD(ba:Int)(w:(List M.ar))(o1:(List M.ae))(o2:(List M.ad))(o3:(List Int))(o4:(List M.az)):Option (Int×(List M.ar)×(List M.ae)×(List M.ad)×(List Int)×(List M.az)):=
 bif(!((decide ((1:Int)<=ba))&&(decide (ba<=((List.length o2):Int)))))then
 some ((3:Int),w,o1,o2,o3,o4)
 else
 let q0:=(Int.toNat (Go.IntKind.wrap Go.IntKind.i64 (ba-(1:Int))))
 let q1:=(List.getD o2 q0 M.ad.zero)
 let q2:=(M.tA (M.ai.mk w o1 o2 o3 o4) ba)
 bif((decide ((3:Int)<=(M.ad.Status q1)))||(Option.getD q2 default))then
 let q3:=(Go.V.inB (Go.IntKind.wrap Go.IntKind.i64 (ba-(1:Int))) (List.length o2))
 let q4:=(((Option.isSome q2)||(!((decide ((3:Int)<=(M.ad.Status q1)))==false)))&&((Go.V.inB (M.ad.Prog q1) (List.length w))&&(q3&&true)))
 bif q4 then
 some ((5:Int),w,o1,o2,o3,o4)
 else
 none
 else
 bif(decide ((116:Int)<((List.length o4):Int)))then
 let q3:=(Go.V.inB (Go.IntKind.wrap Go.IntKind.i64 (ba-(1:Int))) (List.length o2))
 let q4:=(((Option.isSome q2)||(!((decide ((3:Int)<=(M.ad.Status q1)))==false)))&&((Go.V.inB (M.ad.Prog q1) (List.length w))&&(q3&&true)))
 bif q4 then
 some ((4:Int),w,o1,o2,o3,o4)
 else
 none
 else
 bif((M.ad.Status q1)==(1:Int))then
 let q3:=(M.ft ba (1:Int) (0:Int) (0:Int) w o1 (List.set o2 q0 (M.ad.mk (M.ad.Id q1) (M.ad.Prog q1) (M.ad.PC q1) (M.ad.dy q1) (2:Int) (M.ad.Result q1) (M.ad.bU q1) (M.ad.Asked q1) (M.ad.Told q1) (M.ad.bg q1) (M.ad.Set q1))) o3 o4)
 let q4:=(Go.V.inB (Go.IntKind.wrap Go.IntKind.i64 (ba-(1:Int))) (List.length o2))
 let q5:=(((Option.isSome q2)||(!((decide ((3:Int)<=(M.ad.Status q1)))==false)))&&((Go.V.inB (M.ad.Prog q1) (List.length w))&&(q4&&true)))
 bif((Option.isSome q3)&&q5)then
 let q6:=default
 let q7:=(Option.getD q3 q6)
 let q8:=q7.2
 let q9:=q8.2
 let q10:=q9.2
 some ((0:Int),q7.1,q8.1,q9.1,q10.1,q10.2)
 else
 none
 else
 let q3:=(List.length (M.ar.Ops (List.getD w (Int.toNat (M.ad.Prog q1)) M.ar.zero)))
 bif((M.ad.PC q1)==(q3:Int))then
 bif(!(M.ad.bU q1))then
 let q4:=(M.ov ba (0:Int) w o1 o2 o3 o4)
 let q5:=default
 let q6:=(Option.getD q4 q5)
 let q7:=q6.2
 let q8:=q7.2
 let q9:=q8.1
 let q10:=(Go.V.inB (Go.IntKind.wrap Go.IntKind.i64 (ba-(1:Int))) (List.length o2))
 let q11:=(((Option.isSome q2)||(!((decide ((3:Int)<=(M.ad.Status q1)))==false)))&&((Go.V.inB (M.ad.Prog q1) (List.length w))&&(q10&&true)))
 bif((Go.V.inB (Go.IntKind.wrap Go.IntKind.i64 (ba-(1:Int))) (List.length q9))&&((Option.isSome q4)&&q11))then
 let q12:=(List.getD q9 q0 M.ad.zero)
 let q13:=q8.2
 some ((0:Int),q6.1,q7.1,(List.set q9 q0 (M.ad.mk (M.ad.Id q12) (M.ad.Prog q12) (M.ad.PC q12) (M.ad.dy q12) (3:Int) (M.ad.Result q12) (M.ad.bU q12) (M.ad.Asked q12) (M.ad.Told q12) (M.ad.bg q12) (M.ad.Set q12))),q13.1,q13.2)
 else
 none
 else
 let q4:=(Go.V.inB (Go.IntKind.wrap Go.IntKind.i64 (ba-(1:Int))) (List.length o2))
 let q5:=(((Option.isSome q2)||(!((decide ((3:Int)<=(M.ad.Status q1)))==false)))&&((Go.V.inB (M.ad.Prog q1) (List.length w))&&(q4&&true)))
 bif(q4&&q5)then
 some ((0:Int),w,o1,(List.set o2 q0 (M.ad.mk (M.ad.Id q1) (M.ad.Prog q1) (M.ad.PC q1) (M.ad.dy q1) (3:Int) (M.ad.Result q1) (M.ad.bU q1) (M.ad.Asked q1) (M.ad.Told q1) (M.ad.bg q1) (M.ad.Set q1))),o3,o4)
 else
 none
 else
 let q4:=(M.tu ba (List.getD (M.ar.Ops (List.getD w (Int.toNat (M.ad.Prog q1)) M.ar.zero)) (Int.toNat (M.ad.PC q1)) M.aw.zero) w o1 o2 o3 o4)
 let q5:=(Go.V.inB (Go.IntKind.wrap Go.IntKind.i64 (ba-(1:Int))) (List.length o2))
 let q6:=(((Option.isSome q2)||(!((decide ((3:Int)<=(M.ad.Status q1)))==false)))&&((Go.V.inB (M.ad.Prog q1) (List.length w))&&(q5&&true)))
 bif((Option.isSome q4)&&((Go.V.inB (M.ad.PC q1) q3)&&q6))then
 let q7:=(Option.getD q4 default)
 let q8:=q7.2
 let q9:=q8.2
 let q10:=q9.2
 let q11:=q10.2
 some (q7.1,q8.1,q9.1,q10.1,q11.1,q11.2)
 else
 none
def ak4(t15:(List M.ad))(t16:Int):Nat->Int->(List M.ar)->(List M.ae)->(List M.ad)->(List Int)->(List M.az)->(List Int)->Option (((List Int))⊕((List Int)))
 |0,_,_,_,_,_,_,_=>none
 |fuel+1,t17,x,x2,x3,x4,x5,ids=>
 bif(decide (t17<t16))then
 let q0:=(M.tf (M.ad.Id (List.getD t15 (Int.toNat t17) M.ad.zero)) (M.bh.mk (M.ai.mk x x2 x3 x4 x5)))
 let q1:=(Option.getD q0 default)
 bif(q1.1==(0:Int))then
 let q2:=((Option.isSome q0)&&((Go.V.inB t17 (List.length t15))&&true))
 bif q2 then
 some (.inl [])
 else
 none
 else
 bif(!((decide ((3:Int)<=(M.ad.Status (List.getD t15 (Int.toNat t17) M.ad.zero))))&&(decide ((M.ad.Status (List.getD t15 (Int.toNat t17) M.ad.zero))<=(5:Int)))))then
 let q2:=[(M.ad.Id (List.getD t15 (Int.toNat t17) M.ad.zero))]
 let q3:=((Option.isSome q0)&&((Go.V.inB t17 (List.length t15))&&true))
 bif((decide (((List.length ids)+(List.length q2))<=1073741824))&&q3)then
 M.ak4 t15 t16 fuel (Go.IntKind.wrap Go.IntKind.i64 (t17+(1:Int))) (M.ai.aT (M.bh.Async q1.2)) (M.ai.aX (M.bh.Async q1.2)) (M.ai.aC (M.bh.Async q1.2)) (M.ai.Back (M.bh.Async q1.2)) (M.ai.Notes (M.bh.Async q1.2)) (ids++q2)
 else
 none
 else
 let q2:=((Option.isSome q0)&&((Go.V.inB t17 (List.length t15))&&true))
 bif q2 then
 M.ak4 t15 t16 fuel (Go.IntKind.wrap Go.IntKind.i64 (t17+(1:Int))) (M.ai.aT (M.bh.Async q1.2)) (M.ai.aX (M.bh.Async q1.2)) (M.ai.aC (M.bh.Async q1.2)) (M.ai.Back (M.bh.Async q1.2)) (M.ai.Notes (M.bh.Async q1.2)) ids
 else
 none
 else
 some ((.inr (ids)))
def amn(w:M.ai):Option ((List Int)):=
 let q0:=(M.uM w)
 bif(!(Option.getD q0 default))then
 bif((Option.isSome q0)&&true)then
 some []
 else
 none
 else
 match(M.ak4 (M.ai.aC w) ((List.length (M.ai.aC w)):Int) Go.V.an (0:Int) (M.ai.aT w) (M.ai.aX w) (M.ai.aC w) (M.ai.Back w) (M.ai.Notes w) [])with
 |none=>none
 |some y1=>
 (match y1 with
 |.inl a2=>
 bif((Option.isSome q0)&&true)then
 some a2
 else
 none
 |.inr b2=>
 bif((Option.isSome q0)&&true)then
 some b2
 else
 none)
def alO:Nat->Int->M.ai->(List Int)->Option (((List Int))⊕((List Int)))
 |0,_,_,_=>none
 |fuel+1,i,w,out=>
 bif(decide (i<((List.length (M.ai.aC w)):Int)))then
 let q0:=(M.tC w)
 let q1:=(Option.getD q0 default)
 let q2:=q1.2
 let q3:=q2.1
 let q4:=(List.getD (M.ai.aC q3) (Int.toNat i) M.ad.zero)
 let q5:=q2.2
 let q6:=q5.2
 let q7:=q6.2
 let q8:=(M.tD (M.ad.Id q4) q1.1 q5.1 q6.1 q7.1 q7.2)
 bif((Option.getD q8 default).1==(0:Int))then
 let q9:=(Go.V.inB i (List.length (M.ai.aC q3)))
 let q10:=((Option.isSome q8)&&(q9&&((Option.isSome q0)&&true)))
 bif q10 then
 some (.inl [])
 else
 none
 else
 bif(!(decide ((3:Int)<=(M.ad.Status q4))))then
 let q9:=[(M.ad.Id q4)]
 let q10:=(Go.V.inB i (List.length (M.ai.aC q3)))
 let q11:=((Option.isSome q8)&&(q10&&((Option.isSome q0)&&true)))
 let q12:=(q10&&q11)
 bif((decide (((List.length out)+(List.length q9))<=1073741824))&&(q10&&q12))then
 M.alO fuel (Go.IntKind.wrap Go.IntKind.i64 (i+(1:Int))) q3 (out++q9)
 else
 none
 else
 let q9:=(Go.V.inB i (List.length (M.ai.aC q3)))
 let q10:=((Option.isSome q8)&&(q9&&((Option.isSome q0)&&true)))
 let q11:=(q9&&q10)
 bif q11 then
 M.alO fuel (Go.IntKind.wrap Go.IntKind.i64 (i+(1:Int))) q3 out
 else
 none
 else
 some ((.inr (out)))
def amo(w:M.ai):Option ((List Int)):=
 let q0:=(M.ru w)
 bif(!(Option.getD q0 default).1)then
 bif((Option.isSome q0)&&true)then
 some []
 else
 none
 else
 match(M.alO Go.V.an (0:Int) (Option.getD q0 default).2 [])with
 |none=>none
 |some y1=>
 (match y1 with
 |.inl a2=>
 bif((Option.isSome q0)&&true)then
 some a2
 else
 none
 |.inr b2=>
 bif((Option.isSome q0)&&true)then
 some b2
 else
 none)
def amj:Nat->Int->Int->(List M.ae)->Option (Int×(List M.ae))
 |0,_,_,_=>none
 |fuel+1,k,i,a=>
 bif(decide (i<((List.length a):Int)))then
 let q0:=(List.set a (Int.toNat i) (M.ae.mk (M.aa.mk k (M.aa.Name (M.ae.cq (List.getD a (Int.toNat i) M.ae.zero))) (M.aa.bY (M.ae.cq (List.getD a (Int.toNat i) M.ae.zero))) (M.aa.Kids (M.ae.cq (List.getD a (Int.toNat i) M.ae.zero)))) (M.ae.Room (List.getD a (Int.toNat i) M.ae.zero)) (M.ae.cR (List.getD a (Int.toNat i) M.ae.zero)) (M.ae.Buffer (List.getD a (Int.toNat i) M.ae.zero)) (M.ae.Put (List.getD a (Int.toNat i) M.ae.zero)) (M.ae.dz (List.getD a (Int.toNat i) M.ae.zero)) (M.ae.Shut (List.getD a (Int.toNat i) M.ae.zero)) (M.ae.Gone (List.getD a (Int.toNat i) M.ae.zero))))
 let q1:=(List.getD q0 (Int.toNat i) M.ae.zero)
 let q2:=(M.ajx (Go.IntKind.wrap Go.IntKind.i64 (k+(1:Int))))
 let q3:=(List.set q0 (Int.toNat i) (M.ae.mk (M.aa.mk (M.aa.Kind (M.ae.cq q1)) (Option.getD q2 default) (M.aa.bY (M.ae.cq q1)) (M.aa.Kids (M.ae.cq q1))) (M.ae.Room q1) (M.ae.cR q1) (M.ae.Buffer q1) (M.ae.Put q1) (M.ae.dz q1) (M.ae.Shut q1) (M.ae.Gone q1)))
 let q4:=(List.getD q3 (Int.toNat i) M.ae.zero)
 let q5:=(M.akm (Go.IntKind.wrap Go.IntKind.i64 ((Go.IntKind.wrap Go.IntKind.i64 (k+(1:Int)))+(1:Int))) (M.aa.bY (M.ae.cq q4)))
 let q6:=(Option.getD q5 default)
 let q7:=(List.set q3 (Int.toNat i) (M.ae.mk (M.aa.mk (M.aa.Kind (M.ae.cq q4)) (M.aa.Name (M.ae.cq q4)) q6.2 (M.aa.Kids (M.ae.cq q4))) (M.ae.Room q4) (M.ae.cR q4) (M.ae.Buffer q4) (M.ae.Put q4) (M.ae.dz q4) (M.ae.Shut q4) (M.ae.Gone q4)))
 let q8:=(List.getD q7 (Int.toNat i) M.ae.zero)
 let q9:=(M.amN q6.1 (M.aa.Kids (M.ae.cq q8)))
 let q10:=(Option.getD q9 default)
 let q11:=(List.set q7 (Int.toNat i) (M.ae.mk (M.aa.mk (M.aa.Kind (M.ae.cq q8)) (M.aa.Name (M.ae.cq q8)) (M.aa.bY (M.ae.cq q8)) q10.2) (M.ae.Room q8) (M.ae.cR q8) (M.ae.Buffer q8) (M.ae.Put q8) (M.ae.dz q8) (M.ae.Shut q8) (M.ae.Gone q8)))
 let q12:=(List.getD q11 (Int.toNat i) M.ae.zero)
 let q13:=q10.1
 let bI:=(List.set q11 (Int.toNat i) (M.ae.mk (M.aa.re (M.ae.cq q12)) q13 (M.ae.cR q12) (M.ae.Buffer q12) (M.ae.Put q12) (M.ae.dz q12) (M.ae.Shut q12) (M.ae.Gone q12)))
 let cE:=(List.getD bI (Int.toNat i) M.ae.zero)
 let q16:=(Go.IntKind.wrap Go.IntKind.i64 (q13+(1:Int)))
 let du:=(List.set bI (Int.toNat i) (M.ae.mk (M.aa.re (M.ae.cq cE)) (M.ae.Room cE) ((Int.tmod q16 (3:Int))==(0:Int)) (M.ae.Buffer cE) (M.ae.Put cE) (M.ae.dz cE) (M.ae.Shut cE) (M.ae.Gone cE)))
 let fe:=(List.getD du (Int.toNat i) M.ae.zero)
 let fM:=(M.amO (Go.IntKind.wrap Go.IntKind.i64 (q16+(1:Int))) (M.ae.Buffer fe))
 let gv:=(Option.getD fM default)
 let pM:=(List.set du (Int.toNat i) (M.ae.mk (M.aa.re (M.ae.cq fe)) (M.ae.Room fe) (M.ae.cR fe) gv.2 (M.ae.Put fe) (M.ae.dz fe) (M.ae.Shut fe) (M.ae.Gone fe)))
 let q22:=(List.getD pM (Int.toNat i) M.ae.zero)
 let q23:=gv.1
 let q24:=(List.set pM (Int.toNat i) (M.ae.mk (M.aa.re (M.ae.cq q22)) (M.ae.Room q22) (M.ae.cR q22) (M.ae.Buffer q22) q23 (M.ae.dz q22) (M.ae.Shut q22) (M.ae.Gone q22)))
 let vM:=(List.getD q24 (Int.toNat i) M.ae.zero)
 let pN:=(Go.IntKind.wrap Go.IntKind.i64 (q23+(1:Int)))
 let vN:=(List.set q24 (Int.toNat i) (M.ae.mk (M.aa.re (M.ae.cq vM)) (M.ae.Room vM) (M.ae.cR vM) (M.ae.Buffer vM) (M.ae.Put vM) pN (M.ae.Shut vM) (M.ae.Gone vM)))
 let BZ:=(List.getD vN (Int.toNat i) M.ae.zero)
 let q29:=(Go.IntKind.wrap Go.IntKind.i64 (pN+(1:Int)))
 let q30:=(List.set vN (Int.toNat i) (M.ae.mk (M.aa.re (M.ae.cq BZ)) (M.ae.Room BZ) (M.ae.cR BZ) (M.ae.Buffer BZ) (M.ae.Put BZ) (M.ae.dz BZ) ((Int.tmod q29 (3:Int))==(0:Int)) (M.ae.Gone BZ)))
 bif((Go.V.inB i (List.length q30))&&(((3:Int) !=(0:Int))&&((Go.V.inB i (List.length vN))&&(((3:Int) !=(0:Int))&&((Go.V.inB i (List.length q24))&&((Go.V.inB i (List.length pM))&&(((Option.isSome fM)&&true)&&((Go.V.inB i (List.length du))&&((Go.V.inB i (List.length bI))&&(((3:Int) !=(0:Int))&&((Go.V.inB i (List.length q11))&&(((Option.isSome q9)&&true)&&((Go.V.inB i (List.length q7))&&(((Option.isSome q5)&&true)&&((Go.V.inB i (List.length q3))&&((Go.V.inB i (List.length q0))&&(((Option.isSome q2)&&true)&&((Go.V.inB i (List.length a))&&true))))))))))))))))))then
 let q31:=(Go.IntKind.wrap Go.IntKind.i64 (q29+(1:Int)))
 let q32:=(List.getD q30 (Int.toNat i) M.ae.zero)
 M.amj fuel (Go.IntKind.wrap Go.IntKind.i64 (q31+(1:Int))) (Go.IntKind.wrap Go.IntKind.i64 (i+(1:Int))) (List.set q30 (Int.toNat i) (M.ae.mk (M.aa.re (M.ae.cq q32)) (M.ae.Room q32) (M.ae.cR q32) (M.ae.Buffer q32) (M.ae.Put q32) (M.ae.dz q32) (M.ae.Shut q32) ((Int.tmod q31 (3:Int))==(0:Int))))
 else
 none
 else
 some ((k,a))
def amu(k:Int)(a:(List M.ae)):Option (Int×(List M.ae)):=
 match(M.amj Go.V.an k (0:Int) a)with
 |none=>none
 |some y0=>
 some (y0.1,y0.2)
def amy(k:Int)(o0:(List M.ar))(o1:(List M.ae))(o2:(List M.ad))(o3:(List Int))(o4:(List M.az)):Option (Int×(List M.ar)×(List M.ae)×(List M.ad)×(List Int)×(List M.az)):=
 let q0:=(M.ams k o0)
 let q1:=(M.amu (Option.getD q0 default).1 o1)
 let q2:=(Option.getD q1 default)
 let q3:=(M.amv q2.1 o2)
 let q4:=(Option.getD q3 default)
 let q5:=(M.ajI q4.1 o3)
 let q6:=(Option.getD q5 default)
 let q7:=(M.amw q6.1 o4)
 bif(((Option.isSome q7)&&true)&&(((Option.isSome q5)&&true)&&(((Option.isSome q3)&&true)&&(((Option.isSome q1)&&true)&&(((Option.isSome q0)&&true)&&true)))))then
 let q8:=(Option.getD q7 default)
 some (q8.1,(Option.getD q0 default).2,q2.2,q4.2,q6.2,q8.2)
 else
 none
def amB(aW:M.ai):Option (Bool):=
 let q0:=(M.vy aW (1048576:Int))
 bif(decide ((Option.getD q0 default)<(0:Int)))then
 bif((Option.isSome q0)&&true)then
 some true
 else
 none
 else
 let q1:=(M.vD aW)
 let q2:=(Option.getD q1 default)
 let q3:=q2.1
 let q4:=q2.2
 let q5:=q4.1
 let q6:=q4.2
 let q7:=q6.1
 let q8:=q6.2
 let q9:=q8.1
 let q10:=q8.2
 let q11:=(M.amn (M.ai.mk q3 q5 q7 q9 q10))
 let q12:=(Option.getD q11 default)
 let q13:=(M.amo (M.ai.mk q3 q5 q7 q9 q10))
 let bI:=(M.m6 q12 (Option.getD q13 default))
 let cE:=(!(Option.getD bI default))
 bif cE then
 let q16:=(Option.isSome bI)
 let du:=(Option.isSome q11)
 let fe:=(q16&&(du&&((Option.isSome q1)&&((Option.isSome q13)&&((Option.isSome q1)&&((Option.isSome q0)&&true))))))
 bif fe then
 some false
 else
 none
 else
 let q16:=(M.vH (M.ai.mk q3 q5 q7 q9 q10) (M.ai.mk q3 q5 q7 q9 q10))
 bif(!(Option.getD q16 default))then
 let du:=(Option.isSome bI)
 let fe:=(Option.isSome q11)
 let fM:=(du&&(fe&&((Option.isSome q1)&&((Option.isSome q13)&&((Option.isSome q1)&&((Option.isSome q0)&&true))))))
 let gv:=((Option.isSome q16)&&((Option.isSome q1)&&fM))
 bif gv then
 some false
 else
 none
 else
 let du:=(M.amy (1:Int) q3 q5 q7 q9 q10)
 bif((decide ((Option.getD du default).1<(0:Int)))||cE)then
 let fe:=(Option.isSome bI)
 let fM:=(Option.isSome q11)
 let gv:=(fe&&(fM&&((Option.isSome q1)&&((Option.isSome q13)&&((Option.isSome q1)&&((Option.isSome q0)&&true))))))
 let pM:=((Option.isSome q16)&&((Option.isSome q1)&&gv))
 let q22:=((fe||(!((decide ((Option.getD du default).1<(0:Int)))==false)))&&((Option.isSome du)&&pM))
 bif q22 then
 some false
 else
 none
 else
 let fe:=(M.ajI (1:Int) q12)
 let fM:=(Option.getD fe default)
 let gv:=(M.amz fM.2 (1:Int))
 let pM:=(Option.getD gv default)
 bif(decide (pM<(0:Int)))then
 let q22:=(Option.isSome gv)
 let q23:=(Option.isSome bI)
 let q24:=(Option.isSome q11)
 let vM:=(q23&&(q24&&((Option.isSome q1)&&((Option.isSome q13)&&((Option.isSome q1)&&((Option.isSome q0)&&true))))))
 let pN:=((Option.isSome q16)&&((Option.isSome q1)&&vM))
 let vN:=((q23||(!((decide ((Option.getD du default).1<(0:Int)))==false)))&&((Option.isSome du)&&pN))
 let BZ:=(q22&&((Option.isSome fe)&&vN))
 bif BZ then
 some false
 else
 none
 else
 let q22:=(pM !=fM.1)
 bif q22 then
 let q23:=(Option.isSome gv)
 let q24:=(Option.isSome bI)
 let vM:=(Option.isSome q11)
 let pN:=(q24&&(vM&&((Option.isSome q1)&&((Option.isSome q13)&&((Option.isSome q1)&&((Option.isSome q0)&&true))))))
 let vN:=((Option.isSome q16)&&((Option.isSome q1)&&pN))
 let BZ:=((q24||(!((decide ((Option.getD du default).1<(0:Int)))==false)))&&((Option.isSome du)&&vN))
 let q29:=(q23&&((Option.isSome fe)&&BZ))
 bif q29 then
 some false
 else
 none
 else
 bif cE then
 let q23:=(Option.isSome bI)
 let q24:=(Option.isSome q11)
 let vM:=(Option.isSome gv)
 let pN:=(q23&&(q24&&((Option.isSome q1)&&((Option.isSome q13)&&((Option.isSome q1)&&((Option.isSome q0)&&true))))))
 let vN:=((Option.isSome q16)&&((Option.isSome q1)&&pN))
 let BZ:=((q23||(!((decide ((Option.getD du default).1<(0:Int)))==false)))&&((Option.isSome du)&&vN))
 let q29:=(vM&&((Option.isSome fe)&&BZ))
 let q30:=(q23&&(q24&&((Option.isSome q1)&&q29)))
 bif q30 then
 some false
 else
 none
 else
 bif(decide (pM<(0:Int)))then
 let q23:=(Option.isSome gv)
 let q24:=(Option.isSome bI)
 let vM:=(Option.isSome q11)
 let pN:=(q24&&(vM&&((Option.isSome q1)&&((Option.isSome q13)&&((Option.isSome q1)&&((Option.isSome q0)&&true))))))
 let vN:=((Option.isSome q16)&&((Option.isSome q1)&&pN))
 let BZ:=((q24||(!((decide ((Option.getD du default).1<(0:Int)))==false)))&&((Option.isSome du)&&vN))
 let q29:=(q23&&((Option.isSome fe)&&BZ))
 let q30:=(q24&&(vM&&((Option.isSome q1)&&q29)))
 let q31:=(q23&&q30)
 bif q31 then
 some false
 else
 none
 else
 bif q22 then
 let q23:=(Option.isSome gv)
 let q24:=(Option.isSome bI)
 let vM:=(Option.isSome q11)
 let pN:=(q24&&(vM&&((Option.isSome q1)&&((Option.isSome q13)&&((Option.isSome q1)&&((Option.isSome q0)&&true))))))
 let vN:=((Option.isSome q16)&&((Option.isSome q1)&&pN))
 let BZ:=((q24||(!((decide ((Option.getD du default).1<(0:Int)))==false)))&&((Option.isSome du)&&vN))
 let q29:=(q23&&((Option.isSome fe)&&BZ))
 let q30:=(q24&&(vM&&((Option.isSome q1)&&q29)))
 let q31:=(q23&&q30)
 bif q31 then
 some false
 else
 none
 else
 let q23:=(Option.isSome gv)
 let q24:=(Option.isSome bI)
 let vM:=(Option.isSome q11)
 let pN:=(q24&&(vM&&((Option.isSome q1)&&((Option.isSome q13)&&((Option.isSome q1)&&((Option.isSome q0)&&true))))))
 let vN:=((Option.isSome q16)&&((Option.isSome q1)&&pN))
 let BZ:=((q24||(!((decide ((Option.getD du default).1<(0:Int)))==false)))&&((Option.isSome du)&&vN))
 let q29:=(q23&&((Option.isSome fe)&&BZ))
 let q30:=(q24&&(vM&&((Option.isSome q1)&&q29)))
 let q31:=(q23&&q30)
 bif q31 then
 some true
 else
 none
end M
