/-
  Part of the proof of the claim.
-/
import Derived.Test.YtefdfjaifkhphaaGreatDoorXUdata
import Derived.Test.YtefdfjaifkhphaaGreatDoorXUhand3
set_option linter.unusedVariables false
set_option maxRecDepth 100000
noncomputable section
namespace M
def yE (a:Int) (b:Int):Option (Int):=
 bif (decide (b<a)) then
 some a
 else
 some b
def mi (bf:M.ae->Int->Option (Int×Int)) (deep:Int):Nat->Int->Int->Int->M.ae->Option ((Int×Int)⊕(Int×Int))
 |0,_,_,_,_=>none
 |fuel+1,most,parts,i,t=>
 bif (decide (i<((List.length (M.ae.Kids t)):Int))) then
 let q0:=(Option.getD (bf (M.ae.re (List.getD (M.ae.Kids t) (Int.toNat i) M.ae.zero)) (Go.IntKind.wrap Go.IntKind.i64 (deep+(1:Int)))) default)
 let q1:=(Go.IntKind.wrap Go.IntKind.i64 (parts+q0.2))
 bif (decide ((24:Int)<q1)) then
 let q2:=(M.yE most q0.1)
 let q3:=((Option.isSome q2)&&((Option.isSome (bf (M.ae.re (List.getD (M.ae.Kids t) (Int.toNat i) M.ae.zero)) (Go.IntKind.wrap Go.IntKind.i64 (deep+(1:Int)))))&&((Go.V.inB i (List.length (M.ae.Kids t)))&&true)))
 bif q3 then
 some (.inl ((5:Int),(25:Int)))
 else
 none
 else
 let q2:=(M.yE most q0.1)
 let q3:=((Option.isSome q2)&&((Option.isSome (bf (M.ae.re (List.getD (M.ae.Kids t) (Int.toNat i) M.ae.zero)) (Go.IntKind.wrap Go.IntKind.i64 (deep+(1:Int)))))&&((Go.V.inB i (List.length (M.ae.Kids t)))&&true)))
 bif q3 then
 M.mi bf deep fuel (Option.getD q2 default) q1 (Go.IntKind.wrap Go.IntKind.i64 (i+(1:Int))) (M.ae.re t)
 else
 none
 else
 some ((.inr ((most,parts))))
def yF (bf:M.ae->Int->Option (Int×Int)) (t:M.ae) (deep:Int):Option (Int×Int):=
 bif ((decide ((4:Int)<deep))||(decide ((24:Int)<((List.length (M.ae.Kids t)):Int)))) then
 some ((5:Int),(25:Int))
 else
 match (M.mi bf deep Go.V.aP (0:Int) (1:Int) (0:Int) (M.ae.re t)) with
 |none=>none
 |some y0=>
 (match y0 with
 | .inl a1=>
 some (a1.1,a1.2)
 | .inr b1=>
 some ((Go.IntKind.wrap Go.IntKind.i64 (b1.1+(1:Int))),b1.2))
def oC : Nat->M.ae->Int->Option (Int×Int)
 |0=>fun _ _=>none
 |n+1=>yF (oC n)
def Jl : M.ae->Int->Option (Int×Int):=oC Go.V.aP
def xW (n:Int) (low:Int) (high:Int):Option (Bool):=
 some ((decide (low<=n))&&(decide (n<=high)))
def oP (s:(List UInt8)):Nat->Int->Option ((Bool)⊕(Unit))
 |0,_=>none
 |fuel+1,i=>
 bif (decide (i<((List.length s):Int))) then
 let q0:=((((decide (((UInt8.toNat (List.getD s (Int.toNat i) (0:UInt8))):Int)<(97:Int)))||(decide ((122:Int)<((UInt8.toNat (List.getD s (Int.toNat i) (0:UInt8))):Int))))&&((decide (((UInt8.toNat (List.getD s (Int.toNat i) (0:UInt8))):Int)<(48:Int)))||(decide ((57:Int)<((UInt8.toNat (List.getD s (Int.toNat i) (0:UInt8))):Int)))))&&(((UInt8.toNat (List.getD s (Int.toNat i) (0:UInt8))):Int) !=(45:Int)))
 let q1:=(((UInt8.toNat (List.getD s (Int.toNat i) (0:UInt8))):Int)==(45:Int))
 bif (q0||(q1&&(((UInt8.toNat (List.getD s (Int.toNat (Go.IntKind.wrap Go.IntKind.i64 (i-(1:Int)))) (0:UInt8))):Int)==(45:Int)))) then
 let q2:=(((Go.V.inB (Go.IntKind.wrap Go.IntKind.i64 (i-(1:Int))) (List.length s))||(!((q0==false)&&(q1==true))))&&((Go.V.inB i (List.length s))&&true))
 bif q2 then
 some (.inl false)
 else
 none
 else
 let q2:=(((Go.V.inB (Go.IntKind.wrap Go.IntKind.i64 (i-(1:Int))) (List.length s))||(!((q0==false)&&(q1==true))))&&((Go.V.inB i (List.length s))&&true))
 bif q2 then
 M.oP s fuel (Go.IntKind.wrap Go.IntKind.i64 (i+(1:Int)))
 else
 none
 else
 some ((.inr (())))
def tY (s:(List UInt8)):Option (Bool):=
 let q0:=((decide (((List.length s):Int)<(1:Int)))||(decide ((12:Int)<((List.length s):Int))))
 let q1:=(q0||(decide (((UInt8.toNat (List.getD s (Int.toNat (0:Int)) (0:UInt8))):Int)<(97:Int))))
 let q2:=(q1||(decide ((122:Int)<((UInt8.toNat (List.getD s (Int.toNat (0:Int)) (0:UInt8))):Int))))
 bif (q2||(((UInt8.toNat (List.getD s (Int.toNat (Go.IntKind.wrap Go.IntKind.i64 (((List.length s):Int)-(1:Int)))) (0:UInt8))):Int)==(45:Int))) then
 let q3:=(((Go.V.inB (Go.IntKind.wrap Go.IntKind.i64 (((List.length s):Int)-(1:Int))) (List.length s))||(!(q2==false)))&&(((Go.V.inB (0:Int) (List.length s))||(!(q1==false)))&&(((Go.V.inB (0:Int) (List.length s))||(!(q0==false)))&&true)))
 bif q3 then
 some false
 else
 none
 else
 match (M.oP s Go.V.aP (0:Int)) with
 |none=>none
 |some y3=>
 (match y3 with
 | .inl a4=>
 let q5:=(((Go.V.inB (Go.IntKind.wrap Go.IntKind.i64 (((List.length s):Int)-(1:Int))) (List.length s))||(!(q2==false)))&&(((Go.V.inB (0:Int) (List.length s))||(!(q1==false)))&&(((Go.V.inB (0:Int) (List.length s))||(!(q0==false)))&&true)))
 bif q5 then
 some a4
 else
 none
 | .inr b4=>
 let q5:=(((Go.V.inB (Go.IntKind.wrap Go.IntKind.i64 (((List.length s):Int)-(1:Int))) (List.length s))||(!(q2==false)))&&(((Go.V.inB (0:Int) (List.length s))||(!(q1==false)))&&(((Go.V.inB (0:Int) (List.length s))||(!(q0==false)))&&true)))
 bif q5 then
 some true
 else
 none)
def ig (list:(List (List UInt8))) (i:Int):Nat->Int->Option ((Bool)⊕((List (List UInt8))×Int))
 |0,_=>none
 |fuel+1,k=>
 bif (decide (k<i)) then
 bif ((List.getD list (Int.toNat k) [])==(List.getD list (Int.toNat i) [])) then
 let q0:=((Go.V.inB i (List.length list))&&((Go.V.inB k (List.length list))&&true))
 bif q0 then
 some (.inl false)
 else
 none
 else
 let q0:=((Go.V.inB i (List.length list))&&((Go.V.inB k (List.length list))&&true))
 bif q0 then
 M.ig list i fuel (Go.IntKind.wrap Go.IntKind.i64 (k+(1:Int)))
 else
 none
 else
 some ((.inr ((list,i))))
def iH : Nat->(List (List UInt8))->Int->Option ((Bool)⊕(Unit))
 |0,_,_=>none
 |fuel+1,list,i=>
 bif (decide (i<((List.length list):Int))) then
 let q0:=(M.tY (List.getD list (Int.toNat i) []))
 bif (!(Option.getD q0 default)) then
 let q1:=((Option.isSome q0)&&((Go.V.inB i (List.length list))&&true))
 bif q1 then
 some (.inl false)
 else
 none
 else
 match (M.ig list i Go.V.aP (0:Int)) with
 |none=>none
 |some y1=>
 (match y1 with
 | .inl a2=>
 let q3:=((Option.isSome q0)&&((Go.V.inB i (List.length list))&&true))
 bif q3 then
 some (.inl a2)
 else
 none
 | .inr b2=>
 let q3:=((Option.isSome q0)&&((Go.V.inB i (List.length list))&&true))
 bif q3 then
 M.iH fuel b2.1 (Go.IntKind.wrap Go.IntKind.i64 (b2.2+(1:Int)))
 else
 none)
 else
 some ((.inr (())))
def tZ (list:(List (List UInt8))):Option (Bool):=
 bif ((decide (((List.length list):Int)<(1:Int)))||(decide ((16:Int)<((List.length list):Int)))) then
 some false
 else
 match (M.iH Go.V.aP list (0:Int)) with
 |none=>none
 |some y0=>
 (match y0 with
 | .inl a1=>
 some a1
 | .inr b1=>
 some true)
def iC : Nat->Int->M.ae->Option ((Bool)⊕(Unit))
 |0,_,_=>none
 |fuel+1,i,t=>
 bif (decide (i<((List.length (M.ae.Kids t)):Int))) then
 bif ((M.ae.Kind (List.getD (M.ae.Kids t) (Int.toNat i) M.ae.zero))==(1:Int)) then
 bif ((Go.V.inB i (List.length (M.ae.Kids t)))&&true) then
 some (.inl true)
 else
 none
 else
 bif ((Go.V.inB i (List.length (M.ae.Kids t)))&&true) then
 M.iC fuel (Go.IntKind.wrap Go.IntKind.i64 (i+(1:Int))) (M.ae.re t)
 else
 none
 else
 some ((.inr (())))
def qp (t:M.ae):Option (Bool):=
 match (M.iC Go.V.aP (0:Int) (M.ae.re t)) with
 |none=>none
 |some y0=>
 (match y0 with
 | .inl a1=>
 some a1
 | .inr b1=>
 some false)
def jY (bC:M.ae->Int->Int->Option (Bool)) (low:Int) (high:Int):Nat->Int->M.ae->Option ((Bool)⊕(Unit))
 |0,_,_=>none
 |fuel+1,i,t=>
 bif (decide (i<((List.length (M.ae.Kids t)):Int))) then
 bif (Option.getD (bC (M.ae.re (List.getD (M.ae.Kids t) (Int.toNat i) M.ae.zero)) low high) default) then
 let q0:=((Option.isSome (bC (M.ae.re (List.getD (M.ae.Kids t) (Int.toNat i) M.ae.zero)) low high))&&((Go.V.inB i (List.length (M.ae.Kids t)))&&true))
 bif q0 then
 some (.inl true)
 else
 none
 else
 let q0:=((Option.isSome (bC (M.ae.re (List.getD (M.ae.Kids t) (Int.toNat i) M.ae.zero)) low high))&&((Go.V.inB i (List.length (M.ae.Kids t)))&&true))
 bif q0 then
 M.jY bC low high fuel (Go.IntKind.wrap Go.IntKind.i64 (i+(1:Int))) (M.ae.re t)
 else
 none
 else
 some ((.inr (())))
def Ai (bC:M.ae->Int->Int->Option (Bool)) (t:M.ae) (low:Int) (high:Int):Option (Bool):=
 bif ((decide (low<=(M.ae.Kind t)))&&(decide ((M.ae.Kind t)<=high))) then
 some true
 else
 match (M.jY bC low high Go.V.aP (0:Int) (M.ae.re t)) with
 |none=>none
 |some y0=>
 (match y0 with
 | .inl a1=>
 some a1
 | .inr b1=>
 some false)
def kV : Nat->M.ae->Int->Int->Option (Bool)
 |0=>fun _ _ _=>none
 |n+1=>Ai (kV n)
def rU : M.ae->Int->Int->Option (Bool):=kV Go.V.aP
def wX (t:M.ae):Option (Bool):=
 let q0:=(((M.ae.Kind t)==(20:Int))||((M.ae.Kind t)==(21:Int)))
 let q1:=(!(q0==(!((M.ae.Name t)==[]))))
 let q2:=(M.tY (M.ae.Name t))
 let q3:=((decide ((16:Int)<=(M.ae.Kind t)))&&(decide ((M.ae.Kind t)<=(19:Int))))
 let q4:=((q1||(q0&&(!(Option.getD q2 default))))||(!(q3==(decide ((0:Int)<((List.length (M.ae.aQ t)):Int))))))
 let q5:=(M.tZ (M.ae.aQ t))
 bif (q4||(q3&&(!(Option.getD q5 default)))) then
 let q6:=(((Option.isSome q5)||(!((q4==false)&&(q3==true))))&&(((Option.isSome q2)||(!((q1==false)&&(q0==true))))&&true))
 bif q6 then
 some false
 else
 none
 else
 bif (bif ((M.ae.Kind t)==(12:Int)) then ((M.ae.Kind t)==(12:Int)) else ((M.ae.Kind t)==(13:Int))) then
 let q6:=(M.qp (M.ae.re t))
 let q7:=(!((((List.length (M.ae.Kids t)):Int)==(1:Int))==true))
 let q8:=(((Option.isSome q5)||(!((q4==false)&&(q3==true))))&&(((Option.isSome q2)||(!((q1==false)&&(q0==true))))&&true))
 let q9:=((q8||(!((M.ae.Kind t)==(12:Int))))&&(q8||((M.ae.Kind t)==(12:Int))))
 bif (((Option.isSome q6)||q7)&&q9) then
 some ((((List.length (M.ae.Kids t)):Int)==(1:Int))&&(!(Option.getD q6 default)))
 else
 none
 else
 bif (bif ((M.ae.Kind t)==(22:Int)) then ((M.ae.Kind t)==(22:Int)) else ((M.ae.Kind t)==(23:Int))) then
 let q6:=(M.rU (M.ae.re (List.getD (M.ae.Kids t) (Int.toNat (0:Int)) M.ae.zero)) (21:Int) (21:Int))
 let q7:=(!((((List.length (M.ae.Kids t)):Int)==(1:Int))==true))
 let q8:=(((Option.isSome q5)||(!((q4==false)&&(q3==true))))&&(((Option.isSome q2)||(!((q1==false)&&(q0==true))))&&true))
 let q9:=((q8||(!((M.ae.Kind t)==(12:Int))))&&(q8||((M.ae.Kind t)==(12:Int))))
 let q10:=((q9||(!((M.ae.Kind t)==(22:Int))))&&(q9||((M.ae.Kind t)==(22:Int))))
 bif (((Option.isSome q6)||q7)&&(((Go.V.inB (0:Int) (List.length (M.ae.Kids t)))||q7)&&q10)) then
 some ((((List.length (M.ae.Kids t)):Int)==(1:Int))&&(!(Option.getD q6 default)))
 else
 none
 else
 bif ((M.ae.Kind t)==(14:Int)) then
 let q6:=(((Option.isSome q5)||(!((q4==false)&&(q3==true))))&&(((Option.isSome q2)||(!((q1==false)&&(q0==true))))&&true))
 let q7:=((q6||(!((M.ae.Kind t)==(12:Int))))&&(q6||((M.ae.Kind t)==(12:Int))))
 let q8:=((q7||(!((M.ae.Kind t)==(22:Int))))&&(q7||((M.ae.Kind t)==(22:Int))))
 bif q8 then
 some (((List.length (M.ae.Kids t)):Int)==(2:Int))
 else
 none
 else
 bif ((M.ae.Kind t)==(15:Int)) then
 let q6:=(M.qp (M.ae.re t))
 let q7:=((decide ((1:Int)<=((List.length (M.ae.Kids t)):Int)))&&(decide (((List.length (M.ae.Kids t)):Int)<=(6:Int))))
 let q8:=(((Option.isSome q5)||(!((q4==false)&&(q3==true))))&&(((Option.isSome q2)||(!((q1==false)&&(q0==true))))&&true))
 let q9:=((q8||(!((M.ae.Kind t)==(12:Int))))&&(q8||((M.ae.Kind t)==(12:Int))))
 let q10:=((q9||(!((M.ae.Kind t)==(22:Int))))&&(q9||((M.ae.Kind t)==(22:Int))))
 bif (((Option.isSome q6)||(!(q7==true)))&&q10) then
 some (q7&&(!(Option.getD q6 default)))
 else
 none
 else
 bif ((M.ae.Kind t)==(16:Int)) then
 let q6:=(M.qp (M.ae.re t))
 let q7:=(((Option.isSome q5)||(!((q4==false)&&(q3==true))))&&(((Option.isSome q2)||(!((q1==false)&&(q0==true))))&&true))
 let q8:=((q7||(!((M.ae.Kind t)==(12:Int))))&&(q7||((M.ae.Kind t)==(12:Int))))
 let q9:=((q8||(!((M.ae.Kind t)==(22:Int))))&&(q8||((M.ae.Kind t)==(22:Int))))
 bif (((Option.isSome q6)||(!((((List.length (M.ae.Kids t)):Int)==((List.length (M.ae.aQ t)):Int))==true)))&&q9) then
 some ((((List.length (M.ae.Kids t)):Int)==((List.length (M.ae.aQ t)):Int))&&(!(Option.getD q6 default)))
 else
 none
 else
 bif ((M.ae.Kind t)==(17:Int)) then
 let q6:=(((Option.isSome q5)||(!((q4==false)&&(q3==true))))&&(((Option.isSome q2)||(!((q1==false)&&(q0==true))))&&true))
 let q7:=((q6||(!((M.ae.Kind t)==(12:Int))))&&(q6||((M.ae.Kind t)==(12:Int))))
 let q8:=((q7||(!((M.ae.Kind t)==(22:Int))))&&(q7||((M.ae.Kind t)==(22:Int))))
 bif q8 then
 some (((List.length (M.ae.Kids t)):Int)==((List.length (M.ae.aQ t)):Int))
 else
 none
 else
 let q6:=(((Option.isSome q5)||(!((q4==false)&&(q3==true))))&&(((Option.isSome q2)||(!((q1==false)&&(q0==true))))&&true))
 let q7:=((q6||(!((M.ae.Kind t)==(12:Int))))&&(q6||((M.ae.Kind t)==(12:Int))))
 let q8:=((q7||(!((M.ae.Kind t)==(22:Int))))&&(q7||((M.ae.Kind t)==(22:Int))))
 bif q8 then
 some (((decide ((1:Int)<=(M.ae.Kind t)))&&(decide ((M.ae.Kind t)<=(23:Int))))&&(((List.length (M.ae.Kids t)):Int)==(0:Int)))
 else
 none
def iD (aY:M.ae->Option (Bool)):Nat->Int->M.ae->Option ((Bool)⊕(Unit))
 |0,_,_=>none
 |fuel+1,i,t=>
 bif (decide (i<((List.length (M.ae.Kids t)):Int))) then
 bif (!(Option.getD (aY (M.ae.re (List.getD (M.ae.Kids t) (Int.toNat i) M.ae.zero))) default)) then
 let q0:=((Option.isSome (aY (M.ae.re (List.getD (M.ae.Kids t) (Int.toNat i) M.ae.zero))))&&((Go.V.inB i (List.length (M.ae.Kids t)))&&true))
 bif q0 then
 some (.inl false)
 else
 none
 else
 let q0:=((Option.isSome (aY (M.ae.re (List.getD (M.ae.Kids t) (Int.toNat i) M.ae.zero))))&&((Go.V.inB i (List.length (M.ae.Kids t)))&&true))
 bif q0 then
 M.iD aY fuel (Go.IntKind.wrap Go.IntKind.i64 (i+(1:Int))) (M.ae.re t)
 else
 none
 else
 some ((.inr (())))
def uU (aY:M.ae->Option (Bool)) (t:M.ae):Option (Bool):=
 let q0:=(M.wX (M.ae.re t))
 bif (!(Option.getD q0 default)) then
 bif ((Option.isSome q0)&&true) then
 some false
 else
 none
 else
 match (M.iD aY Go.V.aP (0:Int) (M.ae.re t)) with
 |none=>none
 |some y1=>
 (match y1 with
 | .inl a2=>
 bif ((Option.isSome q0)&&true) then
 some a2
 else
 none
 | .inr b2=>
 bif ((Option.isSome q0)&&true) then
 some true
 else
 none)
def jo : Nat->M.ae->Option (Bool)
 |0=>fun _=>none
 |n+1=>uU (jo n)
def E5 : M.ae->Option (Bool):=jo Go.V.aP
def uf (di:M.ae->Int->Option (Int)) (levels:Int) (t11:(List M.ae)) (t12:Int):Nat->Int->Int->Option (Int)
 |0,_,_=>none
 |fuel+1,depth,t13=>
 bif (decide (t13<t12)) then
 bif ((Option.isSome (di (M.ae.re (List.getD t11 (Int.toNat t13) M.ae.zero)) (Go.IntKind.wrap Go.IntKind.i64 (levels-(1:Int)))))&&((Go.V.inB t13 (List.length t11))&&true)) then
 let q0:=(Option.getD (di (M.ae.re (List.getD t11 (Int.toNat t13) M.ae.zero)) (Go.IntKind.wrap Go.IntKind.i64 (levels-(1:Int)))) default)
 M.uf di levels t11 t12 fuel (bif (decide (depth<q0)) then q0 else depth) (Go.IntKind.wrap Go.IntKind.i64 (t13+(1:Int)))
 else
 none
 else
 some (depth)
def HY (di:M.ae->Int->Option (Int)) (t:M.ae) (levels:Int):Option (Int):=
 bif (levels==(0:Int)) then
 some (1:Int)
 else
 match (M.uf di levels (M.ae.Kids t) ((List.length (M.ae.Kids t)):Int) Go.V.aP (0:Int) (0:Int)) with
 |none=>none
 |some y0=>
 some (Go.IntKind.wrap Go.IntKind.i64 (y0+(1:Int)))
def yH : Nat->M.ae->Int->Option (Int)
 |0=>fun _ _=>none
 |n+1=>HY (yH n)
def X3 : M.ae->Int->Option (Int):=yH Go.V.aP
def qw (bQ:M.ae->Option (Int)) (t7:(List M.ae)) (t8:Int):Nat->Int->Int->Option (Int)
 |0,_,_=>none
 |fuel+1,many,t9=>
 bif (decide (t9<t8)) then
 bif ((Option.isSome (bQ (M.ae.re (List.getD t7 (Int.toNat t9) M.ae.zero))))&&((Go.V.inB t9 (List.length t7))&&true)) then
 M.qw bQ t7 t8 fuel (Go.IntKind.wrap Go.IntKind.i64 (many+(Option.getD (bQ (M.ae.re (List.getD t7 (Int.toNat t9) M.ae.zero))) default))) (Go.IntKind.wrap Go.IntKind.i64 (t9+(1:Int)))
 else
 none
 else
 some (many)
def DC (bQ:M.ae->Option (Int)) (t:M.ae):Option (Int):=
 match (M.qw bQ (M.ae.Kids t) ((List.length (M.ae.Kids t)):Int) Go.V.aP (1:Int) (0:Int)) with
 |none=>none
 |some y0=>
 some y0
def uh : Nat->M.ae->Option (Int)
 |0=>fun _=>none
 |n+1=>DC (uh n)
def TB : M.ae->Option (Int):=uh Go.V.aP
def qR (aC:M.ae->Option (Bool)) (kid:M.ae):Option (Bool):=
 bif ((Option.isSome (aC (M.ae.re kid)))&&true) then
 some (!(Option.getD (aC (M.ae.re kid)) default))
 else
 none
def dB (aC:M.ae->Option (Bool)) (s:(List M.ae)) (t7:Int):Nat->Int->Option ((Int)⊕(Unit))
 |0,_=>none
 |fuel+1,t8=>
 bif (decide (t8<t7)) then
 let q0:=(M.qR aC (M.ae.re (List.getD s (Int.toNat t8) M.ae.zero)))
 bif (Option.getD q0 default) then
 let q1:=((Option.isSome q0)&&((Go.V.inB t8 (List.length s))&&true))
 bif q1 then
 some (.inl t8)
 else
 none
 else
 let q1:=((Option.isSome q0)&&((Go.V.inB t8 (List.length s))&&true))
 bif q1 then
 M.dB aC s t7 fuel (Go.IntKind.wrap Go.IntKind.i64 (t8+(1:Int)))
 else
 none
 else
 some ((.inr (())))
def fM (aC:M.ae->Option (Bool)) (s:(List M.ae)):Option (Int):=
 match (M.dB aC s ((List.length s):Int) Go.V.aP (0:Int)) with
 |none=>none
 |some y0=>
 (match y0 with
 | .inl a1=>
 some a1
 | .inr b1=>
 some (-(1:Int)))
def dC (aC:M.ae->Option (Bool)) (s:(List M.ae)):Option (Bool):=
 let q0:=(M.fM aC s)
 bif ((Option.isSome q0)&&true) then
 some (decide ((0:Int)<=(Option.getD q0 default)))
 else
 none
def uY (n:Int) (low:Int) (high:Int):Option (Bool):=
 some ((decide (low<=n))&&(decide (n<=high)))
def rV (list:(List (List UInt8))):Option (Int):=
 some ((List.length list):Int)
def oD (s:(List UInt8)) (t7:Int):Nat->Int->Option ((Bool)⊕((List UInt8)))
 |0,_=>none
 |fuel+1,t8=>
 bif (decide (t8<t7)) then
 bif ((decide ((97:Int)<=((UInt8.toNat (List.getD s (Int.toNat t8) (0:UInt8))):Int)))&&(decide (((UInt8.toNat (List.getD s (Int.toNat t8) (0:UInt8))):Int)<=(122:Int)))) then
 let q0:=(((Go.V.inB t8 (List.length s))||(!((decide ((48:Int)<=((UInt8.toNat (List.getD s (Int.toNat t8) (0:UInt8))):Int)))==true)))&&((Go.V.inB t8 (List.length s))&&(((Go.V.inB t8 (List.length s))||(!((decide ((97:Int)<=((UInt8.toNat (List.getD s (Int.toNat t8) (0:UInt8))):Int)))==true)))&&((Go.V.inB t8 (List.length s))&&true))))
 bif q0 then
 M.oD s t7 fuel (Go.IntKind.wrap Go.IntKind.i64 (t8+(1:Int)))
 else
 none
 else
 let q0:=(!((decide ((48:Int)<=((UInt8.toNat (List.getD s (Int.toNat t8) (0:UInt8))):Int)))&&(decide (((UInt8.toNat (List.getD s (Int.toNat t8) (0:UInt8))):Int)<=(57:Int)))))
 bif ((t8==(0:Int))||(q0&&(((UInt8.toNat (List.getD s (Int.toNat t8) (0:UInt8))):Int) !=(45:Int)))) then
 let q1:=(((Go.V.inB t8 (List.length s))||(!((decide ((48:Int)<=((UInt8.toNat (List.getD s (Int.toNat t8) (0:UInt8))):Int)))==true)))&&((Go.V.inB t8 (List.length s))&&(((Go.V.inB t8 (List.length s))||(!((decide ((97:Int)<=((UInt8.toNat (List.getD s (Int.toNat t8) (0:UInt8))):Int)))==true)))&&((Go.V.inB t8 (List.length s))&&true))))
 let q2:=(((Go.V.inB t8 (List.length s))||(!(((t8==(0:Int))==false)&&(q0==true))))&&q1)
 bif q2 then
 some (.inl false)
 else
 none
 else
 let q1:=(((UInt8.toNat (List.getD s (Int.toNat t8) (0:UInt8))):Int)==(45:Int))
 bif (q1&&(((UInt8.toNat (List.getD s (Int.toNat (Go.IntKind.wrap Go.IntKind.i64 (t8-(1:Int)))) (0:UInt8))):Int)==(45:Int))) then
 let q2:=(((Go.V.inB t8 (List.length s))||(!((decide ((48:Int)<=((UInt8.toNat (List.getD s (Int.toNat t8) (0:UInt8))):Int)))==true)))&&((Go.V.inB t8 (List.length s))&&(((Go.V.inB t8 (List.length s))||(!((decide ((97:Int)<=((UInt8.toNat (List.getD s (Int.toNat t8) (0:UInt8))):Int)))==true)))&&((Go.V.inB t8 (List.length s))&&true))))
 let q3:=(((Go.V.inB t8 (List.length s))||(!(((t8==(0:Int))==false)&&(q0==true))))&&q2)
 let q4:=(((Go.V.inB (Go.IntKind.wrap Go.IntKind.i64 (t8-(1:Int))) (List.length s))||(!(q1==true)))&&((Go.V.inB t8 (List.length s))&&q3))
 bif q4 then
 some (.inl false)
 else
 none
 else
 let q2:=(((Go.V.inB t8 (List.length s))||(!((decide ((48:Int)<=((UInt8.toNat (List.getD s (Int.toNat t8) (0:UInt8))):Int)))==true)))&&((Go.V.inB t8 (List.length s))&&(((Go.V.inB t8 (List.length s))||(!((decide ((97:Int)<=((UInt8.toNat (List.getD s (Int.toNat t8) (0:UInt8))):Int)))==true)))&&((Go.V.inB t8 (List.length s))&&true))))
 let q3:=(((Go.V.inB t8 (List.length s))||(!(((t8==(0:Int))==false)&&(q0==true))))&&q2)
 let q4:=(((Go.V.inB (Go.IntKind.wrap Go.IntKind.i64 (t8-(1:Int))) (List.length s))||(!(q1==true)))&&((Go.V.inB t8 (List.length s))&&q3))
 bif q4 then
 M.oD s t7 fuel (Go.IntKind.wrap Go.IntKind.i64 (t8+(1:Int)))
 else
 none
 else
 some ((.inr (s)))
def yJ (s:(List UInt8)):Option (Bool):=
 match (M.oD s ((List.length s):Int) Go.V.aP (0:Int)) with
 |none=>none
 |some y0=>
 (match y0 with
 | .inl a1=>
 some a1
 | .inr b1=>
 let q2:=((decide ((1:Int)<=((List.length b1):Int)))&&(decide (((List.length b1):Int)<=(12:Int))))
 bif (((Go.V.inB (Go.IntKind.wrap Go.IntKind.i64 (((List.length b1):Int)-(1:Int))) (List.length b1))||(!(q2==true)))&&true) then
 some (q2&&(((UInt8.toNat (List.getD b1 (Int.toNat (Go.IntKind.wrap Go.IntKind.i64 (((List.length b1):Int)-(1:Int)))) (0:UInt8))):Int) !=(45:Int)))
 else
 none)
def pR (name:(List UInt8)):Option (Bool):=
 let q0:=(M.yJ name)
 bif ((Option.isSome q0)&&true) then
 some (!(Option.getD q0 default))
 else
 none
def bT (s:(List (List UInt8))) (t7:Int):Nat->Int->Option ((Int)⊕(Unit))
 |0,_=>none
 |fuel+1,t8=>
 bif (decide (t8<t7)) then
 let q0:=(M.pR (List.getD s (Int.toNat t8) []))
 bif (Option.getD q0 default) then
 let q1:=((Option.isSome q0)&&((Go.V.inB t8 (List.length s))&&true))
 bif q1 then
 some (.inl t8)
 else
 none
 else
 let q1:=((Option.isSome q0)&&((Go.V.inB t8 (List.length s))&&true))
 bif q1 then
 M.bT s t7 fuel (Go.IntKind.wrap Go.IntKind.i64 (t8+(1:Int)))
 else
 none
 else
 some ((.inr (())))
def ed (s:(List (List UInt8))):Option (Int):=
 match (M.bT s ((List.length s):Int) Go.V.aP (0:Int)) with
 |none=>none
 |some y0=>
 (match y0 with
 | .inl a1=>
 some a1
 | .inr b1=>
 some (-(1:Int)))
def dw (s:(List (List UInt8))):Option (Bool):=
 let q0:=(M.ed s)
 bif ((Option.isSome q0)&&true) then
 some (decide ((0:Int)<=(Option.getD q0 default)))
 else
 none
def xe (labels:(List (List UInt8))):Option (Bool):=
 let q0:=(M.dw labels)
 let q1:=((decide ((1:Int)<=((List.length labels):Int)))&&(decide (((List.length labels):Int)<=(16:Int))))
 let q2:=(M.qj labels)
 let q3:=(q1&&(Option.getD q2 default))
 bif (((Option.isSome q0)||(!(q3==true)))&&(((Option.isSome q2)||(!(q1==true)))&&true)) then
 some (q3&&(!(Option.getD q0 default)))
 else
 none
def yK (list:(List M.ae)):Option (Int):=
 some ((List.length list):Int)
def H8 (t:M.ae):Option (Bool):=
 some ((M.ae.Kind t)==(1:Int))
def bY (s:(List M.ae)) (t7:Int):Nat->Int->Option ((Int)⊕(Unit))
 |0,_=>none
 |fuel+1,t8=>
 bif (decide (t8<t7)) then
 bif ((M.ae.Kind (List.getD s (Int.toNat t8) M.ae.zero))==(1:Int)) then
 bif ((Go.V.inB t8 (List.length s))&&true) then
 some (.inl t8)
 else
 none
 else
 bif ((Go.V.inB t8 (List.length s))&&true) then
 M.bY s t7 fuel (Go.IntKind.wrap Go.IntKind.i64 (t8+(1:Int)))
 else
 none
 else
 some ((.inr (())))
def eU (s:(List M.ae)):Option (Int):=
 match (M.bY s ((List.length s):Int) Go.V.aP (0:Int)) with
 |none=>none
 |some y0=>
 (match y0 with
 | .inl a1=>
 some a1
 | .inr b1=>
 some (-(1:Int)))
def dF (s:(List M.ae)):Option (Bool):=
 let q0:=(M.eU s)
 bif ((Option.isSome q0)&&true) then
 some (decide ((0:Int)<=(Option.getD q0 default)))
 else
 none
def vg (t:M.ae) (many:Int):Option (Bool):=
 let q0:=(M.dF (M.ae.Kids t))
 bif (((Option.isSome q0)||(!((((List.length (M.ae.Kids t)):Int)==many)==true)))&&true) then
 some ((((List.length (M.ae.Kids t)):Int)==many)&&(!(Option.getD q0 default)))
 else
 none
def dI (s:(List Int)) (v:Int) (t7:Int):Nat->Int->Option ((Int)⊕(Unit))
 |0,_=>none
 |fuel+1,t8=>
 bif (decide (t8<t7)) then
 bif (v==(List.getD s (Int.toNat t8) (0:Int))) then
 bif ((Go.V.inB t8 (List.length s))&&true) then
 some (.inl t8)
 else
 none
 else
 bif ((Go.V.inB t8 (List.length s))&&true) then
 M.dI s v t7 fuel (Go.IntKind.wrap Go.IntKind.i64 (t8+(1:Int)))
 else
 none
 else
 some ((.inr (())))
def gK (s:(List Int)) (v:Int):Option (Int):=
 match (M.dI s v ((List.length s):Int) Go.V.aP (0:Int)) with
 |none=>none
 |some y0=>
 (match y0 with
 | .inl a1=>
 some a1
 | .inr b1=>
 some (-(1:Int)))
def dW (s:(List Int)) (v:Int):Option (Bool):=
 let q0:=(M.gK s v)
 bif ((Option.isSome q0)&&true) then
 some (decide ((0:Int)<=(Option.getD q0 default)))
 else
 none
def qV (aF:M.ae->(List Int)->Option (Bool)) (kid:M.ae) (t1:(List Int)):Option (Bool):=
 bif ((Option.isSome (aF (M.ae.re kid) t1))&&true) then
 some (Option.getD (aF (M.ae.re kid) t1) default)
 else
 none
def bZ (aF:M.ae->(List Int)->Option (Bool)) (s:(List M.ae)) (f:(List Int)) (t7:Int):Nat->Int->Option ((Int)⊕(Unit))
 |0,_=>none
 |fuel+1,t8=>
 bif (decide (t8<t7)) then
 let q0:=(M.qV aF (M.ae.re (List.getD s (Int.toNat t8) M.ae.zero)) f)
 bif (Option.getD q0 default) then
 let q1:=((Option.isSome q0)&&((Go.V.inB t8 (List.length s))&&true))
 bif q1 then
 some (.inl t8)
 else
 none
 else
 let q1:=((Option.isSome q0)&&((Go.V.inB t8 (List.length s))&&true))
 bif q1 then
 M.bZ aF s f t7 fuel (Go.IntKind.wrap Go.IntKind.i64 (t8+(1:Int)))
 else
 none
 else
 some ((.inr (())))
def eX (aF:M.ae->(List Int)->Option (Bool)) (s:(List M.ae)) (f:(List Int)):Option (Int):=
 match (M.bZ aF s f ((List.length s):Int) Go.V.aP (0:Int)) with
 |none=>none
 |some y0=>
 (match y0 with
 | .inl a1=>
 some a1
 | .inr b1=>
 some (-(1:Int)))
def dG (aF:M.ae->(List Int)->Option (Bool)) (s:(List M.ae)) (f:(List Int)):Option (Bool):=
 let q0:=(M.eX aF s f)
 bif ((Option.isSome q0)&&true) then
 some (decide ((0:Int)<=(Option.getD q0 default)))
 else
 none
def yL (aF:M.ae->(List Int)->Option (Bool)) (t:M.ae) (kinds:(List Int)):Option (Bool):=
 let q0:=(M.dG aF (M.ae.Kids t) kinds)
 let q1:=(M.dW kinds (M.ae.Kind t))
 bif (((Option.isSome q0)||(!((Option.getD q1 default)==false)))&&((Option.isSome q1)&&true)) then
 some ((Option.getD q1 default)||(Option.getD q0 default))
 else
 none
def kD : Nat->M.ae->(List Int)->Option (Bool)
 |0=>fun _ _=>none
 |n+1=>yL (kD n)
def pU : M.ae->(List Int)->Option (Bool):=kD Go.V.aP
def ui (aC:M.ae->Option (Bool)) (t:M.ae):Option (Bool):=
 let q0:=(M.dC aC (M.ae.Kids t))
 bif (Option.getD q0 default) then
 bif ((Option.isSome q0)&&true) then
 some false
 else
 none
 else
 let q1:=((decide ((16:Int)<=(M.ae.Kind t)))&&(decide ((M.ae.Kind t)<=(19:Int))))
 let q2:=(M.xe (M.ae.aQ t))
 let q3:=((q1&&(!(Option.getD q2 default)))||((!q1)&&(decide ((0:Int)<((List.length (M.ae.aQ t)):Int)))))
 let q4:=(((M.ae.Kind t)==(20:Int))||((M.ae.Kind t)==(21:Int)))
 let q5:=(M.yJ (M.ae.Name t))
 bif ((q3||(q4&&(!(Option.getD q5 default))))||((!q4)&&(!((M.ae.Name t)==[])))) then
 let q6:=(((Option.isSome q5)||(!((q3==false)&&(q4==true))))&&(((Option.isSome q2)||(!(q1==true)))&&((Option.isSome q0)&&true)))
 bif q6 then
 some false
 else
 none
 else
 bif (bif ((M.ae.Kind t)==(12:Int)) then ((M.ae.Kind t)==(12:Int)) else ((M.ae.Kind t)==(13:Int))) then
 let q6:=(M.vg (M.ae.re t) (1:Int))
 let q7:=(((Option.isSome q5)||(!((q3==false)&&(q4==true))))&&(((Option.isSome q2)||(!(q1==true)))&&((Option.isSome q0)&&true)))
 let q8:=((q7||(!((M.ae.Kind t)==(12:Int))))&&(q7||((M.ae.Kind t)==(12:Int))))
 bif ((Option.isSome q6)&&q8) then
 some (Option.getD q6 default)
 else
 none
 else
 bif ((M.ae.Kind t)==(14:Int)) then
 let q6:=(((Option.isSome q5)||(!((q3==false)&&(q4==true))))&&(((Option.isSome q2)||(!(q1==true)))&&((Option.isSome q0)&&true)))
 let q7:=((q6||(!((M.ae.Kind t)==(12:Int))))&&(q6||((M.ae.Kind t)==(12:Int))))
 bif q7 then
 some (((List.length (M.ae.Kids t)):Int)==(2:Int))
 else
 none
 else
 bif ((M.ae.Kind t)==(15:Int)) then
 let q6:=(M.vg (M.ae.re t) ((List.length (M.ae.Kids t)):Int))
 let q7:=((decide ((1:Int)<=((List.length (M.ae.Kids t)):Int)))&&(decide (((List.length (M.ae.Kids t)):Int)<=(6:Int))))
 let q8:=(((Option.isSome q5)||(!((q3==false)&&(q4==true))))&&(((Option.isSome q2)||(!(q1==true)))&&((Option.isSome q0)&&true)))
 let q9:=((q8||(!((M.ae.Kind t)==(12:Int))))&&(q8||((M.ae.Kind t)==(12:Int))))
 bif (((Option.isSome q6)||(!(q7==true)))&&q9) then
 some (q7&&(Option.getD q6 default))
 else
 none
 else
 bif ((M.ae.Kind t)==(16:Int)) then
 let q6:=(M.vg (M.ae.re t) ((List.length (M.ae.aQ t)):Int))
 let q7:=(((Option.isSome q5)||(!((q3==false)&&(q4==true))))&&(((Option.isSome q2)||(!(q1==true)))&&((Option.isSome q0)&&true)))
 let q8:=((q7||(!((M.ae.Kind t)==(12:Int))))&&(q7||((M.ae.Kind t)==(12:Int))))
 bif ((Option.isSome q6)&&q8) then
 some (Option.getD q6 default)
 else
 none
 else
 bif ((M.ae.Kind t)==(17:Int)) then
 let q6:=(((Option.isSome q5)||(!((q3==false)&&(q4==true))))&&(((Option.isSome q2)||(!(q1==true)))&&((Option.isSome q0)&&true)))
 let q7:=((q6||(!((M.ae.Kind t)==(12:Int))))&&(q6||((M.ae.Kind t)==(12:Int))))
 bif q7 then
 some (((List.length (M.ae.Kids t)):Int)==((List.length (M.ae.aQ t)):Int))
 else
 none
 else
 bif (bif ((M.ae.Kind t)==(22:Int)) then ((M.ae.Kind t)==(22:Int)) else ((M.ae.Kind t)==(23:Int))) then
 let q6:=(M.pU (M.ae.re (List.getD (M.ae.Kids t) (Int.toNat (0:Int)) M.ae.zero)) [(21:Int)])
 let q7:=(!((((List.length (M.ae.Kids t)):Int)==(1:Int))==true))
 let q8:=(((Option.isSome q5)||(!((q3==false)&&(q4==true))))&&(((Option.isSome q2)||(!(q1==true)))&&((Option.isSome q0)&&true)))
 let q9:=((q8||(!((M.ae.Kind t)==(12:Int))))&&(q8||((M.ae.Kind t)==(12:Int))))
 let q10:=((q9||(!((M.ae.Kind t)==(22:Int))))&&(q9||((M.ae.Kind t)==(22:Int))))
 bif (((Option.isSome q6)||q7)&&(((Go.V.inB (0:Int) (List.length (M.ae.Kids t)))||q7)&&q10)) then
 some ((((List.length (M.ae.Kids t)):Int)==(1:Int))&&(!(Option.getD q6 default)))
 else
 none
 else
 let q6:=(((Option.isSome q5)||(!((q3==false)&&(q4==true))))&&(((Option.isSome q2)||(!(q1==true)))&&((Option.isSome q0)&&true)))
 let q7:=((q6||(!((M.ae.Kind t)==(12:Int))))&&(q6||((M.ae.Kind t)==(12:Int))))
 let q8:=((q7||(!((M.ae.Kind t)==(22:Int))))&&(q7||((M.ae.Kind t)==(22:Int))))
 bif q8 then
 some (((decide ((1:Int)<=(M.ae.Kind t)))&&(decide ((M.ae.Kind t)<=(23:Int))))&&(((List.length (M.ae.Kids t)):Int)==(0:Int)))
 else
 none
def mG : Nat->M.ae->Option (Bool)
 |0=>fun _=>none
 |n+1=>ui (mG n)
def Jn : M.ae->Option (Bool):=mG Go.V.aP
def BA (t:M.ae):Option (Bool):=
 let q0:=(M.E5 (M.ae.re t))
 let q1:=(M.Jl (M.ae.re t) (1:Int))
 let q2:=((decide ((Option.getD q1 default).1<=(4:Int)))&&(decide ((Option.getD q1 default).2<=(24:Int))))
 bif (((Option.isSome q0)||(!(q2==true)))&&((Option.isSome q1)&&true)) then
 some (q2&&(Option.getD q0 default))
 else
 none
def kS (aK:M.ae->Option (Int×(List UInt8)×(List (List UInt8))×(List M.ae))) (t7:(List M.ae)) (t8:Int):Nat->Int->(List M.ae)->Option ((List M.ae))
 |0,_,_=>none
 |fuel+1,t9,out=>
 bif (decide (t9<t8)) then
 let q0:=(Option.getD (aK (M.ae.re (List.getD t7 (Int.toNat t9) M.ae.zero))) default)
 let q1:=q0.2
 let q2:=q1.2
 let q3:=[(M.ae.mk q0.1 q1.1 q2.1 q2.2)]
 bif ((decide (((List.length out)+(List.length q3))<=1073741824))&&((Option.isSome (aK (M.ae.re (List.getD t7 (Int.toNat t9) M.ae.zero))))&&((Go.V.inB t9 (List.length t7))&&true))) then
 M.kS aK t7 t8 fuel (Go.IntKind.wrap Go.IntKind.i64 (t9+(1:Int))) (out++q3)
 else
 none
 else
 some (out)
def tX (aK:M.ae->Option (Int×(List UInt8)×(List (List UInt8))×(List M.ae))) (list:(List M.ae)):Option ((List M.ae)):=
 match (M.kS aK list ((List.length list):Int) Go.V.aP (0:Int) []) with
 |none=>none
 |some y0=>
 some y0
def uS (aK:M.ae->Option (Int×(List UInt8)×(List (List UInt8))×(List M.ae))) (t:M.ae):Option (Int×(List UInt8)×(List (List UInt8))×(List M.ae)):=
 let q0:=(M.tX aK (M.ae.Kids t))
 let q1:=(M.dA (M.ae.aQ t))
 bif ((Option.isSome q0)&&((Option.isSome q1)&&true)) then
 some ((M.ae.Kind t),(M.ae.Name t),(Option.getD q1 default),(Option.getD q0 default))
 else
 none
def mf : Nat->M.ae->Option (Int×(List UInt8)×(List (List UInt8))×(List M.ae))
 |0=>fun _=>none
 |n+1=>uS (mf n)
def ES : M.ae->Option (Int×(List UInt8)×(List (List UInt8))×(List M.ae)):=mf Go.V.aP
def jE (t:M.ae):Option (Bool):=
 let q0:=(M.rU (M.ae.re t) (20:Int) (23:Int))
 let q1:=(M.BA (M.ae.re t))
 let q2:=((Option.getD q1 default)&&((M.ae.Kind t) !=(1:Int)))
 bif (((Option.isSome q0)||(!(q2==true)))&&((Option.isSome q1)&&true)) then
 some (q2&&(!(Option.getD q0 default)))
 else
 none
def DK (t:M.ae):Option (Bool):=
 let q0:=(M.BA (M.ae.re t))
 bif ((Option.isSome q0)&&true) then
 some (Option.getD q0 default)
 else
 none
def xm (aj:M.af->M.ae->Option (Bool)) (kids:(List M.af)) (t:M.ae):Option (Bool):=
 bif ((M.ae.Kind t)==(1:Int)) then
 some (((List.length kids):Int)==(0:Int))
 else
 let q0:=(!((((List.length kids):Int)==(1:Int))==true))
 bif (((Option.isSome (aj (M.af.re (List.getD kids (Int.toNat (0:Int)) M.af.zero)) (M.ae.re t)))||q0)&&(((Go.V.inB (0:Int) (List.length kids))||q0)&&true)) then
 some ((((List.length kids):Int)==(1:Int))&&(Option.getD (aj (M.af.re (List.getD kids (Int.toNat (0:Int)) M.af.zero)) (M.ae.re t)) default))
 else
 none
def iE (aj:M.af->M.ae->Option (Bool)) (kids:(List M.af)):Nat->Int->M.ae->Option ((Bool)⊕(Unit))
 |0,_,_=>none
 |fuel+1,i,t=>
 bif (decide (i<((List.length kids):Int))) then
 bif (!(Option.getD (aj (M.af.re (List.getD kids (Int.toNat i) M.af.zero)) (M.ae.re t)) default)) then
 let q0:=((Option.isSome (aj (M.af.re (List.getD kids (Int.toNat i) M.af.zero)) (M.ae.re t)))&&((Go.V.inB i (List.length kids))&&true))
 bif q0 then
 some (.inl false)
 else
 none
 else
 let q0:=((Option.isSome (aj (M.af.re (List.getD kids (Int.toNat i) M.af.zero)) (M.ae.re t)))&&((Go.V.inB i (List.length kids))&&true))
 bif q0 then
 M.iE aj kids fuel (Go.IntKind.wrap Go.IntKind.i64 (i+(1:Int))) (M.ae.re t)
 else
 none
 else
 some ((.inr (())))
def sW (aj:M.af->M.ae->Option (Bool)) (kids:(List M.af)) (most:Int) (t:M.ae):Option (Bool):=
 bif (decide (most<((List.length kids):Int))) then
 some false
 else
 match (M.iE aj kids Go.V.aP (0:Int) (M.ae.re t)) with
 |none=>none
 |some y0=>
 (match y0 with
 | .inl a1=>
 some a1
 | .inr b1=>
 some true)
def jR (n:Int):Option (Bool):=
 some (((decide ((0:Int)<=n))&&(decide (n<=(55295:Int))))||((decide ((57344:Int)<=n))&&(decide (n<=(1114111:Int)))))
def kE (s:(List UInt8)) (many:Int):Nat->Int->Int->Option ((List UInt8)×Int×Int)
 |0,_,_=>none
 |fuel+1,n,i=>
 bif (decide (i<many)) then
 bif ((Go.V.inB i (List.length s))&&true) then
 M.kE s many fuel (Go.V.qF Go.BinOp.or Go.IntKind.i64 (Go.V.Yl Go.IntKind.i64 n (6:Int)) (Go.IntKind.wrap Go.IntKind.i64 (Go.V.qF Go.BinOp.and Go.IntKind.u8 ((UInt8.toNat (List.getD s (Int.toNat i) (0:UInt8))):Int) (63:Int)))) (Go.IntKind.wrap Go.IntKind.i64 (i+(1:Int)))
 else
 none
 else
 some ((s,many,n))
def qW (n:Int):Option ((List UInt8)):=
 bif (decide (n<(128:Int))) then
 bif (((Go.V.JK (Go.IntKind.wrap Go.IntKind.u8 n))&&true)&&true) then
 some (List.map (fun a=>a) [(Go.V.Bj (Go.IntKind.wrap Go.IntKind.u8 n))])
 else
 none
 else
 bif (decide (n<(2048:Int))) then
 let q0:=(Go.IntKind.wrap Go.IntKind.u8 (Go.IntKind.wrap Go.IntKind.i64 ((192:Int)+(Go.V.LK Go.IntKind.i64 n (6:Int)))))
 let q1:=(Go.IntKind.wrap Go.IntKind.u8 (Go.IntKind.wrap Go.IntKind.i64 ((128:Int)+(Go.V.qF Go.BinOp.and Go.IntKind.i64 n (63:Int)))))
 let q2:=((Go.V.JK q1)&&true)
 bif (((Go.V.JK q0)&&q2)&&true) then
 let q3:=[(Go.V.Bj q1)]
 some (List.map (fun a=>a) [(Go.V.Bj q0),(Go.V.Bj q1)])
 else
 none
 else
 bif (decide (n<(65536:Int))) then
 let q0:=(Go.IntKind.wrap Go.IntKind.u8 (Go.IntKind.wrap Go.IntKind.i64 ((224:Int)+(Go.V.LK Go.IntKind.i64 n (12:Int)))))
 let q1:=(Go.IntKind.wrap Go.IntKind.u8 (Go.IntKind.wrap Go.IntKind.i64 ((128:Int)+(Go.V.qF Go.BinOp.and Go.IntKind.i64 (Go.V.LK Go.IntKind.i64 n (6:Int)) (63:Int)))))
 let q2:=(Go.IntKind.wrap Go.IntKind.u8 (Go.IntKind.wrap Go.IntKind.i64 ((128:Int)+(Go.V.qF Go.BinOp.and Go.IntKind.i64 n (63:Int)))))
 let q3:=((Go.V.JK q2)&&true)
 let q4:=((Go.V.JK q1)&&q3)
 bif (((Go.V.JK q0)&&q4)&&true) then
 let q5:=[(Go.V.Bj q2)]
 let q6:=[(Go.V.Bj q1),(Go.V.Bj q2)]
 some (List.map (fun a=>a) [(Go.V.Bj q0),(Go.V.Bj q1),(Go.V.Bj q2)])
 else
 none
 else
 let q0:=(Go.IntKind.wrap Go.IntKind.u8 (Go.IntKind.wrap Go.IntKind.i64 ((240:Int)+(Go.V.LK Go.IntKind.i64 n (18:Int)))))
 let q1:=(Go.IntKind.wrap Go.IntKind.u8 (Go.IntKind.wrap Go.IntKind.i64 ((128:Int)+(Go.V.qF Go.BinOp.and Go.IntKind.i64 (Go.V.LK Go.IntKind.i64 n (12:Int)) (63:Int)))))
 let q2:=(Go.IntKind.wrap Go.IntKind.u8 (Go.IntKind.wrap Go.IntKind.i64 ((128:Int)+(Go.V.qF Go.BinOp.and Go.IntKind.i64 (Go.V.LK Go.IntKind.i64 n (6:Int)) (63:Int)))))
 let q3:=(Go.IntKind.wrap Go.IntKind.u8 (Go.IntKind.wrap Go.IntKind.i64 ((128:Int)+(Go.V.qF Go.BinOp.and Go.IntKind.i64 n (63:Int)))))
 let q4:=((Go.V.JK q3)&&true)
 let q5:=((Go.V.JK q2)&&q4)
 bif (((Go.V.JK q0)&&((Go.V.JK q1)&&q5))&&true) then
 let q6:=[(Go.V.Bj q3)]
 let q7:=[(Go.V.Bj q2),(Go.V.Bj q3)]
 some (List.map (fun a=>a) [(Go.V.Bj q0),(Go.V.Bj q1),(Go.V.Bj q2),(Go.V.Bj q3)])
 else
 none
def xn (s:(List UInt8)):Option (Int×Int):=
 bif (s==[]) then
 some ((0:Int),(0:Int))
 else
 let q0:=(bif (decide ((240:Int)<=((UInt8.toNat (List.getD s (Int.toNat (0:Int)) (0:UInt8))):Int))) then (4:Int) else (bif (decide ((224:Int)<=((UInt8.toNat (List.getD s (Int.toNat (0:Int)) (0:UInt8))):Int))) then (3:Int) else (bif (decide ((192:Int)<=((UInt8.toNat (List.getD s (Int.toNat (0:Int)) (0:UInt8))):Int))) then (2:Int) else (1:Int))))
 bif (decide (((List.length s):Int)<q0)) then
 let q1:=((Go.V.inB (0:Int) (List.length s))&&((Go.V.inB (0:Int) (List.length s))&&((Go.V.inB (0:Int) (List.length s))&&true)))
 let q2:=((Go.V.inB (0:Int) (List.length s))&&q1)
 let q3:=((q1||(!(decide ((240:Int)<=((UInt8.toNat (List.getD s (Int.toNat (0:Int)) (0:UInt8))):Int)))))&&(((q2||(!(decide ((224:Int)<=((UInt8.toNat (List.getD s (Int.toNat (0:Int)) (0:UInt8))):Int)))))&&(((((Go.V.inB (0:Int) (List.length s))&&q2)||(!(decide ((192:Int)<=((UInt8.toNat (List.getD s (Int.toNat (0:Int)) (0:UInt8))):Int)))))&&(q2||(decide ((192:Int)<=((UInt8.toNat (List.getD s (Int.toNat (0:Int)) (0:UInt8))):Int)))))||(decide ((224:Int)<=((UInt8.toNat (List.getD s (Int.toNat (0:Int)) (0:UInt8))):Int)))))||(decide ((240:Int)<=((UInt8.toNat (List.getD s (Int.toNat (0:Int)) (0:UInt8))):Int)))))
 bif q3 then
 some ((0:Int),(0:Int))
 else
 none
 else
 let q1:=(Go.IntKind.wrap Go.IntKind.i64 ((UInt8.toNat (List.getD s (Int.toNat (0:Int)) (0:UInt8))):Int))
 match (M.kE s q0 Go.V.aP (bif (decide ((240:Int)<=((UInt8.toNat (List.getD s (Int.toNat (0:Int)) (0:UInt8))):Int))) then (Go.IntKind.wrap Go.IntKind.i64 (q1-(240:Int))) else (bif (decide ((224:Int)<=((UInt8.toNat (List.getD s (Int.toNat (0:Int)) (0:UInt8))):Int))) then (Go.IntKind.wrap Go.IntKind.i64 (q1-(224:Int))) else (bif (decide ((192:Int)<=((UInt8.toNat (List.getD s (Int.toNat (0:Int)) (0:UInt8))):Int))) then (Go.IntKind.wrap Go.IntKind.i64 (q1-(192:Int))) else q1))) (1:Int)) with
 |none=>none
 |some y2=>
 let q3:=(M.jR y2.2.2)
 let q4:=(!(Option.getD q3 default))
 let q5:=(M.qW y2.2.2)
 bif (q4||(!((Option.getD q5 default)==(List.drop (Int.toNat (0:Int)) (List.take (Int.toNat y2.2.1) y2.1))))) then
 let q6:=(!(q4==false))
 let q7:=((Go.V.inB (0:Int) (List.length s))&&((Go.V.inB (0:Int) (List.length s))&&((Go.V.inB (0:Int) (List.length s))&&true)))
 let q8:=((Go.V.inB (0:Int) (List.length s))&&q7)
 let q9:=((q7||(!(decide ((240:Int)<=((UInt8.toNat (List.getD s (Int.toNat (0:Int)) (0:UInt8))):Int)))))&&(((q8||(!(decide ((224:Int)<=((UInt8.toNat (List.getD s (Int.toNat (0:Int)) (0:UInt8))):Int)))))&&(((((Go.V.inB (0:Int) (List.length s))&&q8)||(!(decide ((192:Int)<=((UInt8.toNat (List.getD s (Int.toNat (0:Int)) (0:UInt8))):Int)))))&&(q8||(decide ((192:Int)<=((UInt8.toNat (List.getD s (Int.toNat (0:Int)) (0:UInt8))):Int)))))||(decide ((224:Int)<=((UInt8.toNat (List.getD s (Int.toNat (0:Int)) (0:UInt8))):Int)))))||(decide ((240:Int)<=((UInt8.toNat (List.getD s (Int.toNat (0:Int)) (0:UInt8))):Int)))))
 let q10:=(((Go.V.qg (0:Int) y2.2.1 (List.length y2.1))||q6)&&(((Option.isSome q5)||q6)&&((Option.isSome q3)&&q9)))
 bif q10 then
 some ((0:Int),(0:Int))
 else
 none
 else
 let q6:=(!(q4==false))
 let q7:=((Go.V.inB (0:Int) (List.length s))&&((Go.V.inB (0:Int) (List.length s))&&((Go.V.inB (0:Int) (List.length s))&&true)))
 let q8:=((Go.V.inB (0:Int) (List.length s))&&q7)
 let q9:=((q7||(!(decide ((240:Int)<=((UInt8.toNat (List.getD s (Int.toNat (0:Int)) (0:UInt8))):Int)))))&&(((q8||(!(decide ((224:Int)<=((UInt8.toNat (List.getD s (Int.toNat (0:Int)) (0:UInt8))):Int)))))&&(((((Go.V.inB (0:Int) (List.length s))&&q8)||(!(decide ((192:Int)<=((UInt8.toNat (List.getD s (Int.toNat (0:Int)) (0:UInt8))):Int)))))&&(q8||(decide ((192:Int)<=((UInt8.toNat (List.getD s (Int.toNat (0:Int)) (0:UInt8))):Int)))))||(decide ((224:Int)<=((UInt8.toNat (List.getD s (Int.toNat (0:Int)) (0:UInt8))):Int)))))||(decide ((240:Int)<=((UInt8.toNat (List.getD s (Int.toNat (0:Int)) (0:UInt8))):Int)))))
 let q10:=(((Go.V.qg (0:Int) y2.2.1 (List.length y2.1))||q6)&&(((Option.isSome q5)||q6)&&((Option.isSome q3)&&q9)))
 bif q10 then
 some (y2.2.2,y2.2.1)
 else
 none
def kY : Nat->(List UInt8)->(List Int)->Option ((Bool×(List Int))⊕((List Int)))
 |0,_,_=>none
 |fuel+1,s,out=>
 bif (decide ((0:Int)<((List.length s):Int))) then
 let q0:=(M.xn s)
 bif ((Option.getD q0 default).2==(0:Int)) then
 bif ((Option.isSome q0)&&true) then
 some (.inl (false,[]))
 else
 none
 else
 let q1:=[(Option.getD q0 default).1]
 bif ((Go.V.qg (Option.getD q0 default).2 ((List.length s):Int) (List.length s))&&((decide (((List.length out)+(List.length q1))<=1073741824))&&((Option.isSome q0)&&true))) then
 M.kY fuel (List.drop (Int.toNat (Option.getD q0 default).2) (List.take (Int.toNat ((List.length s):Int)) s)) (out++q1)
 else
 none
 else
 some ((.inr (out)))
def uj (s:(List UInt8)):Option ((List Int)×Bool):=
 match (M.kY Go.V.aP s []) with
 |none=>none
 |some y0=>
 (match y0 with
 | .inl a1=>
 some (a1.2,a1.1)
 | .inr b1=>
 some (b1,true))
def DR (s:(List UInt8)):Option (Bool):=
 bif (decide ((24:Int)<((List.length s):Int))) then
 some false
 else
 let q0:=(M.uj s)
 bif ((Option.isSome q0)&&true) then
 some (Option.getD q0 default).2
 else
 none
def kF (aj:M.af->M.ae->Option (Bool)) (kids:(List M.af)) (ts:(List M.ae)):Nat->Int->Option ((Bool)⊕(Unit))
 |0,_=>none
 |fuel+1,i=>
 bif (decide (i<((List.length kids):Int))) then
 bif (!(Option.getD (aj (M.af.re (List.getD kids (Int.toNat i) M.af.zero)) (M.ae.re (List.getD ts (Int.toNat i) M.ae.zero))) default)) then
 let q0:=((Option.isSome (aj (M.af.re (List.getD kids (Int.toNat i) M.af.zero)) (M.ae.re (List.getD ts (Int.toNat i) M.ae.zero))))&&((Go.V.inB i (List.length ts))&&((Go.V.inB i (List.length kids))&&true)))
 bif q0 then
 some (.inl false)
 else
 none
 else
 let q0:=((Option.isSome (aj (M.af.re (List.getD kids (Int.toNat i) M.af.zero)) (M.ae.re (List.getD ts (Int.toNat i) M.ae.zero))))&&((Go.V.inB i (List.length ts))&&((Go.V.inB i (List.length kids))&&true)))
 bif q0 then
 M.kF aj kids ts fuel (Go.IntKind.wrap Go.IntKind.i64 (i+(1:Int)))
 else
 none
 else
 some ((.inr (())))
def DT (aj:M.af->M.ae->Option (Bool)) (kids:(List M.af)) (ts:(List M.ae)):Option (Bool):=
 bif (((List.length kids):Int) !=((List.length ts):Int)) then
 some false
 else
 match (M.kF aj kids ts Go.V.aP (0:Int)) with
 |none=>none
 |some y0=>
 (match y0 with
 | .inl a1=>
 some a1
 | .inr b1=>
 some true)
def Az (kind:Int):Option (Int×Int×Bool):=
 bif (kind==(3:Int)) then
 some ((0:Int),(255:Int),true)
 else
 bif (kind==(4:Int)) then
 some ((-(128:Int)),(127:Int),true)
 else
 bif (kind==(5:Int)) then
 some ((0:Int),(65535:Int),true)
 else
 bif (kind==(6:Int)) then
 some ((-(32768:Int)),(32767:Int),true)
 else
 bif (kind==(7:Int)) then
 some ((0:Int),(4294967295:Int),true)
 else
 bif (kind==(8:Int)) then
 some ((-(2147483648:Int)),(2147483647:Int),true)
 else
 bif (kind==(9:Int)) then
 some ((-(9223372036854775808:Int)),(9223372036854775807:Int),true)
 else
 some ((0:Int),(0:Int),false)
def mJ (aj:M.af->M.ae->Option (Bool)) (v:M.af) (t:M.ae):Option (Bool):=
 bif (((M.af.Kind v) !=(M.ae.Kind t))||(((M.ae.Kind t) !=(11:Int))&&(!((M.af.Text v)==[])))) then
 some false
 else
 bif (bif ((M.ae.Kind t)==(2:Int)) then ((M.ae.Kind t)==(2:Int)) else ((M.ae.Kind t)==(14:Int))) then
 bif (!((decide ((0:Int)<=(M.af.Num v)))&&(decide ((M.af.Num v)<=(1:Int))))) then
 some false
 else
 let q0:=(((M.ae.Kind t)==(14:Int))||((M.ae.Kind t)==(17:Int)))
 bif q0 then
 let q1:=(M.xm aj (M.af.Kids v) (M.ae.re (List.getD (M.ae.Kids t) (Int.toNat (M.af.Num v)) M.ae.zero)))
 let q2:=(Option.isSome q1)
 bif (q2&&((Go.V.inB (M.af.Num v) (List.length (M.ae.Kids t)))&&true)) then
 let q3:=(Option.getD q1 default)
 some q3
 else
 none
 else
 some (((List.length (M.af.Kids v)):Int)==(0:Int))
 else
 bif ((M.ae.Kind t)==(13:Int)) then
 let q0:=(M.sW aj (M.af.Kids v) (1:Int) (M.ae.re (List.getD (M.ae.Kids t) (Int.toNat (0:Int)) M.ae.zero)))
 let q1:=(!(((M.af.Num v)==((List.length (M.af.Kids v)):Int))==true))
 bif (((Option.isSome q0)||q1)&&(((Go.V.inB (0:Int) (List.length (M.ae.Kids t)))||q1)&&true)) then
 some (((M.af.Num v)==((List.length (M.af.Kids v)):Int))&&(Option.getD q0 default))
 else
 none
 else
 bif ((M.ae.Kind t)==(10:Int)) then
 some ((Option.getD (M.jR (M.af.Num v)) default)&&(((List.length (M.af.Kids v)):Int)==(0:Int)))
 else
 bif ((M.ae.Kind t)==(11:Int)) then
 let q0:=(M.DR (M.af.Text v))
 bif ((Option.isSome q0)&&true) then
 some (((Option.getD q0 default)&&((M.af.Num v)==(0:Int)))&&(((List.length (M.af.Kids v)):Int)==(0:Int)))
 else
 none
 else
 bif ((M.ae.Kind t)==(12:Int)) then
 let q0:=(M.sW aj (M.af.Kids v) (8:Int) (M.ae.re (List.getD (M.ae.Kids t) (Int.toNat (0:Int)) M.ae.zero)))
 let q1:=(!(((M.af.Num v)==(0:Int))==true))
 bif (((Option.isSome q0)||q1)&&(((Go.V.inB (0:Int) (List.length (M.ae.Kids t)))||q1)&&true)) then
 some (((M.af.Num v)==(0:Int))&&(Option.getD q0 default))
 else
 none
 else
 bif (bif ((M.ae.Kind t)==(15:Int)) then ((M.ae.Kind t)==(15:Int)) else ((M.ae.Kind t)==(16:Int))) then
 let q0:=(M.DT aj (M.af.Kids v) (M.ae.Kids t))
 let q1:=(!(((M.af.Num v)==(0:Int))==true))
 bif (((Option.isSome q0)||q1)&&true) then
 some (((M.af.Num v)==(0:Int))&&(Option.getD q0 default))
 else
 none
 else
 let q0:=(bif ((M.ae.Kind t)==(17:Int)) then ((M.ae.Kind t)==(17:Int)) else ((M.ae.Kind t)==(18:Int)))
 let q1:=(bif ((M.ae.Kind t)==(20:Int)) then ((M.ae.Kind t)==(20:Int)) else (bif ((M.ae.Kind t)==(21:Int)) then ((M.ae.Kind t)==(21:Int)) else (bif ((M.ae.Kind t)==(22:Int)) then ((M.ae.Kind t)==(22:Int)) else ((M.ae.Kind t)==(23:Int)))))
 let q2:=(M.Az (M.ae.Kind t))
 bif (!((decide ((bif q0 then (0:Int) else (bif ((M.ae.Kind t)==(19:Int)) then (0:Int) else (bif q1 then (0:Int) else (Option.getD q2 default).1)))<=(M.af.Num v)))&&(decide ((M.af.Num v)<=(bif q0 then (Go.IntKind.wrap Go.IntKind.i64 (((List.length (M.ae.aQ t)):Int)-(1:Int))) else (bif ((M.ae.Kind t)==(19:Int)) then (Go.IntKind.wrap Go.IntKind.i64 ((Go.V.Yl Go.IntKind.i64 (1:Int) (Go.IntKind.wrap Go.IntKind.u64 ((List.length (M.ae.aQ t)):Int)))-(1:Int))) else (bif q1 then (2147483647:Int) else (Option.getD q2 default).2.1))))))) then
 let q3:=(((((Option.isSome q2)&&true)||q1)||((M.ae.Kind t)==(19:Int)))||q0)
 bif q3 then
 some false
 else
 none
 else
 let q3:=(((M.ae.Kind t)==(14:Int))||((M.ae.Kind t)==(17:Int)))
 bif q3 then
 let q4:=(M.xm aj (M.af.Kids v) (M.ae.re (List.getD (M.ae.Kids t) (Int.toNat (M.af.Num v)) M.ae.zero)))
 let q5:=(Option.isSome q4)
 let q6:=(((((Option.isSome q2)&&true)||q1)||((M.ae.Kind t)==(19:Int)))||q0)
 bif (q5&&((Go.V.inB (M.af.Num v) (List.length (M.ae.Kids t)))&&q6)) then
 let q7:=(Option.getD q4 default)
 some q7
 else
 none
 else
 let q4:=(((((Option.isSome q2)&&true)||q1)||((M.ae.Kind t)==(19:Int)))||q0)
 bif q4 then
 some (((List.length (M.af.Kids v)):Int)==(0:Int))
 else
 none
def qA : Nat->M.af->M.ae->Option (Bool)
 |0=>fun _ _=>none
 |n+1=>mJ (qA n)
def Jo : M.af->M.ae->Option (Bool):=qA Go.V.aP
def O8 (v:M.af) (t:M.ae):Option (Bool):=
 let q0:=(M.Jo (M.af.re v) (M.ae.re t))
 let q1:=(M.DK (M.ae.re t))
 bif (((Option.isSome q0)||(!((Option.getD q1 default)==true)))&&((Option.isSome q1)&&true)) then
 some ((Option.getD q1 default)&&(Option.getD q0 default))
 else
 none
def jq (list:(List M.af)):Nat->Int->M.ae->Option ((Bool)⊕(Unit))
 |0,_,_=>none
 |fuel+1,i,t=>
 bif (decide (i<((List.length list):Int))) then
 let q0:=(M.O8 (M.af.re (List.getD list (Int.toNat i) M.af.zero)) (M.ae.re t))
 bif (!(Option.getD q0 default)) then
 let q1:=((Option.isSome q0)&&((Go.V.inB i (List.length list))&&true))
 bif q1 then
 some (.inl false)
 else
 none
 else
 let q1:=((Option.isSome q0)&&((Go.V.inB i (List.length list))&&true))
 bif q1 then
 M.jq list fuel (Go.IntKind.wrap Go.IntKind.i64 (i+(1:Int))) (M.ae.re t)
 else
 none
 else
 some ((.inr (())))
def zU (list:(List M.af)) (t:M.ae) (most:Int):Option (Bool):=
 bif (decide (most<((List.length list):Int))) then
 some false
 else
 match (M.jq list Go.V.aP (0:Int) (M.ae.re t)) with
 |none=>none
 |some y0=>
 (match y0 with
 | .inl a1=>
 some a1
 | .inr b1=>
 some true)
def je (s:M.ah):Option (Bool):=
 let q0:=(M.jE (M.ae.re (M.ah.aO s)))
 let q1:=(((!(Option.getD q0 default))||(!((decide ((1:Int)<=(M.ah.Room s)))&&(decide ((M.ah.Room s)<=(6:Int))))))||((M.ah.bu s)&&((M.ah.Room s) !=(1:Int))))
 let q2:=(M.zU (M.ah.Buffer s) (M.ae.re (M.ah.aO s)) (M.ah.Room s))
 bif (q1||(!(Option.getD q2 default))) then
 let q3:=(((Option.isSome q2)||(!(q1==false)))&&((Option.isSome q0)&&true))
 bif q3 then
 some false
 else
 none
 else
 bif (((decide ((M.ah.qM s)<(0:Int)))||(!((decide ((M.ah.qM s)<=(M.ah.Put s)))&&(decide ((M.ah.Put s)<=(1000000:Int))))))||((M.ah.bu s)&&(decide ((1:Int)<(M.ah.Put s))))) then
 let q3:=(((Option.isSome q2)||(!(q1==false)))&&((Option.isSome q0)&&true))
 bif q3 then
 some false
 else
 none
 else
 bif (((M.ah.Gone s)&&(decide ((0:Int)<((List.length (M.ah.Buffer s)):Int))))||((!(M.ah.Gone s))&&((Go.IntKind.wrap Go.IntKind.i64 ((M.ah.Put s)-(M.ah.qM s))) !=((List.length (M.ah.Buffer s)):Int)))) then
 let q3:=(((Option.isSome q2)||(!(q1==false)))&&((Option.isSome q0)&&true))
 bif q3 then
 some false
 else
 none
 else
 let q3:=(((Option.isSome q2)||(!(q1==false)))&&((Option.isSome q0)&&true))
 bif q3 then
 some ((((!(M.ah.bu s))||(!(M.ah.Shut s)))||((M.ah.Put s)==(1:Int)))||(M.ah.Gone s))
 else
 none
def oz (bH:M.ae->Option (M.ae)) (t2:Int) (t22:(List UInt8)) (out:Int) (adK:(List UInt8)) (o7:(List (List UInt8))) (o8:(List M.ae)) (o9:(List (List UInt8))):Nat->Int->M.ae->(List M.ae)->Option (Int×(List UInt8)×Int×(List UInt8)×(List (List UInt8))×(List M.ae)×(List (List UInt8))×(List M.ae))
 |0,_,_,_=>none
 |fuel+1,i,t,OY=>
 bif (decide (i<((List.length (M.ae.Kids t)):Int))) then
 let q0:=[(M.ae.re (Option.getD (bH (M.ae.re (List.getD (M.ae.Kids t) (Int.toNat i) M.ae.zero))) default))]
 bif ((decide (((List.length OY)+(List.length q0))<=1073741824))&&((Option.isSome (bH (M.ae.re (List.getD (M.ae.Kids t) (Int.toNat i) M.ae.zero))))&&((Go.V.inB i (List.length (M.ae.Kids t)))&&true))) then
 M.oz bH t2 t22 out adK o7 o8 o9 fuel (Go.IntKind.wrap Go.IntKind.i64 (i+(1:Int))) (M.ae.re t) (OY++q0)
 else
 none
 else
 some ((t2,t22,out,adK,o7,o8,o9,OY))
def Ad (bH:M.ae->Option (M.ae)) (t:M.ae):Option (M.ae):=
 match (M.oz bH (0:Int) [] (M.ae.Kind t) (M.ae.Name t) [] [] ([]++(M.ae.aQ t)) Go.V.aP (0:Int) (M.ae.re t) []) with
 |none=>none
 |some y0=>
 bif ((decide ((0+(List.length (M.ae.aQ t)))<=1073741824))&&true) then
 let q1:=y0.2.2
 let q2:=q1.2
 let q3:=q2.2.2.2
 some (M.ae.mk q1.1 q2.1 q3.1 q3.2)
 else
 none
def ql : Nat->M.ae->Option (M.ae)
 |0=>fun _=>none
 |n+1=>Ad (ql n)
def nN : M.ae->Option (M.ae):=ql Go.V.aP
def jk (aZ:M.af->Option (M.af)) (t2:Int) (t22:Int) (t23:(List UInt8)) (out:Int) (adK:Int) (ahf:(List UInt8)) (o5:(List M.af)):Nat->Int->M.af->(List M.af)->Option (Int×Int×(List UInt8)×Int×Int×(List UInt8)×(List M.af)×(List M.af))
 |0,_,_,_=>none
 |fuel+1,i,v,o6=>
 bif (decide (i<((List.length (M.af.Kids v)):Int))) then
 let q0:=[(M.af.re (Option.getD (aZ (M.af.re (List.getD (M.af.Kids v) (Int.toNat i) M.af.zero))) default))]
 bif ((decide (((List.length o6)+(List.length q0))<=1073741824))&&((Option.isSome (aZ (M.af.re (List.getD (M.af.Kids v) (Int.toNat i) M.af.zero))))&&((Go.V.inB i (List.length (M.af.Kids v)))&&true))) then
 M.jk aZ t2 t22 t23 out adK ahf o5 fuel (Go.IntKind.wrap Go.IntKind.i64 (i+(1:Int))) (M.af.re v) (o6++q0)
 else
 none
 else
 some ((t2,t22,t23,out,adK,ahf,o5,o6))
def uT (aZ:M.af->Option (M.af)) (v:M.af):Option (M.af):=
 match (M.jk aZ (0:Int) (0:Int) [] (M.af.Kind v) (M.af.Num v) (M.af.Text v) [] Go.V.aP (0:Int) (M.af.re v) []) with
 |none=>none
 |some y0=>
 let q1:=y0.2.2.2
 let q2:=q1.2
 let q3:=q2.2
 some (M.af.mk q1.1 q2.1 q3.1 q3.2.2)
def jT : Nat->M.af->Option (M.af)
 |0=>fun _=>none
 |n+1=>uT (jT n)
def ET : M.af->Option (M.af):=jT Go.V.aP
def aiv (s:M.ah):Option (M.ah×Int):=
 bif (M.ah.Gone s) then
 some ((M.ah.mk (M.ae.mk (0:Int) [] [] []) (0:Int) false [] (0:Int) (0:Int) false false),(5:Int))
 else
 some ((M.ah.mk (M.ae.re (M.ah.aO s)) (M.ah.Room s) (M.ah.bu s) [] (M.ah.Put s) (M.ah.qM s) (M.ah.Shut s) true),(0:Int))
def DV (t:M.ae):Option (Bool):=
 let q0:=(M.Jn (M.ae.re t))
 let q1:=(M.X3 (M.ae.re t) (4:Int))
 let q2:=(M.TB (M.ae.re t))
 let q3:=((decide ((Option.getD q1 default)<=(4:Int)))&&(decide ((Option.getD q2 default)<=(24:Int))))
 bif (((Option.isSome q0)||(!(q3==true)))&&(((Option.isSome q2)||(!((decide ((Option.getD q1 default)<=(4:Int)))==true)))&&((Option.isSome q1)&&true))) then
 some (q3&&(Option.getD q0 default))
 else
 none
def qX (t:M.ae):Option (Bool):=
 let q0:=(M.pU (M.ae.re t) [(20:Int),(21:Int),(22:Int),(23:Int)])
 let q1:=(M.DV (M.ae.re t))
 let q2:=((Option.getD q1 default)&&(!((M.ae.Kind t)==(1:Int))))
 bif (((Option.isSome q0)||(!(q2==true)))&&((Option.isSome q1)&&true)) then
 some (q2&&(!(Option.getD q0 default)))
 else
 none
def vG (list:(List M.af)):Option (Int):=
 some ((List.length list):Int)
def xu (kind:Int):Option (Int×Int×Bool):=
 bif (kind==(3:Int)) then
 some ((0:Int),(255:Int),true)
 else
 bif (kind==(4:Int)) then
 some ((-(128:Int)),(127:Int),true)
 else
 bif (kind==(5:Int)) then
 some ((0:Int),(65535:Int),true)
 else
 bif (kind==(6:Int)) then
 some ((-(32768:Int)),(32767:Int),true)
 else
 bif (kind==(7:Int)) then
 some ((0:Int),(4294967295:Int),true)
 else
 bif (kind==(8:Int)) then
 some ((-(2147483648:Int)),(2147483647:Int),true)
 else
 bif (kind==(9:Int)) then
 some ((-(9223372036854775808:Int)),(9223372036854775807:Int),true)
 else
 some ((0:Int),(0:Int),false)
def Nw (n:Int):Option (Bool):=
 some (((decide ((0:Int)<=n))&&(decide (n<=(55295:Int))))||((decide ((57344:Int)<=n))&&(decide (n<=(1114111:Int)))))
def Jp (v:M.af) (t:M.ae):Option (Bool):=
 bif (bif ((M.ae.Kind t)==(2:Int)) then ((M.ae.Kind t)==(2:Int)) else (bif ((M.ae.Kind t)==(13:Int)) then ((M.ae.Kind t)==(13:Int)) else ((M.ae.Kind t)==(14:Int)))) then
 some ((decide ((0:Int)<=(M.af.Num v)))&&(decide ((M.af.Num v)<=(1:Int))))
 else
 bif (bif ((M.ae.Kind t)==(3:Int)) then ((M.ae.Kind t)==(3:Int)) else (bif ((M.ae.Kind t)==(4:Int)) then ((M.ae.Kind t)==(4:Int)) else (bif ((M.ae.Kind t)==(5:Int)) then ((M.ae.Kind t)==(5:Int)) else (bif ((M.ae.Kind t)==(6:Int)) then ((M.ae.Kind t)==(6:Int)) else (bif ((M.ae.Kind t)==(7:Int)) then ((M.ae.Kind t)==(7:Int)) else (bif ((M.ae.Kind t)==(8:Int)) then ((M.ae.Kind t)==(8:Int)) else ((M.ae.Kind t)==(9:Int)))))))) then
 let q0:=(M.xu (M.ae.Kind t))
 bif ((Option.isSome q0)&&true) then
 some ((decide ((Option.getD q0 default).1<=(M.af.Num v)))&&(decide ((M.af.Num v)<=(Option.getD q0 default).2.1)))
 else
 none
 else
 bif ((M.ae.Kind t)==(10:Int)) then
 some (Option.getD (M.Nw (M.af.Num v)) default)
 else
 some ((decide ((0:Int)<=(M.af.Num v)))&&(decide ((M.af.Num v)<=(bif (bif ((M.ae.Kind t)==(17:Int)) then ((M.ae.Kind t)==(17:Int)) else ((M.ae.Kind t)==(18:Int))) then (Go.IntKind.wrap Go.IntKind.i64 (((List.length (M.ae.aQ t)):Int)-(1:Int))) else (bif ((M.ae.Kind t)==(19:Int)) then (Go.IntKind.wrap Go.IntKind.i64 ((Go.V.Yl Go.IntKind.i64 (1:Int) ((List.length (M.ae.aQ t)):Int))-(1:Int))) else (bif (bif ((M.ae.Kind t)==(20:Int)) then ((M.ae.Kind t)==(20:Int)) else (bif ((M.ae.Kind t)==(21:Int)) then ((M.ae.Kind t)==(21:Int)) else (bif ((M.ae.Kind t)==(22:Int)) then ((M.ae.Kind t)==(22:Int)) else ((M.ae.Kind t)==(23:Int))))) then (2147483647:Int) else (0:Int)))))))
def DW (s:(List UInt8)):Option (Bool):=
 let q0:=(M.dJ s)
 bif (((Option.isSome q0)||(!((decide (((List.length s):Int)<=(24:Int)))==true)))&&true) then
 some ((decide (((List.length s):Int)<=(24:Int)))&&(Option.getD q0 default))
 else
 none
def qB (t:M.ae) (num:Int):Option (M.ae×Bool):=
 bif ((M.ae.Kind t)==(13:Int)) then
 bif (num==(0:Int)) then
 some ((M.ae.mk (1:Int) [] [] []),true)
 else
 bif (!((decide ((0:Int)<=(Go.IntKind.wrap Go.IntKind.i64 (num-(1:Int)))))&&(decide ((Go.IntKind.wrap Go.IntKind.i64 (num-(1:Int)))<=(Go.IntKind.wrap Go.IntKind.i64 (((List.length (M.ae.Kids t)):Int)-(1:Int))))))) then
 some ((M.ae.mk (0:Int) [] [] []),false)
 else
 bif ((Go.V.inB (Go.IntKind.wrap Go.IntKind.i64 (num-(1:Int))) (List.length (M.ae.Kids t)))&&true) then
 some ((M.ae.re (List.getD (M.ae.Kids t) (Int.toNat (Go.IntKind.wrap Go.IntKind.i64 (num-(1:Int)))) M.ae.zero)),true)
 else
 none
 else
 bif (!((decide ((0:Int)<=num))&&(decide (num<=(Go.IntKind.wrap Go.IntKind.i64 (((List.length (M.ae.Kids t)):Int)-(1:Int))))))) then
 some ((M.ae.mk (0:Int) [] [] []),false)
 else
 bif ((Go.V.inB num (List.length (M.ae.Kids t)))&&true) then
 some ((M.ae.re (List.getD (M.ae.Kids t) (Int.toNat num) M.ae.zero)),true)
 else
 none
def xw (v:M.af) (t:M.ae):Option ((List M.ae)×Bool):=
 bif ((M.ae.Kind t)==(12:Int)) then
 let q0:=(M.dP (M.ae.Kids t) (bif (decide ((8:Int)<((List.length (M.af.Kids v)):Int))) then (8:Int) else ((List.length (M.af.Kids v)):Int)))
 bif ((Option.isSome q0)&&true) then
 some ((Option.getD q0 default),true)
 else
 none
 else
 bif (bif ((M.ae.Kind t)==(15:Int)) then ((M.ae.Kind t)==(15:Int)) else ((M.ae.Kind t)==(16:Int))) then
 some ((M.ae.Kids t),true)
 else
 bif (bif ((M.ae.Kind t)==(13:Int)) then ((M.ae.Kind t)==(13:Int)) else (bif ((M.ae.Kind t)==(14:Int)) then ((M.ae.Kind t)==(14:Int)) else ((M.ae.Kind t)==(17:Int)))) then
 let q0:=(M.qB (M.ae.re t) (M.af.Num v))
 bif ((M.ae.Kind (Option.getD q0 default).1)==(1:Int)) then
 bif ((Option.isSome q0)&&true) then
 some ([],(Option.getD q0 default).2)
 else
 none
 else
 bif ((Option.isSome q0)&&true) then
 some ([(M.ae.re (Option.getD q0 default).1)],(Option.getD q0 default).2)
 else
 none
 else
 some ([],true)
def pW (cu:M.af->M.ae->Option (Bool)) (kids:(List M.ae)) (t53:(List M.af)) (t54:Int):Nat->Int->Option ((Bool)⊕(Unit))
 |0,_=>none
 |fuel+1,t55=>
 bif (decide (t55<t54)) then
 bif (!(Option.getD (cu (M.af.re (List.getD t53 (Int.toNat t55) M.af.zero)) (M.ae.re (List.getD kids (Int.toNat t55) M.ae.zero))) default)) then
 let q0:=((Option.isSome (cu (M.af.re (List.getD t53 (Int.toNat t55) M.af.zero)) (M.ae.re (List.getD kids (Int.toNat t55) M.ae.zero))))&&((Go.V.inB t55 (List.length kids))&&((Go.V.inB t55 (List.length t53))&&true)))
 bif q0 then
 some (.inl false)
 else
 none
 else
 let q0:=((Option.isSome (cu (M.af.re (List.getD t53 (Int.toNat t55) M.af.zero)) (M.ae.re (List.getD kids (Int.toNat t55) M.ae.zero))))&&((Go.V.inB t55 (List.length kids))&&((Go.V.inB t55 (List.length t53))&&true)))
 bif q0 then
 M.pW cu kids t53 t54 fuel (Go.IntKind.wrap Go.IntKind.i64 (t55+(1:Int)))
 else
 none
 else
 some ((.inr (())))
def Ih (cu:M.af->M.ae->Option (Bool)) (v:M.af) (t:M.ae):Option (Bool):=
 let q0:=(M.Jp (M.af.re v) (M.ae.re t))
 let q1:=((((M.af.Kind v) !=(M.ae.Kind t))||(!(Option.getD q0 default)))||((!((M.af.Text v)==[]))&&((M.ae.Kind t) !=(11:Int))))
 let q2:=(M.DW (M.af.Text v))
 bif (q1||(!(Option.getD q2 default))) then
 let q3:=(((Option.isSome q2)||(!(q1==false)))&&(((Option.isSome q0)||(!(((M.af.Kind v) !=(M.ae.Kind t))==false)))&&true))
 bif q3 then
 some false
 else
 none
 else
 let q3:=(M.xw (M.af.re v) (M.ae.re t))
 let q4:=(Option.getD q3 default).1
 bif ((!(Option.getD q3 default).2)||(((List.length q4):Int) !=((List.length (M.af.Kids v)):Int))) then
 let q5:=(((Option.isSome q2)||(!(q1==false)))&&(((Option.isSome q0)||(!(((M.af.Kind v) !=(M.ae.Kind t))==false)))&&true))
 let q6:=((Option.isSome q3)&&q5)
 bif q6 then
 some false
 else
 none
 else
 match (M.pW cu q4 (M.af.Kids v) ((List.length (M.af.Kids v)):Int) Go.V.aP (0:Int)) with
 |none=>none
 |some y5=>
 (match y5 with
 | .inl a6=>
 let q7:=(((Option.isSome q2)||(!(q1==false)))&&(((Option.isSome q0)||(!(((M.af.Kind v) !=(M.ae.Kind t))==false)))&&true))
 let q8:=((Option.isSome q3)&&q7)
 bif q8 then
 some a6
 else
 none
 | .inr b6=>
 let q7:=(((Option.isSome q2)||(!(q1==false)))&&(((Option.isSome q0)||(!(((M.af.Kind v) !=(M.ae.Kind t))==false)))&&true))
 let q8:=((Option.isSome q3)&&q7)
 bif q8 then
 some true
 else
 none)
def rY : Nat->M.af->M.ae->Option (Bool)
 |0=>fun _ _=>none
 |n+1=>Ih (rY n)
def Yd : M.af->M.ae->Option (Bool):=rY Go.V.aP
def pX (v:M.af) (t1:M.ah):Option (Bool):=
 let q0:=(M.Yd (M.af.re v) (M.ae.re (M.ah.aO t1)))
 bif ((Option.isSome q0)&&true) then
 some (!(Option.getD q0 default))
 else
 none
def cO (s:(List M.af)) (f:M.ah) (t7:Int):Nat->Int->Option ((Int)⊕(Unit))
 |0,_=>none
 |fuel+1,t8=>
 bif (decide (t8<t7)) then
 let q0:=(M.pX (M.af.re (List.getD s (Int.toNat t8) M.af.zero)) f)
 bif (Option.getD q0 default) then
 let q1:=((Option.isSome q0)&&((Go.V.inB t8 (List.length s))&&true))
 bif q1 then
 some (.inl t8)
 else
 none
 else
 let q1:=((Option.isSome q0)&&((Go.V.inB t8 (List.length s))&&true))
 bif q1 then
 M.cO s f t7 fuel (Go.IntKind.wrap Go.IntKind.i64 (t8+(1:Int)))
 else
 none
 else
 some ((.inr (())))
def eY (s:(List M.af)) (f:M.ah):Option (Int):=
 match (M.cO s f ((List.length s):Int) Go.V.aP (0:Int)) with
 |none=>none
 |some y0=>
 (match y0 with
 | .inl a1=>
 some a1
 | .inr b1=>
 some (-(1:Int)))
def dH (s:(List M.af)) (f:M.ah):Option (Bool):=
 let q0:=(M.eY s f)
 bif ((Option.isSome q0)&&true) then
 some (decide ((0:Int)<=(Option.getD q0 default)))
 else
 none
def vI (s:M.ah):Option (Int):=
 bif (M.ah.bu s) then
 some (1:Int)
 else
 some (1000000:Int)
def jM (s:M.ah):Option (Bool):=
 let q0:=(M.qX (M.ae.re (M.ah.aO s)))
 bif ((((!(Option.getD q0 default))||(!((decide ((1:Int)<=(M.ah.Room s)))&&(decide ((M.ah.Room s)<=(6:Int))))))||((M.ah.bu s)&&((M.ah.Room s) !=(1:Int))))||(decide ((M.ah.Room s)<((List.length (M.ah.Buffer s)):Int)))) then
 bif ((Option.isSome q0)&&true) then
 some false
 else
 none
 else
 let q1:=(M.dH (M.ah.Buffer s) (M.ah.re s))
 let q2:=((Option.getD q1 default)||(decide ((M.ah.qM s)<(0:Int))))
 let q3:=(M.vI (M.ah.re s))
 bif (q2||(!((decide ((M.ah.qM s)<=(M.ah.Put s)))&&(decide ((M.ah.Put s)<=(Option.getD q3 default)))))) then
 let q4:=(((Option.isSome q3)||(!(q2==false)))&&((Option.isSome q1)&&((Option.isSome q0)&&true)))
 bif q4 then
 some false
 else
 none
 else
 bif (((M.ah.Gone s)&&(decide ((0:Int)<((List.length (M.ah.Buffer s)):Int))))||((!(M.ah.Gone s))&&((Go.IntKind.wrap Go.IntKind.i64 ((M.ah.Put s)-(M.ah.qM s))) !=((List.length (M.ah.Buffer s)):Int)))) then
 let q4:=(((Option.isSome q3)||(!(q2==false)))&&((Option.isSome q1)&&((Option.isSome q0)&&true)))
 bif q4 then
 some false
 else
 none
 else
 let q4:=(((Option.isSome q3)||(!(q2==false)))&&((Option.isSome q1)&&((Option.isSome q0)&&true)))
 bif q4 then
 some ((((!(M.ah.bu s))||(!(M.ah.Shut s)))||((M.ah.Put s)==(1:Int)))||(M.ah.Gone s))
 else
 none
def ae5 (s:Int) (s2:(List UInt8)) (s3:Int) (s4:Bool) (s5:Int) (s6:Int) (s7:Bool) (s8:Bool) (o1:(List (List UInt8))) (o2:(List M.ae)) (o3:(List M.af)):Option (Int×Int×(List UInt8)×Int×Bool×Int×Int×Bool×Bool×(List (List UInt8))×(List M.ae)×(List M.af)):=
 bif s8 then
 some ((5:Int),s,s2,s3,s4,s5,s6,s7,s8,o1,o2,o3)
 else
 some ((0:Int),s,s2,s3,s4,s5,s6,s7,true,o1,o2,[])
def ai5 (s:M.ah):Option (M.ah×Int):=
 bif (M.ah.Shut s) then
 some ((M.ah.mk (M.ae.mk (0:Int) [] [] []) (0:Int) false [] (0:Int) (0:Int) false false),(5:Int))
 else
 bif (((M.ah.bu s)&&(!(M.ah.Gone s)))&&((M.ah.Put s)==(0:Int))) then
 some ((M.ah.mk (M.ae.mk (0:Int) [] [] []) (0:Int) false [] (0:Int) (0:Int) false false),(3:Int))
 else
 some ((M.ah.mk (M.ae.re (M.ah.aO s)) (M.ah.Room s) (M.ah.bu s) (M.ah.Buffer s) (M.ah.Put s) (M.ah.qM s) true (M.ah.Gone s)),(0:Int))
def afB (s:Int) (s2:(List UInt8)) (s3:Int) (s4:Bool) (s5:Int) (s6:Int) (s7:Bool) (s8:Bool) (o1:(List (List UInt8))) (o2:(List M.ae)) (o3:(List M.af)):Option (Int×Int×(List UInt8)×Int×Bool×Int×Int×Bool×Bool×(List (List UInt8))×(List M.ae)×(List M.af)):=
 bif s7 then
 some ((5:Int),s,s2,s3,s4,s5,s6,s7,s8,o1,o2,o3)
 else
 bif ((s4&&(s5==(0:Int)))&&(!s8)) then
 some ((3:Int),s,s2,s3,s4,s5,s6,s7,s8,o1,o2,o3)
 else
 some ((0:Int),s,s2,s3,s4,s5,s6,true,s8,o1,o2,o3)
def iT (s:M.ah):Option (Int):=
 bif (M.ah.bu s) then
 some (1:Int)
 else
 some (1000000:Int)
def gG (a:Int) (b:Int):Option (Int):=
 bif (decide (a<b)) then
 some a
 else
 some b
def ae1 (first:Int) (many:Int):Nat->Int->(List M.af)->Option ((List M.af))
 |0,_,_=>none
 |fuel+1,k,out=>
 bif (decide (k<many)) then
 let q0:=[(M.af.mk (9:Int) (Go.IntKind.wrap Go.IntKind.i64 (first+k)) [] [])]
 bif ((decide (((List.length out)+(List.length q0))<=1073741824))&&true) then
 M.ae1 first many fuel (Go.IntKind.wrap Go.IntKind.i64 (k+(1:Int))) (out++q0)
 else
 none
 else
 some (out)
def ag5 (first:Int) (many:Int):Option ((List M.af)):=
 match (M.ae1 first many Go.V.aP (0:Int) []) with
 |none=>none
 |some y0=>
 some y0
def agK (a:M.dZ):Option (Bool):=
 some ((!((decide ((0:Int)<=(M.dZ.XV a)))&&(decide ((M.dZ.XV a)<=(8:Int)))))||((M.dZ.Close a)&&((M.dZ.XV a) !=(0:Int))))
def aaM (s:(List M.dZ)) (t7:Int):Nat->Int->Option ((Int)⊕(Unit))
 |0,_=>none
 |fuel+1,t8=>
 bif (decide (t8<t7)) then
 let q0:=(M.agK (List.getD s (Int.toNat t8) M.dZ.zero))
 bif (Option.getD q0 default) then
 let q1:=((Option.isSome q0)&&((Go.V.inB t8 (List.length s))&&true))
 bif q1 then
 some (.inl t8)
 else
 none
 else
 let q1:=((Option.isSome q0)&&((Go.V.inB t8 (List.length s))&&true))
 bif q1 then
 M.aaM s t7 fuel (Go.IntKind.wrap Go.IntKind.i64 (t8+(1:Int)))
 else
 none
 else
 some ((.inr (())))
def abU (s:(List M.dZ)):Option (Int):=
 match (M.aaM s ((List.length s):Int) Go.V.aP (0:Int)) with
 |none=>none
 |some y0=>
 (match y0 with
 | .inl a1=>
 some a1
 | .inr b1=>
 some (-(1:Int)))
def aaX (s:(List M.dZ)):Option (Bool):=
 let q0:=(M.abU s)
 bif ((Option.isSome q0)&&true) then
 some (decide ((0:Int)<=(Option.getD q0 default)))
 else
 none
def kU (list:(List M.af)):Nat->Int->(List M.af)->Option ((List M.af))
 |0,_,_=>none
 |fuel+1,i,out=>
 bif (decide (i<((List.length list):Int))) then
 let q0:=(M.ET (M.af.re (List.getD list (Int.toNat i) M.af.zero)))
 let q1:=[(M.af.re (Option.getD q0 default))]
 bif ((decide (((List.length out)+(List.length q1))<=1073741824))&&((Option.isSome q0)&&((Go.V.inB i (List.length list))&&true))) then
 M.kU list fuel (Go.IntKind.wrap Go.IntKind.i64 (i+(1:Int))) (out++q1)
 else
 none
 else
 some (out)
def bP (list:(List M.af)):Option ((List M.af)):=
 match (M.kU list Go.V.aP (0:Int) []) with
 |none=>none
 |some y0=>
 some y0
def Du (s:M.ah):Option (M.ah):=
 let q0:=(M.bP (M.ah.Buffer s))
 let q1:=(M.nN (M.ae.re (M.ah.aO s)))
 bif ((Option.isSome q0)&&((Option.isSome q1)&&true)) then
 some (M.ah.mk (M.ae.re (Option.getD q1 default)) (M.ah.Room s) (M.ah.bu s) (Option.getD q0 default) (M.ah.Put s) (M.ah.qM s) (M.ah.Shut s) (M.ah.Gone s))
 else
 none
def ait (s:M.ah) (list:(List M.af)):Option (M.ah×Int×Int):=
 let q0:=(M.iT (M.ah.re s))
 bif ((decide ((8:Int)<((List.length list):Int)))||(decide ((Option.getD q0 default)<(Go.IntKind.wrap Go.IntKind.i64 ((M.ah.Put s)+((List.length list):Int)))))) then
 let q1:=(((Option.isSome q0)||(!((decide ((8:Int)<((List.length list):Int)))==false)))&&true)
 bif q1 then
 some ((M.ah.mk (M.ae.mk (0:Int) [] [] []) (0:Int) false [] (0:Int) (0:Int) false false),(0:Int),(4:Int))
 else
 none
 else
 bif (M.ah.Shut s) then
 let q1:=(((Option.isSome q0)||(!((decide ((8:Int)<((List.length list):Int)))==false)))&&true)
 bif q1 then
 some ((M.ah.mk (M.ae.mk (0:Int) [] [] []) (0:Int) false [] (0:Int) (0:Int) false false),(0:Int),(5:Int))
 else
 none
 else
 bif (M.ah.Gone s) then
 let q1:=(((Option.isSome q0)||(!((decide ((8:Int)<((List.length list):Int)))==false)))&&true)
 bif q1 then
 some ((M.ah.mk (M.ae.mk (0:Int) [] [] []) (0:Int) false [] (0:Int) (0:Int) false false),(0:Int),(17:Int))
 else
 none
 else
 let q1:=(M.bP (M.ah.Buffer s))
 let q2:=(M.gG ((List.length list):Int) (Go.IntKind.wrap Go.IntKind.i64 ((M.ah.Room s)-((List.length (M.ah.Buffer s)):Int))))
 let q3:=(Option.getD q2 default)
 let q4:=(M.bP (List.drop (Int.toNat (0:Int)) (List.take (Int.toNat q3) list)))
 let q5:=(Option.getD q4 default)
 let q6:=(((Option.isSome q0)||(!((decide ((8:Int)<((List.length list):Int)))==false)))&&true)
 bif ((decide (((List.length (Option.getD q1 default))+(List.length q5))<=1073741824))&&((Option.isSome q4)&&((Go.V.qg (0:Int) q3 (List.length list))&&((Option.isSome q1)&&((Option.isSome q2)&&q6))))) then
 some ((M.ah.mk (M.ae.re (M.ah.aO s)) (M.ah.Room s) (M.ah.bu s) ((Option.getD q1 default)++q5) (Go.IntKind.wrap Go.IntKind.i64 ((M.ah.Put s)+q3)) (M.ah.qM s) (M.ah.Shut s) (M.ah.Gone s)),q3,(0:Int))
 else
 none
def jK (aI:M.af->Option (Int×Int×(List UInt8)×(List M.af))) (t7:(List M.af)) (t8:Int):Nat->Int->(List M.af)->Option ((List M.af))
 |0,_,_=>none
 |fuel+1,t9,out=>
 bif (decide (t9<t8)) then
 let q0:=(Option.getD (aI (M.af.re (List.getD t7 (Int.toNat t9) M.af.zero))) default)
 let q1:=q0.2
 let q2:=q1.2
 let q3:=[(M.af.mk q0.1 q1.1 q2.1 q2.2)]
 bif ((decide (((List.length out)+(List.length q3))<=1073741824))&&((Option.isSome (aI (M.af.re (List.getD t7 (Int.toNat t9) M.af.zero))))&&((Go.V.inB t9 (List.length t7))&&true))) then
 M.jK aI t7 t8 fuel (Go.IntKind.wrap Go.IntKind.i64 (t9+(1:Int))) (out++q3)
 else
 none
 else
 some (out)
def iF (aI:M.af->Option (Int×Int×(List UInt8)×(List M.af))) (list:(List M.af)):Option ((List M.af)):=
 match (M.jK aI list ((List.length list):Int) Go.V.aP (0:Int) []) with
 |none=>none
 |some y0=>
 some y0
def rP (aI:M.af->Option (Int×Int×(List UInt8)×(List M.af))) (v:M.af):Option (Int×Int×(List UInt8)×(List M.af)):=
 let q0:=(M.iF aI (M.af.Kids v))
 bif ((Option.isSome q0)&&true) then
 some ((M.af.Kind v),(M.af.Num v),(M.af.Text v),(Option.getD q0 default))
 else
 none
def ng : Nat->M.af->Option (Int×Int×(List UInt8)×(List M.af))
 |0=>fun _=>none
 |n+1=>rP (ng n)
def mg : M.af->Option (Int×Int×(List UInt8)×(List M.af)):=ng Go.V.aP
def acR (first:Int) (list:(List M.dZ)) (t6:Int) (t62:(List UInt8)) (t63:Int) (t64:Bool) (t65:Int) (t66:Int) (t67:Bool) (t68:Bool) (o5:(List (List UInt8))) (o6:(List M.ae)) (o7:(List M.af)):Nat->Int->M.ah->Option ((Int×Int×(List UInt8)×Int×Bool×Int×Int×Bool×Bool×(List M.af)×(List (List UInt8))×(List M.ae)×(List M.af))⊕(Int×(List M.dZ)×M.ah×Int×(List UInt8)×Int×Bool×Int×Int×Bool×Bool×(List (List UInt8))×(List M.ae)×(List M.af)))
 |0,_,_=>none
 |fuel+1,i,s=>
 bif (decide (i<((List.length list):Int))) then
 let q0:=(!((decide ((0:Int)<=(M.dZ.XV (List.getD list (Int.toNat i) M.dZ.zero))))&&(decide ((M.dZ.XV (List.getD list (Int.toNat i) M.dZ.zero))<=(8:Int)))))
 bif (q0||((M.dZ.Close (List.getD list (Int.toNat i) M.dZ.zero))&&((M.dZ.XV (List.getD list (Int.toNat i) M.dZ.zero)) !=(0:Int)))) then
 let q1:=(q0==false)
 let q2:=(((Go.V.inB i (List.length list))||(!(q1&&((M.dZ.Close (List.getD list (Int.toNat i) M.dZ.zero))==true))))&&(((Go.V.inB i (List.length list))||(!q1))&&((Go.V.inB i (List.length list))&&true)))
 bif q2 then
 some (.inl ((1:Int),(0:Int),[],(0:Int),false,(0:Int),(0:Int),false,false,[],[],[],[]))
 else
 none
 else
 let q1:=(q0==false)
 let q2:=(((Go.V.inB i (List.length list))||(!(q1&&((M.dZ.Close (List.getD list (Int.toNat i) M.dZ.zero))==true))))&&(((Go.V.inB i (List.length list))||(!q1))&&((Go.V.inB i (List.length list))&&true)))
 bif q2 then
 M.acR first list t6 t62 t63 t64 t65 t66 t67 t68 o5 o6 o7 fuel (Go.IntKind.wrap Go.IntKind.i64 (i+(1:Int))) (M.ah.re s)
 else
 none
 else
 some ((.inr ((first,list,(M.ah.re s),t6,t62,t63,t64,t65,t66,t67,t68,o5,o6,o7))))
def Dw (s:M.ah) (most:Int):Option (M.ah×(List M.af)×Int):=
 bif (M.ah.Gone s) then
 some ((M.ah.mk (M.ae.mk (0:Int) [] [] []) (0:Int) false [] (0:Int) (0:Int) false false),[],(5:Int))
 else
 bif ((((List.length (M.ah.Buffer s)):Int)==(0:Int))&&(M.ah.Shut s)) then
 some ((M.ah.mk (M.ae.mk (0:Int) [] [] []) (0:Int) false [] (0:Int) (0:Int) false false),[],(3:Int))
 else
 let q0:=(M.gG most ((List.length (M.ah.Buffer s)):Int))
 let q1:=(Option.getD q0 default)
 let q2:=(Int.toNat q1)
 let q3:=(M.bP (List.drop q2 (List.take (Int.toNat ((List.length (M.ah.Buffer s)):Int)) (M.ah.Buffer s))))
 let q4:=(M.bP (List.drop (Int.toNat (0:Int)) (List.take q2 (M.ah.Buffer s))))
 bif ((Option.isSome q3)&&((Go.V.qg q1 ((List.length (M.ah.Buffer s)):Int) (List.length (M.ah.Buffer s)))&&((Option.isSome q4)&&((Go.V.qg (0:Int) q1 (List.length (M.ah.Buffer s)))&&((Option.isSome q0)&&true))))) then
 some ((M.ah.mk (M.ae.re (M.ah.aO s)) (M.ah.Room s) (M.ah.bu s) (Option.getD q3 default) (M.ah.Put s) (Go.IntKind.wrap Go.IntKind.i64 ((M.ah.qM s)+q1)) (M.ah.Shut s) (M.ah.Gone s)),(Option.getD q4 default),(0:Int))
 else
 none
def aa5 (list:(List M.dZ)) (t6:Int) (t62:(List UInt8)) (t63:Int) (t64:Bool) (t65:Int) (t66:Int) (t67:Bool) (t68:Bool) (o7:(List (List UInt8))) (o8:(List M.ae)) (o9:(List M.af)):Nat->Int->Int->M.ah->(List M.af)->Option (Int×(List UInt8)×Int×Bool×Int×Int×Bool×Bool×M.ah×(List M.af)×(List (List UInt8))×(List M.ae)×(List M.af))
 |0,_,_,_,_=>none
 |fuel+1,first,i,x,got=>
 bif (decide (i<((List.length list):Int))) then
 bif ((M.dZ.Write (List.getD list (Int.toNat i) M.dZ.zero))&&(M.dZ.Close (List.getD list (Int.toNat i) M.dZ.zero))) then
 let q0:=(M.ai5 (M.ah.re x))
 bif ((Option.getD q0 default).2==(0:Int)) then
 let q1:=((Option.isSome q0)&&((Go.V.inB i (List.length list))&&true))
 bif q1 then
 M.aa5 list t6 t62 t63 t64 t65 t66 t67 t68 o7 o8 o9 fuel first (Go.IntKind.wrap Go.IntKind.i64 (i+(1:Int))) (M.ah.re (Option.getD q0 default).1) got
 else
 none
 else
 let q1:=((Option.isSome q0)&&((Go.V.inB i (List.length list))&&true))
 bif q1 then
 M.aa5 list t6 t62 t63 t64 t65 t66 t67 t68 o7 o8 o9 fuel first (Go.IntKind.wrap Go.IntKind.i64 (i+(1:Int))) (M.ah.re x) got
 else
 none
 else
 bif (M.dZ.Close (List.getD list (Int.toNat i) M.dZ.zero)) then
 let q0:=(M.aiv (M.ah.re x))
 bif ((Option.getD q0 default).2==(0:Int)) then
 let q1:=((Option.isSome q0)&&((Go.V.inB i (List.length list))&&true))
 bif q1 then
 M.aa5 list t6 t62 t63 t64 t65 t66 t67 t68 o7 o8 o9 fuel first (Go.IntKind.wrap Go.IntKind.i64 (i+(1:Int))) (M.ah.re (Option.getD q0 default).1) got
 else
 none
 else
 let q1:=((Option.isSome q0)&&((Go.V.inB i (List.length list))&&true))
 bif q1 then
 M.aa5 list t6 t62 t63 t64 t65 t66 t67 t68 o7 o8 o9 fuel first (Go.IntKind.wrap Go.IntKind.i64 (i+(1:Int))) (M.ah.re x) got
 else
 none
 else
 bif (M.dZ.Write (List.getD list (Int.toNat i) M.dZ.zero)) then
 let q0:=(M.ag5 first (M.dZ.XV (List.getD list (Int.toNat i) M.dZ.zero)))
 let q1:=(M.ait (M.ah.re x) (Option.getD q0 default))
 let q2:=(Option.getD q1 default)
 let q3:=q2.2
 bif (q3.2==(0:Int)) then
 let q4:=((Option.isSome q1)&&((Option.isSome q0)&&((Go.V.inB i (List.length list))&&true)))
 bif q4 then
 let q5:=(Go.IntKind.wrap Go.IntKind.i64 (first+q3.1))
 M.aa5 list t6 t62 t63 t64 t65 t66 t67 t68 o7 o8 o9 fuel q5 (Go.IntKind.wrap Go.IntKind.i64 (i+(1:Int))) (M.ah.re q2.1) got
 else
 none
 else
 let q4:=((Option.isSome q1)&&((Option.isSome q0)&&((Go.V.inB i (List.length list))&&true)))
 bif q4 then
 let q5:=(Go.IntKind.wrap Go.IntKind.i64 (first+q3.1))
 M.aa5 list t6 t62 t63 t64 t65 t66 t67 t68 o7 o8 o9 fuel q5 (Go.IntKind.wrap Go.IntKind.i64 (i+(1:Int))) (M.ah.re x) got
 else
 none
 else
 let q0:=(M.yE (M.dZ.XV (List.getD list (Int.toNat i) M.dZ.zero)) (1:Int))
 let q1:=(M.Dw (M.ah.re x) (Option.getD q0 default))
 let q2:=(Option.getD q1 default)
 let q3:=q2.2
 bif (q3.2==(0:Int)) then
 let q4:=q3.1
 let q5:=((decide (((List.length got)+(List.length q4))<=1073741824))&&((Option.isSome q1)&&((Option.isSome q0)&&((Go.V.inB i (List.length list))&&true))))
 bif q5 then
 let q6:=(got++q4)
 M.aa5 list t6 t62 t63 t64 t65 t66 t67 t68 o7 o8 o9 fuel first (Go.IntKind.wrap Go.IntKind.i64 (i+(1:Int))) (M.ah.re q2.1) q6
 else
 none
 else
 let q4:=q3.1
 let q5:=((decide (((List.length got)+(List.length q4))<=1073741824))&&((Option.isSome q1)&&((Option.isSome q0)&&((Go.V.inB i (List.length list))&&true))))
 bif q5 then
 let q6:=(got++q4)
 M.aa5 list t6 t62 t63 t64 t65 t66 t67 t68 o7 o8 o9 fuel first (Go.IntKind.wrap Go.IntKind.i64 (i+(1:Int))) (M.ah.re x) q6
 else
 none
 else
 some ((t6,t62,t63,t64,t65,t66,t67,t68,(M.ah.re x),got,o7,o8,o9))
def ag6 (s:M.ah) (first:Int) (list:(List M.dZ)):Option (M.ah×(List M.af)×Int):=
 let q0:=(M.je (M.ah.re s))
 bif (!(Option.getD q0 default)) then
 bif ((Option.isSome q0)&&true) then
 some ((M.ah.mk (M.ae.mk (0:Int) [] [] []) (0:Int) false [] (0:Int) (0:Int) false false),[],(1:Int))
 else
 none
 else
 bif ((M.ae.Kind (M.ah.aO s)) !=(9:Int)) then
 bif ((Option.isSome q0)&&true) then
 some ((M.ah.mk (M.ae.mk (0:Int) [] [] []) (0:Int) false [] (0:Int) (0:Int) false false),[],(7:Int))
 else
 none
 else
 bif (!((decide ((-(1000000:Int))<=first))&&(decide (first<=(1000000:Int))))) then
 bif ((Option.isSome q0)&&true) then
 some ((M.ah.mk (M.ae.mk (0:Int) [] [] []) (0:Int) false [] (0:Int) (0:Int) false false),[],(2:Int))
 else
 none
 else
 bif (decide ((60:Int)<((List.length list):Int))) then
 bif ((Option.isSome q0)&&true) then
 some ((M.ah.mk (M.ae.mk (0:Int) [] [] []) (0:Int) false [] (0:Int) (0:Int) false false),[],(4:Int))
 else
 none
 else
 match (M.acR first list (0:Int) [] (0:Int) false (0:Int) (0:Int) false false [] [] [] Go.V.aP (0:Int) (M.ah.re s)) with
 |none=>none
 |some y1=>
 (match y1 with
 | .inl a2=>
 bif ((Option.isSome q0)&&true) then
 let q3:=a2.2
 let q4:=q3.2
 let q5:=q4.2
 let q6:=q5.2
 let q7:=q6.2
 let q8:=q7.2
 let q9:=q8.2
 let q10:=q9.2
 let q11:=q10.2
 let q12:=q11.2
 let q13:=q12.2
 some ((M.ah.mk (M.ae.mk q3.1 q4.1 q12.1 q13.1) q5.1 q6.1 q13.2 q7.1 q8.1 q9.1 q10.1),q11.1,a2.1)
 else
 none
 | .inr b2=>
 let q3:=b2.2
 let q4:=q3.2
 let q5:=q4.2
 let q6:=q5.2
 let q7:=q6.2
 let q8:=q7.2
 let q9:=q8.2
 let q10:=q9.2
 let q11:=q10.2
 let q12:=q11.2
 let q13:=q12.2
 let qc:=q13.2
 let qf:=(M.Du (M.ah.re q4.1))
 match (M.aa5 q3.1 q5.1 q6.1 q7.1 q8.1 q9.1 q10.1 q11.1 q12.1 q13.1 qc.1 qc.2 Go.V.aP b2.1 (0:Int) (M.ah.re (Option.getD qf default)) []) with
 |none=>none
 |some y16=>
 let uy:=y16.2.2.2.2.2.2.2.2
 let rC:=(M.Du (M.ah.re uy.1))
 bif ((Option.isSome rC)&&((Option.isSome qf)&&((Option.isSome q0)&&true))) then
 some ((M.ah.re (Option.getD rC default)),uy.2.1,(0:Int))
 else
 none)
def qN (s:M.ah):Option (Int×(List UInt8)×Int×Bool×Int×Int×Bool×Bool×(List (List UInt8))×(List M.ae)×(List M.af)):=
 let q0:=(M.iF M.mg (M.ah.Buffer s))
 let q1:=(M.ES (M.ae.re (M.ah.aO s)))
 bif ((Option.isSome q0)&&((Option.isSome q1)&&true)) then
 let q2:=(Option.getD q1 default)
 let q3:=q2.2
 let q4:=q3.2
 some (q2.1,q3.1,(M.ah.Room s),(M.ah.bu s),(M.ah.Put s),(M.ah.qM s),(M.ah.Shut s),(M.ah.Gone s),q4.1,q4.2,(Option.getD q0 default))
 else
 none
def alC (n:Int):Option (Int×Int×(List UInt8)×(List M.af)):=
 some ((9:Int),n,[],[])
def aez (first:Int) (t8:Int):Nat->Int->(List M.af)->Option ((List M.af))
 |0,_,_=>none
 |fuel+1,t9,list=>
 bif (decide (t9<t8)) then
 let q0:=[(M.af.mk (9:Int) (Go.IntKind.wrap Go.IntKind.i64 (first+t9)) [] [])]
 bif ((decide (((List.length list)+(List.length q0))<=1073741824))&&true) then
 M.aez first t8 fuel (Go.IntKind.wrap Go.IntKind.i64 (t9+(1:Int))) (list++q0)
 else
 none
 else
 some (list)
def agP (first:Int) (many:Int):Option ((List M.af)):=
 match (M.aez first many Go.V.aP (0:Int) []) with
 |none=>none
 |some y0=>
 some y0
def afR (list:(List M.af)) (s:Int) (s2:(List UInt8)) (s3:Int) (s4:Bool) (s5:Int) (s6:Int) (s7:Bool) (s8:Bool) (o1:(List (List UInt8))) (o2:(List M.ae)) (o3:(List M.af)):Option (Int×Int×Int×(List UInt8)×Int×Bool×Int×Int×Bool×Bool×(List (List UInt8))×(List M.ae)×(List M.af)):=
 let q0:=(M.vI (M.ah.mk (M.ae.mk s s2 o1 o2) s3 s4 o3 s5 s6 s7 s8))
 bif ((decide ((8:Int)<((List.length list):Int)))||(decide ((Option.getD q0 default)<(Go.IntKind.wrap Go.IntKind.i64 (s5+((List.length list):Int)))))) then
 let q1:=(((Option.isSome q0)||(!((decide ((8:Int)<((List.length list):Int)))==false)))&&true)
 bif q1 then
 some ((0:Int),(4:Int),s,s2,s3,s4,s5,s6,s7,s8,o1,o2,o3)
 else
 none
 else
 bif s7 then
 let q1:=(((Option.isSome q0)||(!((decide ((8:Int)<((List.length list):Int)))==false)))&&true)
 bif q1 then
 some ((0:Int),(5:Int),s,s2,s3,s4,s5,s6,s7,s8,o1,o2,o3)
 else
 none
 else
 bif s8 then
 let q1:=(((Option.isSome q0)||(!((decide ((8:Int)<((List.length list):Int)))==false)))&&true)
 bif q1 then
 some ((0:Int),(17:Int),s,s2,s3,s4,s5,s6,s7,s8,o1,o2,o3)
 else
 none
 else
 let q1:=(bif (decide ((Go.IntKind.wrap Go.IntKind.i64 (s3-((List.length o3):Int)))<((List.length list):Int))) then (Go.IntKind.wrap Go.IntKind.i64 (s3-((List.length o3):Int))) else ((List.length list):Int))
 let q2:=(M.iF M.mg (List.drop (Int.toNat (0:Int)) (List.take (Int.toNat q1) list)))
 let q3:=(Option.getD q2 default)
 let q4:=(((Option.isSome q0)||(!((decide ((8:Int)<((List.length list):Int)))==false)))&&true)
 bif ((decide (((List.length o3)+(List.length q3))<=1073741824))&&((Option.isSome q2)&&((Go.V.qg (0:Int) q1 (List.length list))&&q4))) then
 some (q1,(0:Int),s,s2,s3,s4,(Go.IntKind.wrap Go.IntKind.i64 (s5+q1)),s6,s7,s8,o1,o2,(o3++q3))
 else
 none
def rQ (most:Int) (s:Int) (s2:(List UInt8)) (s3:Int) (s4:Bool) (s5:Int) (s6:Int) (s7:Bool) (s8:Bool) (o1:(List (List UInt8))) (o2:(List M.ae)) (o3:(List M.af)):Option (Int×Int×(List UInt8)×Int×Bool×Int×Int×Bool×Bool×(List M.af)×(List (List UInt8))×(List M.ae)×(List M.af)):=
 bif (!((decide ((1:Int)<=most))&&(decide (most<=(8:Int))))) then
 some ((2:Int),s,s2,s3,s4,s5,s6,s7,s8,[],o1,o2,o3)
 else
 bif s8 then
 some ((5:Int),s,s2,s3,s4,s5,s6,s7,s8,[],o1,o2,o3)
 else
 bif ((((List.length o3):Int)==(0:Int))&&s7) then
 some ((3:Int),s,s2,s3,s4,s5,s6,s7,s8,[],o1,o2,o3)
 else
 let q0:=(bif (decide (((List.length o3):Int)<most)) then ((List.length o3):Int) else most)
 let q1:=(Int.toNat q0)
 let q2:=(M.iF M.mg (List.drop (Int.toNat (0:Int)) (List.take q1 o3)))
 bif ((Go.V.qg q0 ((List.length o3):Int) (List.length o3))&&((Option.isSome q2)&&((Go.V.qg (0:Int) q0 (List.length o3))&&true))) then
 some ((0:Int),s,s2,s3,s4,s5,(Go.IntKind.wrap Go.IntKind.i64 (s6+q0)),s7,s8,(Option.getD q2 default),o1,o2,(List.drop q1 o3))
 else
 none
def acg (t45:(List M.dZ)) (t46:Int) (t6:Int) (t62:(List UInt8)) (t63:Int) (t64:Bool) (t65:Int) (t66:Int) (t67:Bool) (t68:Bool) (OY:(List (List UInt8))) (o11:(List M.ae)) (o12:(List M.af)):Nat->Int->Int->Int->(List UInt8)->Int->Bool->Int->Int->Bool->Bool->(List M.af)->(List (List UInt8))->(List M.ae)->(List M.af)->Option (Int×(List UInt8)×Int×Bool×Int×Int×Bool×Bool×Int×(List UInt8)×Int×Bool×Int×Int×Bool×Bool×(List M.af)×(List (List UInt8))×(List M.ae)×(List M.af)×(List (List UInt8))×(List M.ae)×(List M.af))
 |0,_,_,_,_,_,_,_,_,_,_,_,_,_,_=>none
 |fuel+1,first,t47,out,adK,ahf,al1,al2,out6,al3,al4,values,o13,o14,o15=>
 bif (decide (t47<t46)) then
 bif ((M.dZ.Write (List.getD t45 (Int.toNat t47) M.dZ.zero))&&(M.dZ.Close (List.getD t45 (Int.toNat t47) M.dZ.zero))) then
 let q0:=(M.afB out adK ahf al1 al2 out6 al3 al4 o13 o14 o15)
 bif ((Option.isSome q0)&&((Go.V.inB t47 (List.length t45))&&true)) then
 let q1:=default
 let q2:=(Option.getD q0 q1).2
 let q3:=q2.2
 let q4:=q3.2
 let q5:=q4.2
 let q6:=q5.2
 let q7:=q6.2
 let q8:=q7.2
 let q9:=q8.2
 let q10:=q9.2
 let q11:=q10.2
 M.acg t45 t46 t6 t62 t63 t64 t65 t66 t67 t68 OY o11 o12 fuel first (Go.IntKind.wrap Go.IntKind.i64 (t47+(1:Int))) q2.1 q3.1 q4.1 q5.1 q6.1 q7.1 q8.1 q9.1 values q10.1 q11.1 q11.2
 else
 none
 else
 bif (M.dZ.Close (List.getD t45 (Int.toNat t47) M.dZ.zero)) then
 let q0:=(M.ae5 out adK ahf al1 al2 out6 al3 al4 o13 o14 o15)
 bif ((Option.isSome q0)&&((Go.V.inB t47 (List.length t45))&&true)) then
 let q1:=default
 let q2:=(Option.getD q0 q1).2
 let q3:=q2.2
 let q4:=q3.2
 let q5:=q4.2
 let q6:=q5.2
 let q7:=q6.2
 let q8:=q7.2
 let q9:=q8.2
 let q10:=q9.2
 let q11:=q10.2
 M.acg t45 t46 t6 t62 t63 t64 t65 t66 t67 t68 OY o11 o12 fuel first (Go.IntKind.wrap Go.IntKind.i64 (t47+(1:Int))) q2.1 q3.1 q4.1 q5.1 q6.1 q7.1 q8.1 q9.1 values q10.1 q11.1 q11.2
 else
 none
 else
 bif (M.dZ.Write (List.getD t45 (Int.toNat t47) M.dZ.zero)) then
 let q0:=(M.agP first (M.dZ.XV (List.getD t45 (Int.toNat t47) M.dZ.zero)))
 let q1:=(M.afR (Option.getD q0 default) out adK ahf al1 al2 out6 al3 al4 o13 o14 o15)
 bif ((Option.isSome q1)&&((Option.isSome q0)&&((Go.V.inB t47 (List.length t45))&&true))) then
 let q2:=(Option.getD q1 default)
 let q3:=q2.2.2
 let q4:=q3.2
 let q5:=q4.2
 let q6:=q5.2
 let q7:=q6.2
 let q8:=q7.2
 let q9:=q8.2
 let q10:=q9.2
 let q11:=q10.2
 let q12:=q11.2
 M.acg t45 t46 t6 t62 t63 t64 t65 t66 t67 t68 OY o11 o12 fuel (Go.IntKind.wrap Go.IntKind.i64 (first+q2.1)) (Go.IntKind.wrap Go.IntKind.i64 (t47+(1:Int))) q3.1 q4.1 q5.1 q6.1 q7.1 q8.1 q9.1 q10.1 values q11.1 q12.1 q12.2
 else
 none
 else
 let q0:=(M.rQ (bif (decide ((1:Int)<(M.dZ.XV (List.getD t45 (Int.toNat t47) M.dZ.zero)))) then (M.dZ.XV (List.getD t45 (Int.toNat t47) M.dZ.zero)) else (1:Int)) out adK ahf al1 al2 out6 al3 al4 o13 o14 o15)
 let q1:=(Option.getD q0 default).2
 let q2:=q1.2
 let q3:=q2.2
 let q4:=q3.2
 let q5:=q4.2
 let q6:=q5.2
 let q7:=q6.2
 let q8:=q7.2
 let q9:=q8.2
 let q10:=q9.1
 bif ((decide (((List.length values)+(List.length q10))<=1073741824))&&((Option.isSome q0)&&((Go.V.inB t47 (List.length t45))&&true))) then
 let q11:=q9.2
 let q12:=q11.2
 M.acg t45 t46 t6 t62 t63 t64 t65 t66 t67 t68 OY o11 o12 fuel first (Go.IntKind.wrap Go.IntKind.i64 (t47+(1:Int))) q1.1 q2.1 q3.1 q4.1 q5.1 q6.1 q7.1 q8.1 (values++q10) q11.1 q12.1 q12.2
 else
 none
 else
 some ((t6,t62,t63,t64,t65,t66,t67,t68,out,adK,ahf,al1,al2,out6,al3,al4,values,OY,o11,o12,o13,o14,o15))
def ahb (s:M.ah) (first:Int) (list:(List M.dZ)):Option (Int×(List UInt8)×Int×Bool×Int×Int×Bool×Bool×Int×(List (List UInt8))×(List M.ae)×(List M.af)×(List M.af)):=
 let q0:=(M.jM (M.ah.re s))
 bif (!(Option.getD q0 default)) then
 bif ((Option.isSome q0)&&true) then
 some ((0:Int),[],(0:Int),false,(0:Int),(0:Int),false,false,(1:Int),[],[],[],[])
 else
 none
 else
 bif ((M.ae.Kind (M.ah.aO s)) !=(9:Int)) then
 bif ((Option.isSome q0)&&true) then
 some ((0:Int),[],(0:Int),false,(0:Int),(0:Int),false,false,(7:Int),[],[],[],[])
 else
 none
 else
 bif (!((decide ((-(1000000:Int))<=first))&&(decide (first<=(1000000:Int))))) then
 bif ((Option.isSome q0)&&true) then
 some ((0:Int),[],(0:Int),false,(0:Int),(0:Int),false,false,(2:Int),[],[],[],[])
 else
 none
 else
 bif (decide ((60:Int)<((List.length list):Int))) then
 bif ((Option.isSome q0)&&true) then
 some ((0:Int),[],(0:Int),false,(0:Int),(0:Int),false,false,(4:Int),[],[],[],[])
 else
 none
 else
 let q1:=(M.aaX list)
 bif (Option.getD q1 default) then
 bif ((Option.isSome q1)&&((Option.isSome q0)&&true)) then
 some ((0:Int),[],(0:Int),false,(0:Int),(0:Int),false,false,(1:Int),[],[],[],[])
 else
 none
 else
 let q2:=(M.qN (M.ah.re s))
 let q3:=default
 let q4:=(Option.getD q2 q3)
 let q5:=q4.2
 let q6:=q5.2
 let q7:=q6.2
 let q8:=q7.2
 let q9:=q8.2
 let q10:=q9.2
 let q11:=q10.2
 let q12:=q11.2
 let q13:=q12.2
 match (M.acg list ((List.length list):Int) (0:Int) [] (0:Int) false (0:Int) (0:Int) false false [] [] [] Go.V.aP first (0:Int) q4.1 q5.1 q6.1 q7.1 q8.1 q9.1 q10.1 q11.1 [] q12.1 q13.1 q13.2) with
 |none=>none
 |some y14=>
 let qf:=y14.2.2.2.2.2.2.2.2
 let q16:=qf.2
 let uy:=q16.2
 let rC:=uy.2
 let tH:=rC.2
 let uz:=tH.2
 let yV:=uz.2
 let q22:=yV.2
 let q23:=q22.2
 let q24:=q23.2.2.2.2
 let Xn:=q24.2
 let TC:=(M.qN (M.ah.mk (M.ae.mk qf.1 q16.1 q24.1 Xn.1) uy.1 rC.1 Xn.2 tH.1 uz.1 yV.1 q22.1))
 bif ((Option.isSome TC)&&((Option.isSome q2)&&((Option.isSome q1)&&((Option.isSome q0)&&true)))) then
 let Y1:=(Option.getD TC q3)
 let q28:=Y1.2
 let q29:=q28.2
 let q30:=q29.2
 let q31:=q30.2
 let q32:=q31.2
 let q33:=q32.2
 let q34:=q33.2
 let q35:=q34.2
 let q36:=q35.2
 some (Y1.1,q28.1,q29.1,q30.1,q31.1,q32.1,q33.1,q34.1,(0:Int),q35.1,q36.1,q36.2,q23.1)
 else
 none
def NF (code:(List UInt8)) (more:(List UInt8)):Option (Bool):=
 some ((decide ((1048576:Int)<((List.length code):Int)))||(decide ((1048576:Int)<((List.length more):Int))))
def Po (code:(List UInt8)):Option ((List UInt8)×Int×Int):=
 some (code,(0:Int),(0:Int))
def kH (s:M.ak):Option (Int×M.ak):=
 bif (decide ((Go.IntKind.wrap Go.IntKind.i64 ((M.ak.at_ s)+(1:Int)))<=((List.length (M.ak.code s)):Int))) then
 let q0:=((((Go.V.inB (M.ak.at_ s) (List.length (M.ak.code s)))&&true)||(!(decide ((M.ak.at_ s)<((List.length (M.ak.code s)):Int)))))&&true)
 bif q0 then
 let q1:=(bif (decide ((M.ak.at_ s)<((List.length (M.ak.code s)):Int))) then (Go.IntKind.wrap Go.IntKind.i64 ((UInt8.toNat (List.getD (M.ak.code s) (Int.toNat (M.ak.at_ s)) (0:UInt8))):Int)) else (0:Int))
 let q2:=(Go.IntKind.wrap Go.IntKind.u64 ((Go.IntKind.wrap Go.IntKind.u64 ((Go.IntKind.wrap Go.IntKind.u64 ((M.ak.seed s)*(6364136223846793005:Int)))+(Go.IntKind.wrap Go.IntKind.u64 q1)))+(1442695040888963407:Int)))
 some (q1,(M.ak.mk (M.ak.code s) (Go.IntKind.wrap Go.IntKind.i64 ((M.ak.at_ s)+(1:Int))) q2))
 else
 none
 else
 let q0:=((((Go.V.inB (M.ak.at_ s) (List.length (M.ak.code s)))&&true)||(!(decide ((M.ak.at_ s)<((List.length (M.ak.code s)):Int)))))&&true)
 bif q0 then
 let q1:=(bif (decide ((M.ak.at_ s)<((List.length (M.ak.code s)):Int))) then (Go.IntKind.wrap Go.IntKind.i64 ((UInt8.toNat (List.getD (M.ak.code s) (Int.toNat (M.ak.at_ s)) (0:UInt8))):Int)) else (0:Int))
 let q2:=(Go.IntKind.wrap Go.IntKind.u64 ((Go.IntKind.wrap Go.IntKind.u64 ((Go.IntKind.wrap Go.IntKind.u64 ((M.ak.seed s)*(6364136223846793005:Int)))+(Go.IntKind.wrap Go.IntKind.u64 q1)))+(1442695040888963407:Int)))
 some ((Go.IntKind.wrap Go.IntKind.i64 (Go.V.qF Go.BinOp.and Go.IntKind.u64 (Go.V.LK Go.IntKind.u64 q2 (40:Int)) (255:Int))),(M.ak.mk (M.ak.code s) (Go.IntKind.wrap Go.IntKind.i64 ((M.ak.at_ s)+(1:Int))) q2))
 else
 none
def aJ (n:Int) (s:M.ak):Option (Int×M.ak):=
 bif (decide (n<=(1:Int))) then
 some ((0:Int),s)
 else
 bif (decide ((200:Int)<n)) then
 let q0:=(M.kH s)
 let q1:=(M.kH (Option.getD q0 default).2)
 bif ((n !=(0:Int))&&((Option.isSome q1)&&((Option.isSome q0)&&true))) then
 let q2:=(Option.getD q1 default)
 some ((Int.tmod (Go.IntKind.wrap Go.IntKind.i64 ((Go.IntKind.wrap Go.IntKind.i64 ((Option.getD q0 default).1*(256:Int)))+q2.1)) n),q2.2)
 else
 none
 else
 let q0:=(M.kH s)
 bif ((n !=(0:Int))&&((Option.isSome q0)&&true)) then
 some ((Int.tmod (Option.getD q0 default).1 n),(Option.getD q0 default).2)
 else
 none
def dY (n:Int) (s:M.ak):Option (Bool×M.ak):=
 let q0:=(M.aJ n s)
 bif ((Option.isSome q0)&&true) then
 some (((Option.getD q0 default).1==(0:Int)),(Option.getD q0 default).2)
 else
 none
def fE (list:(List (List UInt8))) (s:M.ak):Option ((List UInt8)×M.ak):=
 let q0:=(M.aJ ((List.length list):Int) s)
 let q1:=(Option.getD q0 default)
 let q2:=q1.1
 bif ((Go.V.inB q2 (List.length list))&&((Option.isSome q0)&&true)) then
 some ((List.getD list (Int.toNat q2) []),q1.2)
 else
 none
def bU (list:(List Int)) (s:M.ak):Option (Int×M.ak):=
 let q0:=(M.aJ ((List.length list):Int) s)
 let q1:=(Option.getD q0 default)
 let q2:=q1.1
 bif ((Go.V.inB q2 (List.length list))&&((Option.isSome q0)&&true)) then
 some ((List.getD list (Int.toNat q2) (0:Int)),q1.2)
 else
 none
def nY (ax:Int->Bool->Bool->M.ak->Option (Int×(List UInt8)×M.ak×(List (List UInt8))×(List M.ae))) (deep:Int) (own:Bool) (borrow:Bool) (s:M.ak):Option (Int×(List UInt8)×M.ak×(List (List UInt8))×(List M.ae)):=
 let q0:=(M.dY (3:Int) s)
 bif (Option.getD q0 default).1 then
 let q1:=((Option.isSome q0)&&true)
 bif q1 then
 let q2:=(Option.getD q0 default).2
 some ((1:Int),[],q2,[],[])
 else
 none
 else
 let q1:=(Option.getD q0 default).2
 let q2:=((Option.isSome q0)&&true)
 bif ((Option.isSome (ax deep own borrow q1))&&q2) then
 let q3:=(Option.getD (ax deep own borrow q1) default)
 let q4:=q3.2
 let q5:=q4.2
 let q6:=q5.2
 some (q3.1,q4.1,q5.1,q6.1,q6.2)
 else
 none
def lg (many:Int) (at_:Int) (all:(List (List UInt8))):Nat->Int->(List (List UInt8))->Option ((List (List UInt8)))
 |0,_,_=>none
 |fuel+1,k,out=>
 bif (decide (k<many)) then
 let q0:=(Int.tmod (Go.IntKind.wrap Go.IntKind.i64 (at_+k)) (6:Int))
 let q1:=[(List.getD all (Int.toNat q0) [])]
 bif ((decide (((List.length out)+(List.length q1))<=1073741824))&&((Go.V.inB q0 (List.length all))&&(((6:Int) !=(0:Int))&&true))) then
 M.lg many at_ all fuel (Go.IntKind.wrap Go.IntKind.i64 (k+(1:Int))) (out++q1)
 else
 none
 else
 some (out)
def kJ (many:Int) (s:M.ak):Option (M.ak×(List (List UInt8))):=
 let q0:=(M.aJ (6:Int) s)
 match (M.lg many (Option.getD q0 default).1 [[(97:UInt8)],[(98:UInt8)],[(105:UInt8),(100:UInt8)],[(109:UInt8),(97:UInt8),(120:UInt8),(45:UInt8),(115:UInt8),(105:UInt8),(122:UInt8),(101:UInt8)],[(120:UInt8),(49:UInt8)],[(110:UInt8),(97:UInt8),(109:UInt8),(101:UInt8)]] Go.V.aP (0:Int) []) with
 |none=>none
 |some y1=>
 bif ((Option.isSome q0)&&true) then
 some ((Option.getD q0 default).2,y1)
 else
 none
def oW (ax:Int->Bool->Bool->M.ak->Option (Int×(List UInt8)×M.ak×(List (List UInt8))×(List M.ae))) (deep:Int) (own:Bool) (borrow:Bool) (t8:Int) (t82:(List UInt8)) (t:Int) (t2:(List UInt8)) (o7:(List (List UInt8))) (o8:(List M.ae)) (o9:(List (List UInt8))):Nat->Int->M.ak->(List M.ae)->Option ((List UInt8)×Int×Int×Int×(List UInt8)×Int×(List UInt8)×(List (List UInt8))×(List M.ae)×(List (List UInt8))×(List M.ae))
 |0,_,_,_=>none
 |fuel+1,i,s,OY=>
 bif (decide ((0:Int)<i)) then
 let q0:=(Option.getD (ax (Go.IntKind.wrap Go.IntKind.i64 (deep-(1:Int))) own borrow s) default)
 let q1:=q0.2
 let q2:=q1.2
 let q3:=q2.2
 let q4:=[(M.ae.mk q0.1 q1.1 q3.1 q3.2)]
 bif ((decide (((List.length OY)+(List.length q4))<=1073741824))&&((Option.isSome (ax (Go.IntKind.wrap Go.IntKind.i64 (deep-(1:Int))) own borrow s))&&true)) then
 M.oW ax deep own borrow t8 t82 t t2 o7 o8 o9 fuel (Go.IntKind.wrap Go.IntKind.i64 (i-(1:Int))) q2.1 (OY++q4)
 else
 none
 else
 some (((M.ak.code s),(M.ak.at_ s),(M.ak.seed s),t8,t82,t,t2,o7,o8,o9,OY))
def oZ (ax:Int->Bool->Bool->M.ak->Option (Int×(List UInt8)×M.ak×(List (List UInt8))×(List M.ae))) (deep:Int) (own:Bool) (borrow:Bool) (t8:Int) (t82:(List UInt8)) (t:Int) (t2:(List UInt8)) (o7:(List (List UInt8))) (o8:(List M.ae)) (o9:(List (List UInt8))):Nat->Int->M.ak->(List M.ae)->Option ((List UInt8)×Int×Int×Int×(List UInt8)×Int×(List UInt8)×(List (List UInt8))×(List M.ae)×(List (List UInt8))×(List M.ae))
 |0,_,_,_=>none
 |fuel+1,i,s,OY=>
 bif (decide (i<((List.length o9):Int))) then
 let q0:=(Option.getD (ax (Go.IntKind.wrap Go.IntKind.i64 (deep-(1:Int))) own borrow s) default)
 let q1:=q0.2
 let q2:=q1.2
 let q3:=q2.2
 let q4:=[(M.ae.mk q0.1 q1.1 q3.1 q3.2)]
 bif ((decide (((List.length OY)+(List.length q4))<=1073741824))&&((Option.isSome (ax (Go.IntKind.wrap Go.IntKind.i64 (deep-(1:Int))) own borrow s))&&true)) then
 M.oZ ax deep own borrow t8 t82 t t2 o7 o8 o9 fuel (Go.IntKind.wrap Go.IntKind.i64 (i+(1:Int))) q2.1 (OY++q4)
 else
 none
 else
 some (((M.ak.code s),(M.ak.at_ s),(M.ak.seed s),t8,t82,t,t2,o7,o8,o9,OY))
def pg (ax:Int->Bool->Bool->M.ak->Option (Int×(List UInt8)×M.ak×(List (List UInt8))×(List M.ae))) (deep:Int) (own:Bool) (borrow:Bool) (t8:Int) (t82:(List UInt8)) (t:Int) (t2:(List UInt8)) (o7:(List (List UInt8))) (o8:(List M.ae)) (o9:(List (List UInt8))):Nat->Int->M.ak->(List M.ae)->Option ((List UInt8)×Int×Int×Int×(List UInt8)×Int×(List UInt8)×(List (List UInt8))×(List M.ae)×(List (List UInt8))×(List M.ae))
 |0,_,_,_=>none
 |fuel+1,i,s,OY=>
 bif (decide (i<((List.length o9):Int))) then
 let q0:=(M.nY ax (Go.IntKind.wrap Go.IntKind.i64 (deep-(1:Int))) own borrow s)
 let q1:=(Option.getD q0 default)
 let q2:=q1.2
 let q3:=q2.2
 let q4:=q3.2
 let q5:=[(M.ae.mk q1.1 q2.1 q4.1 q4.2)]
 bif ((decide (((List.length OY)+(List.length q5))<=1073741824))&&((Option.isSome q0)&&true)) then
 M.pg ax deep own borrow t8 t82 t t2 o7 o8 o9 fuel (Go.IntKind.wrap Go.IntKind.i64 (i+(1:Int))) q3.1 (OY++q5)
 else
 none
 else
 some (((M.ak.code s),(M.ak.at_ s),(M.ak.seed s),t8,t82,t,t2,o7,o8,o9,OY))
def yN (ax:Int->Bool->Bool->M.ak->Option (Int×(List UInt8)×M.ak×(List (List UInt8))×(List M.ae))) (deep:Int) (own:Bool) (borrow:Bool) (s:M.ak):Option (Int×(List UInt8)×M.ak×(List (List UInt8))×(List M.ae)):=
 let q0:=(M.aJ (20:Int) s)
 let q1:=(Option.getD q0 default).1
 bif ((decide (deep<=(1:Int)))||(decide (q1<(7:Int)))) then
 bif own then
 let q2:=(Option.getD q0 default).2
 let q3:=(M.dY (5:Int) q2)
 let q4:=(Option.getD q3 default)
 bif q4.1 then
 bif borrow then
 let q5:=q4.2
 let q6:=(M.fE [[(114:UInt8),(101:UInt8),(115:UInt8)],[(102:UInt8),(105:UInt8),(108:UInt8),(101:UInt8)]] q5)
 let q7:=(Option.getD q6 default)
 let q8:=q7.2
 let q9:=(M.dY (2:Int) q8)
 let q10:=(Option.getD q9 default)
 bif q10.1 then
 let q11:=((Option.isSome q0)&&true)
 let q12:=((own==true)&&(((Option.isSome q3)&&(own==true))&&((own==true)&&q11)))
 let q13:=((Option.isSome q6)&&q12)
 let qc:=((borrow==true)&&(((Option.isSome q9)&&(borrow==true))&&((borrow==true)&&q13)))
 bif qc then
 let qf:=q7.1
 let q16:=q10.2
 some ((21:Int),qf,q16,[],[])
 else
 none
 else
 let q11:=((Option.isSome q0)&&true)
 let q12:=((own==true)&&(((Option.isSome q3)&&(own==true))&&((own==true)&&q11)))
 let q13:=((Option.isSome q6)&&q12)
 let qc:=((borrow==true)&&(((Option.isSome q9)&&(borrow==true))&&((borrow==true)&&q13)))
 bif qc then
 let qf:=q7.1
 let q16:=q10.2
 some ((20:Int),qf,q16,[],[])
 else
 none
 else
 let q5:=q4.2
 let q6:=(M.fE [[(114:UInt8),(101:UInt8),(115:UInt8)],[(102:UInt8),(105:UInt8),(108:UInt8),(101:UInt8)]] q5)
 let q7:=((Option.isSome q0)&&true)
 let q8:=((own==true)&&(((Option.isSome q3)&&(own==true))&&((own==true)&&q7)))
 let q9:=((Option.isSome q6)&&q8)
 bif ((borrow==false)&&((borrow==false)&&((borrow==false)&&q9))) then
 let q10:=(Option.getD q6 default)
 let q11:=q10.1
 let q12:=q10.2
 some ((20:Int),q11,q12,[],[])
 else
 none
 else
 let q5:=[(2:Int),(3:Int),(4:Int),(5:Int),(6:Int),(7:Int),(8:Int),(9:Int),(10:Int),(11:Int),(11:Int)]
 let q6:=q4.2
 let q7:=(M.bU q5 q6)
 let q8:=((Option.isSome q0)&&true)
 let q9:=((own==true)&&(((Option.isSome q3)&&(own==true))&&((own==true)&&q8)))
 bif ((Option.isSome q7)&&q9) then
 let q10:=(Option.getD q7 default)
 some (q10.1,[],q10.2,[],[])
 else
 none
 else
 let q2:=[(2:Int),(3:Int),(4:Int),(5:Int),(6:Int),(7:Int),(8:Int),(9:Int),(10:Int),(11:Int),(11:Int)]
 let q3:=(Option.getD q0 default).2
 let q4:=(M.bU q2 q3)
 let q5:=((Option.isSome q0)&&true)
 bif ((Option.isSome q4)&&((own==false)&&((own==false)&&((own==false)&&q5)))) then
 let q6:=(Option.getD q4 default)
 some (q6.1,[],q6.2,[],[])
 else
 none
 else
 let q2:=(q1==(7:Int))
 bif (bif q2 then q2 else (q1==(8:Int))) then
 let q3:=(Option.getD q0 default).2
 let q4:=(Option.isSome (ax (Go.IntKind.wrap Go.IntKind.i64 (deep-(1:Int))) own borrow q3))
 let q5:=((Option.isSome q0)&&true)
 let q6:=((q5||(!q2))&&(q5||q2))
 bif (q4&&q6) then
 let q7:=default
 let q8:=(Option.getD (ax (Go.IntKind.wrap Go.IntKind.i64 (deep-(1:Int))) own borrow q3) q7)
 let q9:=q8.2
 let q10:=q9.2
 let q11:=q10.1
 let q12:=q10.2
 let q13:=[(M.ae.mk q8.1 q9.1 q12.1 q12.2)]
 some ((12:Int),[],q11,[],q13)
 else
 none
 else
 let q3:=(q1==(9:Int))
 bif (bif q3 then q3 else (q1==(10:Int))) then
 let q4:=(Option.getD q0 default).2
 let q5:=(Option.isSome (ax (Go.IntKind.wrap Go.IntKind.i64 (deep-(1:Int))) own borrow q4))
 let q6:=((Option.isSome q0)&&true)
 let q7:=((q6||(!q2))&&(q6||q2))
 let q8:=((q7||(!q3))&&(q7||q3))
 bif (q5&&q8) then
 let q9:=default
 let q10:=(Option.getD (ax (Go.IntKind.wrap Go.IntKind.i64 (deep-(1:Int))) own borrow q4) q9)
 let q11:=q10.2
 let q12:=q11.2
 let q13:=q12.1
 let qc:=q12.2
 let qf:=[(M.ae.mk q10.1 q11.1 qc.1 qc.2)]
 some ((13:Int),[],q13,[],qf)
 else
 none
 else
 let q4:=(q1==(11:Int))
 bif (bif q4 then q4 else (q1==(12:Int))) then
 let q5:=(Option.getD q0 default).2
 let q6:=(M.nY ax (Go.IntKind.wrap Go.IntKind.i64 (deep-(1:Int))) own borrow q5)
 let q7:=default
 let q8:=(Option.getD q6 q7)
 let q9:=q8.2
 let q10:=q9.2
 let q11:=(M.nY ax (Go.IntKind.wrap Go.IntKind.i64 (deep-(1:Int))) own borrow q10.1)
 let q12:=((Option.isSome q0)&&true)
 let q13:=((q12||(!q2))&&(q12||q2))
 let qc:=((q13||(!q3))&&(q13||q3))
 let qf:=((qc||(!q4))&&(qc||q4))
 bif ((Option.isSome q11)&&((Option.isSome q6)&&qf)) then
 let q16:=(Option.getD q11 q7)
 let uy:=q16.2
 let rC:=uy.2
 let tH:=q10.2
 let uz:=rC.2
 some ((14:Int),[],rC.1,[],[(M.ae.mk q8.1 q9.1 tH.1 tH.2),(M.ae.mk q16.1 uy.1 uz.1 uz.2)])
 else
 none
 else
 bif (q1==(13:Int)) then
 let q5:=(Option.getD q0 default).2
 let q6:=(M.aJ (3:Int) q5)
 let q7:=(Option.getD q6 default)
 let q8:=(Go.IntKind.wrap Go.IntKind.i64 ((1:Int)+q7.1))
 let q9:=q7.2
 match (M.oW ax deep own borrow (0:Int) [] (15:Int) [] [] [] [] Go.V.aP q8 q9 []) with
 |none=>none
 |some y10=>
 let q11:=(Option.isSome q6)
 let q12:=((Option.isSome q0)&&true)
 let q13:=((q12||(!q2))&&(q12||q2))
 let qc:=((q13||(!q3))&&(q13||q3))
 let qf:=((qc||(!q4))&&(qc||q4))
 bif (q11&&qf) then
 let q16:=y10.2
 let uy:=q16.2
 let rC:=uy.2.2.2
 let tH:=rC.2
 let uz:=tH.2.2.2
 some (rC.1,tH.1,(M.ak.mk y10.1 q16.1 uy.1),uz.1,uz.2)
 else
 none
 else
 let q5:=(q1==(14:Int))
 bif (bif q5 then q5 else (q1==(15:Int))) then
 let q6:=(Option.getD q0 default).2
 let q7:=(M.aJ (3:Int) q6)
 let q8:=(Option.getD q7 default)
 let q9:=(Go.IntKind.wrap Go.IntKind.i64 ((1:Int)+q8.1))
 let q10:=q8.2
 let q11:=(M.kJ q9 q10)
 let q12:=(Option.getD q11 default)
 let q13:=q12.2
 let qc:=q12.1
 match (M.oZ ax deep own borrow (0:Int) [] (16:Int) [] [] [] q13 Go.V.aP (0:Int) qc []) with
 |none=>none
 |some y15=>
 let q16:=(Option.isSome q11)
 let uy:=(Option.isSome q7)
 let rC:=((Option.isSome q0)&&true)
 let tH:=((rC||(!q2))&&(rC||q2))
 let uz:=((tH||(!q3))&&(tH||q3))
 let yV:=((uz||(!q4))&&(uz||q4))
 let q22:=((yV||(!q5))&&(yV||q5))
 bif (q16&&(uy&&q22)) then
 let q23:=y15.2
 let q24:=q23.2
 let Xn:=q24.2.2.2
 let TC:=Xn.2
 let Y1:=TC.2.2.2
 some (Xn.1,TC.1,(M.ak.mk y15.1 q23.1 q24.1),Y1.1,Y1.2)
 else
 none
 else
 let q6:=(q1==(16:Int))
 bif (bif q6 then q6 else (q1==(17:Int))) then
 let q7:=(Option.getD q0 default).2
 let q8:=(M.aJ (3:Int) q7)
 let q9:=(Option.getD q8 default)
 let q10:=(Go.IntKind.wrap Go.IntKind.i64 ((1:Int)+q9.1))
 let q11:=q9.2
 let q12:=(M.kJ q10 q11)
 let q13:=(Option.getD q12 default)
 let qc:=q13.2
 let qf:=q13.1
 match (M.pg ax deep own borrow (0:Int) [] (17:Int) [] [] [] qc Go.V.aP (0:Int) qf []) with
 |none=>none
 |some y16=>
 let uy:=(Option.isSome q12)
 let rC:=(Option.isSome q8)
 let tH:=((Option.isSome q0)&&true)
 let uz:=((tH||(!q2))&&(tH||q2))
 let yV:=((uz||(!q3))&&(uz||q3))
 let q22:=((yV||(!q4))&&(yV||q4))
 let q23:=((q22||(!q5))&&(q22||q5))
 let q24:=((q23||(!q6))&&(q23||q6))
 bif (uy&&(rC&&q24)) then
 let Xn:=y16.2
 let TC:=Xn.2
 let Y1:=TC.2.2.2
 let q28:=Y1.2
 let q29:=q28.2.2.2
 some (Y1.1,q28.1,(M.ak.mk y16.1 Xn.1 TC.1),q29.1,q29.2)
 else
 none
 else
 bif (q1==(18:Int)) then
 let q7:=(Option.getD q0 default).2
 let q8:=(M.aJ (4:Int) q7)
 let q9:=(Option.getD q8 default)
 let q10:=(M.kJ (Go.IntKind.wrap Go.IntKind.i64 ((1:Int)+q9.1)) q9.2)
 let q11:=((Option.isSome q0)&&true)
 let q12:=((q11||(!q2))&&(q11||q2))
 let q13:=((q12||(!q3))&&(q12||q3))
 let qc:=((q13||(!q4))&&(q13||q4))
 let qf:=((qc||(!q5))&&(qc||q5))
 let q16:=((qf||(!q6))&&(qf||q6))
 let uy:=((Option.isSome q10)&&((Option.isSome q8)&&q16))
 bif uy then
 let rC:=(Option.getD q10 default)
 let tH:=rC.1
 let uz:=rC.2
 some ((18:Int),[],tH,uz,[])
 else
 none
 else
 let q7:=(Option.getD q0 default).2
 let q8:=(M.aJ (4:Int) q7)
 let q9:=(Option.getD q8 default)
 let q10:=(M.kJ (Go.IntKind.wrap Go.IntKind.i64 ((1:Int)+q9.1)) q9.2)
 let q11:=((Option.isSome q0)&&true)
 let q12:=((q11||(!q2))&&(q11||q2))
 let q13:=((q12||(!q3))&&(q12||q3))
 let qc:=((q13||(!q4))&&(q13||q4))
 let qf:=((qc||(!q5))&&(qc||q5))
 let q16:=((qf||(!q6))&&(qf||q6))
 let uy:=((Option.isSome q10)&&((Option.isSome q8)&&q16))
 bif uy then
 let rC:=(Option.getD q10 default)
 let tH:=rC.1
 let uz:=rC.2
 some ((19:Int),[],tH,uz,[])
 else
 none
def um : Nat->Int->Bool->Bool->M.ak->Option (Int×(List UInt8)×M.ak×(List (List UInt8))×(List M.ae))
 |0=>fun _ _ _ _=>none
 |n+1=>yN (um n)
def qY : Int->Bool->Bool->M.ak->Option (Int×(List UInt8)×M.ak×(List (List UInt8))×(List M.ae)):=um Go.V.aP
def qC (t2:Int) (t22:(List UInt8)) (o6:(List (List UInt8))) (o7:(List M.ae)):Nat->Int->Int->(List UInt8)->(List (List UInt8))->(List M.ae)->Option (Int×(List UInt8)×Int×(List UInt8)×(List (List UInt8))×(List M.ae)×(List (List UInt8))×(List M.ae))
 |0,_,_,_,_,_=>none
 |fuel+1,k,t,t3,o8,o9=>
 bif (decide ((0:Int)<=k)) then
 M.qC t2 t22 o6 o7 fuel (Go.IntKind.wrap Go.IntKind.i64 (k-(1:Int))) (13:Int) [] [] [(M.ae.mk t t3 o8 o9)]
 else
 some ((t2,t22,t,t3,o6,o7,o8,o9))
def Ef (s:M.ak):Option (Int×(List UInt8)×M.ak×(List (List UInt8))×(List M.ae)):=
 let q0:=(M.aJ (4:Int) s)
 let q1:=(M.qY (Go.IntKind.wrap Go.IntKind.i64 ((1:Int)+(Option.getD q0 default).1)) true true (Option.getD q0 default).2)
 let q2:=default
 let q3:=(Option.getD q1 q2)
 let q4:=q3.2
 let q5:=q4.2
 let q6:=(M.aJ (12:Int) q5.1)
 let q7:=(Option.getD q6 default)
 let q8:=q7.1
 bif (q8==(0:Int)) then
 let q9:=q7.2
 let q10:=(M.aJ (25:Int) q9)
 let q11:=((Option.isSome q6)&&((Option.isSome q1)&&((Option.isSome q0)&&true)))
 bif ((Option.isSome q10)&&q11) then
 let q12:=(Option.getD q10 default)
 let q13:=q4.1
 let qc:=q5.2
 let qf:=qc.1
 let q16:=qc.2
 some (q12.1,q13,q12.2,qf,q16)
 else
 none
 else
 bif (q8==(1:Int)) then
 let q9:=q5.2
 let q10:=q9.2
 let q11:=q7.2
 let q12:=(M.aJ (24:Int) q11)
 let q13:=(Option.getD q12 default)
 let qc:=[(M.ae.mk q13.1 [] [] [])]
 let qf:=((Option.isSome q6)&&((Option.isSome q1)&&((Option.isSome q0)&&true)))
 bif ((decide (((List.length q10)+(List.length qc))<=1073741824))&&((Option.isSome q12)&&qf)) then
 let q16:=q3.1
 let uy:=q4.1
 let rC:=q9.1
 some (q16,uy,q13.2,rC,(q10++qc))
 else
 none
 else
 bif (q8==(2:Int)) then
 let q9:=q5.2
 let q10:=q9.1
 let q11:=q7.2
 let q12:=(M.fE [[(97:UInt8)],[(66:UInt8)],[(45:UInt8)],[(113:UInt8)]] q11)
 let q13:=(Option.getD q12 default)
 let qc:=[q13.1]
 let qf:=((Option.isSome q6)&&((Option.isSome q1)&&((Option.isSome q0)&&true)))
 bif ((decide (((List.length q10)+(List.length qc))<=1073741824))&&((Option.isSome q12)&&qf)) then
 let q16:=q3.1
 let uy:=q4.1
 let rC:=q9.2
 some (q16,uy,q13.2,(q10++qc),rC)
 else
 none
 else
 bif (q8==(3:Int)) then
 let q9:=q7.2
 let q10:=(M.fE [[(114:UInt8),(101:UInt8),(115:UInt8)],[(97:UInt8),(45:UInt8),(45:UInt8),(98:UInt8)],[(97:UInt8),(45:UInt8)]] q9)
 let q11:=((Option.isSome q6)&&((Option.isSome q1)&&((Option.isSome q0)&&true)))
 bif ((Option.isSome q10)&&q11) then
 let q12:=q3.1
 let q13:=(Option.getD q10 default)
 let qc:=q5.2
 let qf:=qc.1
 let q16:=qc.2
 some (q12,q13.1,q13.2,qf,q16)
 else
 none
 else
 bif (q8==(4:Int)) then
 let q9:=q7.2
 let q10:=(M.nY M.qY (2:Int) true true q9)
 let q11:=((Option.isSome q6)&&((Option.isSome q1)&&((Option.isSome q0)&&true)))
 bif ((Option.isSome q10)&&q11) then
 let q12:=(Option.getD q10 q2)
 let q13:=q12.2
 let qc:=q13.2
 let qf:=qc.2
 some ((22:Int),[],qc.1,[],[(M.ae.mk q12.1 q13.1 qf.1 qf.2)])
 else
 none
 else
 bif (q8==(5:Int)) then
 let q9:=q7.2
 let q10:=(M.aJ (4:Int) q9)
 let q11:=(Option.getD q10 default)
 let q12:=q3.1
 let q13:=q4.1
 let qc:=q5.2
 let qf:=qc.1
 let q16:=qc.2
 match (M.qC (0:Int) [] [] [] Go.V.aP q11.1 q12 q13 qf q16) with
 |none=>none
 |some y17=>
 let rC:=((Option.isSome q6)&&((Option.isSome q1)&&((Option.isSome q0)&&true)))
 bif ((Option.isSome q10)&&rC) then
 let tH:=y17.2.2
 let uz:=tH.2
 let yV:=uz.2.2.2
 some (tH.1,uz.1,q11.2,yV.1,yV.2)
 else
 none
 else
 bif (q8==(6:Int)) then
 let q9:=q7.2
 let q10:=(M.aJ (3:Int) q9)
 let q11:=((Option.isSome q6)&&((Option.isSome q1)&&((Option.isSome q0)&&true)))
 bif ((Option.isSome q10)&&q11) then
 let q12:=(Option.getD q10 default)
 some ((Go.IntKind.wrap Go.IntKind.i64 (q12.1+(1:Int))),[],q12.2,[],[])
 else
 none
 else
 let q9:=((Option.isSome q6)&&((Option.isSome q1)&&((Option.isSome q0)&&true)))
 bif q9 then
 let q10:=q3.1
 let q11:=q4.1
 let q12:=q7.2
 let q13:=q5.2
 let qc:=q13.1
 let qf:=q13.2
 some (q10,q11,q12,qc,qf)
 else
 none
def afE (a:(List (List UInt8))) (b:(List (List UInt8))):Nat->Int->Option ((Bool)⊕(Unit))
 |0,_=>none
 |fuel+1,i=>
 bif (decide (i<((List.length a):Int))) then
 bif (!((List.getD a (Int.toNat i) [])==(List.getD b (Int.toNat i) []))) then
 let q0:=((Go.V.inB i (List.length b))&&((Go.V.inB i (List.length a))&&true))
 bif q0 then
 some (.inl false)
 else
 none
 else
 let q0:=((Go.V.inB i (List.length b))&&((Go.V.inB i (List.length a))&&true))
 bif q0 then
 M.afE a b fuel (Go.IntKind.wrap Go.IntKind.i64 (i+(1:Int)))
 else
 none
 else
 some ((.inr (())))
def aiz (a:(List (List UInt8))) (b:(List (List UInt8))):Option (Bool):=
 bif (((List.length a):Int) !=((List.length b):Int)) then
 some false
 else
 match (M.afE a b Go.V.aP (0:Int)) with
 |none=>none
 |some y0=>
 (match y0 with
 | .inl a1=>
 some a1
 | .inr b1=>
 some true)
def ae0 (aaL:M.ae->M.ae->Int->Option (Bool)) (deep:Int):Nat->Int->M.ae->M.ae->Option ((Bool)⊕(Unit))
 |0,_,_,_=>none
 |fuel+1,i,a,b=>
 bif (decide (i<((List.length (M.ae.Kids a)):Int))) then
 bif (!(Option.getD (aaL (M.ae.re (List.getD (M.ae.Kids a) (Int.toNat i) M.ae.zero)) (M.ae.re (List.getD (M.ae.Kids b) (Int.toNat i) M.ae.zero)) (Go.IntKind.wrap Go.IntKind.i64 (deep+(1:Int)))) default)) then
 let q0:=((Option.isSome (aaL (M.ae.re (List.getD (M.ae.Kids a) (Int.toNat i) M.ae.zero)) (M.ae.re (List.getD (M.ae.Kids b) (Int.toNat i) M.ae.zero)) (Go.IntKind.wrap Go.IntKind.i64 (deep+(1:Int)))))&&((Go.V.inB i (List.length (M.ae.Kids b)))&&((Go.V.inB i (List.length (M.ae.Kids a)))&&true)))
 bif q0 then
 some (.inl false)
 else
 none
 else
 let q0:=((Option.isSome (aaL (M.ae.re (List.getD (M.ae.Kids a) (Int.toNat i) M.ae.zero)) (M.ae.re (List.getD (M.ae.Kids b) (Int.toNat i) M.ae.zero)) (Go.IntKind.wrap Go.IntKind.i64 (deep+(1:Int)))))&&((Go.V.inB i (List.length (M.ae.Kids b)))&&((Go.V.inB i (List.length (M.ae.Kids a)))&&true)))
 bif q0 then
 M.ae0 aaL deep fuel (Go.IntKind.wrap Go.IntKind.i64 (i+(1:Int))) (M.ae.re a) (M.ae.re b)
 else
 none
 else
 some ((.inr (())))
def aiI (aaL:M.ae->M.ae->Int->Option (Bool)) (a:M.ae) (b:M.ae) (deep:Int):Option (Bool):=
 let q0:=(((decide ((100:Int)<deep))||((M.ae.Kind a) !=(M.ae.Kind b)))||(!((M.ae.Name a)==(M.ae.Name b))))
 let q1:=(M.aiz (M.ae.aQ a) (M.ae.aQ b))
 bif ((q0||(!(Option.getD q1 default)))||(((List.length (M.ae.Kids a)):Int) !=((List.length (M.ae.Kids b)):Int))) then
 let q2:=(((Option.isSome q1)||(!(q0==false)))&&true)
 bif q2 then
 some false
 else
 none
 else
 match (M.ae0 aaL deep Go.V.aP (0:Int) (M.ae.re a) (M.ae.re b)) with
 |none=>none
 |some y2=>
 (match y2 with
 | .inl a3=>
 let q4:=(((Option.isSome q1)||(!(q0==false)))&&true)
 bif q4 then
 some a3
 else
 none
 | .inr b3=>
 let q4:=(((Option.isSome q1)||(!(q0==false)))&&true)
 bif q4 then
 some true
 else
 none)
def ae2 : Nat->M.ae->M.ae->Int->Option (Bool)
 |0=>fun _ _ _=>none
 |n+1=>aiI (ae2 n)
def aj7 : M.ae->M.ae->Int->Option (Bool):=ae2 Go.V.aP
def aiB (a:M.ae) (b:M.ae):Option (Bool):=
 let q0:=(M.aj7 (M.ae.re a) (M.ae.re b) (1:Int))
 bif ((Option.isSome q0)&&true) then
 some (Option.getD q0 default)
 else
 none
def yt (t:M.ae) (room:Int):Option (Int×(List UInt8)×Int×Bool×Int×Int×Bool×Bool×Int×(List (List UInt8))×(List M.ae)×(List M.af)):=
 let q0:=(M.jE (M.ae.re t))
 bif (!(Option.getD q0 default)) then
 bif ((Option.isSome q0)&&true) then
 some ((0:Int),[],(0:Int),false,(0:Int),(0:Int),false,false,(7:Int),[],[],[])
 else
 none
 else
 bif (!((decide ((1:Int)<=room))&&(decide (room<=(6:Int))))) then
 bif ((Option.isSome q0)&&true) then
 some ((0:Int),[],(0:Int),false,(0:Int),(0:Int),false,false,(2:Int),[],[],[])
 else
 none
 else
 bif ((Option.isSome (M.nN (M.ae.re t)))&&((Option.isSome q0)&&true)) then
 none
 else
 none
def nz (t:M.ae) (room:Int):Option (Int×(List UInt8)×(List (List UInt8))×(List M.ae)×Int×Bool×Int×Int×Bool×Bool×Int×(List M.af)):=
 let q0:=(M.jE (M.ae.re t))
 bif (!(Option.getD q0 default)) then
 bif ((Option.isSome q0)&&true) then
 none
 else
 none
 else
 bif (!((decide ((1:Int)<=room))&&(decide (room<=(6:Int))))) then
 bif ((Option.isSome q0)&&true) then
 none
 else
 none
 else
 let q1:=(M.nN (M.ae.re t))
 bif ((Option.isSome q1)&&((Option.isSome q0)&&true)) then
 some ((M.ae.Kind (Option.getD q1 default)),(M.ae.Name (Option.getD q1 default)),(M.ae.aQ (Option.getD q1 default)),(M.ae.Kids (Option.getD q1 default)),room,false,(0:Int),(0:Int),false,false,(0:Int),[])
 else
 none
def CP (t:M.ae):Option (Int×(List UInt8)×Int×Bool×Int×Int×Bool×Bool×Int×(List (List UInt8))×(List M.ae)×(List M.af)):=
 let q0:=(M.jE (M.ae.re t))
 bif (!(Option.getD q0 default)) then
 bif ((Option.isSome q0)&&true) then
 some ((0:Int),[],(0:Int),false,(0:Int),(0:Int),false,false,(7:Int),[],[],[])
 else
 none
 else
 bif ((Option.isSome (M.nN (M.ae.re t)))&&((Option.isSome q0)&&true)) then
 none
 else
 none
def nC (t:M.ae):Option (Int×(List UInt8)×(List (List UInt8))×(List M.ae)×Int×Bool×Int×Int×Bool×Bool×Int×(List M.af)):=
 let q0:=(M.jE (M.ae.re t))
 bif (!(Option.getD q0 default)) then
 bif ((Option.isSome q0)&&true) then
 none
 else
 none
 else
 let q1:=(M.nN (M.ae.re t))
 bif ((Option.isSome q1)&&((Option.isSome q0)&&true)) then
 some ((M.ae.Kind (Option.getD q1 default)),(M.ae.Name (Option.getD q1 default)),(M.ae.aQ (Option.getD q1 default)),(M.ae.Kids (Option.getD q1 default)),(1:Int),true,(0:Int),(0:Int),false,false,(0:Int),[])
 else
 none
def uo (s:Int) (s2:(List UInt8)) (s3:(List (List UInt8))) (s4:(List M.ae)) (s5:Int) (s6:Bool) (s7:Int) (s8:Int) (s9:Bool) (s10:Bool) (o0:(List M.af)):Option (Int×(List UInt8)×Int×Bool×Int×Int×Bool×Bool×Int×(List M.af)×(List (List UInt8))×(List M.ae)×(List M.af)):=
 bif s9 then
 some ((0:Int),[],(0:Int),false,(0:Int),(0:Int),false,false,(5:Int),o0,[],[],[])
 else
 bif ((s6&&(!s10))&&(s7==(0:Int))) then
 some ((0:Int),[],(0:Int),false,(0:Int),(0:Int),false,false,(3:Int),o0,[],[],[])
 else
 none
def uu (s:Int) (s2:(List UInt8)) (s3:(List (List UInt8))) (s4:(List M.ae)) (s5:Int) (s6:Bool) (s7:Int) (s8:Int) (s9:Bool) (s10:Bool) (o0:(List M.af)):Option (Int×(List UInt8)×(List (List UInt8))×(List M.ae)×Int×Bool×Int×Int×Bool×Bool×Int×(List M.af)):=
 bif s9 then
 none
 else
 bif ((s6&&(!s10))&&(s7==(0:Int))) then
 none
 else
 some (s,s2,s3,s4,s5,s6,s7,s8,true,s10,(0:Int),o0)
def qZ (s:Int) (s2:(List UInt8)) (s3:(List (List UInt8))) (s4:(List M.ae)) (s5:Int) (s6:Bool) (s7:Int) (s8:Int) (s9:Bool) (s10:Bool) (o0:(List M.af)):Option (Int×(List UInt8)×Int×Bool×Int×Int×Bool×Bool×Int×(List M.af)×(List (List UInt8))×(List M.ae)×(List M.af)):=
 bif s10 then
 some ((0:Int),[],(0:Int),false,(0:Int),(0:Int),false,false,(5:Int),o0,[],[],[])
 else
 none
def rf (s:Int) (s2:(List UInt8)) (s3:(List (List UInt8))) (s4:(List M.ae)) (s5:Int) (s6:Bool) (s7:Int) (s8:Int) (s9:Bool) (s10:Bool) (o0:(List M.af)):Option (Int×(List UInt8)×(List (List UInt8))×(List M.ae)×Int×Bool×Int×Int×Bool×Bool×Int×(List M.af)×(List M.af)):=
 bif s10 then
 none
 else
 some (s,s2,s3,s4,s5,s6,s7,s8,s9,true,(0:Int),o0,[])
def Iy (s:M.ah) (most:Int):Option (Int×(List UInt8)×Int×Bool×Int×Int×Bool×Bool×Int×(List (List UInt8))×(List M.ae)×(List M.af)×(List M.af)):=
 bif (M.ah.Gone s) then
 some ((0:Int),[],(0:Int),false,(0:Int),(0:Int),false,false,(5:Int),[],[],[],[])
 else
 bif ((((List.length (M.ah.Buffer s)):Int)==(0:Int))&&(M.ah.Shut s)) then
 some ((0:Int),[],(0:Int),false,(0:Int),(0:Int),false,false,(3:Int),[],[],[],[])
 else
 let q0:=(M.gG most ((List.length (M.ah.Buffer s)):Int))
 let q1:=(Option.getD q0 default)
 let q2:=(Int.toNat q1)
 bif ((Option.isSome (M.bP (List.drop q2 (List.take (Int.toNat ((List.length (M.ah.Buffer s)):Int)) (M.ah.Buffer s)))))&&((Go.V.qg q1 ((List.length (M.ah.Buffer s)):Int) (List.length (M.ah.Buffer s)))&&((Option.isSome (M.bP (List.drop (Int.toNat (0:Int)) (List.take q2 (M.ah.Buffer s)))))&&((Go.V.qg (0:Int) q1 (List.length (M.ah.Buffer s)))&&((Option.isSome q0)&&true))))) then
 none
 else
 none
def uw (s:M.ah) (most:Int):Option (Int×(List UInt8)×(List (List UInt8))×(List M.ae)×Int×Bool×Int×Int×Bool×Bool×Int×(List M.af)×(List M.af)):=
 bif (M.ah.Gone s) then
 none
 else
 bif ((((List.length (M.ah.Buffer s)):Int)==(0:Int))&&(M.ah.Shut s)) then
 none
 else
 let q0:=(M.gG most ((List.length (M.ah.Buffer s)):Int))
 let q1:=(Option.getD q0 default)
 let q2:=(Int.toNat q1)
 let q3:=(M.bP (List.drop q2 (List.take (Int.toNat ((List.length (M.ah.Buffer s)):Int)) (M.ah.Buffer s))))
 let q4:=(M.bP (List.drop (Int.toNat (0:Int)) (List.take q2 (M.ah.Buffer s))))
 bif ((Option.isSome q3)&&((Go.V.qg q1 ((List.length (M.ah.Buffer s)):Int) (List.length (M.ah.Buffer s)))&&((Option.isSome q4)&&((Go.V.qg (0:Int) q1 (List.length (M.ah.Buffer s)))&&((Option.isSome q0)&&true))))) then
 some ((M.ae.Kind (M.ah.aO s)),(M.ae.Name (M.ah.aO s)),(M.ae.aQ (M.ah.aO s)),(M.ae.Kids (M.ah.aO s)),(M.ah.Room s),(M.ah.bu s),(M.ah.Put s),(Go.IntKind.wrap Go.IntKind.i64 ((M.ah.qM s)+q1)),(M.ah.Shut s),(M.ah.Gone s),(0:Int),(Option.getD q3 default),(Option.getD q4 default))
 else
 none
def pY (s:Int) (s2:(List UInt8)) (s3:(List (List UInt8))) (s4:(List M.ae)) (s5:Int) (s6:Bool) (s7:Int) (s8:Int) (s9:Bool) (s10:Bool) (most:Int) (o0:(List M.af)):Option (Int×(List UInt8)×Int×Bool×Int×Int×Bool×Bool×Int×(List M.af)×(List (List UInt8))×(List M.ae)×(List M.af)×(List M.af)):=
 bif s10 then
 some ((0:Int),[],(0:Int),false,(0:Int),(0:Int),false,false,(5:Int),o0,[],[],[],[])
 else
 bif ((((List.length o0):Int)==(0:Int))&&s9) then
 some ((0:Int),[],(0:Int),false,(0:Int),(0:Int),false,false,(3:Int),o0,[],[],[],[])
 else
 none
def QQ : Int->(List UInt8)->(List (List UInt8))->(List M.ae)->Int->Bool->Int->Int->Bool->Bool->Int->(List M.af)->Option (M.ah×(List M.af)×Int×(List M.af)):=fun _ _ _ _ _ _ _ _ _ _ _ _=>none
def En (t:M.ae) (s:M.ak):Option (M.af×M.ak):=
 bif ((M.ae.Kind t)==(11:Int)) then
 let q0:=(M.fE [[],[(97:UInt8)],[(104:UInt8),(101:UInt8),(108:UInt8),(108:UInt8),(111:UInt8)]] s)
 bif ((Option.isSome q0)&&true) then
 let q1:=(Option.getD q0 default)
 some ((M.af.mk (M.ae.Kind t) (0:Int) q1.1 []),q1.2)
 else
 none
 else
 bif ((M.ae.Kind t)==(2:Int)) then
 let q0:=(M.aJ (2:Int) s)
 bif ((Option.isSome q0)&&true) then
 some ((M.af.mk (M.ae.Kind t) (Option.getD q0 default).1 [] []),(Option.getD q0 default).2)
 else
 none
 else
 let q0:=(M.aJ (200:Int) s)
 bif ((Option.isSome q0)&&true) then
 some ((M.af.mk (M.ae.Kind t) (Option.getD q0 default).1 [] []),(Option.getD q0 default).2)
 else
 none
def pq : Nat->Int->M.ak->M.ae->(List M.af)->Option ((List UInt8)×Int×Int×(List M.af))
 |0,_,_,_,_=>none
 |fuel+1,k,s,t,out=>
 bif (decide ((0:Int)<k)) then
 let q0:=(M.En (M.ae.re t) s)
 let q1:=[(M.af.re (Option.getD q0 default).1)]
 bif ((decide (((List.length out)+(List.length q1))<=1073741824))&&((Option.isSome q0)&&true)) then
 M.pq fuel (Go.IntKind.wrap Go.IntKind.i64 (k-(1:Int))) (Option.getD q0 default).2 (M.ae.re t) (out++q1)
 else
 none
 else
 some (((M.ak.code s),(M.ak.at_ s),(M.ak.seed s),out))
def rq (t:M.ae) (s:M.ak):Option ((List M.af)×M.ak):=
 let q0:=(M.aJ (4:Int) s)
 match (M.pq Go.V.aP (Option.getD q0 default).1 (Option.getD q0 default).2 (M.ae.re t) []) with
 |none=>none
 |some y1=>
 bif ((Option.isSome q0)&&true) then
 some (y1.2.2.2,(M.ak.mk y1.1 y1.2.1 y1.2.2.1))
 else
 none
def FB (s:M.ah) (list:(List M.af)):Option (Int×(List UInt8)×Int×Bool×Int×Int×Bool×Bool×Int×Int×(List (List UInt8))×(List M.ae)×(List M.af)):=
 let q0:=(M.iT (M.ah.re s))
 bif ((decide ((8:Int)<((List.length list):Int)))||(decide ((Option.getD q0 default)<(Go.IntKind.wrap Go.IntKind.i64 ((M.ah.Put s)+((List.length list):Int)))))) then
 let q1:=(((Option.isSome q0)||(!((decide ((8:Int)<((List.length list):Int)))==false)))&&true)
 bif q1 then
 some ((0:Int),[],(0:Int),false,(0:Int),(0:Int),false,false,(0:Int),(4:Int),[],[],[])
 else
 none
 else
 bif (M.ah.Shut s) then
 let q1:=(((Option.isSome q0)||(!((decide ((8:Int)<((List.length list):Int)))==false)))&&true)
 bif q1 then
 some ((0:Int),[],(0:Int),false,(0:Int),(0:Int),false,false,(0:Int),(5:Int),[],[],[])
 else
 none
 else
 bif (M.ah.Gone s) then
 let q1:=(((Option.isSome q0)||(!((decide ((8:Int)<((List.length list):Int)))==false)))&&true)
 bif q1 then
 some ((0:Int),[],(0:Int),false,(0:Int),(0:Int),false,false,(0:Int),(17:Int),[],[],[])
 else
 none
 else
 let q1:=(M.bP (M.ah.Buffer s))
 let q2:=(M.gG ((List.length list):Int) (Go.IntKind.wrap Go.IntKind.i64 ((M.ah.Room s)-((List.length (M.ah.Buffer s)):Int))))
 let q3:=(Option.getD q2 default)
 let q4:=(M.bP (List.drop (Int.toNat (0:Int)) (List.take (Int.toNat q3) list)))
 let q5:=(((Option.isSome q0)||(!((decide ((8:Int)<((List.length list):Int)))==false)))&&true)
 bif ((decide (((List.length (Option.getD q1 default))+(List.length (Option.getD q4 default)))<=1073741824))&&((Option.isSome q4)&&((Go.V.qg (0:Int) q3 (List.length list))&&((Option.isSome q1)&&((Option.isSome q2)&&q5))))) then
 none
 else
 none
def ru (s:M.ah) (list:(List M.af)):Option (Int×(List UInt8)×(List (List UInt8))×(List M.ae)×Int×Bool×Int×Int×Bool×Bool×Int×Int×(List M.af)):=
 let q0:=(M.iT (M.ah.re s))
 bif ((decide ((8:Int)<((List.length list):Int)))||(decide ((Option.getD q0 default)<(Go.IntKind.wrap Go.IntKind.i64 ((M.ah.Put s)+((List.length list):Int)))))) then
 let q1:=(((Option.isSome q0)||(!((decide ((8:Int)<((List.length list):Int)))==false)))&&true)
 bif q1 then
 none
 else
 none
 else
 bif (M.ah.Shut s) then
 let q1:=(((Option.isSome q0)||(!((decide ((8:Int)<((List.length list):Int)))==false)))&&true)
 bif q1 then
 none
 else
 none
 else
 bif (M.ah.Gone s) then
 let q1:=(((Option.isSome q0)||(!((decide ((8:Int)<((List.length list):Int)))==false)))&&true)
 bif q1 then
 none
 else
 none
 else
 let q1:=(M.bP (M.ah.Buffer s))
 let q2:=(M.gG ((List.length list):Int) (Go.IntKind.wrap Go.IntKind.i64 ((M.ah.Room s)-((List.length (M.ah.Buffer s)):Int))))
 let q3:=(Option.getD q2 default)
 let q4:=(M.bP (List.drop (Int.toNat (0:Int)) (List.take (Int.toNat q3) list)))
 let q5:=(Option.getD q4 default)
 let q6:=(((Option.isSome q0)||(!((decide ((8:Int)<((List.length list):Int)))==false)))&&true)
 bif ((decide (((List.length (Option.getD q1 default))+(List.length q5))<=1073741824))&&((Option.isSome q4)&&((Go.V.qg (0:Int) q3 (List.length list))&&((Option.isSome q1)&&((Option.isSome q2)&&q6))))) then
 some ((M.ae.Kind (M.ah.aO s)),(M.ae.Name (M.ah.aO s)),(M.ae.aQ (M.ah.aO s)),(M.ae.Kids (M.ah.aO s)),(M.ah.Room s),(M.ah.bu s),(Go.IntKind.wrap Go.IntKind.i64 ((M.ah.Put s)+q3)),(M.ah.qM s),(M.ah.Shut s),(M.ah.Gone s),q3,(0:Int),((Option.getD q1 default)++q5))
 else
 none
def nZ (s:Int) (s2:(List UInt8)) (s3:(List (List UInt8))) (s4:(List M.ae)) (s5:Int) (s6:Bool) (s7:Int) (s8:Int) (s9:Bool) (s10:Bool) (list:(List M.af)) (o0:(List M.af)):Option (Int×(List UInt8)×Int×Bool×Int×Int×Bool×Bool×Int×Int×(List M.af)×(List (List UInt8))×(List M.ae)×(List M.af)):=
 let q0:=(M.iT (M.ah.mk (M.ae.mk s s2 s3 s4) s5 s6 o0 s7 s8 s9 s10))
 bif ((decide ((8:Int)<((List.length list):Int)))||(decide ((Option.getD q0 default)<(Go.IntKind.wrap Go.IntKind.i64 (s7+((List.length list):Int)))))) then
 let q1:=(((Option.isSome q0)||(!((decide ((8:Int)<((List.length list):Int)))==false)))&&true)
 bif q1 then
 some ((0:Int),[],(0:Int),false,(0:Int),(0:Int),false,false,(0:Int),(4:Int),o0,[],[],[])
 else
 none
 else
 bif s9 then
 let q1:=(((Option.isSome q0)||(!((decide ((8:Int)<((List.length list):Int)))==false)))&&true)
 bif q1 then
 some ((0:Int),[],(0:Int),false,(0:Int),(0:Int),false,false,(0:Int),(5:Int),o0,[],[],[])
 else
 none
 else
 bif s10 then
 let q1:=(((Option.isSome q0)||(!((decide ((8:Int)<((List.length list):Int)))==false)))&&true)
 bif q1 then
 some ((0:Int),[],(0:Int),false,(0:Int),(0:Int),false,false,(0:Int),(17:Int),o0,[],[],[])
 else
 none
 else
 let q1:=(M.bP o0)
 let q2:=(M.gG ((List.length list):Int) (Go.IntKind.wrap Go.IntKind.i64 (s5-((List.length o0):Int))))
 let q3:=(Option.getD q2 default)
 let q4:=(M.bP (List.drop (Int.toNat (0:Int)) (List.take (Int.toNat q3) list)))
 let q5:=(((Option.isSome q0)||(!((decide ((8:Int)<((List.length list):Int)))==false)))&&true)
 bif ((decide (((List.length (Option.getD q1 default))+(List.length (Option.getD q4 default)))<=1073741824))&&((Option.isSome q4)&&((Go.V.qg (0:Int) q3 (List.length list))&&((Option.isSome q1)&&((Option.isSome q2)&&q5))))) then
 none
 else
 none
def AQ (s:Int) (s2:(List UInt8)) (s3:(List (List UInt8))) (s4:(List M.ae)) (s5:Int) (s6:Bool) (s7:Int) (s8:Int) (s9:Bool) (s10:Bool) (list:(List M.af)) (o0:(List M.af)):Option (Int×(List UInt8)×(List (List UInt8))×(List M.ae)×Int×Bool×Int×Int×Bool×Bool×Int×Int×(List M.af)×(List M.af)):=
 let q0:=(M.iT (M.ah.mk (M.ae.mk s s2 s3 s4) s5 s6 o0 s7 s8 s9 s10))
 bif ((decide ((8:Int)<((List.length list):Int)))||(decide ((Option.getD q0 default)<(Go.IntKind.wrap Go.IntKind.i64 (s7+((List.length list):Int)))))) then
 let q1:=(((Option.isSome q0)||(!((decide ((8:Int)<((List.length list):Int)))==false)))&&true)
 bif q1 then
 none
 else
 none
 else
 bif s9 then
 let q1:=(((Option.isSome q0)||(!((decide ((8:Int)<((List.length list):Int)))==false)))&&true)
 bif q1 then
 none
 else
 none
 else
 bif s10 then
 let q1:=(((Option.isSome q0)||(!((decide ((8:Int)<((List.length list):Int)))==false)))&&true)
 bif q1 then
 none
 else
 none
 else
 let q1:=(M.bP o0)
 let q2:=(M.gG ((List.length list):Int) (Go.IntKind.wrap Go.IntKind.i64 (s5-((List.length o0):Int))))
 let q3:=(Option.getD q2 default)
 let q4:=(M.bP (List.drop (Int.toNat (0:Int)) (List.take (Int.toNat q3) list)))
 let q5:=(Option.getD q4 default)
 let q6:=(((Option.isSome q0)||(!((decide ((8:Int)<((List.length list):Int)))==false)))&&true)
 bif ((decide (((List.length (Option.getD q1 default))+(List.length q5))<=1073741824))&&((Option.isSome q4)&&((Go.V.qg (0:Int) q3 (List.length list))&&((Option.isSome q1)&&((Option.isSome q2)&&q6))))) then
 some (s,s2,s3,s4,s5,s6,(Go.IntKind.wrap Go.IntKind.i64 (s7+q3)),s8,s9,s10,q3,(0:Int),o0,((Option.getD q1 default)++q5))
 else
 none
def dm (t2:Int) (t22:(List UInt8)) (t23:Int) (t24:Bool) (t25:Int) (t26:Int) (t27:Bool) (t28:Bool) (t:Int) (t3:(List UInt8)) (o7:(List (List UInt8))) (o8:(List M.ae)) (OY:(List (List UInt8))) (o11:(List M.ae)) (o12:(List M.af)):Nat->Int->M.ak->Int->(List UInt8)->(List (List UInt8))->(List M.ae)->Int->Bool->Int->Int->Bool->Bool->(List M.af)->Option ((List UInt8)×Int×Int×Int×(List UInt8)×Int×Bool×Int×Int×Bool×Bool×Int×(List UInt8)×(List (List UInt8))×(List M.ae)×Int×Bool×Int×Int×Bool×Bool×(List (List UInt8))×(List M.ae)×(List M.af)×(List M.af))
 |0,_,_,_,_,_,_,_,_,_,_,_,_,_=>none
 |fuel+1,k,s,x,x2,x3,x4,x5,x6,x7,x8,x9,x10,o13=>
 bif (decide ((0:Int)<k)) then
 let q0:=(M.aJ (8:Int) s)
 let q1:=(Option.getD q0 default).1
 bif (q1==(0:Int)) then
 Go.V.orE (let q2:=(M.uu x x2 x3 x4 x5 x6 x7 x8 x9 x10 o13)
 let q3:=(Option.getD q2 default)
 let q4:=q3.2
 let q5:=q4.2
 let q6:=q5.2
 let q7:=q6.2
 let q8:=q7.2
 let q9:=q8.2
 let q10:=q9.2
 let q11:=q10.2
 let q12:=q11.2
 let q13:=q12.2
 bif (q13.1==(0:Int)) then
 let qc:=((Option.isSome q0)&&true)
 let qf:=((Option.isSome q2)&&qc)
 bif qf then
 let q16:=(Option.getD q0 default).2
 let uy:=q13.2
 M.dm t2 t22 t23 t24 t25 t26 t27 t28 t t3 o7 o8 OY o11 o12 fuel (Go.IntKind.wrap Go.IntKind.i64 (k-(1:Int))) q16 q3.1 q4.1 q5.1 q6.1 q7.1 q8.1 q9.1 q10.1 q11.1 q12.1 uy
 else
 none
 else
 let qc:=((Option.isSome q0)&&true)
 let qf:=((Option.isSome q2)&&qc)
 bif qf then
 let q16:=(Option.getD q0 default).2
 let uy:=q13.2
 M.dm t2 t22 t23 t24 t25 t26 t27 t28 t t3 o7 o8 OY o11 o12 fuel (Go.IntKind.wrap Go.IntKind.i64 (k-(1:Int))) q16 x x2 x3 x4 x5 x6 x7 x8 x9 x10 uy
 else
 none) (let q2:=(M.uo x x2 x3 x4 x5 x6 x7 x8 x9 x10 o13)
 let q3:=default
 let q4:=(Option.getD q2 q3).2.2.2.2.2.2.2.2
 bif (q4.1==(0:Int)) then
 let q5:=((Option.isSome q0)&&true)
 let q6:=((Option.isSome q2)&&q5)
 bif q6 then
 none
 else
 none
 else
 let q5:=((Option.isSome q0)&&true)
 let q6:=((Option.isSome q2)&&q5)
 bif q6 then
 let q7:=(Option.getD q0 default).2
 M.dm t2 t22 t23 t24 t25 t26 t27 t28 t t3 o7 o8 OY o11 o12 fuel (Go.IntKind.wrap Go.IntKind.i64 (k-(1:Int))) q7 x x2 x3 x4 x5 x6 x7 x8 x9 x10 q4.2.1
 else
 none)
 else
 bif (q1==(1:Int)) then
 let q2:=(Option.getD q0 default).2
 let q3:=(M.dY (2:Int) q2)
 let q4:=(Option.getD q3 default)
 bif q4.1 then
 Go.V.orE (let q5:=(M.rf x x2 x3 x4 x5 x6 x7 x8 x9 x10 o13)
 let q6:=default
 let q7:=(Option.getD q5 q6)
 let q8:=q7.2
 let q9:=q8.2
 let q10:=q9.2
 let q11:=q10.2
 let q12:=q11.2
 let q13:=q12.2
 let qc:=q13.2
 let qf:=qc.2
 let q16:=qf.2
 let uy:=q16.2
 bif (uy.1==(0:Int)) then
 let rC:=((Option.isSome q0)&&true)
 let tH:=((Option.isSome q3)&&rC)
 let uz:=((Option.isSome q5)&&tH)
 bif uz then
 let yV:=q4.2
 let q22:=uy.2
 M.dm t2 t22 t23 t24 t25 t26 t27 t28 t t3 o7 o8 OY o11 o12 fuel (Go.IntKind.wrap Go.IntKind.i64 (k-(1:Int))) yV q7.1 q8.1 q9.1 q10.1 q11.1 q12.1 q13.1 qc.1 qf.1 q16.1 q22.2
 else
 none
 else
 let rC:=((Option.isSome q0)&&true)
 let tH:=((Option.isSome q3)&&rC)
 let uz:=((Option.isSome q5)&&tH)
 bif uz then
 let yV:=q4.2
 let q22:=uy.2
 M.dm t2 t22 t23 t24 t25 t26 t27 t28 t t3 o7 o8 OY o11 o12 fuel (Go.IntKind.wrap Go.IntKind.i64 (k-(1:Int))) yV x x2 x3 x4 x5 x6 x7 x8 x9 x10 q22.1
 else
 none) (let q5:=(M.qZ x x2 x3 x4 x5 x6 x7 x8 x9 x10 o13)
 let q6:=default
 let q7:=(Option.getD q5 q6).2.2.2.2.2.2.2.2
 bif (q7.1==(0:Int)) then
 let q8:=((Option.isSome q0)&&true)
 let q9:=((Option.isSome q3)&&q8)
 let q10:=((Option.isSome q5)&&q9)
 bif q10 then
 none
 else
 none
 else
 let q8:=((Option.isSome q0)&&true)
 let q9:=((Option.isSome q3)&&q8)
 let q10:=((Option.isSome q5)&&q9)
 bif q10 then
 let q11:=q4.2
 M.dm t2 t22 t23 t24 t25 t26 t27 t28 t t3 o7 o8 OY o11 o12 fuel (Go.IntKind.wrap Go.IntKind.i64 (k-(1:Int))) q11 x x2 x3 x4 x5 x6 x7 x8 x9 x10 q7.2.1
 else
 none)
 else
 let q5:=((Option.isSome q0)&&true)
 let q6:=((Option.isSome q3)&&q5)
 bif q6 then
 let q7:=q4.2
 M.dm t2 t22 t23 t24 t25 t26 t27 t28 t t3 o7 o8 OY o11 o12 fuel (Go.IntKind.wrap Go.IntKind.i64 (k-(1:Int))) q7 x x2 x3 x4 x5 x6 x7 x8 x9 x10 o13
 else
 none
 else
 let q2:=(q1==(2:Int))
 bif (bif q2 then q2 else (q1==(3:Int))) then
 Go.V.orE (let q3:=(Option.getD q0 default).2
 let q4:=(M.aJ (4:Int) q3)
 let q5:=(Option.getD q4 default)
 let q6:=(Go.IntKind.wrap Go.IntKind.i64 ((1:Int)+q5.1))
 let q7:=(M.uw (M.ah.mk (M.ae.mk x x2 x3 x4) x5 x6 o13 x7 x8 x9 x10) q6)
 let q8:=default
 let q9:=(Option.getD q7 q8)
 let q10:=q9.2
 let q11:=q10.2
 let q12:=q11.2
 let q13:=q12.2
 let qc:=q13.2
 let qf:=qc.2
 let q16:=qf.2
 let uy:=q16.2
 let rC:=uy.2
 let tH:=rC.2
 bif (tH.1==(0:Int)) then
 let uz:=((Option.isSome q0)&&true)
 let yV:=((uz||(!q2))&&(uz||q2))
 let q22:=((Option.isSome q4)&&yV)
 let q23:=((Option.isSome q7)&&q22)
 bif q23 then
 let q24:=q5.2
 M.dm t2 t22 t23 t24 t25 t26 t27 t28 t t3 o7 o8 OY o11 o12 fuel (Go.IntKind.wrap Go.IntKind.i64 (k-(1:Int))) q24 q9.1 q10.1 q11.1 q12.1 q13.1 qc.1 qf.1 q16.1 uy.1 rC.1 tH.2.1
 else
 none
 else
 let uz:=((Option.isSome q0)&&true)
 let yV:=((uz||(!q2))&&(uz||q2))
 let q22:=((Option.isSome q4)&&yV)
 let q23:=((Option.isSome q7)&&q22)
 bif q23 then
 none
 else
 none) (let q3:=(Option.getD q0 default).2
 let q4:=(M.aJ (4:Int) q3)
 let q5:=(Option.getD q4 default)
 let q6:=(Go.IntKind.wrap Go.IntKind.i64 ((1:Int)+q5.1))
 let q7:=(M.pY x x2 x3 x4 x5 x6 x7 x8 x9 x10 q6 o13)
 let q8:=(Option.getD q7 default).2.2.2.2.2.2.2.2
 bif (q8.1==(0:Int)) then
 let q9:=((Option.isSome q0)&&true)
 let q10:=((q9||(!q2))&&(q9||q2))
 let q11:=((Option.isSome q4)&&q10)
 let q12:=((Option.isSome q7)&&q11)
 bif q12 then
 none
 else
 none
 else
 let q9:=((Option.isSome q0)&&true)
 let q10:=((q9||(!q2))&&(q9||q2))
 let q11:=((Option.isSome q4)&&q10)
 let q12:=((Option.isSome q7)&&q11)
 bif q12 then
 let q13:=q5.2
 M.dm t2 t22 t23 t24 t25 t26 t27 t28 t t3 o7 o8 OY o11 o12 fuel (Go.IntKind.wrap Go.IntKind.i64 (k-(1:Int))) q13 x x2 x3 x4 x5 x6 x7 x8 x9 x10 q8.2.1
 else
 none)
 else
 Go.V.orE (let q3:=(Option.getD q0 default).2
 let q4:=(M.rq (M.ae.mk t t3 o7 o8) q3)
 let q5:=(Option.getD q4 default)
 let q6:=q5.1
 let q7:=(M.ru (M.ah.mk (M.ae.mk x x2 x3 x4) x5 x6 o13 x7 x8 x9 x10) q6)
 let q8:=(Option.getD q7 default)
 let q9:=q8.2
 let q10:=q9.2
 let q11:=q10.2
 let q12:=q11.2
 let q13:=q12.2
 let qc:=q13.2
 let qf:=qc.2
 let q16:=qf.2
 let uy:=q16.2
 let rC:=uy.2.2
 bif (rC.1==(0:Int)) then
 let tH:=((Option.isSome q0)&&true)
 let uz:=((tH||(!q2))&&(tH||q2))
 let yV:=((Option.isSome q4)&&uz)
 let q22:=((Option.isSome q7)&&yV)
 bif q22 then
 let q23:=q5.2
 M.dm t2 t22 t23 t24 t25 t26 t27 t28 t t3 o7 o8 OY o11 o12 fuel (Go.IntKind.wrap Go.IntKind.i64 (k-(1:Int))) q23 q8.1 q9.1 q10.1 q11.1 q12.1 q13.1 qc.1 qf.1 q16.1 uy.1 rC.2
 else
 none
 else
 let tH:=((Option.isSome q0)&&true)
 let uz:=((tH||(!q2))&&(tH||q2))
 let yV:=((Option.isSome q4)&&uz)
 let q22:=((Option.isSome q7)&&yV)
 bif q22 then
 none
 else
 none) (let q3:=(Option.getD q0 default).2
 let q4:=(M.rq (M.ae.mk t t3 o7 o8) q3)
 let q5:=(Option.getD q4 default)
 let q6:=q5.1
 let q7:=(M.nZ x x2 x3 x4 x5 x6 x7 x8 x9 x10 q6 o13)
 let q8:=(Option.getD q7 default).2.2.2.2.2.2.2.2.2
 bif (q8.1==(0:Int)) then
 let q9:=((Option.isSome q0)&&true)
 let q10:=((q9||(!q2))&&(q9||q2))
 let q11:=((Option.isSome q4)&&q10)
 let q12:=((Option.isSome q7)&&q11)
 bif q12 then
 none
 else
 none
 else
 let q9:=((Option.isSome q0)&&true)
 let q10:=((q9||(!q2))&&(q9||q2))
 let q11:=((Option.isSome q4)&&q10)
 let q12:=((Option.isSome q7)&&q11)
 bif q12 then
 let q13:=q5.2
 M.dm t2 t22 t23 t24 t25 t26 t27 t28 t t3 o7 o8 OY o11 o12 fuel (Go.IntKind.wrap Go.IntKind.i64 (k-(1:Int))) q13 x x2 x3 x4 x5 x6 x7 x8 x9 x10 q8.2.1
 else
 none)
 else
 some (((M.ak.code s),(M.ak.at_ s),(M.ak.seed s),t2,t22,t23,t24,t25,t26,t27,t28,x,x2,x3,x4,x5,x6,x7,x8,x9,x10,OY,o11,o12,o13))
def zV (s:M.ak):Option (Int×(List UInt8)×(List (List UInt8))×(List M.ae)×Int×Bool×Int×Int×Bool×Bool×M.ak×(List M.af)):=
 Go.V.orE (let q0:=(M.bU [(9:Int),(9:Int),(3:Int),(11:Int),(2:Int)] s)
 let q1:=(Option.getD q0 default)
 let q2:=(M.aJ (6:Int) q1.2)
 let q3:=(Option.getD q2 default)
 let q4:=(M.dY (4:Int) q3.2)
 let q5:=(Option.getD q4 default)
 let q6:=q5.1
 bif q6 then
 Go.V.orE (let q7:=q1.1
 let q8:=(M.aJ (8:Int) q5.2)
 let q9:=(Option.getD q8 default)
 let q10:=q9.1
 let q11:=q9.2
 let q12:=(M.nC (M.ae.mk q7 [] [] []))
 let q13:=default
 let qc:=(Option.getD q12 q13)
 let qf:=qc.2
 let q16:=qf.2
 let uy:=q16.2
 let rC:=uy.2
 let tH:=rC.2
 let uz:=tH.2
 let yV:=uz.2
 let q22:=yV.2
 let q23:=q22.2
 let q24:=(M.dm (0:Int) [] (0:Int) false (0:Int) (0:Int) false false q7 [] [] [] [] [] [] Go.V.aP q10 q11 qc.1 qf.1 q16.1 uy.1 rC.1 tH.1 uz.1 yV.1 q22.1 q23.1 q23.2.2)
 match q24 with
 |none=>none
 |some y25=>
 let TC:=(Option.isSome q8)
 let Y1:=(Option.isSome q12)
 let q28:=(Option.isSome q4)
 let q29:=(Go.IntKind.wrap Go.IntKind.i64 ((1:Int)+q3.1))
 let q30:=(M.nz (M.ae.mk q7 [] [] []) q29)
 let q31:=((Option.isSome q2)&&((Option.isSome q0)&&true))
 let q32:=(q28&&((Option.isSome q30)&&q31))
 bif (TC&&(Y1&&q32)) then
 let q33:=y25.2
 let q34:=q33.2
 let q35:=q34.2.2.2.2.2.2.2.2.2
 let q36:=q35.2
 let q37:=q36.2
 let q38:=q37.2
 let q39:=q38.2
 let q40:=q39.2
 let q41:=q40.2
 let q42:=q41.2
 let q43:=q42.2
 let q44:=q43.2
 some (q35.1,q36.1,q37.1,q38.1,q39.1,q40.1,q41.1,q42.1,q43.1,q44.1,(M.ak.mk y25.1 q33.1 q34.1),q44.2.2.2.2)
 else
 none) (none)
 else
 let q7:=q1.1
 let q8:=(M.aJ (8:Int) q5.2)
 let q9:=(Option.getD q8 default)
 let q10:=q9.1
 let q11:=q9.2
 let q12:=(Go.IntKind.wrap Go.IntKind.i64 ((1:Int)+q3.1))
 let q13:=(M.nz (M.ae.mk q7 [] [] []) q12)
 let qc:=default
 let qf:=(Option.getD q13 qc)
 let q16:=qf.2
 let uy:=q16.2
 let rC:=uy.2
 let tH:=rC.2
 let uz:=tH.2
 let yV:=uz.2
 let q22:=yV.2
 let q23:=q22.2
 let q24:=q23.2
 match (M.dm (0:Int) [] (0:Int) false (0:Int) (0:Int) false false q7 [] [] [] [] [] [] Go.V.aP q10 q11 qf.1 q16.1 uy.1 rC.1 tH.1 uz.1 yV.1 q22.1 q23.1 q24.1 q24.2.2) with
 |none=>none
 |some y25=>
 let TC:=(Option.isSome q8)
 let Y1:=(Option.isSome q4)
 let q28:=((Option.isSome q2)&&((Option.isSome q0)&&true))
 let q29:=(Y1&&((Option.isSome q13)&&q28))
 bif (TC&&q29) then
 let q30:=y25.2
 let q31:=q30.2
 let q32:=q31.2.2.2.2.2.2.2.2.2
 let q33:=q32.2
 let q34:=q33.2
 let q35:=q34.2
 let q36:=q35.2
 let q37:=q36.2
 let q38:=q37.2
 let q39:=q38.2
 let q40:=q39.2
 let q41:=q40.2
 some (q32.1,q33.1,q34.1,q35.1,q36.1,q37.1,q38.1,q39.1,q40.1,q41.1,(M.ak.mk y25.1 q30.1 q31.1),q41.2.2.2.2)
 else
 none) (let q0:=(M.bU [(9:Int),(9:Int),(3:Int),(11:Int),(2:Int)] s)
 let q1:=(Option.getD q0 default)
 let q2:=(M.aJ (6:Int) q1.2)
 let q3:=(Option.getD q2 default)
 let q4:=(M.dY (4:Int) q3.2)
 let q5:=(Option.getD q4 default)
 let q6:=q5.1
 bif q6 then
 Go.V.orE (let q7:=q1.1
 let q8:=(M.aJ (8:Int) q5.2)
 let q9:=(Option.getD q8 default)
 let q10:=q9.1
 let q11:=q9.2
 let q12:=(M.nC (M.ae.mk q7 [] [] []))
 let q13:=default
 let qc:=(Option.getD q12 q13)
 let qf:=qc.2
 let q16:=qf.2
 let uy:=q16.2
 let rC:=uy.2
 let tH:=rC.2
 let uz:=tH.2
 let yV:=uz.2
 let q22:=yV.2
 let q23:=q22.2
 let q24:=(M.dm (0:Int) [] (0:Int) false (0:Int) (0:Int) false false q7 [] [] [] [] [] [] Go.V.aP q10 q11 qc.1 qf.1 q16.1 uy.1 rC.1 tH.1 uz.1 yV.1 q22.1 q23.1 q23.2.2)
 match q24 with
 |none=>none
 |some y25=>
 let TC:=(Option.isSome q8)
 let Y1:=(Option.isSome q12)
 let q28:=(Option.isSome q4)
 let q29:=(Go.IntKind.wrap Go.IntKind.i64 ((1:Int)+q3.1))
 let q30:=((Option.isSome q2)&&((Option.isSome q0)&&true))
 bif (TC&&(Y1&&(q28&&((Option.isSome (M.yt (M.ae.mk q7 [] [] []) q29))&&q30)))) then
 let q31:=y25.2
 let q32:=q31.2
 let q33:=q32.2.2.2.2.2.2.2.2.2
 let q34:=q33.2
 let q35:=q34.2
 let q36:=q35.2
 let q37:=q36.2
 let q38:=q37.2
 let q39:=q38.2
 let q40:=q39.2
 let q41:=q40.2
 let q42:=q41.2
 some (q33.1,q34.1,q35.1,q36.1,q37.1,q38.1,q39.1,q40.1,q41.1,q42.1,(M.ak.mk y25.1 q31.1 q32.1),q42.2.2.2.2)
 else
 none) (none)
 else
 none)
def zW (s:M.ak):Option (M.ah×M.ak):=
 let q0:=(M.zV s)
 let q1:=(Option.getD q0 default)
 let q2:=q1.2
 let q3:=q2.2
 let q4:=q3.2
 let q5:=q4.2
 let q6:=q5.2
 let q7:=q6.2
 let q8:=q7.2
 let q9:=q8.2
 let q10:=q9.2
 let q11:=q10.2
 let q12:=(M.aJ (16:Int) q11.1)
 let q13:=(Option.getD q12 default)
 let qc:=q13.1
 bif (qc==(0:Int)) then
 let qf:=q13.2
 let q16:=(M.bU [(0:Int),(6:Int),(7:Int)] qf)
 let uy:=((Option.isSome q12)&&((Option.isSome q0)&&true))
 bif ((Option.isSome q16)&&uy) then
 let rC:=(Option.getD q16 default)
 let tH:=q6.1
 let uz:=q11.2
 let yV:=q7.1
 let q22:=q8.1
 let q23:=q9.1
 let q24:=q10.1
 some ((M.ah.mk (M.ae.mk q1.1 q2.1 q3.1 q4.1) rC.1 tH uz yV q22 q23 q24),rC.2)
 else
 none
 else
 bif (qc==(1:Int)) then
 let qf:=q13.2
 let q16:=(M.aJ (3:Int) qf)
 let uy:=((Option.isSome q12)&&((Option.isSome q0)&&true))
 bif ((Option.isSome q16)&&uy) then
 let rC:=q5.1
 let tH:=q6.1
 let uz:=q11.2
 let yV:=q7.1
 let q22:=(Option.getD q16 default)
 let q23:=q8.1
 let q24:=q9.1
 let Xn:=q10.1
 some ((M.ah.mk (M.ae.mk q1.1 q2.1 q3.1 q4.1) rC tH uz (Go.IntKind.wrap Go.IntKind.i64 (yV+(Go.IntKind.wrap Go.IntKind.i64 (q22.1-(1:Int))))) q23 q24 Xn),q22.2)
 else
 none
 else
 bif (qc==(2:Int)) then
 let qf:=((Option.isSome q12)&&((Option.isSome q0)&&true))
 bif qf then
 let q16:=q5.1
 let uy:=q6.1
 let rC:=q11.2
 let tH:=q7.1
 let uz:=q8.1
 let yV:=q9.1
 let q22:=q10.1
 let q23:=q13.2
 some ((M.ah.mk (M.ae.mk q1.1 q2.1 q3.1 q4.1) q16 uy rC tH uz yV (!q22)),q23)
 else
 none
 else
 bif (qc==(3:Int)) then
 let qf:=q13.2
 let q16:=(M.Ef qf)
 let uy:=((Option.isSome q12)&&((Option.isSome q0)&&true))
 bif ((Option.isSome q16)&&uy) then
 let rC:=(Option.getD q16 default)
 let tH:=rC.2
 let uz:=tH.2
 let yV:=uz.2
 let q22:=q5.1
 let q23:=q6.1
 let q24:=q11.2
 let Xn:=q7.1
 let TC:=q8.1
 let Y1:=q9.1
 let q28:=q10.1
 some ((M.ah.mk (M.ae.mk rC.1 tH.1 yV.1 yV.2) q22 q23 q24 Xn TC Y1 q28),uz.1)
 else
 none
 else
 bif (qc==(4:Int)) then
 let qf:=((Option.isSome q12)&&((Option.isSome q0)&&true))
 bif qf then
 let q16:=q5.1
 let uy:=q6.1
 let rC:=q11.2
 let tH:=q7.1
 let uz:=q8.1
 let yV:=q9.1
 let q22:=q10.1
 let q23:=q13.2
 some ((M.ah.mk (M.ae.mk q1.1 q2.1 q3.1 q4.1) q16 (!uy) rC tH uz yV q22),q23)
 else
 none
 else
 bif (qc==(5:Int)) then
 let qf:=q11.2
 let q16:=[(M.af.mk (4:Int) (200:Int) [] [])]
 let uy:=((Option.isSome q12)&&((Option.isSome q0)&&true))
 bif ((decide (((List.length qf)+(List.length q16))<=1073741824))&&uy) then
 let rC:=q5.1
 let tH:=q6.1
 let uz:=q7.1
 let yV:=q8.1
 let q22:=q9.1
 let q23:=q10.1
 let q24:=q13.2
 some ((M.ah.mk (M.ae.mk q1.1 q2.1 q3.1 q4.1) rC tH (qf++q16) uz yV q22 q23),q24)
 else
 none
 else
 let qf:=((Option.isSome q12)&&((Option.isSome q0)&&true))
 bif qf then
 let q16:=q5.1
 let uy:=q6.1
 let rC:=q11.2
 let tH:=q7.1
 let uz:=q8.1
 let yV:=q9.1
 let q22:=q10.1
 let q23:=q13.2
 some ((M.ah.mk (M.ae.mk q1.1 q2.1 q3.1 q4.1) q16 uy rC tH uz yV q22),q23)
 else
 none
def aer (t:M.ae) (room:Int):Option (M.ah×Int):=
 let q0:=(M.jE (M.ae.re t))
 bif (!(Option.getD q0 default)) then
 bif ((Option.isSome q0)&&true) then
 some ((M.ah.mk (M.ae.mk (0:Int) [] [] []) (0:Int) false [] (0:Int) (0:Int) false false),(7:Int))
 else
 none
 else
 bif (!((decide ((1:Int)<=room))&&(decide (room<=(6:Int))))) then
 bif ((Option.isSome q0)&&true) then
 some ((M.ah.mk (M.ae.mk (0:Int) [] [] []) (0:Int) false [] (0:Int) (0:Int) false false),(2:Int))
 else
 none
 else
 let q1:=(M.nN (M.ae.re t))
 bif ((Option.isSome q1)&&((Option.isSome q0)&&true)) then
 some ((M.ah.mk (M.ae.re (Option.getD q1 default)) room false [] (0:Int) (0:Int) false false),(0:Int))
 else
 none
def af6 (t:M.ae):Option (M.ah×Int):=
 let q0:=(M.jE (M.ae.re t))
 bif (!(Option.getD q0 default)) then
 bif ((Option.isSome q0)&&true) then
 some ((M.ah.mk (M.ae.mk (0:Int) [] [] []) (0:Int) false [] (0:Int) (0:Int) false false),(7:Int))
 else
 none
 else
 let q1:=(M.nN (M.ae.re t))
 bif ((Option.isSome q1)&&((Option.isSome q0)&&true)) then
 some ((M.ah.mk (M.ae.re (Option.getD q1 default)) (1:Int) true [] (0:Int) (0:Int) false false),(0:Int))
 else
 none
def abT (t2:Int) (t22:(List UInt8)) (t23:Int) (t24:Bool) (t25:Int) (t26:Int) (t27:Bool) (t28:Bool) (o8:(List (List UInt8))) (o9:(List M.ae)) (OY:(List M.af)):Nat->Int->(List UInt8)->Int->Int->M.ah->(List M.dZ)->Option (Int×(List UInt8)×Int×Bool×Int×Int×Bool×Bool×(List UInt8)×Int×Int×M.ah×(List M.dZ)×(List (List UInt8))×(List M.ae)×(List M.af))
 |0,_,_,_,_,_,_=>none
 |fuel+1,k,s,s2,s3,x,out=>
 bif (decide ((0:Int)<k)) then
 let q0:=(M.dY (2:Int) (M.ak.mk s s2 s3))
 let q1:=(M.aJ (5:Int) (Option.getD q0 default).2)
 let q2:=(Option.getD q1 default)
 let q3:=(M.dY (14:Int) q2.2)
 let q4:=(Option.getD q3 default)
 bif q4.1 then
 let q5:=(List.length out)
 let q6:=(Option.getD q0 default).1
 let q7:=[(M.dZ.mk q6 true (0:Int))]
 let q8:=((Option.isSome q3)&&((Option.isSome q1)&&((Option.isSome q0)&&true)))
 bif ((decide ((q5+(List.length q7))<=1073741824))&&q8) then
 let q9:=q4.2
 M.abT t2 t22 t23 t24 t25 t26 t27 t28 o8 o9 OY fuel (Go.IntKind.wrap Go.IntKind.i64 (k-(1:Int))) (M.ak.code q9) (M.ak.at_ q9) (M.ak.seed q9) (M.ah.re x) (out++q7)
 else
 none
 else
 let q5:=(List.length out)
 let q6:=(Option.getD q0 default).1
 let q7:=[(M.dZ.mk q6 false q2.1)]
 let q8:=((Option.isSome q3)&&((Option.isSome q1)&&((Option.isSome q0)&&true)))
 bif ((decide ((q5+(List.length q7))<=1073741824))&&q8) then
 let q9:=q4.2
 M.abT t2 t22 t23 t24 t25 t26 t27 t28 o8 o9 OY fuel (Go.IntKind.wrap Go.IntKind.i64 (k-(1:Int))) (M.ak.code q9) (M.ak.at_ q9) (M.ak.seed q9) (M.ah.re x) (out++q7)
 else
 none
 else
 some ((t2,t22,t23,t24,t25,t26,t27,t28,s,s2,s3,(M.ah.re x),out,o8,o9,OY))
def afe (code:(List UInt8)):Option (M.ah×Int×(List M.dZ)):=
 let q0:=(M.aJ (6:Int) (M.ak.mk code (0:Int) (0:Int)))
 let q1:=(Option.getD q0 default)
 let q2:=(M.dY (5:Int) q1.2)
 let q3:=(Option.getD q2 default)
 bif q3.1 then
 let q4:=(M.dY (8:Int) q3.2)
 let q5:=(Option.getD q4 default)
 let q6:=q5.1
 bif q6 then
 let q7:=q5.2
 let q8:=(M.zW q7)
 let q9:=(Option.getD q8 default)
 let q10:=(M.aJ (24:Int) q9.2)
 let q11:=(Option.getD q10 default)
 let q12:=q11.2
 let q13:=(M.abT (0:Int) [] (0:Int) false (0:Int) (0:Int) false false [] [] [] Go.V.aP q11.1 (M.ak.code q12) (M.ak.at_ q12) (M.ak.seed q12) (M.ah.re q9.1) [])
 match q13 with
 |none=>none
 |some y14=>
 let qf:=y14.2.2.2.2.2.2.2.2
 let q16:=qf.2
 let uy:=q16.2
 let rC:=(M.dY (20:Int) (M.ak.mk qf.1 q16.1 uy.1))
 let tH:=(Option.getD rC default)
 bif tH.1 then
 let uz:=[(0:Int),(5:Int),(-(1000000:Int)),(1000000:Int),(1000001:Int)]
 let yV:=[(-(1:Int)),(9:Int)]
 let q22:=tH.2
 let q23:=(M.bU yV q22)
 let q24:=(Option.getD q23 default)
 let Xn:=(M.bU uz q24.2)
 let TC:=uy.2
 let Y1:=TC.2.1
 let q28:=[(M.dZ.mk false false q24.1)]
 let q29:=(Option.isSome q10)
 let q30:=(Option.isSome q8)
 let q31:=(Option.isSome q4)
 let q32:=(M.af6 (M.ae.mk (9:Int) [] [] []))
 let q33:=(M.aer (M.ae.mk (9:Int) [] [] []) (Go.IntKind.wrap Go.IntKind.i64 ((1:Int)+q1.1)))
 let q34:=((Option.isSome q2)&&((Option.isSome q33)&&((Option.isSome q0)&&true)))
 let q35:=(q31&&((Option.isSome q32)&&q34))
 let q36:=((Option.isSome rC)&&(q29&&(q30&&q35)))
 bif ((Option.isSome Xn)&&((decide (((List.length Y1)+(List.length q28))<=1073741824))&&((Option.isSome q23)&&q36))) then
 some ((M.ah.re TC.1),(Option.getD Xn default).1,(Y1++q28))
 else
 none
 else
 let uz:=[(0:Int),(5:Int),(-(1000000:Int)),(1000000:Int),(1000001:Int)]
 let yV:=tH.2
 let q22:=(M.bU uz yV)
 let q23:=(Option.isSome q10)
 let q24:=(Option.isSome q8)
 let Xn:=(Option.isSome q4)
 let TC:=(M.af6 (M.ae.mk (9:Int) [] [] []))
 let Y1:=(M.aer (M.ae.mk (9:Int) [] [] []) (Go.IntKind.wrap Go.IntKind.i64 ((1:Int)+q1.1)))
 let q28:=((Option.isSome q2)&&((Option.isSome Y1)&&((Option.isSome q0)&&true)))
 let q29:=(Xn&&((Option.isSome TC)&&q28))
 let q30:=((Option.isSome rC)&&(q23&&(q24&&q29)))
 bif ((Option.isSome q22)&&q30) then
 let q31:=uy.2
 let q32:=q31.2.1
 some ((M.ah.re q31.1),(Option.getD q22 default).1,q32)
 else
 none
 else
 let q7:=q5.2
 let q8:=(M.aJ (24:Int) q7)
 let q9:=(Option.getD q8 default)
 let q10:=q9.1
 let q11:=q9.2
 let q12:=(M.af6 (M.ae.mk (9:Int) [] [] []))
 match (M.abT (0:Int) [] (0:Int) false (0:Int) (0:Int) false false [] [] [] Go.V.aP q10 (M.ak.code q11) (M.ak.at_ q11) (M.ak.seed q11) (M.ah.re (Option.getD q12 default).1) []) with
 |none=>none
 |some y13=>
 let qc:=y13.2.2.2.2.2.2.2.2
 let qf:=qc.2
 let q16:=qf.2
 let uy:=(M.dY (20:Int) (M.ak.mk qc.1 qf.1 q16.1))
 let rC:=(Option.getD uy default)
 bif rC.1 then
 let tH:=[(0:Int),(5:Int),(-(1000000:Int)),(1000000:Int),(1000001:Int)]
 let uz:=[(-(1:Int)),(9:Int)]
 let yV:=rC.2
 let q22:=(M.bU uz yV)
 let q23:=(Option.getD q22 default)
 let q24:=(M.bU tH q23.2)
 let Xn:=q16.2
 let TC:=Xn.2.1
 let Y1:=[(M.dZ.mk false false q23.1)]
 let q28:=(Option.isSome q8)
 let q29:=(Option.isSome q4)
 let q30:=(M.aer (M.ae.mk (9:Int) [] [] []) (Go.IntKind.wrap Go.IntKind.i64 ((1:Int)+q1.1)))
 let q31:=((Option.isSome q2)&&((Option.isSome q30)&&((Option.isSome q0)&&true)))
 let q32:=(q29&&((Option.isSome q12)&&q31))
 let q33:=((Option.isSome uy)&&(q28&&q32))
 bif ((Option.isSome q24)&&((decide (((List.length TC)+(List.length Y1))<=1073741824))&&((Option.isSome q22)&&q33))) then
 some ((M.ah.re Xn.1),(Option.getD q24 default).1,(TC++Y1))
 else
 none
 else
 let tH:=[(0:Int),(5:Int),(-(1000000:Int)),(1000000:Int),(1000001:Int)]
 let uz:=rC.2
 let yV:=(M.bU tH uz)
 let q22:=(Option.isSome q8)
 let q23:=(Option.isSome q4)
 let q24:=(M.aer (M.ae.mk (9:Int) [] [] []) (Go.IntKind.wrap Go.IntKind.i64 ((1:Int)+q1.1)))
 let Xn:=((Option.isSome q2)&&((Option.isSome q24)&&((Option.isSome q0)&&true)))
 let TC:=(q23&&((Option.isSome q12)&&Xn))
 let Y1:=((Option.isSome uy)&&(q22&&TC))
 bif ((Option.isSome yV)&&Y1) then
 let q28:=q16.2
 let q29:=q28.2.1
 some ((M.ah.re q28.1),(Option.getD yV default).1,q29)
 else
 none
 else
 let q4:=(M.dY (8:Int) q3.2)
 let q5:=(Option.getD q4 default)
 let q6:=q5.1
 bif q6 then
 let q7:=q5.2
 let q8:=(M.zW q7)
 let q9:=(Option.getD q8 default)
 let q10:=(M.aJ (24:Int) q9.2)
 let q11:=(Option.getD q10 default)
 let q12:=q11.2
 let q13:=(M.abT (0:Int) [] (0:Int) false (0:Int) (0:Int) false false [] [] [] Go.V.aP q11.1 (M.ak.code q12) (M.ak.at_ q12) (M.ak.seed q12) (M.ah.re q9.1) [])
 match q13 with
 |none=>none
 |some y14=>
 let qf:=y14.2.2.2.2.2.2.2.2
 let q16:=qf.2
 let uy:=q16.2
 let rC:=(M.dY (20:Int) (M.ak.mk qf.1 q16.1 uy.1))
 let tH:=(Option.getD rC default)
 bif tH.1 then
 let uz:=[(0:Int),(5:Int),(-(1000000:Int)),(1000000:Int),(1000001:Int)]
 let yV:=[(-(1:Int)),(9:Int)]
 let q22:=tH.2
 let q23:=(M.bU yV q22)
 let q24:=(Option.getD q23 default)
 let Xn:=(M.bU uz q24.2)
 let TC:=uy.2
 let Y1:=TC.2.1
 let q28:=[(M.dZ.mk false false q24.1)]
 let q29:=(Option.isSome q10)
 let q30:=(Option.isSome q8)
 let q31:=(Option.isSome q4)
 let q32:=(M.aer (M.ae.mk (9:Int) [] [] []) (Go.IntKind.wrap Go.IntKind.i64 ((1:Int)+q1.1)))
 let q33:=((Option.isSome q2)&&((Option.isSome q32)&&((Option.isSome q0)&&true)))
 let q34:=(q31&&q33)
 let q35:=((Option.isSome rC)&&(q29&&(q30&&q34)))
 bif ((Option.isSome Xn)&&((decide (((List.length Y1)+(List.length q28))<=1073741824))&&((Option.isSome q23)&&q35))) then
 some ((M.ah.re TC.1),(Option.getD Xn default).1,(Y1++q28))
 else
 none
 else
 let uz:=[(0:Int),(5:Int),(-(1000000:Int)),(1000000:Int),(1000001:Int)]
 let yV:=tH.2
 let q22:=(M.bU uz yV)
 let q23:=(Option.isSome q10)
 let q24:=(Option.isSome q8)
 let Xn:=(Option.isSome q4)
 let TC:=(M.aer (M.ae.mk (9:Int) [] [] []) (Go.IntKind.wrap Go.IntKind.i64 ((1:Int)+q1.1)))
 let Y1:=((Option.isSome q2)&&((Option.isSome TC)&&((Option.isSome q0)&&true)))
 let q28:=(Xn&&Y1)
 let q29:=((Option.isSome rC)&&(q23&&(q24&&q28)))
 bif ((Option.isSome q22)&&q29) then
 let q30:=uy.2
 let q31:=q30.2.1
 some ((M.ah.re q30.1),(Option.getD q22 default).1,q31)
 else
 none
 else
 let q7:=q5.2
 let q8:=(M.aJ (24:Int) q7)
 let q9:=(Option.getD q8 default)
 let q10:=q9.1
 let q11:=q9.2
 let q12:=(M.aer (M.ae.mk (9:Int) [] [] []) (Go.IntKind.wrap Go.IntKind.i64 ((1:Int)+q1.1)))
 match (M.abT (0:Int) [] (0:Int) false (0:Int) (0:Int) false false [] [] [] Go.V.aP q10 (M.ak.code q11) (M.ak.at_ q11) (M.ak.seed q11) (M.ah.re (Option.getD q12 default).1) []) with
 |none=>none
 |some y13=>
 let qc:=y13.2.2.2.2.2.2.2.2
 let qf:=qc.2
 let q16:=qf.2
 let uy:=(M.dY (20:Int) (M.ak.mk qc.1 qf.1 q16.1))
 let rC:=(Option.getD uy default)
 bif rC.1 then
 let tH:=[(0:Int),(5:Int),(-(1000000:Int)),(1000000:Int),(1000001:Int)]
 let uz:=[(-(1:Int)),(9:Int)]
 let yV:=rC.2
 let q22:=(M.bU uz yV)
 let q23:=(Option.getD q22 default)
 let q24:=(M.bU tH q23.2)
 let Xn:=q16.2
 let TC:=Xn.2.1
 let Y1:=[(M.dZ.mk false false q23.1)]
 let q28:=(Option.isSome q8)
 let q29:=(Option.isSome q4)
 let q30:=((Option.isSome q2)&&((Option.isSome q12)&&((Option.isSome q0)&&true)))
 let q31:=(q29&&q30)
 let q32:=((Option.isSome uy)&&(q28&&q31))
 bif ((Option.isSome q24)&&((decide (((List.length TC)+(List.length Y1))<=1073741824))&&((Option.isSome q22)&&q32))) then
 some ((M.ah.re Xn.1),(Option.getD q24 default).1,(TC++Y1))
 else
 none
 else
 let tH:=[(0:Int),(5:Int),(-(1000000:Int)),(1000000:Int),(1000001:Int)]
 let uz:=rC.2
 let yV:=(M.bU tH uz)
 let q22:=(Option.isSome q8)
 let q23:=(Option.isSome q4)
 let q24:=((Option.isSome q2)&&((Option.isSome q12)&&((Option.isSome q0)&&true)))
 let Xn:=(q23&&q24)
 let TC:=((Option.isSome uy)&&(q22&&Xn))
 bif ((Option.isSome yV)&&TC) then
 let Y1:=q16.2
 let q28:=Y1.2.1
 some ((M.ah.re Y1.1),(Option.getD yV default).1,q28)
 else
 none
def acS (aaK:M.af->M.af->Option (Bool)):Nat->Int->M.af->M.af->Option ((Bool)⊕(Unit))
 |0,_,_,_=>none
 |fuel+1,i,a,b=>
 bif (decide (i<((List.length (M.af.Kids a)):Int))) then
 bif (!(Option.getD (aaK (M.af.re (List.getD (M.af.Kids a) (Int.toNat i) M.af.zero)) (M.af.re (List.getD (M.af.Kids b) (Int.toNat i) M.af.zero))) default)) then
 let q0:=((Option.isSome (aaK (M.af.re (List.getD (M.af.Kids a) (Int.toNat i) M.af.zero)) (M.af.re (List.getD (M.af.Kids b) (Int.toNat i) M.af.zero))))&&((Go.V.inB i (List.length (M.af.Kids b)))&&((Go.V.inB i (List.length (M.af.Kids a)))&&true)))
 bif q0 then
 some (.inl false)
 else
 none
 else
 let q0:=((Option.isSome (aaK (M.af.re (List.getD (M.af.Kids a) (Int.toNat i) M.af.zero)) (M.af.re (List.getD (M.af.Kids b) (Int.toNat i) M.af.zero))))&&((Go.V.inB i (List.length (M.af.Kids b)))&&((Go.V.inB i (List.length (M.af.Kids a)))&&true)))
 bif q0 then
 M.acS aaK fuel (Go.IntKind.wrap Go.IntKind.i64 (i+(1:Int))) (M.af.re a) (M.af.re b)
 else
 none
 else
 some ((.inr (())))
def ah3 (aaK:M.af->M.af->Option (Bool)) (a:M.af) (b:M.af):Option (Bool):=
 bif (((((M.af.Kind a) !=(M.af.Kind b))||((M.af.Num a) !=(M.af.Num b)))||(!((M.af.Text a)==(M.af.Text b))))||(((List.length (M.af.Kids a)):Int) !=((List.length (M.af.Kids b)):Int))) then
 some false
 else
 match (M.acS aaK Go.V.aP (0:Int) (M.af.re a) (M.af.re b)) with
 |none=>none
 |some y0=>
 (match y0 with
 | .inl a1=>
 some a1
 | .inr b1=>
 some true)
def adr : Nat->M.af->M.af->Option (Bool)
 |0=>fun _ _=>none
 |n+1=>ah3 (adr n)
def ajx : M.af->M.af->Option (Bool):=adr Go.V.aP
def acI (a:(List M.af)) (b:(List M.af)):Nat->Int->Option ((Bool)⊕(Unit))
 |0,_=>none
 |fuel+1,i=>
 bif (decide (i<((List.length a):Int))) then
 let q0:=(M.ajx (M.af.re (List.getD a (Int.toNat i) M.af.zero)) (M.af.re (List.getD b (Int.toNat i) M.af.zero)))
 bif (!(Option.getD q0 default)) then
 let q1:=((Option.isSome q0)&&((Go.V.inB i (List.length b))&&((Go.V.inB i (List.length a))&&true)))
 bif q1 then
 some (.inl false)
 else
 none
 else
 let q1:=((Option.isSome q0)&&((Go.V.inB i (List.length b))&&((Go.V.inB i (List.length a))&&true)))
 bif q1 then
 M.acI a b fuel (Go.IntKind.wrap Go.IntKind.i64 (i+(1:Int)))
 else
 none
 else
 some ((.inr (())))
def afD (a:(List M.af)) (b:(List M.af)):Option (Bool):=
 bif (((List.length a):Int) !=((List.length b):Int)) then
 some false
 else
 match (M.acI a b Go.V.aP (0:Int)) with
 |none=>none
 |some y0=>
 (match y0 with
 | .inl a1=>
 some a1
 | .inr b1=>
 some true)
def ahg (a:M.ah) (b:M.ah):Option (Bool):=
 let q0:=(M.afD (M.ah.Buffer a) (M.ah.Buffer b))
 let q1:=(M.aiB (M.ae.re (M.ah.aO a)) (M.ae.re (M.ah.aO b)))
 let q2:=(((Option.getD q1 default)&&((M.ah.Room a)==(M.ah.Room b)))&&((M.ah.bu a)==(M.ah.bu b)))
 bif (((Option.isSome q0)||(!(q2==true)))&&((Option.isSome q1)&&true)) then
 some (((((q2&&(Option.getD q0 default))&&((M.ah.Put a)==(M.ah.Put b)))&&((M.ah.qM a)==(M.ah.qM b)))&&((M.ah.Shut a)==(M.ah.Shut b)))&&((M.ah.Gone a)==(M.ah.Gone b)))
 else
 none
def ac8 (first:Int) (x:Int) (x2:(List UInt8)) (x3:Int) (x4:Bool) (x5:Int) (x6:Int) (x7:Bool) (x8:Bool) (got:(List M.af)) (o6:(List (List UInt8))) (o7:(List M.ae)) (o8:(List M.af)):Nat->Int->Option ((Bool)⊕(Int×Int×(List UInt8)×Int×Bool×Int×Int×Bool×Bool×(List M.af)×(List (List UInt8))×(List M.ae)×(List M.af)))
 |0,_=>none
 |fuel+1,i=>
 bif (decide (i<((List.length got):Int))) then
 bif ((M.af.Num (List.getD got (Int.toNat i) M.af.zero)) !=(Go.IntKind.wrap Go.IntKind.i64 (first+i))) then
 bif ((Go.V.inB i (List.length got))&&true) then
 some (.inl false)
 else
 none
 else
 bif ((Go.V.inB i (List.length got))&&true) then
 M.ac8 first x x2 x3 x4 x5 x6 x7 x8 got o6 o7 o8 fuel (Go.IntKind.wrap Go.IntKind.i64 (i+(1:Int)))
 else
 none
 else
 some ((.inr ((first,x,x2,x3,x4,x5,x6,x7,x8,got,o6,o7,o8))))
def ado (first:Int) (x:Int) (x2:(List UInt8)) (x3:Int) (x4:Bool) (x5:Int) (x6:Int) (x7:Bool) (x8:Bool) (got:(List M.af)) (o6:(List (List UInt8))) (o7:(List M.ae)) (o8:(List M.af)):Nat->Int->Option ((Bool)⊕(Int×(List UInt8)×Int×Bool×Int×Int×Bool×Bool×(List M.af)×(List (List UInt8))×(List M.ae)×(List M.af)))
 |0,_=>none
 |fuel+1,i=>
 bif (decide (i<((List.length o8):Int))) then
 bif ((M.af.Num (List.getD o8 (Int.toNat i) M.af.zero)) !=(Go.IntKind.wrap Go.IntKind.i64 (first+(Go.IntKind.wrap Go.IntKind.i64 (((List.length got):Int)+i))))) then
 bif ((Go.V.inB i (List.length o8))&&true) then
 some (.inl false)
 else
 none
 else
 bif ((Go.V.inB i (List.length o8))&&true) then
 M.ado first x x2 x3 x4 x5 x6 x7 x8 got o6 o7 o8 fuel (Go.IntKind.wrap Go.IntKind.i64 (i+(1:Int)))
 else
 none
 else
 some ((.inr ((x,x2,x3,x4,x5,x6,x7,x8,got,o6,o7,o8))))
def aif (code:(List UInt8)):Option (Bool):=
 let q0:=(M.NF code [])
 bif (Option.getD q0 default) then
 some true
 else
 let q1:=(M.afe code)
 let q2:=(Option.getD q1 default).1
 let q3:=(Option.getD q1 default).2
 let q4:=q3.1
 let q5:=q3.2
 let q6:=(M.ahb (M.ah.re q2) q4 q5)
 let q7:=(Option.getD q6 default)
 let q8:=q7.2
 let q9:=q8.2
 let q10:=q9.2
 let q11:=q10.2
 let q12:=q11.2
 let q13:=q12.2
 let qc:=q13.2
 let qf:=qc.2
 let q16:=qf.1
 let uy:=(M.ag6 (M.ah.re q2) q4 q5)
 let rC:=(Option.getD uy default)
 let tH:=rC.2
 let uz:=qf.2
 let yV:=uz.2
 let q22:=yV.2
 let q23:=q22.2
 let q24:=((q16 !=tH.2)||(((List.length q23):Int) !=((List.length tH.1):Int)))
 let Xn:=q7.1
 let TC:=q8.1
 let Y1:=uz.1
 let q28:=yV.1
 let q29:=q9.1
 let q30:=q10.1
 let q31:=q22.1
 let q32:=q11.1
 let q33:=q12.1
 let q34:=q13.1
 let q35:=qc.1
 let q36:=(M.ahg (M.ah.mk (M.ae.mk Xn TC Y1 q28) q29 q30 q31 q32 q33 q34 q35) (M.ah.re rC.1))
 bif (q24||(!(Option.getD q36 default))) then
 let q37:=(((Option.isSome q36)||(!(q24==false)))&&((Option.isSome uy)&&((Option.isSome q6)&&((Option.isSome q1)&&((Option.isSome q0)&&true)))))
 bif q37 then
 some false
 else
 none
 else
 bif ((q16 !=(0:Int))||((M.ah.Put q2) !=(0:Int))) then
 let q37:=(((Option.isSome q36)||(!(q24==false)))&&((Option.isSome uy)&&((Option.isSome q6)&&((Option.isSome q1)&&((Option.isSome q0)&&true)))))
 bif q37 then
 some true
 else
 none
 else
 match (M.ac8 q4 Xn TC q29 q30 q32 q33 q34 q35 q23 Y1 q28 q31 Go.V.aP (0:Int)) with
 |none=>none
 |some y37=>
 (match y37 with
 | .inl a38=>
 let q39:=(((Option.isSome q36)||(!(q24==false)))&&((Option.isSome uy)&&((Option.isSome q6)&&((Option.isSome q1)&&((Option.isSome q0)&&true)))))
 bif q39 then
 some a38
 else
 none
 | .inr b38=>
 let q39:=b38.2
 let q40:=q39.2
 let q41:=q40.2
 let q42:=q41.2
 let q43:=q42.2
 let q44:=q43.2
 let q45:=q44.2
 let q46:=q45.2
 let q47:=q46.2
 let q48:=q47.2
 let q49:=q48.2
 match (M.ado b38.1 q39.1 q40.1 q41.1 q42.1 q43.1 q44.1 q45.1 q46.1 q47.1 q48.1 q49.1 q49.2 Go.V.aP (0:Int)) with
 |none=>none
 |some y50=>
 (match y50 with
 | .inl a51=>
 let q52:=(((Option.isSome q36)||(!(q24==false)))&&((Option.isSome uy)&&((Option.isSome q6)&&((Option.isSome q1)&&((Option.isSome q0)&&true)))))
 bif q52 then
 some a51
 else
 none
 | .inr b51=>
 let q52:=b51.2
 let q53:=q52.2
 let q54:=q53.2
 let q55:=q54.2
 let q56:=q55.2
 let q57:=q56.2
 let q58:=q57.2
 let q59:=q58.2
 let q60:=q59.2
 let q61:=q60.2
 let q62:=q61.2
 let q63:=q55.1
 let q64:=q56.1
 let q65:=q58.1
 let q66:=(M.je (M.ah.mk (M.ae.mk b51.1 q52.1 q60.1 q61.1) q53.1 q54.1 q62 q63 q64 q57.1 q65))
 let q67:=((q64==((List.length q59.1):Int))&&(q65||(q63==(Go.IntKind.wrap Go.IntKind.i64 (q64+((List.length q62):Int))))))
 let q68:=(((Option.isSome q36)||(!(q24==false)))&&((Option.isSome uy)&&((Option.isSome q6)&&((Option.isSome q1)&&((Option.isSome q0)&&true)))))
 bif (((Option.isSome q66)||(!(q67==true)))&&q68) then
 some (q67&&(Option.getD q66 default))
 else
 none))
end M
