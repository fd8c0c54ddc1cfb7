/-
  Part of the proof of the claim.
-/
import Derived.Test.YtjdnmlhfiblhdaaGreatXNdata
import Derived.Test.YtjdnmlhfiblhdaaGreatXNHdKAop
import Derived.Test.YtjdnmlhfiblhdaaGreatXNHdKNote
set_option linter.unusedVariables false
set_option maxRecDepth 100000
noncomputable section
namespace M
def kS (a:(List (List UInt8))) (b:(List (List UInt8))):Nat->Int->Option ((Bool)⊕(Unit))
 |0,_=>none
 |fuel+1,i=>
 bif (decide (i<((List.length a):Int))) then
 bif (!((List.getD a (Int.toNat i) [])==(List.getD b (Int.toNat i) []))) then
 let q0:=((Go.V.inB i (List.length b))&&((Go.V.inB i (List.length a))&&true))
 bif q0 then
 some (.inl false)
 else
 none
 else
 let q0:=((Go.V.inB i (List.length b))&&((Go.V.inB i (List.length a))&&true))
 bif q0 then
 M.kS a b fuel (Go.IntKind.wrap Go.IntKind.i64 (i+(1:Int)))
 else
 none
 else
 some ((.inr (())))
def uM (a:(List (List UInt8))) (b:(List (List UInt8))):Option (Bool):=
 bif (((List.length a):Int) !=((List.length b):Int)) then
 some false
 else
 match (M.kS a b Go.V.aF (0:Int)) with
 |none=>none
 |some y0=>
 (match y0 with
 | .inl a1=>
 some a1
 | .inr b1=>
 some true)
def oO (aO:M.ae->M.ae->Option (Bool)) (a:(List M.ae)) (b:(List M.ae)):Nat->Int->Option ((Bool)⊕(Unit))
 |0,_=>none
 |fuel+1,i=>
 bif (decide (i<((List.length a):Int))) then
 bif (!(Option.getD (aO (M.ae.re (List.getD a (Int.toNat i) M.ae.zero)) (M.ae.re (List.getD b (Int.toNat i) M.ae.zero))) default)) then
 let q0:=((Option.isSome (aO (M.ae.re (List.getD a (Int.toNat i) M.ae.zero)) (M.ae.re (List.getD b (Int.toNat i) M.ae.zero))))&&((Go.V.inB i (List.length b))&&((Go.V.inB i (List.length a))&&true)))
 bif q0 then
 some (.inl false)
 else
 none
 else
 let q0:=((Option.isSome (aO (M.ae.re (List.getD a (Int.toNat i) M.ae.zero)) (M.ae.re (List.getD b (Int.toNat i) M.ae.zero))))&&((Go.V.inB i (List.length b))&&((Go.V.inB i (List.length a))&&true)))
 bif q0 then
 M.oO aO a b fuel (Go.IntKind.wrap Go.IntKind.i64 (i+(1:Int)))
 else
 none
 else
 some ((.inr (())))
def AZ (aO:M.ae->M.ae->Option (Bool)) (a:(List M.ae)) (b:(List M.ae)):Option (Bool):=
 bif (((List.length a):Int) !=((List.length b):Int)) then
 some false
 else
 match (M.oO aO a b Go.V.aF (0:Int)) with
 |none=>none
 |some y0=>
 (match y0 with
 | .inl a1=>
 some a1
 | .inr b1=>
 some true)
def BD (aO:M.ae->M.ae->Option (Bool)) (a:M.ae) (b:M.ae):Option (Bool):=
 bif ((M.ae.Kind a) !=(M.ae.Kind b)) then
 some false
 else
 bif (!((M.ae.Name a)==(M.ae.Name b))) then
 some false
 else
 let q0:=(M.uM (M.ae.bV a) (M.ae.bV b))
 bif (!(Option.getD q0 default)) then
 bif ((Option.isSome q0)&&true) then
 some false
 else
 none
 else
 let q1:=(M.AZ aO (M.ae.Kids a) (M.ae.Kids b))
 bif (!(Option.getD q1 default)) then
 bif ((Option.isSome q1)&&((Option.isSome q0)&&true)) then
 some false
 else
 none
 else
 bif ((Option.isSome q1)&&((Option.isSome q0)&&true)) then
 some true
 else
 none
def tN : Nat->M.ae->M.ae->Option (Bool)
 |0=>fun _ _=>none
 |n+1=>BD (tN n)
def OZ : M.ae->M.ae->Option (Bool):=tN Go.V.aF
def yU (a:Int) (b:Int):Option (Int):=
 bif (decide (b<a)) then
 some a
 else
 some b
def lU (bF:M.ae->Int->Option (Int×Int)) (deep:Int):Nat->Int->Int->Int->M.ae->Option ((Int×Int)⊕(Int×Int))
 |0,_,_,_,_=>none
 |fuel+1,most,parts,i,t=>
 bif (decide (i<((List.length (M.ae.Kids t)):Int))) then
 let q0:=(Option.getD (bF (M.ae.re (List.getD (M.ae.Kids t) (Int.toNat i) M.ae.zero)) (Go.IntKind.wrap Go.IntKind.i64 (deep+(1:Int)))) default)
 let q1:=(Go.IntKind.wrap Go.IntKind.i64 (parts+q0.2))
 bif (decide ((24:Int)<q1)) then
 let q2:=(M.yU most q0.1)
 let q3:=((Option.isSome q2)&&((Option.isSome (bF (M.ae.re (List.getD (M.ae.Kids t) (Int.toNat i) M.ae.zero)) (Go.IntKind.wrap Go.IntKind.i64 (deep+(1:Int)))))&&((Go.V.inB i (List.length (M.ae.Kids t)))&&true)))
 bif q3 then
 some (.inl ((5:Int),(25:Int)))
 else
 none
 else
 let q2:=(M.yU most q0.1)
 let q3:=((Option.isSome q2)&&((Option.isSome (bF (M.ae.re (List.getD (M.ae.Kids t) (Int.toNat i) M.ae.zero)) (Go.IntKind.wrap Go.IntKind.i64 (deep+(1:Int)))))&&((Go.V.inB i (List.length (M.ae.Kids t)))&&true)))
 bif q3 then
 M.lU bF deep fuel (Option.getD q2 default) q1 (Go.IntKind.wrap Go.IntKind.i64 (i+(1:Int))) (M.ae.re t)
 else
 none
 else
 some ((.inr ((most,parts))))
def yT (bF:M.ae->Int->Option (Int×Int)) (t:M.ae) (deep:Int):Option (Int×Int):=
 bif ((decide ((4:Int)<deep))||(decide ((24:Int)<((List.length (M.ae.Kids t)):Int)))) then
 some ((5:Int),(25:Int))
 else
 match (M.lU bF deep Go.V.aF (0:Int) (1:Int) (0:Int) (M.ae.re t)) with
 |none=>none
 |some y0=>
 (match y0 with
 | .inl a1=>
 some (a1.1,a1.2)
 | .inr b1=>
 some ((Go.IntKind.wrap Go.IntKind.i64 (b1.1+(1:Int))),b1.2))
def ou : Nat->M.ae->Int->Option (Int×Int)
 |0=>fun _ _=>none
 |n+1=>yT (ou n)
def Ll : M.ae->Int->Option (Int×Int):=ou Go.V.aF
def GV (n:Int) (low:Int) (high:Int):Option (Bool):=
 some ((decide (low<=n))&&(decide (n<=high)))
def oM (s:(List UInt8)):Nat->Int->Option ((Bool)⊕(Unit))
 |0,_=>none
 |fuel+1,i=>
 bif (decide (i<((List.length s):Int))) then
 let q0:=((((decide (((UInt8.toNat (List.getD s (Int.toNat i) (0:UInt8))):Int)<(97:Int)))||(decide ((122:Int)<((UInt8.toNat (List.getD s (Int.toNat i) (0:UInt8))):Int))))&&((decide (((UInt8.toNat (List.getD s (Int.toNat i) (0:UInt8))):Int)<(48:Int)))||(decide ((57:Int)<((UInt8.toNat (List.getD s (Int.toNat i) (0:UInt8))):Int)))))&&(((UInt8.toNat (List.getD s (Int.toNat i) (0:UInt8))):Int) !=(45:Int)))
 let q1:=(((UInt8.toNat (List.getD s (Int.toNat i) (0:UInt8))):Int)==(45:Int))
 bif (q0||(q1&&(((UInt8.toNat (List.getD s (Int.toNat (Go.IntKind.wrap Go.IntKind.i64 (i-(1:Int)))) (0:UInt8))):Int)==(45:Int)))) then
 let q2:=(((Go.V.inB (Go.IntKind.wrap Go.IntKind.i64 (i-(1:Int))) (List.length s))||(!((q0==false)&&(q1==true))))&&((Go.V.inB i (List.length s))&&true))
 bif q2 then
 some (.inl false)
 else
 none
 else
 let q2:=(((Go.V.inB (Go.IntKind.wrap Go.IntKind.i64 (i-(1:Int))) (List.length s))||(!((q0==false)&&(q1==true))))&&((Go.V.inB i (List.length s))&&true))
 bif q2 then
 M.oM s fuel (Go.IntKind.wrap Go.IntKind.i64 (i+(1:Int)))
 else
 none
 else
 some ((.inr (())))
def uk (s:(List UInt8)):Option (Bool):=
 let q0:=((decide (((List.length s):Int)<(1:Int)))||(decide ((12:Int)<((List.length s):Int))))
 let q1:=(q0||(decide (((UInt8.toNat (List.getD s (Int.toNat (0:Int)) (0:UInt8))):Int)<(97:Int))))
 let q2:=(q1||(decide ((122:Int)<((UInt8.toNat (List.getD s (Int.toNat (0:Int)) (0:UInt8))):Int))))
 bif (q2||(((UInt8.toNat (List.getD s (Int.toNat (Go.IntKind.wrap Go.IntKind.i64 (((List.length s):Int)-(1:Int)))) (0:UInt8))):Int)==(45:Int))) then
 let q3:=(((Go.V.inB (Go.IntKind.wrap Go.IntKind.i64 (((List.length s):Int)-(1:Int))) (List.length s))||(!(q2==false)))&&(((Go.V.inB (0:Int) (List.length s))||(!(q1==false)))&&(((Go.V.inB (0:Int) (List.length s))||(!(q0==false)))&&true)))
 bif q3 then
 some false
 else
 none
 else
 match (M.oM s Go.V.aF (0:Int)) with
 |none=>none
 |some y3=>
 (match y3 with
 | .inl a4=>
 let q5:=(((Go.V.inB (Go.IntKind.wrap Go.IntKind.i64 (((List.length s):Int)-(1:Int))) (List.length s))||(!(q2==false)))&&(((Go.V.inB (0:Int) (List.length s))||(!(q1==false)))&&(((Go.V.inB (0:Int) (List.length s))||(!(q0==false)))&&true)))
 bif q5 then
 some a4
 else
 none
 | .inr b4=>
 let q5:=(((Go.V.inB (Go.IntKind.wrap Go.IntKind.i64 (((List.length s):Int)-(1:Int))) (List.length s))||(!(q2==false)))&&(((Go.V.inB (0:Int) (List.length s))||(!(q1==false)))&&(((Go.V.inB (0:Int) (List.length s))||(!(q0==false)))&&true)))
 bif q5 then
 some true
 else
 none)
def iq (list:(List (List UInt8))) (i:Int):Nat->Int->Option ((Bool)⊕((List (List UInt8))×Int))
 |0,_=>none
 |fuel+1,k=>
 bif (decide (k<i)) then
 bif ((List.getD list (Int.toNat k) [])==(List.getD list (Int.toNat i) [])) then
 let q0:=((Go.V.inB i (List.length list))&&((Go.V.inB k (List.length list))&&true))
 bif q0 then
 some (.inl false)
 else
 none
 else
 let q0:=((Go.V.inB i (List.length list))&&((Go.V.inB k (List.length list))&&true))
 bif q0 then
 M.iq list i fuel (Go.IntKind.wrap Go.IntKind.i64 (k+(1:Int)))
 else
 none
 else
 some ((.inr ((list,i))))
def iM : Nat->(List (List UInt8))->Int->Option ((Bool)⊕(Unit))
 |0,_,_=>none
 |fuel+1,list,i=>
 bif (decide (i<((List.length list):Int))) then
 let q0:=(M.uk (List.getD list (Int.toNat i) []))
 bif (!(Option.getD q0 default)) then
 let q1:=((Option.isSome q0)&&((Go.V.inB i (List.length list))&&true))
 bif q1 then
 some (.inl false)
 else
 none
 else
 match (M.iq list i Go.V.aF (0:Int)) with
 |none=>none
 |some y1=>
 (match y1 with
 | .inl a2=>
 let q3:=((Option.isSome q0)&&((Go.V.inB i (List.length list))&&true))
 bif q3 then
 some (.inl a2)
 else
 none
 | .inr b2=>
 let q3:=((Option.isSome q0)&&((Go.V.inB i (List.length list))&&true))
 bif q3 then
 M.iM fuel b2.1 (Go.IntKind.wrap Go.IntKind.i64 (b2.2+(1:Int)))
 else
 none)
 else
 some ((.inr (())))
def um (list:(List (List UInt8))):Option (Bool):=
 bif ((decide (((List.length list):Int)<(1:Int)))||(decide ((16:Int)<((List.length list):Int)))) then
 some false
 else
 match (M.iM Go.V.aF list (0:Int)) with
 |none=>none
 |some y0=>
 (match y0 with
 | .inl a1=>
 some a1
 | .inr b1=>
 some true)
def iH : Nat->Int->M.ae->Option ((Bool)⊕(Unit))
 |0,_,_=>none
 |fuel+1,i,t=>
 bif (decide (i<((List.length (M.ae.Kids t)):Int))) then
 bif ((M.ae.Kind (List.getD (M.ae.Kids t) (Int.toNat i) M.ae.zero))==(1:Int)) then
 bif ((Go.V.inB i (List.length (M.ae.Kids t)))&&true) then
 some (.inl true)
 else
 none
 else
 bif ((Go.V.inB i (List.length (M.ae.Kids t)))&&true) then
 M.iH fuel (Go.IntKind.wrap Go.IntKind.i64 (i+(1:Int))) (M.ae.re t)
 else
 none
 else
 some ((.inr (())))
def ql (t:M.ae):Option (Bool):=
 match (M.iH Go.V.aF (0:Int) (M.ae.re t)) with
 |none=>none
 |some y0=>
 (match y0 with
 | .inl a1=>
 some a1
 | .inr b1=>
 some false)
def jQ (bJ:M.ae->Int->Int->Option (Bool)) (low:Int) (high:Int):Nat->Int->M.ae->Option ((Bool)⊕(Unit))
 |0,_,_=>none
 |fuel+1,i,t=>
 bif (decide (i<((List.length (M.ae.Kids t)):Int))) then
 bif (Option.getD (bJ (M.ae.re (List.getD (M.ae.Kids t) (Int.toNat i) M.ae.zero)) low high) default) then
 let q0:=((Option.isSome (bJ (M.ae.re (List.getD (M.ae.Kids t) (Int.toNat i) M.ae.zero)) low high))&&((Go.V.inB i (List.length (M.ae.Kids t)))&&true))
 bif q0 then
 some (.inl true)
 else
 none
 else
 let q0:=((Option.isSome (bJ (M.ae.re (List.getD (M.ae.Kids t) (Int.toNat i) M.ae.zero)) low high))&&((Go.V.inB i (List.length (M.ae.Kids t)))&&true))
 bif q0 then
 M.jQ bJ low high fuel (Go.IntKind.wrap Go.IntKind.i64 (i+(1:Int))) (M.ae.re t)
 else
 none
 else
 some ((.inr (())))
def Bo (bJ:M.ae->Int->Int->Option (Bool)) (t:M.ae) (low:Int) (high:Int):Option (Bool):=
 bif ((decide (low<=(M.ae.Kind t)))&&(decide ((M.ae.Kind t)<=high))) then
 some true
 else
 match (M.jQ bJ low high Go.V.aF (0:Int) (M.ae.re t)) with
 |none=>none
 |some y0=>
 (match y0 with
 | .inl a1=>
 some a1
 | .inr b1=>
 some false)
def kM : Nat->M.ae->Int->Int->Option (Bool)
 |0=>fun _ _ _=>none
 |n+1=>Bo (kM n)
def sD : M.ae->Int->Int->Option (Bool):=kM Go.V.aF
def xm (t:M.ae):Option (Bool):=
 let q0:=(((M.ae.Kind t)==(20:Int))||((M.ae.Kind t)==(21:Int)))
 let q1:=(!(q0==(!((M.ae.Name t)==[]))))
 let q2:=(M.uk (M.ae.Name t))
 let q3:=((decide ((16:Int)<=(M.ae.Kind t)))&&(decide ((M.ae.Kind t)<=(19:Int))))
 let q4:=((q1||(q0&&(!(Option.getD q2 default))))||(!(q3==(decide ((0:Int)<((List.length (M.ae.bV t)):Int))))))
 let q5:=(M.um (M.ae.bV t))
 bif (q4||(q3&&(!(Option.getD q5 default)))) then
 let q6:=(((Option.isSome q5)||(!((q4==false)&&(q3==true))))&&(((Option.isSome q2)||(!((q1==false)&&(q0==true))))&&true))
 bif q6 then
 some false
 else
 none
 else
 bif (bif ((M.ae.Kind t)==(12:Int)) then ((M.ae.Kind t)==(12:Int)) else ((M.ae.Kind t)==(13:Int))) then
 let q6:=(M.ql (M.ae.re t))
 let q7:=(!((((List.length (M.ae.Kids t)):Int)==(1:Int))==true))
 let q8:=(((Option.isSome q5)||(!((q4==false)&&(q3==true))))&&(((Option.isSome q2)||(!((q1==false)&&(q0==true))))&&true))
 let q9:=((q8||(!((M.ae.Kind t)==(12:Int))))&&(q8||((M.ae.Kind t)==(12:Int))))
 bif (((Option.isSome q6)||q7)&&q9) then
 some ((((List.length (M.ae.Kids t)):Int)==(1:Int))&&(!(Option.getD q6 default)))
 else
 none
 else
 bif (bif ((M.ae.Kind t)==(22:Int)) then ((M.ae.Kind t)==(22:Int)) else ((M.ae.Kind t)==(23:Int))) then
 let q6:=(M.sD (M.ae.re (List.getD (M.ae.Kids t) (Int.toNat (0:Int)) M.ae.zero)) (21:Int) (21:Int))
 let q7:=(!((((List.length (M.ae.Kids t)):Int)==(1:Int))==true))
 let q8:=(((Option.isSome q5)||(!((q4==false)&&(q3==true))))&&(((Option.isSome q2)||(!((q1==false)&&(q0==true))))&&true))
 let q9:=((q8||(!((M.ae.Kind t)==(12:Int))))&&(q8||((M.ae.Kind t)==(12:Int))))
 let q10:=((q9||(!((M.ae.Kind t)==(22:Int))))&&(q9||((M.ae.Kind t)==(22:Int))))
 bif (((Option.isSome q6)||q7)&&(((Go.V.inB (0:Int) (List.length (M.ae.Kids t)))||q7)&&q10)) then
 some ((((List.length (M.ae.Kids t)):Int)==(1:Int))&&(!(Option.getD q6 default)))
 else
 none
 else
 bif ((M.ae.Kind t)==(14:Int)) then
 let q6:=(((Option.isSome q5)||(!((q4==false)&&(q3==true))))&&(((Option.isSome q2)||(!((q1==false)&&(q0==true))))&&true))
 let q7:=((q6||(!((M.ae.Kind t)==(12:Int))))&&(q6||((M.ae.Kind t)==(12:Int))))
 let q8:=((q7||(!((M.ae.Kind t)==(22:Int))))&&(q7||((M.ae.Kind t)==(22:Int))))
 bif q8 then
 some (((List.length (M.ae.Kids t)):Int)==(2:Int))
 else
 none
 else
 bif ((M.ae.Kind t)==(15:Int)) then
 let q6:=(M.ql (M.ae.re t))
 let q7:=((decide ((1:Int)<=((List.length (M.ae.Kids t)):Int)))&&(decide (((List.length (M.ae.Kids t)):Int)<=(6:Int))))
 let q8:=(((Option.isSome q5)||(!((q4==false)&&(q3==true))))&&(((Option.isSome q2)||(!((q1==false)&&(q0==true))))&&true))
 let q9:=((q8||(!((M.ae.Kind t)==(12:Int))))&&(q8||((M.ae.Kind t)==(12:Int))))
 let q10:=((q9||(!((M.ae.Kind t)==(22:Int))))&&(q9||((M.ae.Kind t)==(22:Int))))
 bif (((Option.isSome q6)||(!(q7==true)))&&q10) then
 some (q7&&(!(Option.getD q6 default)))
 else
 none
 else
 bif ((M.ae.Kind t)==(16:Int)) then
 let q6:=(M.ql (M.ae.re t))
 let q7:=(((Option.isSome q5)||(!((q4==false)&&(q3==true))))&&(((Option.isSome q2)||(!((q1==false)&&(q0==true))))&&true))
 let q8:=((q7||(!((M.ae.Kind t)==(12:Int))))&&(q7||((M.ae.Kind t)==(12:Int))))
 let q9:=((q8||(!((M.ae.Kind t)==(22:Int))))&&(q8||((M.ae.Kind t)==(22:Int))))
 bif (((Option.isSome q6)||(!((((List.length (M.ae.Kids t)):Int)==((List.length (M.ae.bV t)):Int))==true)))&&q9) then
 some ((((List.length (M.ae.Kids t)):Int)==((List.length (M.ae.bV t)):Int))&&(!(Option.getD q6 default)))
 else
 none
 else
 bif ((M.ae.Kind t)==(17:Int)) then
 let q6:=(((Option.isSome q5)||(!((q4==false)&&(q3==true))))&&(((Option.isSome q2)||(!((q1==false)&&(q0==true))))&&true))
 let q7:=((q6||(!((M.ae.Kind t)==(12:Int))))&&(q6||((M.ae.Kind t)==(12:Int))))
 let q8:=((q7||(!((M.ae.Kind t)==(22:Int))))&&(q7||((M.ae.Kind t)==(22:Int))))
 bif q8 then
 some (((List.length (M.ae.Kids t)):Int)==((List.length (M.ae.bV t)):Int))
 else
 none
 else
 let q6:=(((Option.isSome q5)||(!((q4==false)&&(q3==true))))&&(((Option.isSome q2)||(!((q1==false)&&(q0==true))))&&true))
 let q7:=((q6||(!((M.ae.Kind t)==(12:Int))))&&(q6||((M.ae.Kind t)==(12:Int))))
 let q8:=((q7||(!((M.ae.Kind t)==(22:Int))))&&(q7||((M.ae.Kind t)==(22:Int))))
 bif q8 then
 some (((decide ((1:Int)<=(M.ae.Kind t)))&&(decide ((M.ae.Kind t)<=(23:Int))))&&(((List.length (M.ae.Kids t)):Int)==(0:Int)))
 else
 none
def iI (bg:M.ae->Option (Bool)):Nat->Int->M.ae->Option ((Bool)⊕(Unit))
 |0,_,_=>none
 |fuel+1,i,t=>
 bif (decide (i<((List.length (M.ae.Kids t)):Int))) then
 bif (!(Option.getD (bg (M.ae.re (List.getD (M.ae.Kids t) (Int.toNat i) M.ae.zero))) default)) then
 let q0:=((Option.isSome (bg (M.ae.re (List.getD (M.ae.Kids t) (Int.toNat i) M.ae.zero))))&&((Go.V.inB i (List.length (M.ae.Kids t)))&&true))
 bif q0 then
 some (.inl false)
 else
 none
 else
 let q0:=((Option.isSome (bg (M.ae.re (List.getD (M.ae.Kids t) (Int.toNat i) M.ae.zero))))&&((Go.V.inB i (List.length (M.ae.Kids t)))&&true))
 bif q0 then
 M.iI bg fuel (Go.IntKind.wrap Go.IntKind.i64 (i+(1:Int))) (M.ae.re t)
 else
 none
 else
 some ((.inr (())))
def vG (bg:M.ae->Option (Bool)) (t:M.ae):Option (Bool):=
 let q0:=(M.xm (M.ae.re t))
 bif (!(Option.getD q0 default)) then
 bif ((Option.isSome q0)&&true) then
 some false
 else
 none
 else
 match (M.iI bg Go.V.aF (0:Int) (M.ae.re t)) with
 |none=>none
 |some y1=>
 (match y1 with
 | .inl a2=>
 bif ((Option.isSome q0)&&true) then
 some a2
 else
 none
 | .inr b2=>
 bif ((Option.isSome q0)&&true) then
 some true
 else
 none)
def jg : Nat->M.ae->Option (Bool)
 |0=>fun _=>none
 |n+1=>vG (jg n)
def GM : M.ae->Option (Bool):=jg Go.V.aF
def uw (dA:M.ae->Int->Option (Int)) (levels:Int) (t11:(List M.ae)) (t12:Int):Nat->Int->Int->Option (Int)
 |0,_,_=>none
 |fuel+1,depth,t13=>
 bif (decide (t13<t12)) then
 bif ((Option.isSome (dA (M.ae.re (List.getD t11 (Int.toNat t13) M.ae.zero)) (Go.IntKind.wrap Go.IntKind.i64 (levels-(1:Int)))))&&((Go.V.inB t13 (List.length t11))&&true)) then
 let q0:=(Option.getD (dA (M.ae.re (List.getD t11 (Int.toNat t13) M.ae.zero)) (Go.IntKind.wrap Go.IntKind.i64 (levels-(1:Int)))) default)
 M.uw dA levels t11 t12 fuel (bif (decide (depth<q0)) then q0 else depth) (Go.IntKind.wrap Go.IntKind.i64 (t13+(1:Int)))
 else
 none
 else
 some (depth)
def Jl (dA:M.ae->Int->Option (Int)) (t:M.ae) (levels:Int):Option (Int):=
 bif (levels==(0:Int)) then
 some (1:Int)
 else
 match (M.uw dA levels (M.ae.Kids t) ((List.length (M.ae.Kids t)):Int) Go.V.aF (0:Int) (0:Int)) with
 |none=>none
 |some y0=>
 some (Go.IntKind.wrap Go.IntKind.i64 (y0+(1:Int)))
def yS : Nat->M.ae->Int->Option (Int)
 |0=>fun _ _=>none
 |n+1=>Jl (yS n)
def YK : M.ae->Int->Option (Int):=yS Go.V.aF
def qm (bZ:M.ae->Option (Int)) (t7:(List M.ae)) (t8:Int):Nat->Int->Int->Option (Int)
 |0,_,_=>none
 |fuel+1,many,t9=>
 bif (decide (t9<t8)) then
 bif ((Option.isSome (bZ (M.ae.re (List.getD t7 (Int.toNat t9) M.ae.zero))))&&((Go.V.inB t9 (List.length t7))&&true)) then
 M.qm bZ t7 t8 fuel (Go.IntKind.wrap Go.IntKind.i64 (many+(Option.getD (bZ (M.ae.re (List.getD t7 (Int.toNat t9) M.ae.zero))) default))) (Go.IntKind.wrap Go.IntKind.i64 (t9+(1:Int)))
 else
 none
 else
 some (many)
def ER (bZ:M.ae->Option (Int)) (t:M.ae):Option (Int):=
 match (M.qm bZ (M.ae.Kids t) ((List.length (M.ae.Kids t)):Int) Go.V.aF (1:Int) (0:Int)) with
 |none=>none
 |some y0=>
 some y0
def uu : Nat->M.ae->Option (Int)
 |0=>fun _=>none
 |n+1=>ER (uu n)
def UU : M.ae->Option (Int):=uu Go.V.aF
def qY (aB:M.ae->Option (Bool)) (kid:M.ae):Option (Bool):=
 bif ((Option.isSome (aB (M.ae.re kid)))&&true) then
 some (!(Option.getD (aB (M.ae.re kid)) default))
 else
 none
def dG (aB:M.ae->Option (Bool)) (s:(List M.ae)) (t7:Int):Nat->Int->Option ((Int)⊕(Unit))
 |0,_=>none
 |fuel+1,t8=>
 bif (decide (t8<t7)) then
 let q0:=(M.qY aB (M.ae.re (List.getD s (Int.toNat t8) M.ae.zero)))
 bif (Option.getD q0 default) then
 let q1:=((Option.isSome q0)&&((Go.V.inB t8 (List.length s))&&true))
 bif q1 then
 some (.inl t8)
 else
 none
 else
 let q1:=((Option.isSome q0)&&((Go.V.inB t8 (List.length s))&&true))
 bif q1 then
 M.dG aB s t7 fuel (Go.IntKind.wrap Go.IntKind.i64 (t8+(1:Int)))
 else
 none
 else
 some ((.inr (())))
def fP (aB:M.ae->Option (Bool)) (s:(List M.ae)):Option (Int):=
 match (M.dG aB s ((List.length s):Int) Go.V.aF (0:Int)) with
 |none=>none
 |some y0=>
 (match y0 with
 | .inl a1=>
 some a1
 | .inr b1=>
 some (-(1:Int)))
def dF (aB:M.ae->Option (Bool)) (s:(List M.ae)):Option (Bool):=
 let q0:=(M.fP aB s)
 bif ((Option.isSome q0)&&true) then
 some (decide ((0:Int)<=(Option.getD q0 default)))
 else
 none
def y8 (n:Int) (low:Int) (high:Int):Option (Bool):=
 some ((decide (low<=n))&&(decide (n<=high)))
def yh (list:(List (List UInt8))):Option (Int):=
 some ((List.length list):Int)
def oh (s:(List UInt8)) (t7:Int):Nat->Int->Option ((Bool)⊕((List UInt8)))
 |0,_=>none
 |fuel+1,t8=>
 bif (decide (t8<t7)) then
 bif ((decide ((97:Int)<=((UInt8.toNat (List.getD s (Int.toNat t8) (0:UInt8))):Int)))&&(decide (((UInt8.toNat (List.getD s (Int.toNat t8) (0:UInt8))):Int)<=(122:Int)))) then
 let q0:=(((Go.V.inB t8 (List.length s))||(!((decide ((48:Int)<=((UInt8.toNat (List.getD s (Int.toNat t8) (0:UInt8))):Int)))==true)))&&((Go.V.inB t8 (List.length s))&&(((Go.V.inB t8 (List.length s))||(!((decide ((97:Int)<=((UInt8.toNat (List.getD s (Int.toNat t8) (0:UInt8))):Int)))==true)))&&((Go.V.inB t8 (List.length s))&&true))))
 bif q0 then
 M.oh s t7 fuel (Go.IntKind.wrap Go.IntKind.i64 (t8+(1:Int)))
 else
 none
 else
 let q0:=(!((decide ((48:Int)<=((UInt8.toNat (List.getD s (Int.toNat t8) (0:UInt8))):Int)))&&(decide (((UInt8.toNat (List.getD s (Int.toNat t8) (0:UInt8))):Int)<=(57:Int)))))
 bif ((t8==(0:Int))||(q0&&(((UInt8.toNat (List.getD s (Int.toNat t8) (0:UInt8))):Int) !=(45:Int)))) then
 let q1:=(((Go.V.inB t8 (List.length s))||(!((decide ((48:Int)<=((UInt8.toNat (List.getD s (Int.toNat t8) (0:UInt8))):Int)))==true)))&&((Go.V.inB t8 (List.length s))&&(((Go.V.inB t8 (List.length s))||(!((decide ((97:Int)<=((UInt8.toNat (List.getD s (Int.toNat t8) (0:UInt8))):Int)))==true)))&&((Go.V.inB t8 (List.length s))&&true))))
 let q2:=(((Go.V.inB t8 (List.length s))||(!(((t8==(0:Int))==false)&&(q0==true))))&&q1)
 bif q2 then
 some (.inl false)
 else
 none
 else
 let q1:=(((UInt8.toNat (List.getD s (Int.toNat t8) (0:UInt8))):Int)==(45:Int))
 bif (q1&&(((UInt8.toNat (List.getD s (Int.toNat (Go.IntKind.wrap Go.IntKind.i64 (t8-(1:Int)))) (0:UInt8))):Int)==(45:Int))) then
 let q2:=(((Go.V.inB t8 (List.length s))||(!((decide ((48:Int)<=((UInt8.toNat (List.getD s (Int.toNat t8) (0:UInt8))):Int)))==true)))&&((Go.V.inB t8 (List.length s))&&(((Go.V.inB t8 (List.length s))||(!((decide ((97:Int)<=((UInt8.toNat (List.getD s (Int.toNat t8) (0:UInt8))):Int)))==true)))&&((Go.V.inB t8 (List.length s))&&true))))
 let q3:=(((Go.V.inB t8 (List.length s))||(!(((t8==(0:Int))==false)&&(q0==true))))&&q2)
 let q4:=(((Go.V.inB (Go.IntKind.wrap Go.IntKind.i64 (t8-(1:Int))) (List.length s))||(!(q1==true)))&&((Go.V.inB t8 (List.length s))&&q3))
 bif q4 then
 some (.inl false)
 else
 none
 else
 let q2:=(((Go.V.inB t8 (List.length s))||(!((decide ((48:Int)<=((UInt8.toNat (List.getD s (Int.toNat t8) (0:UInt8))):Int)))==true)))&&((Go.V.inB t8 (List.length s))&&(((Go.V.inB t8 (List.length s))||(!((decide ((97:Int)<=((UInt8.toNat (List.getD s (Int.toNat t8) (0:UInt8))):Int)))==true)))&&((Go.V.inB t8 (List.length s))&&true))))
 let q3:=(((Go.V.inB t8 (List.length s))||(!(((t8==(0:Int))==false)&&(q0==true))))&&q2)
 let q4:=(((Go.V.inB (Go.IntKind.wrap Go.IntKind.i64 (t8-(1:Int))) (List.length s))||(!(q1==true)))&&((Go.V.inB t8 (List.length s))&&q3))
 bif q4 then
 M.oh s t7 fuel (Go.IntKind.wrap Go.IntKind.i64 (t8+(1:Int)))
 else
 none
 else
 some ((.inr (s)))
def yQ (s:(List UInt8)):Option (Bool):=
 match (M.oh s ((List.length s):Int) Go.V.aF (0:Int)) with
 |none=>none
 |some y0=>
 (match y0 with
 | .inl a1=>
 some a1
 | .inr b1=>
 let q2:=((decide ((1:Int)<=((List.length b1):Int)))&&(decide (((List.length b1):Int)<=(12:Int))))
 bif (((Go.V.inB (Go.IntKind.wrap Go.IntKind.i64 (((List.length b1):Int)-(1:Int))) (List.length b1))||(!(q2==true)))&&true) then
 some (q2&&(((UInt8.toNat (List.getD b1 (Int.toNat (Go.IntKind.wrap Go.IntKind.i64 (((List.length b1):Int)-(1:Int)))) (0:UInt8))):Int) !=(45:Int)))
 else
 none)
def pJ (name:(List UInt8)):Option (Bool):=
 let q0:=(M.yQ name)
 bif ((Option.isSome q0)&&true) then
 some (!(Option.getD q0 default))
 else
 none
def cu (s:(List (List UInt8))) (t7:Int):Nat->Int->Option ((Int)⊕(Unit))
 |0,_=>none
 |fuel+1,t8=>
 bif (decide (t8<t7)) then
 let q0:=(M.pJ (List.getD s (Int.toNat t8) []))
 bif (Option.getD q0 default) then
 let q1:=((Option.isSome q0)&&((Go.V.inB t8 (List.length s))&&true))
 bif q1 then
 some (.inl t8)
 else
 none
 else
 let q1:=((Option.isSome q0)&&((Go.V.inB t8 (List.length s))&&true))
 bif q1 then
 M.cu s t7 fuel (Go.IntKind.wrap Go.IntKind.i64 (t8+(1:Int)))
 else
 none
 else
 some ((.inr (())))
def eX (s:(List (List UInt8))):Option (Int):=
 match (M.cu s ((List.length s):Int) Go.V.aF (0:Int)) with
 |none=>none
 |some y0=>
 (match y0 with
 | .inl a1=>
 some a1
 | .inr b1=>
 some (-(1:Int)))
def dD (s:(List (List UInt8))):Option (Bool):=
 let q0:=(M.eX s)
 bif ((Option.isSome q0)&&true) then
 some (decide ((0:Int)<=(Option.getD q0 default)))
 else
 none
def xk (labels:(List (List UInt8))):Option (Bool):=
 let q0:=(M.dD labels)
 let q1:=((decide ((1:Int)<=((List.length labels):Int)))&&(decide (((List.length labels):Int)<=(16:Int))))
 let q2:=(M.qj labels)
 let q3:=(q1&&(Option.getD q2 default))
 bif (((Option.isSome q0)||(!(q3==true)))&&(((Option.isSome q2)||(!(q1==true)))&&true)) then
 some (q3&&(!(Option.getD q0 default)))
 else
 none
def Dy (list:(List M.ae)):Option (Int):=
 some ((List.length list):Int)
def O9 (t:M.ae):Option (Bool):=
 some ((M.ae.Kind t)==(1:Int))
def dh (s:(List M.ae)) (t7:Int):Nat->Int->Option ((Int)⊕(Unit))
 |0,_=>none
 |fuel+1,t8=>
 bif (decide (t8<t7)) then
 bif ((M.ae.Kind (List.getD s (Int.toNat t8) M.ae.zero))==(1:Int)) then
 bif ((Go.V.inB t8 (List.length s))&&true) then
 some (.inl t8)
 else
 none
 else
 bif ((Go.V.inB t8 (List.length s))&&true) then
 M.dh s t7 fuel (Go.IntKind.wrap Go.IntKind.i64 (t8+(1:Int)))
 else
 none
 else
 some ((.inr (())))
def fD (s:(List M.ae)):Option (Int):=
 match (M.dh s ((List.length s):Int) Go.V.aF (0:Int)) with
 |none=>none
 |some y0=>
 (match y0 with
 | .inl a1=>
 some a1
 | .inr b1=>
 some (-(1:Int)))
def dO (s:(List M.ae)):Option (Bool):=
 let q0:=(M.fD s)
 bif ((Option.isSome q0)&&true) then
 some (decide ((0:Int)<=(Option.getD q0 default)))
 else
 none
def vH (t:M.ae) (many:Int):Option (Bool):=
 let q0:=(M.dO (M.ae.Kids t))
 bif (((Option.isSome q0)||(!((((List.length (M.ae.Kids t)):Int)==many)==true)))&&true) then
 some ((((List.length (M.ae.Kids t)):Int)==many)&&(!(Option.getD q0 default)))
 else
 none
def dP (s:(List Int)) (v:Int) (t7:Int):Nat->Int->Option ((Int)⊕(Unit))
 |0,_=>none
 |fuel+1,t8=>
 bif (decide (t8<t7)) then
 bif (v==(List.getD s (Int.toNat t8) (0:Int))) then
 bif ((Go.V.inB t8 (List.length s))&&true) then
 some (.inl t8)
 else
 none
 else
 bif ((Go.V.inB t8 (List.length s))&&true) then
 M.dP s v t7 fuel (Go.IntKind.wrap Go.IntKind.i64 (t8+(1:Int)))
 else
 none
 else
 some ((.inr (())))
def gI (s:(List Int)) (v:Int):Option (Int):=
 match (M.dP s v ((List.length s):Int) Go.V.aF (0:Int)) with
 |none=>none
 |some y0=>
 (match y0 with
 | .inl a1=>
 some a1
 | .inr b1=>
 some (-(1:Int)))
def eG (s:(List Int)) (v:Int):Option (Bool):=
 let q0:=(M.gI s v)
 bif ((Option.isSome q0)&&true) then
 some (decide ((0:Int)<=(Option.getD q0 default)))
 else
 none
def qX (aC:M.ae->(List Int)->Option (Bool)) (kid:M.ae) (t1:(List Int)):Option (Bool):=
 bif ((Option.isSome (aC (M.ae.re kid) t1))&&true) then
 some (Option.getD (aC (M.ae.re kid) t1) default)
 else
 none
def df (aC:M.ae->(List Int)->Option (Bool)) (s:(List M.ae)) (f:(List Int)) (t7:Int):Nat->Int->Option ((Int)⊕(Unit))
 |0,_=>none
 |fuel+1,t8=>
 bif (decide (t8<t7)) then
 let q0:=(M.qX aC (M.ae.re (List.getD s (Int.toNat t8) M.ae.zero)) f)
 bif (Option.getD q0 default) then
 let q1:=((Option.isSome q0)&&((Go.V.inB t8 (List.length s))&&true))
 bif q1 then
 some (.inl t8)
 else
 none
 else
 let q1:=((Option.isSome q0)&&((Go.V.inB t8 (List.length s))&&true))
 bif q1 then
 M.df aC s f t7 fuel (Go.IntKind.wrap Go.IntKind.i64 (t8+(1:Int)))
 else
 none
 else
 some ((.inr (())))
def fC (aC:M.ae->(List Int)->Option (Bool)) (s:(List M.ae)) (f:(List Int)):Option (Int):=
 match (M.df aC s f ((List.length s):Int) Go.V.aF (0:Int)) with
 |none=>none
 |some y0=>
 (match y0 with
 | .inl a1=>
 some a1
 | .inr b1=>
 some (-(1:Int)))
def dN (aC:M.ae->(List Int)->Option (Bool)) (s:(List M.ae)) (f:(List Int)):Option (Bool):=
 let q0:=(M.fC aC s f)
 bif ((Option.isSome q0)&&true) then
 some (decide ((0:Int)<=(Option.getD q0 default)))
 else
 none
def yR (aC:M.ae->(List Int)->Option (Bool)) (t:M.ae) (kinds:(List Int)):Option (Bool):=
 let q0:=(M.dN aC (M.ae.Kids t) kinds)
 let q1:=(M.eG kinds (M.ae.Kind t))
 bif (((Option.isSome q0)||(!((Option.getD q1 default)==false)))&&((Option.isSome q1)&&true)) then
 some ((Option.getD q1 default)||(Option.getD q0 default))
 else
 none
def jR : Nat->M.ae->(List Int)->Option (Bool)
 |0=>fun _ _=>none
 |n+1=>yR (jR n)
def pK : M.ae->(List Int)->Option (Bool):=jR Go.V.aF
def uy (aB:M.ae->Option (Bool)) (t:M.ae):Option (Bool):=
 let q0:=(M.dF aB (M.ae.Kids t))
 bif (Option.getD q0 default) then
 bif ((Option.isSome q0)&&true) then
 some false
 else
 none
 else
 let q1:=((decide ((16:Int)<=(M.ae.Kind t)))&&(decide ((M.ae.Kind t)<=(19:Int))))
 let q2:=(M.xk (M.ae.bV t))
 let q3:=((q1&&(!(Option.getD q2 default)))||((!q1)&&(decide ((0:Int)<((List.length (M.ae.bV t)):Int)))))
 let q4:=(((M.ae.Kind t)==(20:Int))||((M.ae.Kind t)==(21:Int)))
 let q5:=(M.yQ (M.ae.Name t))
 bif ((q3||(q4&&(!(Option.getD q5 default))))||((!q4)&&(!((M.ae.Name t)==[])))) then
 let q6:=(((Option.isSome q5)||(!((q3==false)&&(q4==true))))&&(((Option.isSome q2)||(!(q1==true)))&&((Option.isSome q0)&&true)))
 bif q6 then
 some false
 else
 none
 else
 bif (bif ((M.ae.Kind t)==(12:Int)) then ((M.ae.Kind t)==(12:Int)) else ((M.ae.Kind t)==(13:Int))) then
 let q6:=(M.vH (M.ae.re t) (1:Int))
 let q7:=(((Option.isSome q5)||(!((q3==false)&&(q4==true))))&&(((Option.isSome q2)||(!(q1==true)))&&((Option.isSome q0)&&true)))
 let q8:=((q7||(!((M.ae.Kind t)==(12:Int))))&&(q7||((M.ae.Kind t)==(12:Int))))
 bif ((Option.isSome q6)&&q8) then
 some (Option.getD q6 default)
 else
 none
 else
 bif ((M.ae.Kind t)==(14:Int)) then
 let q6:=(((Option.isSome q5)||(!((q3==false)&&(q4==true))))&&(((Option.isSome q2)||(!(q1==true)))&&((Option.isSome q0)&&true)))
 let q7:=((q6||(!((M.ae.Kind t)==(12:Int))))&&(q6||((M.ae.Kind t)==(12:Int))))
 bif q7 then
 some (((List.length (M.ae.Kids t)):Int)==(2:Int))
 else
 none
 else
 bif ((M.ae.Kind t)==(15:Int)) then
 let q6:=(M.vH (M.ae.re t) ((List.length (M.ae.Kids t)):Int))
 let q7:=((decide ((1:Int)<=((List.length (M.ae.Kids t)):Int)))&&(decide (((List.length (M.ae.Kids t)):Int)<=(6:Int))))
 let q8:=(((Option.isSome q5)||(!((q3==false)&&(q4==true))))&&(((Option.isSome q2)||(!(q1==true)))&&((Option.isSome q0)&&true)))
 let q9:=((q8||(!((M.ae.Kind t)==(12:Int))))&&(q8||((M.ae.Kind t)==(12:Int))))
 bif (((Option.isSome q6)||(!(q7==true)))&&q9) then
 some (q7&&(Option.getD q6 default))
 else
 none
 else
 bif ((M.ae.Kind t)==(16:Int)) then
 let q6:=(M.vH (M.ae.re t) ((List.length (M.ae.bV t)):Int))
 let q7:=(((Option.isSome q5)||(!((q3==false)&&(q4==true))))&&(((Option.isSome q2)||(!(q1==true)))&&((Option.isSome q0)&&true)))
 let q8:=((q7||(!((M.ae.Kind t)==(12:Int))))&&(q7||((M.ae.Kind t)==(12:Int))))
 bif ((Option.isSome q6)&&q8) then
 some (Option.getD q6 default)
 else
 none
 else
 bif ((M.ae.Kind t)==(17:Int)) then
 let q6:=(((Option.isSome q5)||(!((q3==false)&&(q4==true))))&&(((Option.isSome q2)||(!(q1==true)))&&((Option.isSome q0)&&true)))
 let q7:=((q6||(!((M.ae.Kind t)==(12:Int))))&&(q6||((M.ae.Kind t)==(12:Int))))
 bif q7 then
 some (((List.length (M.ae.Kids t)):Int)==((List.length (M.ae.bV t)):Int))
 else
 none
 else
 bif (bif ((M.ae.Kind t)==(22:Int)) then ((M.ae.Kind t)==(22:Int)) else ((M.ae.Kind t)==(23:Int))) then
 let q6:=(M.pK (M.ae.re (List.getD (M.ae.Kids t) (Int.toNat (0:Int)) M.ae.zero)) [(21:Int)])
 let q7:=(!((((List.length (M.ae.Kids t)):Int)==(1:Int))==true))
 let q8:=(((Option.isSome q5)||(!((q3==false)&&(q4==true))))&&(((Option.isSome q2)||(!(q1==true)))&&((Option.isSome q0)&&true)))
 let q9:=((q8||(!((M.ae.Kind t)==(12:Int))))&&(q8||((M.ae.Kind t)==(12:Int))))
 let q10:=((q9||(!((M.ae.Kind t)==(22:Int))))&&(q9||((M.ae.Kind t)==(22:Int))))
 bif (((Option.isSome q6)||q7)&&(((Go.V.inB (0:Int) (List.length (M.ae.Kids t)))||q7)&&q10)) then
 some ((((List.length (M.ae.Kids t)):Int)==(1:Int))&&(!(Option.getD q6 default)))
 else
 none
 else
 let q6:=(((Option.isSome q5)||(!((q3==false)&&(q4==true))))&&(((Option.isSome q2)||(!(q1==true)))&&((Option.isSome q0)&&true)))
 let q7:=((q6||(!((M.ae.Kind t)==(12:Int))))&&(q6||((M.ae.Kind t)==(12:Int))))
 let q8:=((q7||(!((M.ae.Kind t)==(22:Int))))&&(q7||((M.ae.Kind t)==(22:Int))))
 bif q8 then
 some (((decide ((1:Int)<=(M.ae.Kind t)))&&(decide ((M.ae.Kind t)<=(23:Int))))&&(((List.length (M.ae.Kids t)):Int)==(0:Int)))
 else
 none
def lV : Nat->M.ae->Option (Bool)
 |0=>fun _=>none
 |n+1=>uy (lV n)
def Lm : M.ae->Option (Bool):=lV Go.V.aF
def Lj (t:M.ae):Option (Bool):=
 let q0:=(M.GM (M.ae.re t))
 let q1:=(M.Ll (M.ae.re t) (1:Int))
 let q2:=((decide ((Option.getD q1 default).1<=(4:Int)))&&(decide ((Option.getD q1 default).2<=(24:Int))))
 bif (((Option.isSome q0)||(!(q2==true)))&&((Option.isSome q1)&&true)) then
 some (q2&&(Option.getD q0 default))
 else
 none
def kN (aJ:M.ae->Option (Int×(List UInt8)×(List (List UInt8))×(List M.ae))) (t7:(List M.ae)) (t8:Int):Nat->Int->(List M.ae)->Option ((List M.ae))
 |0,_,_=>none
 |fuel+1,t9,out=>
 bif (decide (t9<t8)) then
 let q0:=(Option.getD (aJ (M.ae.re (List.getD t7 (Int.toNat t9) M.ae.zero))) default)
 let q1:=q0.2
 let q2:=q1.2
 let q3:=[(M.ae.mk q0.1 q1.1 q2.1 q2.2)]
 bif ((decide (((List.length out)+(List.length q3))<=1073741824))&&((Option.isSome (aJ (M.ae.re (List.getD t7 (Int.toNat t9) M.ae.zero))))&&((Go.V.inB t9 (List.length t7))&&true))) then
 M.kN aJ t7 t8 fuel (Go.IntKind.wrap Go.IntKind.i64 (t9+(1:Int))) (out++q3)
 else
 none
 else
 some (out)
def uz (aJ:M.ae->Option (Int×(List UInt8)×(List (List UInt8))×(List M.ae))) (list:(List M.ae)):Option ((List M.ae)):=
 match (M.kN aJ list ((List.length list):Int) Go.V.aF (0:Int) []) with
 |none=>none
 |some y0=>
 some y0
def vI (aJ:M.ae->Option (Int×(List UInt8)×(List (List UInt8))×(List M.ae))) (t:M.ae):Option (Int×(List UInt8)×(List (List UInt8))×(List M.ae)):=
 let q0:=(M.uz aJ (M.ae.Kids t))
 let q1:=(M.dE (M.ae.bV t))
 bif ((Option.isSome q0)&&((Option.isSome q1)&&true)) then
 some ((M.ae.Kind t),(M.ae.Name t),(Option.getD q1 default),(Option.getD q0 default))
 else
 none
def lW : Nat->M.ae->Option (Int×(List UInt8)×(List (List UInt8))×(List M.ae))
 |0=>fun _=>none
 |n+1=>vI (lW n)
def tK : M.ae->Option (Int×(List UInt8)×(List (List UInt8))×(List M.ae)):=lW Go.V.aF
def xn (t:M.ae):Option (Bool):=
 let q0:=(M.sD (M.ae.re t) (20:Int) (23:Int))
 let q1:=(M.Lj (M.ae.re t))
 let q2:=((Option.getD q1 default)&&((M.ae.Kind t) !=(1:Int)))
 bif (((Option.isSome q0)||(!(q2==true)))&&((Option.isSome q1)&&true)) then
 some (q2&&(!(Option.getD q0 default)))
 else
 none
def oz (bM:M.ae->Option (M.ae)) (t2:Int) (t22:(List UInt8)) (out:Int) (ag5:(List UInt8)) (o7:(List (List UInt8))) (o8:(List M.ae)) (o9:(List (List UInt8))):Nat->Int->M.ae->(List M.ae)->Option (Int×(List UInt8)×Int×(List UInt8)×(List (List UInt8))×(List M.ae)×(List (List UInt8))×(List M.ae))
 |0,_,_,_=>none
 |fuel+1,i,t,o10=>
 bif (decide (i<((List.length (M.ae.Kids t)):Int))) then
 let q0:=[(M.ae.re (Option.getD (bM (M.ae.re (List.getD (M.ae.Kids t) (Int.toNat i) M.ae.zero))) default))]
 bif ((decide (((List.length o10)+(List.length q0))<=1073741824))&&((Option.isSome (bM (M.ae.re (List.getD (M.ae.Kids t) (Int.toNat i) M.ae.zero))))&&((Go.V.inB i (List.length (M.ae.Kids t)))&&true))) then
 M.oz bM t2 t22 out ag5 o7 o8 o9 fuel (Go.IntKind.wrap Go.IntKind.i64 (i+(1:Int))) (M.ae.re t) (o10++q0)
 else
 none
 else
 some ((t2,t22,out,ag5,o7,o8,o9,o10))
def Bq (bM:M.ae->Option (M.ae)) (t:M.ae):Option (M.ae):=
 match (M.oz bM (0:Int) [] (M.ae.Kind t) (M.ae.Name t) [] [] ([]++(M.ae.bV t)) Go.V.aF (0:Int) (M.ae.re t) []) with
 |none=>none
 |some y0=>
 bif ((decide ((0+(List.length (M.ae.bV t)))<=1073741824))&&true) then
 let q1:=y0.2.2
 let q2:=q1.2
 let q3:=q2.2.2.2
 some (M.ae.mk q1.1 q2.1 q3.1 q3.2)
 else
 none
def qo : Nat->M.ae->Option (M.ae)
 |0=>fun _=>none
 |n+1=>Bq (qo n)
def OX : M.ae->Option (M.ae):=qo Go.V.aF
def ES (t:M.ae):Option (Bool):=
 let q0:=(M.Lm (M.ae.re t))
 let q1:=(M.YK (M.ae.re t) (4:Int))
 let q2:=(M.UU (M.ae.re t))
 let q3:=((decide ((Option.getD q1 default)<=(4:Int)))&&(decide ((Option.getD q2 default)<=(24:Int))))
 bif (((Option.isSome q0)||(!(q3==true)))&&(((Option.isSome q2)||(!((decide ((Option.getD q1 default)<=(4:Int)))==true)))&&((Option.isSome q1)&&true))) then
 some (q3&&(Option.getD q0 default))
 else
 none
def oN (t:M.ae):Option (Bool):=
 let q0:=(M.pK (M.ae.re t) [(20:Int),(21:Int),(22:Int),(23:Int)])
 let q1:=(M.ES (M.ae.re t))
 let q2:=((Option.getD q1 default)&&(!((M.ae.Kind t)==(1:Int))))
 bif (((Option.isSome q0)||(!(q2==true)))&&((Option.isSome q1)&&true)) then
 some (q2&&(!(Option.getD q0 default)))
 else
 none
def mD : Nat->Int->(List UInt8)->Option ((List UInt8))
 |0,_,_=>none
 |fuel+1,k,out=>
 bif (decide ((0:Int)<k)) then
 let q0:=(Go.IntKind.wrap Go.IntKind.u8 (Go.IntKind.wrap Go.IntKind.i64 ((48:Int)+(Int.tmod k (10:Int)))))
 let q1:=(List.map (fun a=>a) [(Go.V.ade q0)])
 bif (((10:Int) !=(0:Int))&&((Go.V.adb q1 out)&&(((Go.V.abr q0)&&true)&&(((10:Int) !=(0:Int))&&true)))) then
 M.mD fuel (Go.IntKind.wrap Go.IntKind.i64 (Int.tdiv k (10:Int))) (q1++out)
 else
 none
 else
 some (out)
def ed (k:Int):Option ((List UInt8)):=
 bif (decide (k<=(0:Int))) then
 some [(109:UInt8),(48:UInt8)]
 else
 match (M.mD Go.V.aF k []) with
 |none=>none
 |some y0=>
 bif ((Go.V.adb [(109:UInt8)] y0)&&true) then
 some ([(109:UInt8)]++y0)
 else
 none
def nN : Nat->Int->Int->(List (List UInt8))->Option (Int×(List (List UInt8)))
 |0,_,_,_=>none
 |fuel+1,k,i,a=>
 bif (decide (i<((List.length a):Int))) then
 let q0:=(M.ed k)
 bif ((Go.V.inB i (List.length a))&&(((Option.isSome q0)&&true)&&true)) then
 M.nN fuel (Go.IntKind.wrap Go.IntKind.i64 (k+(1:Int))) (Go.IntKind.wrap Go.IntKind.i64 (i+(1:Int))) (List.set a (Int.toNat i) (Option.getD q0 default))
 else
 none
 else
 some ((k,a))
def jS (k:Int) (a:(List (List UInt8))):Option (Int×(List (List UInt8))):=
 match (M.nN Go.V.aF k (0:Int) a) with
 |none=>none
 |some y0=>
 some (y0.1,y0.2)
def qy (aY:Int->(List M.ae)->Option (Int×(List M.ae))):Nat->Int->Int->(List M.ae)->Option (Int×(List M.ae))
 |0,_,_,_=>none
 |fuel+1,k,i,a=>
 bif (decide (i<((List.length a):Int))) then
 let q0:=(List.set a (Int.toNat i) (M.ae.mk k (M.ae.Name (List.getD a (Int.toNat i) M.ae.zero)) (M.ae.bV (List.getD a (Int.toNat i) M.ae.zero)) (M.ae.Kids (List.getD a (Int.toNat i) M.ae.zero))))
 let q1:=(List.getD q0 (Int.toNat i) M.ae.zero)
 let q2:=(M.ed (Go.IntKind.wrap Go.IntKind.i64 (k+(1:Int))))
 let q3:=(List.set q0 (Int.toNat i) (M.ae.mk (M.ae.Kind q1) (Option.getD q2 default) (M.ae.bV q1) (M.ae.Kids q1)))
 let q4:=(List.getD q3 (Int.toNat i) M.ae.zero)
 let q5:=(M.jS (Go.IntKind.wrap Go.IntKind.i64 ((Go.IntKind.wrap Go.IntKind.i64 (k+(1:Int)))+(1:Int))) (M.ae.bV q4))
 let q6:=(Option.getD q5 default)
 let q7:=(List.set q3 (Int.toNat i) (M.ae.mk (M.ae.Kind q4) (M.ae.Name q4) q6.2 (M.ae.Kids q4)))
 let q8:=(List.getD q7 (Int.toNat i) M.ae.zero)
 bif (((Option.isSome (aY q6.1 (M.ae.Kids q8)))&&true)&&((Go.V.inB i (List.length q7))&&(((Option.isSome q5)&&true)&&((Go.V.inB i (List.length q3))&&((Go.V.inB i (List.length q0))&&(((Option.isSome q2)&&true)&&((Go.V.inB i (List.length a))&&true))))))) then
 let q9:=(Option.getD (aY q6.1 (M.ae.Kids q8)) default)
 M.qy aY fuel q9.1 (Go.IntKind.wrap Go.IntKind.i64 (i+(1:Int))) (List.set q7 (Int.toNat i) (M.ae.mk (M.ae.Kind q8) (M.ae.Name q8) (M.ae.bV q8) q9.2))
 else
 none
 else
 some ((k,a))
def sG (aY:Int->(List M.ae)->Option (Int×(List M.ae))) (k:Int) (a:(List M.ae)):Option (Int×(List M.ae)):=
 match (M.qy aY Go.V.aF k (0:Int) a) with
 |none=>none
 |some y0=>
 some (y0.1,y0.2)
def yl : Nat->Int->(List M.ae)->Option (Int×(List M.ae))
 |0=>fun _ _=>none
 |n+1=>sG (yl n)
def yY : Int->(List M.ae)->Option (Int×(List M.ae)):=yl Go.V.aF
def pF (aV:Int->(List M.ah)->Option (Int×(List M.ah))):Nat->Int->Int->(List M.ah)->Option (Int×(List M.ah))
 |0,_,_,_=>none
 |fuel+1,k,i,a=>
 bif (decide (i<((List.length a):Int))) then
 let q0:=(Go.IntKind.wrap Go.IntKind.i64 ((Go.IntKind.wrap Go.IntKind.i64 (k+(1:Int)))+(1:Int)))
 let q1:=(List.set a (Int.toNat i) (M.ah.mk k (M.ah.Num (List.getD a (Int.toNat i) M.ah.zero)) (M.ah.Text (List.getD a (Int.toNat i) M.ah.zero)) (M.ah.Kids (List.getD a (Int.toNat i) M.ah.zero))))
 let q2:=(List.getD q1 (Int.toNat i) M.ah.zero)
 let q3:=(List.set q1 (Int.toNat i) (M.ah.mk (M.ah.Kind q2) (Go.IntKind.wrap Go.IntKind.i64 (k+(1:Int))) (M.ah.Text q2) (M.ah.Kids q2)))
 let q4:=(List.getD q3 (Int.toNat i) M.ah.zero)
 let q5:=(M.ed q0)
 let q6:=(List.set q3 (Int.toNat i) (M.ah.mk (M.ah.Kind q4) (M.ah.Num q4) (Option.getD q5 default) (M.ah.Kids q4)))
 let q7:=(List.getD q6 (Int.toNat i) M.ah.zero)
 bif (((Option.isSome (aV (Go.IntKind.wrap Go.IntKind.i64 (q0+(1:Int))) (M.ah.Kids q7)))&&true)&&((Go.V.inB i (List.length q6))&&((Go.V.inB i (List.length q3))&&(((Option.isSome q5)&&true)&&((Go.V.inB i (List.length q1))&&((Go.V.inB i (List.length a))&&true)))))) then
 let q8:=(Option.getD (aV (Go.IntKind.wrap Go.IntKind.i64 (q0+(1:Int))) (M.ah.Kids q7)) default)
 M.pF aV fuel q8.1 (Go.IntKind.wrap Go.IntKind.i64 (i+(1:Int))) (List.set q6 (Int.toNat i) (M.ah.mk (M.ah.Kind q7) (M.ah.Num q7) (M.ah.Text q7) q8.2))
 else
 none
 else
 some ((k,a))
def qA (aV:Int->(List M.ah)->Option (Int×(List M.ah))) (k:Int) (a:(List M.ah)):Option (Int×(List M.ah)):=
 match (M.pF aV Go.V.aF k (0:Int) a) with
 |none=>none
 |some y0=>
 some (y0.1,y0.2)
def vV : Nat->Int->(List M.ah)->Option (Int×(List M.ah))
 |0=>fun _ _=>none
 |n+1=>qA (vV n)
def vJ : Int->(List M.ah)->Option (Int×(List M.ah)):=vV Go.V.aF
def nO (a:(List (List UInt8))):Nat->Int->Int->Option ((Int)⊕(Int))
 |0,_,_=>none
 |fuel+1,k,i=>
 bif (decide (i<((List.length a):Int))) then
 let q0:=(M.ed k)
 bif (!((List.getD a (Int.toNat i) [])==(Option.getD q0 default))) then
 let q1:=((Option.isSome q0)&&((Go.V.inB i (List.length a))&&true))
 bif q1 then
 some (.inl (-(1:Int)))
 else
 none
 else
 let q1:=((Option.isSome q0)&&((Go.V.inB i (List.length a))&&true))
 bif q1 then
 M.nO a fuel (Go.IntKind.wrap Go.IntKind.i64 (k+(1:Int))) (Go.IntKind.wrap Go.IntKind.i64 (i+(1:Int)))
 else
 none
 else
 some ((.inr (k)))
def jT (a:(List (List UInt8))) (k:Int):Option (Int):=
 match (M.nO a Go.V.aF k (0:Int)) with
 |none=>none
 |some y0=>
 (match y0 with
 | .inl a1=>
 some a1
 | .inr b1=>
 some b1)
def qE (aW:(List M.ae)->Int->Option (Int)) (a:(List M.ae)):Nat->Int->Int->Option ((Int)⊕(Int))
 |0,_,_=>none
 |fuel+1,k,i=>
 bif (decide (i<((List.length a):Int))) then
 bif ((M.ae.Kind (List.getD a (Int.toNat i) M.ae.zero)) !=k) then
 bif ((Go.V.inB i (List.length a))&&true) then
 some (.inl (-(1:Int)))
 else
 none
 else
 let q0:=(M.ed (Go.IntKind.wrap Go.IntKind.i64 (k+(1:Int))))
 bif (!((M.ae.Name (List.getD a (Int.toNat i) M.ae.zero))==(Option.getD q0 default))) then
 let q1:=((Option.isSome q0)&&((Go.V.inB i (List.length a))&&((Go.V.inB i (List.length a))&&true)))
 bif q1 then
 some (.inl (-(1:Int)))
 else
 none
 else
 let q1:=(M.jT (M.ae.bV (List.getD a (Int.toNat i) M.ae.zero)) (Go.IntKind.wrap Go.IntKind.i64 ((Go.IntKind.wrap Go.IntKind.i64 (k+(1:Int)))+(1:Int))))
 let q2:=(Option.getD q1 default)
 bif (decide (q2<(0:Int))) then
 let q3:=((Option.isSome q0)&&((Go.V.inB i (List.length a))&&((Go.V.inB i (List.length a))&&true)))
 let q4:=((Option.isSome q1)&&((Go.V.inB i (List.length a))&&q3))
 bif q4 then
 some (.inl (-(1:Int)))
 else
 none
 else
 let q3:=(Option.getD (aW (M.ae.Kids (List.getD a (Int.toNat i) M.ae.zero)) q2) default)
 bif (decide (q3<(0:Int))) then
 let q4:=((Option.isSome q0)&&((Go.V.inB i (List.length a))&&((Go.V.inB i (List.length a))&&true)))
 let q5:=((Option.isSome q1)&&((Go.V.inB i (List.length a))&&q4))
 let q6:=((Option.isSome (aW (M.ae.Kids (List.getD a (Int.toNat i) M.ae.zero)) q2))&&((Go.V.inB i (List.length a))&&q5))
 bif q6 then
 some (.inl (-(1:Int)))
 else
 none
 else
 let q4:=((Option.isSome q0)&&((Go.V.inB i (List.length a))&&((Go.V.inB i (List.length a))&&true)))
 let q5:=((Option.isSome q1)&&((Go.V.inB i (List.length a))&&q4))
 let q6:=((Option.isSome (aW (M.ae.Kids (List.getD a (Int.toNat i) M.ae.zero)) q2))&&((Go.V.inB i (List.length a))&&q5))
 bif q6 then
 M.qE aW a fuel q3 (Go.IntKind.wrap Go.IntKind.i64 (i+(1:Int)))
 else
 none
 else
 some ((.inr (k)))
def sH (aW:(List M.ae)->Int->Option (Int)) (a:(List M.ae)) (k:Int):Option (Int):=
 match (M.qE aW a Go.V.aF k (0:Int)) with
 |none=>none
 |some y0=>
 (match y0 with
 | .inl a1=>
 some a1
 | .inr b1=>
 some b1)
def yt : Nat->(List M.ae)->Int->Option (Int)
 |0=>fun _ _=>none
 |n+1=>sH (yt n)
def yZ : (List M.ae)->Int->Option (Int):=yt Go.V.aF
def pG (aS:(List M.ah)->Int->Option (Int)) (a:(List M.ah)):Nat->Int->Int->Option ((Int)⊕(Int))
 |0,_,_=>none
 |fuel+1,k,i=>
 bif (decide (i<((List.length a):Int))) then
 bif ((M.ah.Kind (List.getD a (Int.toNat i) M.ah.zero)) !=k) then
 bif ((Go.V.inB i (List.length a))&&true) then
 some (.inl (-(1:Int)))
 else
 none
 else
 bif ((M.ah.Num (List.getD a (Int.toNat i) M.ah.zero)) !=(Go.IntKind.wrap Go.IntKind.i64 (k+(1:Int)))) then
 let q0:=((Go.V.inB i (List.length a))&&((Go.V.inB i (List.length a))&&true))
 bif q0 then
 some (.inl (-(1:Int)))
 else
 none
 else
 let q0:=(Go.IntKind.wrap Go.IntKind.i64 ((Go.IntKind.wrap Go.IntKind.i64 (k+(1:Int)))+(1:Int)))
 let q1:=(M.ed q0)
 bif (!((M.ah.Text (List.getD a (Int.toNat i) M.ah.zero))==(Option.getD q1 default))) then
 let q2:=((Go.V.inB i (List.length a))&&((Go.V.inB i (List.length a))&&true))
 let q3:=((Option.isSome q1)&&((Go.V.inB i (List.length a))&&q2))
 bif q3 then
 some (.inl (-(1:Int)))
 else
 none
 else
 let q2:=(Option.getD (aS (M.ah.Kids (List.getD a (Int.toNat i) M.ah.zero)) (Go.IntKind.wrap Go.IntKind.i64 (q0+(1:Int)))) default)
 bif (decide (q2<(0:Int))) then
 let q3:=((Go.V.inB i (List.length a))&&((Go.V.inB i (List.length a))&&true))
 let q4:=((Option.isSome q1)&&((Go.V.inB i (List.length a))&&q3))
 let q5:=((Option.isSome (aS (M.ah.Kids (List.getD a (Int.toNat i) M.ah.zero)) (Go.IntKind.wrap Go.IntKind.i64 (q0+(1:Int)))))&&((Go.V.inB i (List.length a))&&q4))
 bif q5 then
 some (.inl (-(1:Int)))
 else
 none
 else
 let q3:=((Go.V.inB i (List.length a))&&((Go.V.inB i (List.length a))&&true))
 let q4:=((Option.isSome q1)&&((Go.V.inB i (List.length a))&&q3))
 let q5:=((Option.isSome (aS (M.ah.Kids (List.getD a (Int.toNat i) M.ah.zero)) (Go.IntKind.wrap Go.IntKind.i64 (q0+(1:Int)))))&&((Go.V.inB i (List.length a))&&q4))
 bif q5 then
 M.pG aS a fuel q2 (Go.IntKind.wrap Go.IntKind.i64 (i+(1:Int)))
 else
 none
 else
 some ((.inr (k)))
def qF (aS:(List M.ah)->Int->Option (Int)) (a:(List M.ah)) (k:Int):Option (Int):=
 match (M.pG aS a Go.V.aF k (0:Int)) with
 |none=>none
 |some y0=>
 (match y0 with
 | .inl a1=>
 some a1
 | .inr b1=>
 some b1)
def vX : Nat->(List M.ah)->Int->Option (Int)
 |0=>fun _ _=>none
 |n+1=>qF (vX n)
def vK : (List M.ah)->Int->Option (Int):=vX Go.V.aF
def mQ (aN:M.ah->M.ah->Option (Bool)) (a:(List M.ah)) (b:(List M.ah)):Nat->Int->Option ((Bool)⊕(Unit))
 |0,_=>none
 |fuel+1,i=>
 bif (decide (i<((List.length a):Int))) then
 bif (!(Option.getD (aN (M.ah.re (List.getD a (Int.toNat i) M.ah.zero)) (M.ah.re (List.getD b (Int.toNat i) M.ah.zero))) default)) then
 let q0:=((Option.isSome (aN (M.ah.re (List.getD a (Int.toNat i) M.ah.zero)) (M.ah.re (List.getD b (Int.toNat i) M.ah.zero))))&&((Go.V.inB i (List.length b))&&((Go.V.inB i (List.length a))&&true)))
 bif q0 then
 some (.inl false)
 else
 none
 else
 let q0:=((Option.isSome (aN (M.ah.re (List.getD a (Int.toNat i) M.ah.zero)) (M.ah.re (List.getD b (Int.toNat i) M.ah.zero))))&&((Go.V.inB i (List.length b))&&((Go.V.inB i (List.length a))&&true)))
 bif q0 then
 M.mQ aN a b fuel (Go.IntKind.wrap Go.IntKind.i64 (i+(1:Int)))
 else
 none
 else
 some ((.inr (())))
def oQ (aN:M.ah->M.ah->Option (Bool)) (a:(List M.ah)) (b:(List M.ah)):Option (Bool):=
 bif (((List.length a):Int) !=((List.length b):Int)) then
 some false
 else
 match (M.mQ aN a b Go.V.aF (0:Int)) with
 |none=>none
 |some y0=>
 (match y0 with
 | .inl a1=>
 some a1
 | .inr b1=>
 some true)
def zg (aN:M.ah->M.ah->Option (Bool)) (a:M.ah) (b:M.ah):Option (Bool):=
 bif ((M.ah.Kind a) !=(M.ah.Kind b)) then
 some false
 else
 bif ((M.ah.Num a) !=(M.ah.Num b)) then
 some false
 else
 bif (!((M.ah.Text a)==(M.ah.Text b))) then
 some false
 else
 let q0:=(M.oQ aN (M.ah.Kids a) (M.ah.Kids b))
 bif (!(Option.getD q0 default)) then
 bif ((Option.isSome q0)&&true) then
 some false
 else
 none
 else
 bif ((Option.isSome q0)&&true) then
 some true
 else
 none
def qK : Nat->M.ah->M.ah->Option (Bool)
 |0=>fun _ _=>none
 |n+1=>zg (qK n)
def A7 : M.ah->M.ah->Option (Bool):=qK Go.V.aF
def sV (aH:M.ah->Option (Int×Int×(List UInt8)×(List M.ah))) (t7:(List M.ah)) (t8:Int):Nat->Int->(List M.ah)->Option ((List M.ah))
 |0,_,_=>none
 |fuel+1,t9,out=>
 bif (decide (t9<t8)) then
 let q0:=(Option.getD (aH (M.ah.re (List.getD t7 (Int.toNat t9) M.ah.zero))) default)
 let q1:=q0.2
 let q2:=q1.2
 let q3:=[(M.ah.mk q0.1 q1.1 q2.1 q2.2)]
 bif ((decide (((List.length out)+(List.length q3))<=1073741824))&&((Option.isSome (aH (M.ah.re (List.getD t7 (Int.toNat t9) M.ah.zero))))&&((Go.V.inB t9 (List.length t7))&&true))) then
 M.sV aH t7 t8 fuel (Go.IntKind.wrap Go.IntKind.i64 (t9+(1:Int))) (out++q3)
 else
 none
 else
 some (out)
def rD (aH:M.ah->Option (Int×Int×(List UInt8)×(List M.ah))) (list:(List M.ah)):Option ((List M.ah)):=
 match (M.sV aH list ((List.length list):Int) Go.V.aF (0:Int) []) with
 |none=>none
 |some y0=>
 some y0
def Eu (aH:M.ah->Option (Int×Int×(List UInt8)×(List M.ah))) (v:M.ah):Option (Int×Int×(List UInt8)×(List M.ah)):=
 let q0:=(M.rD aH (M.ah.Kids v))
 bif ((Option.isSome q0)&&true) then
 some ((M.ah.Kind v),(M.ah.Num v),(M.ah.Text v),(Option.getD q0 default))
 else
 none
def yw : Nat->M.ah->Option (Int×Int×(List UInt8)×(List M.ah))
 |0=>fun _=>none
 |n+1=>Eu (yw n)
def DU : M.ah->Option (Int×Int×(List UInt8)×(List M.ah)):=yw Go.V.aF
def Au (s:M.af):Option (Int×(List UInt8)×Int×Bool×Int×Int×Bool×Bool×(List (List UInt8))×(List M.ae)×(List M.ah)):=
 let q0:=(M.rD M.DU (M.af.Buffer s))
 let q1:=(M.tK (M.ae.re (M.af.iw s)))
 bif ((Option.isSome q0)&&((Option.isSome q1)&&true)) then
 let q2:=(Option.getD q1 default)
 let q3:=q2.2
 let q4:=q3.2
 some (q2.1,q3.1,(M.af.Room s),(M.af.rX s),(M.af.Put s),(M.af.ZC s),(M.af.Shut s),(M.af.Gone s),q4.1,q4.2,(Option.getD q0 default))
 else
 none
def xK (a:M.af) (b:M.af):Option (Bool):=
 let q0:=(M.OZ (M.ae.re (M.af.iw a)) (M.ae.re (M.af.iw b)))
 bif (!(Option.getD q0 default)) then
 bif ((Option.isSome q0)&&true) then
 some false
 else
 none
 else
 bif ((M.af.Room a) !=(M.af.Room b)) then
 bif ((Option.isSome q0)&&true) then
 some false
 else
 none
 else
 bif (!((M.af.rX a)==(M.af.rX b))) then
 bif ((Option.isSome q0)&&true) then
 some false
 else
 none
 else
 let q1:=(M.oQ M.A7 (M.af.Buffer a) (M.af.Buffer b))
 bif (!(Option.getD q1 default)) then
 let q2:=((Option.isSome q1)&&((Option.isSome q0)&&true))
 bif q2 then
 some false
 else
 none
 else
 bif ((M.af.Put a) !=(M.af.Put b)) then
 let q2:=((Option.isSome q1)&&((Option.isSome q0)&&true))
 bif q2 then
 some false
 else
 none
 else
 bif ((M.af.ZC a) !=(M.af.ZC b)) then
 let q2:=((Option.isSome q1)&&((Option.isSome q0)&&true))
 bif q2 then
 some false
 else
 none
 else
 bif (!((M.af.Shut a)==(M.af.Shut b))) then
 let q2:=((Option.isSome q1)&&((Option.isSome q0)&&true))
 bif q2 then
 some false
 else
 none
 else
 bif (!((M.af.Gone a)==(M.af.Gone b))) then
 let q2:=((Option.isSome q1)&&((Option.isSome q0)&&true))
 bif q2 then
 some false
 else
 none
 else
 let q2:=((Option.isSome q1)&&((Option.isSome q0)&&true))
 bif q2 then
 some true
 else
 none
def FD (a:(List M.aT)) (left:Int):Option (Int):=
 bif (decide ((Go.IntKind.wrap Go.IntKind.i64 (left-((List.length a):Int)))<(0:Int))) then
 some (-(1:Int))
 else
 some (Go.IntKind.wrap Go.IntKind.i64 (left-((List.length a):Int)))
def FH (a:M.ak) (left:Int):Option (Int):=
 let q0:=(M.FD (M.ak.Ops a) left)
 bif (decide ((Option.getD q0 default)<(0:Int))) then
 bif ((Option.isSome q0)&&true) then
 some (-(1:Int))
 else
 none
 else
 bif ((Option.isSome q0)&&true) then
 some (Option.getD q0 default)
 else
 none
def oU (a:(List M.ak)):Nat->Int->Int->Option ((Int)⊕(Int))
 |0,_,_=>none
 |fuel+1,left,i=>
 bif (decide (i<((List.length a):Int))) then
 let q0:=(M.FH (List.getD a (Int.toNat i) M.ak.zero) left)
 let q1:=(Option.getD q0 default)
 bif (decide (q1<(0:Int))) then
 let q2:=((Option.isSome q0)&&((Go.V.inB i (List.length a))&&true))
 bif q2 then
 some (.inl (-(1:Int)))
 else
 none
 else
 let q2:=((Option.isSome q0)&&((Go.V.inB i (List.length a))&&true))
 bif q2 then
 M.oU a fuel q1 (Go.IntKind.wrap Go.IntKind.i64 (i+(1:Int)))
 else
 none
 else
 some ((.inr (left)))
def A8 (a:(List M.ak)) (left:Int):Option (Int):=
 bif (decide ((Go.IntKind.wrap Go.IntKind.i64 (left-((List.length a):Int)))<(0:Int))) then
 some (-(1:Int))
 else
 match (M.oU a Go.V.aF (Go.IntKind.wrap Go.IntKind.i64 (left-((List.length a):Int))) (0:Int)) with
 |none=>none
 |some y0=>
 (match y0 with
 | .inl a1=>
 some a1
 | .inr b1=>
 some b1)
def PI (a:M.aT):Option (M.aT):=
 some a
def oI (a:(List M.aT)):Nat->Int->(List M.aT)->Option ((List M.aT))
 |0,_,_=>none
 |fuel+1,i,out=>
 bif (decide (i<((List.length a):Int))) then
 bif ((Go.V.inB i (List.length out))&&((Go.V.inB i (List.length a))&&true)) then
 M.oI a fuel (Go.IntKind.wrap Go.IntKind.i64 (i+(1:Int))) (List.set out (Int.toNat i) (List.getD a (Int.toNat i) M.aT.zero))
 else
 none
 else
 some (out)
def FK (a:(List M.aT)):Option ((List M.aT)):=
 match (M.oI a Go.V.aF (0:Int) (List.replicate (Int.toNat ((List.length a):Int)) (M.aT.mk (0:Int) (0:Int) (0:Int)))) with
 |none=>none
 |some y0=>
 bif (((decide (((List.length a):Int)<=((List.length a):Int)))&&(decide (((List.length a):Int)<=(1073741824:Int))))&&true) then
 some y0
 else
 none
def FM (a:M.ak):Option (Int×(List M.aT)):=
 let q0:=(M.FK (M.ak.Ops a))
 bif ((Option.isSome q0)&&true) then
 some ((M.ak.Ai a),(Option.getD q0 default))
 else
 none
def l7 (a:(List M.ak)):Nat->Int->(List M.ak)->Option ((List M.ak))
 |0,_,_=>none
 |fuel+1,i,out=>
 bif (decide (i<((List.length a):Int))) then
 let q0:=(M.FM (List.getD a (Int.toNat i) M.ak.zero))
 bif ((Go.V.inB i (List.length out))&&((Option.isSome q0)&&((Go.V.inB i (List.length a))&&true))) then
 let q1:=(Option.getD q0 default)
 M.l7 a fuel (Go.IntKind.wrap Go.IntKind.i64 (i+(1:Int))) (List.set out (Int.toNat i) (M.ak.mk q1.1 q1.2))
 else
 none
 else
 some (out)
def Ba (a:(List M.ak)):Option ((List M.ak)):=
 match (M.l7 a Go.V.aF (0:Int) (List.replicate (Int.toNat ((List.length a):Int)) (M.ak.mk (0:Int) []))) with
 |none=>none
 |some y0=>
 bif (((decide (((List.length a):Int)<=((List.length a):Int)))&&(decide (((List.length a):Int)<=(1073741824:Int))))&&true) then
 some y0
 else
 none
def jZ (a:(List Int)):Nat->Int->(List Int)->Option ((List Int))
 |0,_,_=>none
 |fuel+1,i,out=>
 bif (decide (i<((List.length a):Int))) then
 bif ((Go.V.inB i (List.length out))&&((Go.V.inB i (List.length a))&&true)) then
 M.jZ a fuel (Go.IntKind.wrap Go.IntKind.i64 (i+(1:Int))) (List.set out (Int.toNat i) (List.getD a (Int.toNat i) (0:Int)))
 else
 none
 else
 some (out)
def xM (a:(List Int)):Option ((List Int)):=
 match (M.jZ a Go.V.aF (0:Int) (List.replicate (Int.toNat ((List.length a):Int)) (0:Int))) with
 |none=>none
 |some y0=>
 bif (((decide (((List.length a):Int)<=((List.length a):Int)))&&(decide (((List.length a):Int)<=(1073741824:Int))))&&true) then
 some y0
 else
 none
def sF (o:M.aT):Option (Bool):=
 bif ((!((decide ((1:Int)<=(M.aT.Kind o)))&&(decide ((M.aT.Kind o)<=(12:Int)))))||(!((decide ((0:Int)<=(M.aT.A o)))&&(decide ((M.aT.A o)<=(bif ((M.aT.Kind o)==(1:Int)) then (5:Int) else (bif (bif ((M.aT.Kind o)==(2:Int)) then ((M.aT.Kind o)==(2:Int)) else ((M.aT.Kind o)==(10:Int))) then (7:Int) else (bif (bif ((M.aT.Kind o)==(5:Int)) then ((M.aT.Kind o)==(5:Int)) else (bif ((M.aT.Kind o)==(6:Int)) then ((M.aT.Kind o)==(6:Int)) else (bif ((M.aT.Kind o)==(7:Int)) then ((M.aT.Kind o)==(7:Int)) else ((M.aT.Kind o)==(8:Int))))) then (3:Int) else (bif ((M.aT.Kind o)==(9:Int)) then (999:Int) else (bif ((M.aT.Kind o)==(11:Int)) then (1:Int) else (0:Int))))))))))) then
 some false
 else
 bif (((M.aT.Kind o)==(5:Int))||((M.aT.Kind o)==(6:Int))) then
 some ((decide ((1:Int)<=(M.aT.B o)))&&(decide ((M.aT.B o)<=(4:Int))))
 else
 some ((M.aT.B o)==(0:Int))
def oC (p:M.ak):Nat->Int->Option ((Bool)⊕(Unit))
 |0,_=>none
 |fuel+1,i=>
 bif (decide (i<((List.length (M.ak.Ops p)):Int))) then
 let q0:=(M.sF (List.getD (M.ak.Ops p) (Int.toNat i) M.aT.zero))
 bif (!(Option.getD q0 default)) then
 let q1:=((Option.isSome q0)&&((Go.V.inB i (List.length (M.ak.Ops p)))&&true))
 bif q1 then
 some (.inl false)
 else
 none
 else
 let q1:=((Option.isSome q0)&&((Go.V.inB i (List.length (M.ak.Ops p)))&&true))
 bif q1 then
 M.oC p fuel (Go.IntKind.wrap Go.IntKind.i64 (i+(1:Int)))
 else
 none
 else
 some ((.inr (())))
def Bv (p:M.ak):Option (Bool):=
 bif ((!((decide ((1:Int)<=(M.ak.Ai p)))&&(decide ((M.ak.Ai p)<=(6:Int)))))||(decide ((12:Int)<((List.length (M.ak.Ops p)):Int)))) then
 some false
 else
 match (M.oC p Go.V.aF (0:Int)) with
 |none=>none
 |some y0=>
 (match y0 with
 | .inl a1=>
 some a1
 | .inr b1=>
 some true)
def mF (list:(List M.ak)):Nat->Int->Option ((Bool)⊕(Unit))
 |0,_=>none
 |fuel+1,i=>
 bif (decide (i<((List.length list):Int))) then
 let q0:=(M.Bv (List.getD list (Int.toNat i) M.ak.zero))
 bif (!(Option.getD q0 default)) then
 let q1:=((Option.isSome q0)&&((Go.V.inB i (List.length list))&&true))
 bif q1 then
 some (.inl false)
 else
 none
 else
 let q1:=((Option.isSome q0)&&((Go.V.inB i (List.length list))&&true))
 bif q1 then
 M.mF list fuel (Go.IntKind.wrap Go.IntKind.i64 (i+(1:Int)))
 else
 none
 else
 some ((.inr (())))
def xq (list:(List M.ak)):Option (Bool):=
 bif ((decide (((List.length list):Int)<(1:Int)))||(decide ((6:Int)<((List.length list):Int)))) then
 some false
 else
 match (M.mF list Go.V.aF (0:Int)) with
 |none=>none
 |some y0=>
 (match y0 with
 | .inl a1=>
 some a1
 | .inr b1=>
 some true)
def jb (list:(List M.ak)):Nat->Int->(List M.ak)->Option ((List M.ak))
 |0,_,_=>none
 |fuel+1,i,out=>
 bif (decide (i<((List.length list):Int))) then
 let q0:=[(M.ak.mk (M.ak.Ai (List.getD list (Int.toNat i) M.ak.zero)) ([]++(M.ak.Ops (List.getD list (Int.toNat i) M.ak.zero))))]
 bif ((decide (((List.length out)+(List.length q0))<=1073741824))&&((decide ((0+(List.length (M.ak.Ops (List.getD list (Int.toNat i) M.ak.zero))))<=1073741824))&&((Go.V.inB i (List.length list))&&((Go.V.inB i (List.length list))&&true)))) then
 M.jb list fuel (Go.IntKind.wrap Go.IntKind.i64 (i+(1:Int))) (out++q0)
 else
 none
 else
 some (out)
def pM (list:(List M.ak)):Option ((List M.ak)):=
 match (M.jb list Go.V.aF (0:Int) []) with
 |none=>none
 |some y0=>
 some y0
def uB (t:M.ae) (room:Int):Option (M.af×Int):=
 let q0:=(M.xn (M.ae.re t))
 bif (!(Option.getD q0 default)) then
 bif ((Option.isSome q0)&&true) then
 some ((M.af.mk (M.ae.mk (0:Int) [] [] []) (0:Int) false [] (0:Int) (0:Int) false false),(7:Int))
 else
 none
 else
 bif (!((decide ((1:Int)<=room))&&(decide (room<=(6:Int))))) then
 bif ((Option.isSome q0)&&true) then
 some ((M.af.mk (M.ae.mk (0:Int) [] [] []) (0:Int) false [] (0:Int) (0:Int) false false),(2:Int))
 else
 none
 else
 let q1:=(M.OX (M.ae.re t))
 bif ((Option.isSome q1)&&((Option.isSome q0)&&true)) then
 some ((M.af.mk (M.ae.re (Option.getD q1 default)) room false [] (0:Int) (0:Int) false false),(0:Int))
 else
 none
def mG (eP:(List Int)) (w:(List M.ak)) (o11:(List M.ak)) (o12:(List M.af)) (o13:(List M.aj)) (o14:(List Int)) (o15:(List M.aK)) (o17:(List M.aj)) (o18:(List Int)) (o19:(List M.aK)):Nat->Int->(List M.af)->Option ((Int×(List M.ak)×(List M.af)×(List M.aj)×(List Int)×(List M.aK))⊕((List M.ak)×(List M.ak)×(List M.af)×(List M.aj)×(List Int)×(List M.aK)×(List M.af)×(List M.aj)×(List Int)×(List M.aK)))
 |0,_,_=>none
 |fuel+1,i,o16=>
 bif (decide (i<((List.length eP):Int))) then
 let q0:=(M.uB (M.ae.mk (9:Int) [] [] []) (List.getD eP (Int.toNat i) (0:Int)))
 let q1:=(Option.getD q0 default)
 let q2:=q1.2
 bif (q2 !=(0:Int)) then
 let q3:=((Option.isSome q0)&&((Go.V.inB i (List.length eP))&&true))
 bif q3 then
 some (.inl (q2,[],[],[],[],[]))
 else
 none
 else
 let q3:=[(M.af.re q1.1)]
 let q4:=((Option.isSome q0)&&((Go.V.inB i (List.length eP))&&true))
 bif ((decide (((List.length o16)+(List.length q3))<=1073741824))&&q4) then
 M.mG eP w o11 o12 o13 o14 o15 o17 o18 o19 fuel (Go.IntKind.wrap Go.IntKind.i64 (i+(1:Int))) (o16++q3)
 else
 none
 else
 some ((.inr ((w,o11,o12,o13,o14,o15,o16,o17,o18,o19))))
def xu (dW:(List M.ak)) (eP:(List Int)):Option (M.aX×Int):=
 let q0:=(M.xq dW)
 bif (!(Option.getD q0 default)) then
 bif ((Option.isSome q0)&&true) then
 some ((M.aX.mk [] [] [] [] []),(1:Int))
 else
 none
 else
 bif (decide ((4:Int)<((List.length eP):Int))) then
 bif ((Option.isSome q0)&&true) then
 some ((M.aX.mk [] [] [] [] []),(4:Int))
 else
 none
 else
 let q1:=(M.pM dW)
 match (M.mG eP (Option.getD q1 default) [] [] [] [] [] [] [] [] Go.V.aF (0:Int) []) with
 |none=>none
 |some y2=>
 (match y2 with
 | .inl a3=>
 bif ((Option.isSome q1)&&((Option.isSome q0)&&true)) then
 let q4:=a3.2
 let q5:=q4.2
 let q6:=q5.2
 let q7:=q6.2
 some ((M.aX.mk q4.1 q5.1 q6.1 q7.1 q7.2),a3.1)
 else
 none
 | .inr b3=>
 bif ((Option.isSome q1)&&((Option.isSome q0)&&true)) then
 let q4:=b3.2.2.2.2.2.2
 let q5:=q4.2
 let q6:=q5.2
 some ((M.aX.mk b3.1 q4.1 q5.1 q6.1 q6.2),(0:Int))
 else
 none)
def JR (list:(List M.ak)):Option (Int):=
 some ((List.length list):Int)
def Dt (o:M.aT):Option (Bool):=
 let q0:=(bif ((M.aT.Kind o)==(2:Int)) then ((M.aT.Kind o)==(2:Int)) else ((M.aT.Kind o)==(10:Int)))
 let q1:=(bif ((M.aT.Kind o)==(5:Int)) then ((M.aT.Kind o)==(5:Int)) else ((M.aT.Kind o)==(6:Int)))
 some ((((decide ((1:Int)<=(M.aT.Kind o)))&&(decide ((M.aT.Kind o)<=(12:Int))))&&((decide ((0:Int)<=(M.aT.A o)))&&(decide ((M.aT.A o)<=(bif ((M.aT.Kind o)==(1:Int)) then (5:Int) else (bif q0 then (7:Int) else (bif q1 then (3:Int) else (bif (bif ((M.aT.Kind o)==(7:Int)) then ((M.aT.Kind o)==(7:Int)) else ((M.aT.Kind o)==(8:Int))) then (3:Int) else (bif ((M.aT.Kind o)==(9:Int)) then (999:Int) else (bif ((M.aT.Kind o)==(11:Int)) then (1:Int) else (0:Int)))))))))))&&((decide ((bif ((M.aT.Kind o)==(1:Int)) then (0:Int) else (bif q0 then (0:Int) else (bif q1 then (1:Int) else (0:Int))))<=(M.aT.B o)))&&(decide ((M.aT.B o)<=(bif ((M.aT.Kind o)==(1:Int)) then (0:Int) else (bif q0 then (0:Int) else (bif q1 then (4:Int) else (0:Int))))))))
def JV (o:M.aT):Option (Bool):=
 some (!(Option.getD (M.Dt o) default))
def dn (s:(List M.aT)) (t7:Int):Nat->Int->Option ((Int)⊕(Unit))
 |0,_=>none
 |fuel+1,t8=>
 bif (decide (t8<t7)) then
 bif (!(Option.getD (M.Dt (List.getD s (Int.toNat t8) M.aT.zero)) default)) then
 bif ((Go.V.inB t8 (List.length s))&&true) then
 some (.inl t8)
 else
 none
 else
 bif ((Go.V.inB t8 (List.length s))&&true) then
 M.dn s t7 fuel (Go.IntKind.wrap Go.IntKind.i64 (t8+(1:Int)))
 else
 none
 else
 some ((.inr (())))
def gJ (s:(List M.aT)):Option (Int):=
 match (M.dn s ((List.length s):Int) Go.V.aF (0:Int)) with
 |none=>none
 |some y0=>
 (match y0 with
 | .inl a1=>
 some a1
 | .inr b1=>
 some (-(1:Int)))
def eH (s:(List M.aT)):Option (Bool):=
 let q0:=(M.gJ s)
 bif ((Option.isSome q0)&&true) then
 some (decide ((0:Int)<=(Option.getD q0 default)))
 else
 none
def Bz (p:M.ak):Option (Bool):=
 let q0:=(M.eH (M.ak.Ops p))
 let q1:=(((decide ((1:Int)<=(M.ak.Ai p)))&&(decide ((M.ak.Ai p)<=(6:Int))))&&(decide (((List.length (M.ak.Ops p)):Int)<=(12:Int))))
 bif (((Option.isSome q0)||(!(q1==true)))&&true) then
 some (q1&&(!(Option.getD q0 default)))
 else
 none
def qZ (p:M.ak):Option (Bool):=
 let q0:=(M.Bz p)
 bif ((Option.isSome q0)&&true) then
 some (!(Option.getD q0 default))
 else
 none
def dH (s:(List M.ak)) (t7:Int):Nat->Int->Option ((Int)⊕(Unit))
 |0,_=>none
 |fuel+1,t8=>
 bif (decide (t8<t7)) then
 let q0:=(M.qZ (List.getD s (Int.toNat t8) M.ak.zero))
 bif (Option.getD q0 default) then
 let q1:=((Option.isSome q0)&&((Go.V.inB t8 (List.length s))&&true))
 bif q1 then
 some (.inl t8)
 else
 none
 else
 let q1:=((Option.isSome q0)&&((Go.V.inB t8 (List.length s))&&true))
 bif q1 then
 M.dH s t7 fuel (Go.IntKind.wrap Go.IntKind.i64 (t8+(1:Int)))
 else
 none
 else
 some ((.inr (())))
def fQ (s:(List M.ak)):Option (Int):=
 match (M.dH s ((List.length s):Int) Go.V.aF (0:Int)) with
 |none=>none
 |some y0=>
 (match y0 with
 | .inl a1=>
 some a1
 | .inr b1=>
 some (-(1:Int)))
def dV (s:(List M.ak)):Option (Bool):=
 let q0:=(M.fQ s)
 bif ((Option.isSome q0)&&true) then
 some (decide ((0:Int)<=(Option.getD q0 default)))
 else
 none
def AY (dW:(List M.ak)):Option (Bool):=
 let q0:=(M.dV dW)
 let q1:=((decide ((1:Int)<=((List.length dW):Int)))&&(decide (((List.length dW):Int)<=(6:Int))))
 bif (((Option.isSome q0)||(!(q1==true)))&&true) then
 some (q1&&(!(Option.getD q0 default)))
 else
 none
def kP (t18:(List M.ak)) (t19:Int) (w:M.aX) (o13:(List M.ak)) (o14:(List M.af)) (o15:(List M.aj)) (o16:(List Int)) (o17:(List M.aK)) (o19:(List M.af)) (o20:(List M.aj)) (o21:(List Int)) (o22:(List M.aK)):Nat->Int->(List M.ak)->Option (M.aX×(List M.ak)×(List M.af)×(List M.aj)×(List Int)×(List M.aK)×(List M.ak)×(List M.af)×(List M.aj)×(List Int)×(List M.aK))
 |0,_,_=>none
 |fuel+1,t20,o18=>
 bif (decide (t20<t19)) then
 let q0:=(M.fA (M.ak.Ops (List.getD t18 (Int.toNat t20) M.ak.zero)))
 let q1:=[(M.ak.mk (M.ak.Ai (List.getD t18 (Int.toNat t20) M.ak.zero)) (Option.getD q0 default))]
 bif ((decide (((List.length o18)+(List.length q1))<=1073741824))&&((Option.isSome q0)&&((Go.V.inB t20 (List.length t18))&&true))) then
 M.kP t18 t19 w o13 o14 o15 o16 o17 o19 o20 o21 o22 fuel (Go.IntKind.wrap Go.IntKind.i64 (t20+(1:Int))) (o18++q1)
 else
 none
 else
 some ((w,o13,o14,o15,o16,o17,o18,o19,o20,o21,o22))
def nK (t37:(List M.af)) (t38:Int) (w:M.aX) (o13:(List M.ak)) (o14:(List M.af)) (o15:(List M.aj)) (o16:(List Int)) (o17:(List M.aK)) (o18:(List M.ak)) (o20:(List M.aj)) (o21:(List Int)) (o22:(List M.aK)):Nat->Int->(List M.af)->Option (M.aX×(List M.ak)×(List M.af)×(List M.aj)×(List Int)×(List M.aK)×(List M.ak)×(List M.af)×(List M.aj)×(List Int)×(List M.aK))
 |0,_,_=>none
 |fuel+1,t39,o19=>
 bif (decide (t39<t38)) then
 let q0:=(M.Au (M.af.re (List.getD t37 (Int.toNat t39) M.af.zero)))
 let q1:=(Option.getD q0 default)
 let q2:=q1.2
 let q3:=q2.2
 let q4:=q3.2
 let q5:=q4.2
 let q6:=q5.2
 let q7:=q6.2
 let q8:=q7.2
 let q9:=q8.2
 let q10:=q9.2
 let q11:=[(M.af.mk (M.ae.mk q1.1 q2.1 q9.1 q10.1) q3.1 q4.1 q10.2 q5.1 q6.1 q7.1 q8.1)]
 bif ((decide (((List.length o19)+(List.length q11))<=1073741824))&&((Option.isSome q0)&&((Go.V.inB t39 (List.length t37))&&true))) then
 M.nK t37 t38 w o13 o14 o15 o16 o17 o18 o20 o21 o22 fuel (Go.IntKind.wrap Go.IntKind.i64 (t39+(1:Int))) (o19++q11)
 else
 none
 else
 some ((w,o13,o14,o15,o16,o17,o18,o19,o20,o21,o22))
def nM (t52:(List M.aj)) (t53:Int) (o12:(List M.ak)) (o13:(List M.af)) (o14:(List M.aj)) (o15:(List Int)) (o16:(List M.aK)) (o17:(List M.ak)) (o18:(List M.af)) (o20:(List Int)) (o21:(List M.aK)):Nat->Int->(List M.aj)->Option ((List M.ak)×(List M.af)×(List M.aj)×(List Int)×(List M.aK)×(List M.ak)×(List M.af)×(List M.aj)×(List Int)×(List M.aK))
 |0,_,_=>none
 |fuel+1,t54,o19=>
 bif (decide (t54<t53)) then
 let q0:=(M.dB (M.aj.EG (List.getD t52 (Int.toNat t54) M.aj.zero)))
 let q1:=(M.dB (M.aj.Set (List.getD t52 (Int.toNat t54) M.aj.zero)))
 let q2:=[(M.aj.mk (M.aj.Id (List.getD t52 (Int.toNat t54) M.aj.zero)) (M.aj.Prog (List.getD t52 (Int.toNat t54) M.aj.zero)) (M.aj.PC (List.getD t52 (Int.toNat t54) M.aj.zero)) (M.aj.qN (List.getD t52 (Int.toNat t54) M.aj.zero)) (M.aj.Status (List.getD t52 (Int.toNat t54) M.aj.zero)) (M.aj.Result (List.getD t52 (Int.toNat t54) M.aj.zero)) (M.aj.kX (List.getD t52 (Int.toNat t54) M.aj.zero)) (M.aj.Asked (List.getD t52 (Int.toNat t54) M.aj.zero)) (M.aj.Told (List.getD t52 (Int.toNat t54) M.aj.zero)) (Option.getD q0 default) (Option.getD q1 default))]
 bif ((decide (((List.length o19)+(List.length q2))<=1073741824))&&((Option.isSome q1)&&((Option.isSome q0)&&((Go.V.inB t54 (List.length t52))&&true)))) then
 M.nM t52 t53 o12 o13 o14 o15 o16 o17 o18 o20 o21 fuel (Go.IntKind.wrap Go.IntKind.i64 (t54+(1:Int))) (o19++q2)
 else
 none
 else
 some ((o12,o13,o14,o15,o16,o17,o18,o19,o20,o21))
def uD (w:M.aX):Option ((List M.ak)×(List M.af)×(List M.aj)×(List Int)×(List M.aK)):=
 let q0:=(M.dB (M.aX.Back w))
 let q1:=(M.fB (M.aX.Notes w))
 match (M.kP (M.aX.qp w) ((List.length (M.aX.qp w)):Int) w [] [] [] [] [] [] [] (Option.getD q0 default) (Option.getD q1 default) Go.V.aF (0:Int) []) with
 |none=>none
 |some y2=>
 let q3:=y2.1
 let q4:=y2.2
 let q5:=q4.2
 let q6:=q5.2
 let q7:=q6.2
 let q8:=q7.2
 let q9:=q8.2
 let q10:=q9.2
 let q11:=q10.2
 let q12:=q11.2
 match (M.nK (M.aX.gW q3) ((List.length (M.aX.gW q3)):Int) q3 q4.1 q5.1 q6.1 q7.1 q8.1 q9.1 q11.1 q12.1 q12.2 Go.V.aF (0:Int) q10.1) with
 |none=>none
 |some y13=>
 let GH:=y13.2
 let GI:=GH.2
 let q16:=GI.2
 let Lu:=q16.2
 let Ku:=Lu.2
 let Yi:=Ku.2
 let RI:=Yi.2
 let VW:=RI.2
 let q22:=VW.2
 match (M.nM (M.aX.BA y13.1) ((List.length (M.aX.BA y13.1)):Int) GH.1 GI.1 q16.1 Lu.1 Ku.1 Yi.1 RI.1 q22.1 q22.2 Go.V.aF (0:Int) VW.1) with
 |none=>none
 |some y23=>
 bif ((Option.isSome q1)&&((Option.isSome q0)&&true)) then
 let q24:=y23.2.2.2.2.2
 let QJ:=q24.2
 let q26:=QJ.2
 let q27:=q26.2
 some (q24.1,QJ.1,q26.1,q27.1,q27.2)
 else
 none
def uC (t:M.ae) (room:Int):Option (Int×(List UInt8)×Int×Bool×Int×Int×Bool×Bool×Int×(List (List UInt8))×(List M.ae)×(List M.ah)):=
 let q0:=(M.oN (M.ae.re t))
 bif (!(Option.getD q0 default)) then
 bif ((Option.isSome q0)&&true) then
 some ((0:Int),[],(0:Int),false,(0:Int),(0:Int),false,false,(7:Int),[],[],[])
 else
 none
 else
 bif (!((decide ((1:Int)<=room))&&(decide (room<=(6:Int))))) then
 bif ((Option.isSome q0)&&true) then
 some ((0:Int),[],(0:Int),false,(0:Int),(0:Int),false,false,(2:Int),[],[],[])
 else
 none
 else
 let q1:=(M.tK (M.ae.re t))
 bif ((Option.isSome q1)&&((Option.isSome q0)&&true)) then
 let q2:=(Option.getD q1 default)
 let q3:=q2.2
 let q4:=q3.2
 some (q2.1,q3.1,room,false,(0:Int),(0:Int),false,false,(0:Int),q4.1,q4.2,[])
 else
 none
def mJ (t24:(List Int)) (t25:Int) (o12:(List M.ak)) (o13:(List M.af)) (o14:(List M.aj)) (o15:(List Int)) (o16:(List M.aK)) (o17:(List M.ak)) (o19:(List M.aj)) (o20:(List Int)) (o21:(List M.aK)):Nat->Int->(List M.af)->Option ((Int×(List M.ak)×(List M.af)×(List M.aj)×(List Int)×(List M.aK))⊕((List M.ak)×(List M.af)×(List M.aj)×(List Int)×(List M.aK)×(List M.ak)×(List M.af)×(List M.aj)×(List Int)×(List M.aK)))
 |0,_,_=>none
 |fuel+1,t26,o18=>
 bif (decide (t26<t25)) then
 let q0:=(M.uC (M.ae.mk (9:Int) [] [] []) (List.getD t24 (Int.toNat t26) (0:Int)))
 let q1:=(Option.getD q0 default)
 let q2:=q1.2
 let q3:=q2.2
 let q4:=q3.2
 let q5:=q4.2
 let q6:=q5.2
 let q7:=q6.2
 let q8:=q7.2
 let q9:=q8.2
 let q10:=q9.1
 bif (q10 !=(0:Int)) then
 let q11:=((Option.isSome q0)&&((Go.V.inB t26 (List.length t24))&&true))
 bif q11 then
 some (.inl (q10,[],[],[],[],[]))
 else
 none
 else
 let q11:=q9.2
 let q12:=q11.2
 let q13:=[(M.af.mk (M.ae.mk q1.1 q2.1 q11.1 q12.1) q3.1 q4.1 q12.2 q5.1 q6.1 q7.1 q8.1)]
 let GH:=((Option.isSome q0)&&((Go.V.inB t26 (List.length t24))&&true))
 bif ((decide (((List.length o18)+(List.length q13))<=1073741824))&&GH) then
 M.mJ t24 t25 o12 o13 o14 o15 o16 o17 o19 o20 o21 fuel (Go.IntKind.wrap Go.IntKind.i64 (t26+(1:Int))) (o18++q13)
 else
 none
 else
 some ((.inr ((o12,o13,o14,o15,o16,o17,o18,o19,o20,o21))))
def xw (dW:(List M.ak)) (eP:(List Int)):Option (Int×(List M.ak)×(List M.af)×(List M.aj)×(List Int)×(List M.aK)):=
 let q0:=(M.AY dW)
 bif (!(Option.getD q0 default)) then
 bif ((Option.isSome q0)&&true) then
 some ((1:Int),[],[],[],[],[])
 else
 none
 else
 bif (decide ((4:Int)<((List.length eP):Int))) then
 bif ((Option.isSome q0)&&true) then
 some ((4:Int),[],[],[],[],[])
 else
 none
 else
 let q1:=(M.uD (M.aX.mk dW [] [] [] []))
 let q2:=(Option.getD q1 default)
 let q3:=q2.2
 let q4:=q3.2
 let q5:=q4.2
 match (M.mJ eP ((List.length eP):Int) [] [] [] [] [] q2.1 q4.1 q5.1 q5.2 Go.V.aF (0:Int) q3.1) with
 |none=>none
 |some y6=>
 (match y6 with
 | .inl a7=>
 let q8:=((Option.isSome q1)&&((Option.isSome q0)&&true))
 bif q8 then
 let q9:=a7.2
 let q10:=q9.2
 let q11:=q10.2
 let q12:=q11.2
 some (a7.1,q9.1,q10.1,q11.1,q12.1,q12.2)
 else
 none
 | .inr b7=>
 let q8:=((Option.isSome q1)&&((Option.isSome q0)&&true))
 bif q8 then
 let q9:=b7.2.2.2.2.2
 let q10:=q9.2
 let q11:=q10.2
 let q12:=q11.2
 some ((0:Int),q9.1,q10.1,q11.1,q12.1,q12.2)
 else
 none)
def Lt (a:M.aT) (b:M.aT):Option (Bool):=
 bif ((M.aT.Kind a) !=(M.aT.Kind b)) then
 some false
 else
 bif ((M.aT.A a) !=(M.aT.A b)) then
 some false
 else
 bif ((M.aT.B a) !=(M.aT.B b)) then
 some false
 else
 some true
def qL (a:(List M.aT)) (b:(List M.aT)):Nat->Int->Option ((Bool)⊕(Unit))
 |0,_=>none
 |fuel+1,i=>
 bif (decide (i<((List.length a):Int))) then
 let q0:=(M.Lt (List.getD a (Int.toNat i) M.aT.zero) (List.getD b (Int.toNat i) M.aT.zero))
 bif (!(Option.getD q0 default)) then
 let q1:=((Option.isSome q0)&&((Go.V.inB i (List.length b))&&((Go.V.inB i (List.length a))&&true)))
 bif q1 then
 some (.inl false)
 else
 none
 else
 let q1:=((Option.isSome q0)&&((Go.V.inB i (List.length b))&&((Go.V.inB i (List.length a))&&true)))
 bif q1 then
 M.qL a b fuel (Go.IntKind.wrap Go.IntKind.i64 (i+(1:Int)))
 else
 none
 else
 some ((.inr (())))
def FT (a:(List M.aT)) (b:(List M.aT)):Option (Bool):=
 bif (((List.length a):Int) !=((List.length b):Int)) then
 some false
 else
 match (M.qL a b Go.V.aF (0:Int)) with
 |none=>none
 |some y0=>
 (match y0 with
 | .inl a1=>
 some a1
 | .inr b1=>
 some true)
def FU (a:M.ak) (b:M.ak):Option (Bool):=
 bif ((M.ak.Ai a) !=(M.ak.Ai b)) then
 some false
 else
 let q0:=(M.FT (M.ak.Ops a) (M.ak.Ops b))
 bif (!(Option.getD q0 default)) then
 bif ((Option.isSome q0)&&true) then
 some false
 else
 none
 else
 bif ((Option.isSome q0)&&true) then
 some true
 else
 none
def oV (a:(List M.ak)) (b:(List M.ak)):Nat->Int->Option ((Bool)⊕(Unit))
 |0,_=>none
 |fuel+1,i=>
 bif (decide (i<((List.length a):Int))) then
 let q0:=(M.FU (List.getD a (Int.toNat i) M.ak.zero) (List.getD b (Int.toNat i) M.ak.zero))
 bif (!(Option.getD q0 default)) then
 let q1:=((Option.isSome q0)&&((Go.V.inB i (List.length b))&&((Go.V.inB i (List.length a))&&true)))
 bif q1 then
 some (.inl false)
 else
 none
 else
 let q1:=((Option.isSome q0)&&((Go.V.inB i (List.length b))&&((Go.V.inB i (List.length a))&&true)))
 bif q1 then
 M.oV a b fuel (Go.IntKind.wrap Go.IntKind.i64 (i+(1:Int)))
 else
 none
 else
 some ((.inr (())))
def uP (a:(List M.ak)) (b:(List M.ak)):Option (Bool):=
 bif (((List.length a):Int) !=((List.length b):Int)) then
 some false
 else
 match (M.oV a b Go.V.aF (0:Int)) with
 |none=>none
 |some y0=>
 (match y0 with
 | .inl a1=>
 some a1
 | .inr b1=>
 some true)
def kV (a:(List M.af)) (b:(List M.af)):Nat->Int->Option ((Bool)⊕(Unit))
 |0,_=>none
 |fuel+1,i=>
 bif (decide (i<((List.length a):Int))) then
 let q0:=(M.xK (M.af.re (List.getD a (Int.toNat i) M.af.zero)) (M.af.re (List.getD b (Int.toNat i) M.af.zero)))
 bif (!(Option.getD q0 default)) then
 let q1:=((Option.isSome q0)&&((Go.V.inB i (List.length b))&&((Go.V.inB i (List.length a))&&true)))
 bif q1 then
 some (.inl false)
 else
 none
 else
 let q1:=((Option.isSome q0)&&((Go.V.inB i (List.length b))&&((Go.V.inB i (List.length a))&&true)))
 bif q1 then
 M.kV a b fuel (Go.IntKind.wrap Go.IntKind.i64 (i+(1:Int)))
 else
 none
 else
 some ((.inr (())))
def uQ (a:(List M.af)) (b:(List M.af)):Option (Bool):=
 bif (((List.length a):Int) !=((List.length b):Int)) then
 some false
 else
 match (M.kV a b Go.V.aF (0:Int)) with
 |none=>none
 |some y0=>
 (match y0 with
 | .inl a1=>
 some a1
 | .inr b1=>
 some true)
def mV (a:(List Int)) (b:(List Int)):Nat->Int->Option ((Bool)⊕(Unit))
 |0,_=>none
 |fuel+1,i=>
 bif (decide (i<((List.length a):Int))) then
 bif ((List.getD a (Int.toNat i) (0:Int)) !=(List.getD b (Int.toNat i) (0:Int))) then
 let q0:=((Go.V.inB i (List.length b))&&((Go.V.inB i (List.length a))&&true))
 bif q0 then
 some (.inl false)
 else
 none
 else
 let q0:=((Go.V.inB i (List.length b))&&((Go.V.inB i (List.length a))&&true))
 bif q0 then
 M.mV a b fuel (Go.IntKind.wrap Go.IntKind.i64 (i+(1:Int)))
 else
 none
 else
 some ((.inr (())))
def kW (a:(List Int)) (b:(List Int)):Option (Bool):=
 bif (((List.length a):Int) !=((List.length b):Int)) then
 some false
 else
 match (M.mV a b Go.V.aF (0:Int)) with
 |none=>none
 |some y0=>
 (match y0 with
 | .inl a1=>
 some a1
 | .inr b1=>
 some true)
def FY (a:M.aj) (b:M.aj):Option (Bool):=
 bif ((M.aj.Id a) !=(M.aj.Id b)) then
 some false
 else
 bif ((M.aj.Prog a) !=(M.aj.Prog b)) then
 some false
 else
 bif ((M.aj.PC a) !=(M.aj.PC b)) then
 some false
 else
 bif ((M.aj.qN a) !=(M.aj.qN b)) then
 some false
 else
 bif ((M.aj.Status a) !=(M.aj.Status b)) then
 some false
 else
 bif ((M.aj.Result a) !=(M.aj.Result b)) then
 some false
 else
 bif (!((M.aj.kX a)==(M.aj.kX b))) then
 some false
 else
 bif (!((M.aj.Asked a)==(M.aj.Asked b))) then
 some false
 else
 bif (!((M.aj.Told a)==(M.aj.Told b))) then
 some false
 else
 let q0:=(M.kW (M.aj.EG a) (M.aj.EG b))
 bif (!(Option.getD q0 default)) then
 bif ((Option.isSome q0)&&true) then
 some false
 else
 none
 else
 let q1:=(M.kW (M.aj.Set a) (M.aj.Set b))
 bif (!(Option.getD q1 default)) then
 bif ((Option.isSome q1)&&((Option.isSome q0)&&true)) then
 some false
 else
 none
 else
 bif ((Option.isSome q1)&&((Option.isSome q0)&&true)) then
 some true
 else
 none
def oW (a:(List M.aj)) (b:(List M.aj)):Nat->Int->Option ((Bool)⊕(Unit))
 |0,_=>none
 |fuel+1,i=>
 bif (decide (i<((List.length a):Int))) then
 let q0:=(M.FY (List.getD a (Int.toNat i) M.aj.zero) (List.getD b (Int.toNat i) M.aj.zero))
 bif (!(Option.getD q0 default)) then
 let q1:=((Option.isSome q0)&&((Go.V.inB i (List.length b))&&((Go.V.inB i (List.length a))&&true)))
 bif q1 then
 some (.inl false)
 else
 none
 else
 let q1:=((Option.isSome q0)&&((Go.V.inB i (List.length b))&&((Go.V.inB i (List.length a))&&true)))
 bif q1 then
 M.oW a b fuel (Go.IntKind.wrap Go.IntKind.i64 (i+(1:Int)))
 else
 none
 else
 some ((.inr (())))
def Bc (a:(List M.aj)) (b:(List M.aj)):Option (Bool):=
 bif (((List.length a):Int) !=((List.length b):Int)) then
 some false
 else
 match (M.oW a b Go.V.aF (0:Int)) with
 |none=>none
 |some y0=>
 (match y0 with
 | .inl a1=>
 some a1
 | .inr b1=>
 some true)
def F5 (a:M.aK) (b:M.aK):Option (Bool):=
 bif ((M.aK.Task a) !=(M.aK.Task b)) then
 some false
 else
 bif ((M.aK.Kind a) !=(M.aK.Kind b)) then
 some false
 else
 bif ((M.aK.A a) !=(M.aK.A b)) then
 some false
 else
 bif ((M.aK.B a) !=(M.aK.B b)) then
 some false
 else
 some true
def oZ (a:(List M.aK)) (b:(List M.aK)):Nat->Int->Option ((Bool)⊕(Unit))
 |0,_=>none
 |fuel+1,i=>
 bif (decide (i<((List.length a):Int))) then
 let q0:=(M.F5 (List.getD a (Int.toNat i) M.aK.zero) (List.getD b (Int.toNat i) M.aK.zero))
 bif (!(Option.getD q0 default)) then
 let q1:=((Option.isSome q0)&&((Go.V.inB i (List.length b))&&((Go.V.inB i (List.length a))&&true)))
 bif q1 then
 some (.inl false)
 else
 none
 else
 let q1:=((Option.isSome q0)&&((Go.V.inB i (List.length b))&&((Go.V.inB i (List.length a))&&true)))
 bif q1 then
 M.oZ a b fuel (Go.IntKind.wrap Go.IntKind.i64 (i+(1:Int)))
 else
 none
 else
 some ((.inr (())))
def Bd (a:(List M.aK)) (b:(List M.aK)):Option (Bool):=
 bif (((List.length a):Int) !=((List.length b):Int)) then
 some false
 else
 match (M.oZ a b Go.V.aF (0:Int)) with
 |none=>none
 |some y0=>
 (match y0 with
 | .inl a1=>
 some a1
 | .inr b1=>
 some true)
def Be (a:M.aX) (b:M.aX):Option (Bool):=
 let q0:=(M.uP (M.aX.qp a) (M.aX.qp b))
 bif (!(Option.getD q0 default)) then
 bif ((Option.isSome q0)&&true) then
 some false
 else
 none
 else
 let q1:=(M.uQ (M.aX.gW a) (M.aX.gW b))
 bif (!(Option.getD q1 default)) then
 bif ((Option.isSome q1)&&((Option.isSome q0)&&true)) then
 some false
 else
 none
 else
 let q2:=(M.Bc (M.aX.BA a) (M.aX.BA b))
 bif (!(Option.getD q2 default)) then
 let q3:=((Option.isSome q2)&&((Option.isSome q1)&&((Option.isSome q0)&&true)))
 bif q3 then
 some false
 else
 none
 else
 let q3:=(M.kW (M.aX.Back a) (M.aX.Back b))
 bif (!(Option.getD q3 default)) then
 let q4:=((Option.isSome q2)&&((Option.isSome q1)&&((Option.isSome q0)&&true)))
 let q5:=((Option.isSome q3)&&q4)
 bif q5 then
 some false
 else
 none
 else
 let q4:=(M.Bd (M.aX.Notes a) (M.aX.Notes b))
 bif (!(Option.getD q4 default)) then
 let q5:=((Option.isSome q2)&&((Option.isSome q1)&&((Option.isSome q0)&&true)))
 let q6:=((Option.isSome q3)&&q5)
 let q7:=((Option.isSome q4)&&q6)
 bif q7 then
 some false
 else
 none
 else
 let q5:=((Option.isSome q2)&&((Option.isSome q1)&&((Option.isSome q0)&&true)))
 let q6:=((Option.isSome q3)&&q5)
 let q7:=((Option.isSome q4)&&q6)
 bif q7 then
 some true
 else
 none
def mM : Nat->Int->Int->(List M.aT)->Option (Int×(List M.aT))
 |0,_,_,_=>none
 |fuel+1,k,i,a=>
 bif (decide (i<((List.length a):Int))) then
 let q0:=(List.set a (Int.toNat i) (M.aT.mk k (M.aT.A (List.getD a (Int.toNat i) M.aT.zero)) (M.aT.B (List.getD a (Int.toNat i) M.aT.zero))))
 let q1:=(List.getD q0 (Int.toNat i) M.aT.zero)
 let q2:=(List.set q0 (Int.toNat i) (M.aT.mk (M.aT.Kind q1) (Go.IntKind.wrap Go.IntKind.i64 (k+(1:Int))) (M.aT.B q1)))
 bif ((Go.V.inB i (List.length q2))&&((Go.V.inB i (List.length q0))&&((Go.V.inB i (List.length a))&&true))) then
 let q3:=(Go.IntKind.wrap Go.IntKind.i64 ((Go.IntKind.wrap Go.IntKind.i64 (k+(1:Int)))+(1:Int)))
 let q4:=(List.getD q2 (Int.toNat i) M.aT.zero)
 M.mM fuel (Go.IntKind.wrap Go.IntKind.i64 (q3+(1:Int))) (Go.IntKind.wrap Go.IntKind.i64 (i+(1:Int))) (List.set q2 (Int.toNat i) (M.aT.mk (M.aT.Kind q4) (M.aT.A q4) q3))
 else
 none
 else
 some ((k,a))
def xy (k:Int) (a:(List M.aT)):Option (Int×(List M.aT)):=
 match (M.mM Go.V.aF k (0:Int) a) with
 |none=>none
 |some y0=>
 some (y0.1,y0.2)
def kQ : Nat->Int->Int->(List M.ak)->Option (Int×(List M.ak))
 |0,_,_,_=>none
 |fuel+1,k,i,a=>
 bif (decide (i<((List.length a):Int))) then
 let q0:=(List.set a (Int.toNat i) (M.ak.mk k (M.ak.Ops (List.getD a (Int.toNat i) M.ak.zero))))
 let q1:=(List.getD q0 (Int.toNat i) M.ak.zero)
 let q2:=(M.xy (Go.IntKind.wrap Go.IntKind.i64 (k+(1:Int))) (M.ak.Ops q1))
 bif (((Option.isSome q2)&&true)&&((Go.V.inB i (List.length q0))&&((Go.V.inB i (List.length a))&&true))) then
 let q3:=(Option.getD q2 default)
 M.kQ fuel q3.1 (Go.IntKind.wrap Go.IntKind.i64 (i+(1:Int))) (List.set q0 (Int.toNat i) (M.ak.mk (M.ak.Ai q1) q3.2))
 else
 none
 else
 some ((k,a))
def oD (k:Int) (a:(List M.ak)):Option (Int×(List M.ak)):=
 match (M.kQ Go.V.aF k (0:Int) a) with
 |none=>none
 |some y0=>
 some (y0.1,y0.2)
def jE : Nat->Int->Int->(List Int)->Option (Int×(List Int))
 |0,_,_,_=>none
 |fuel+1,k,i,a=>
 bif (decide (i<((List.length a):Int))) then
 bif ((Go.V.inB i (List.length a))&&true) then
 M.jE fuel (Go.IntKind.wrap Go.IntKind.i64 (k+(1:Int))) (Go.IntKind.wrap Go.IntKind.i64 (i+(1:Int))) (List.set a (Int.toNat i) k)
 else
 none
 else
 some ((k,a))
def gX (k:Int) (a:(List Int)):Option (Int×(List Int)):=
 match (M.jE Go.V.aF k (0:Int) a) with
 |none=>none
 |some y0=>
 some (y0.1,y0.2)
def jc : Nat->Int->Int->(List M.af)->Option (Int×(List M.af))
 |0,_,_,_=>none
 |fuel+1,k,i,a=>
 bif (decide (i<((List.length a):Int))) then
 let q0:=(List.set a (Int.toNat i) (M.af.mk (M.ae.mk k (M.ae.Name (M.af.iw (List.getD a (Int.toNat i) M.af.zero))) (M.ae.bV (M.af.iw (List.getD a (Int.toNat i) M.af.zero))) (M.ae.Kids (M.af.iw (List.getD a (Int.toNat i) M.af.zero)))) (M.af.Room (List.getD a (Int.toNat i) M.af.zero)) (M.af.rX (List.getD a (Int.toNat i) M.af.zero)) (M.af.Buffer (List.getD a (Int.toNat i) M.af.zero)) (M.af.Put (List.getD a (Int.toNat i) M.af.zero)) (M.af.ZC (List.getD a (Int.toNat i) M.af.zero)) (M.af.Shut (List.getD a (Int.toNat i) M.af.zero)) (M.af.Gone (List.getD a (Int.toNat i) M.af.zero))))
 let q1:=(List.getD q0 (Int.toNat i) M.af.zero)
 let q2:=(M.ed (Go.IntKind.wrap Go.IntKind.i64 (k+(1:Int))))
 let q3:=(List.set q0 (Int.toNat i) (M.af.mk (M.ae.mk (M.ae.Kind (M.af.iw q1)) (Option.getD q2 default) (M.ae.bV (M.af.iw q1)) (M.ae.Kids (M.af.iw q1))) (M.af.Room q1) (M.af.rX q1) (M.af.Buffer q1) (M.af.Put q1) (M.af.ZC q1) (M.af.Shut q1) (M.af.Gone q1)))
 let q4:=(List.getD q3 (Int.toNat i) M.af.zero)
 let q5:=(M.jS (Go.IntKind.wrap Go.IntKind.i64 ((Go.IntKind.wrap Go.IntKind.i64 (k+(1:Int)))+(1:Int))) (M.ae.bV (M.af.iw q4)))
 let q6:=(Option.getD q5 default)
 let q7:=(List.set q3 (Int.toNat i) (M.af.mk (M.ae.mk (M.ae.Kind (M.af.iw q4)) (M.ae.Name (M.af.iw q4)) q6.2 (M.ae.Kids (M.af.iw q4))) (M.af.Room q4) (M.af.rX q4) (M.af.Buffer q4) (M.af.Put q4) (M.af.ZC q4) (M.af.Shut q4) (M.af.Gone q4)))
 let q8:=(List.getD q7 (Int.toNat i) M.af.zero)
 let q9:=(M.yY q6.1 (M.ae.Kids (M.af.iw q8)))
 let q10:=(Option.getD q9 default)
 let q11:=(List.set q7 (Int.toNat i) (M.af.mk (M.ae.mk (M.ae.Kind (M.af.iw q8)) (M.ae.Name (M.af.iw q8)) (M.ae.bV (M.af.iw q8)) q10.2) (M.af.Room q8) (M.af.rX q8) (M.af.Buffer q8) (M.af.Put q8) (M.af.ZC q8) (M.af.Shut q8) (M.af.Gone q8)))
 let q12:=(List.getD q11 (Int.toNat i) M.af.zero)
 let q13:=q10.1
 let GH:=(List.set q11 (Int.toNat i) (M.af.mk (M.ae.re (M.af.iw q12)) q13 (M.af.rX q12) (M.af.Buffer q12) (M.af.Put q12) (M.af.ZC q12) (M.af.Shut q12) (M.af.Gone q12)))
 let GI:=(List.getD GH (Int.toNat i) M.af.zero)
 let q16:=(Go.IntKind.wrap Go.IntKind.i64 (q13+(1:Int)))
 let Lu:=(List.set GH (Int.toNat i) (M.af.mk (M.ae.re (M.af.iw GI)) (M.af.Room GI) ((Int.tmod q16 (3:Int))==(0:Int)) (M.af.Buffer GI) (M.af.Put GI) (M.af.ZC GI) (M.af.Shut GI) (M.af.Gone GI)))
 let Ku:=(List.getD Lu (Int.toNat i) M.af.zero)
 let Yi:=(M.vJ (Go.IntKind.wrap Go.IntKind.i64 (q16+(1:Int))) (M.af.Buffer Ku))
 let RI:=(Option.getD Yi default)
 let VW:=(List.set Lu (Int.toNat i) (M.af.mk (M.ae.re (M.af.iw Ku)) (M.af.Room Ku) (M.af.rX Ku) RI.2 (M.af.Put Ku) (M.af.ZC Ku) (M.af.Shut Ku) (M.af.Gone Ku)))
 let q22:=(List.getD VW (Int.toNat i) M.af.zero)
 let q23:=RI.1
 let q24:=(List.set VW (Int.toNat i) (M.af.mk (M.ae.re (M.af.iw q22)) (M.af.Room q22) (M.af.rX q22) (M.af.Buffer q22) q23 (M.af.ZC q22) (M.af.Shut q22) (M.af.Gone q22)))
 let QJ:=(List.getD q24 (Int.toNat i) M.af.zero)
 let q26:=(Go.IntKind.wrap Go.IntKind.i64 (q23+(1:Int)))
 let q27:=(List.set q24 (Int.toNat i) (M.af.mk (M.ae.re (M.af.iw QJ)) (M.af.Room QJ) (M.af.rX QJ) (M.af.Buffer QJ) (M.af.Put QJ) q26 (M.af.Shut QJ) (M.af.Gone QJ)))
 let UW:=(List.getD q27 (Int.toNat i) M.af.zero)
 let q29:=(Go.IntKind.wrap Go.IntKind.i64 (q26+(1:Int)))
 let q30:=(List.set q27 (Int.toNat i) (M.af.mk (M.ae.re (M.af.iw UW)) (M.af.Room UW) (M.af.rX UW) (M.af.Buffer UW) (M.af.Put UW) (M.af.ZC UW) ((Int.tmod q29 (3:Int))==(0:Int)) (M.af.Gone UW)))
 bif ((Go.V.inB i (List.length q30))&&(((3:Int) !=(0:Int))&&((Go.V.inB i (List.length q27))&&(((3:Int) !=(0:Int))&&((Go.V.inB i (List.length q24))&&((Go.V.inB i (List.length VW))&&(((Option.isSome Yi)&&true)&&((Go.V.inB i (List.length Lu))&&((Go.V.inB i (List.length GH))&&(((3:Int) !=(0:Int))&&((Go.V.inB i (List.length q11))&&(((Option.isSome q9)&&true)&&((Go.V.inB i (List.length q7))&&(((Option.isSome q5)&&true)&&((Go.V.inB i (List.length q3))&&((Go.V.inB i (List.length q0))&&(((Option.isSome q2)&&true)&&((Go.V.inB i (List.length a))&&true)))))))))))))))))) then
 let q31:=(Go.IntKind.wrap Go.IntKind.i64 (q29+(1:Int)))
 let q32:=(List.getD q30 (Int.toNat i) M.af.zero)
 M.jc fuel (Go.IntKind.wrap Go.IntKind.i64 (q31+(1:Int))) (Go.IntKind.wrap Go.IntKind.i64 (i+(1:Int))) (List.set q30 (Int.toNat i) (M.af.mk (M.ae.re (M.af.iw q32)) (M.af.Room q32) (M.af.rX q32) (M.af.Buffer q32) (M.af.Put q32) (M.af.ZC q32) (M.af.Shut q32) ((Int.tmod q31 (3:Int))==(0:Int))))
 else
 none
 else
 some ((k,a))
def pO (k:Int) (a:(List M.af)):Option (Int×(List M.af)):=
 match (M.jc Go.V.aF k (0:Int) a) with
 |none=>none
 |some y0=>
 some (y0.1,y0.2)
def qB : Nat->Int->Int->(List M.aj)->Option (Int×(List M.aj))
 |0,_,_,_=>none
 |fuel+1,k,i,a=>
 bif (decide (i<((List.length a):Int))) then
 let q0:=(Go.IntKind.wrap Go.IntKind.i64 ((Go.IntKind.wrap Go.IntKind.i64 (k+(1:Int)))+(1:Int)))
 let q1:=(Go.IntKind.wrap Go.IntKind.i64 (q0+(1:Int)))
 let q2:=(Go.IntKind.wrap Go.IntKind.i64 (q1+(1:Int)))
 let q3:=(Go.IntKind.wrap Go.IntKind.i64 (q2+(1:Int)))
 let q4:=(Go.IntKind.wrap Go.IntKind.i64 (q3+(1:Int)))
 let q5:=(Go.IntKind.wrap Go.IntKind.i64 (q4+(1:Int)))
 let q6:=(Go.IntKind.wrap Go.IntKind.i64 (q5+(1:Int)))
 let q7:=(List.set a (Int.toNat i) (M.aj.mk k (M.aj.Prog (List.getD a (Int.toNat i) M.aj.zero)) (M.aj.PC (List.getD a (Int.toNat i) M.aj.zero)) (M.aj.qN (List.getD a (Int.toNat i) M.aj.zero)) (M.aj.Status (List.getD a (Int.toNat i) M.aj.zero)) (M.aj.Result (List.getD a (Int.toNat i) M.aj.zero)) (M.aj.kX (List.getD a (Int.toNat i) M.aj.zero)) (M.aj.Asked (List.getD a (Int.toNat i) M.aj.zero)) (M.aj.Told (List.getD a (Int.toNat i) M.aj.zero)) (M.aj.EG (List.getD a (Int.toNat i) M.aj.zero)) (M.aj.Set (List.getD a (Int.toNat i) M.aj.zero))))
 let q8:=(List.getD q7 (Int.toNat i) M.aj.zero)
 let q9:=(List.set q7 (Int.toNat i) (M.aj.mk (M.aj.Id q8) (Go.IntKind.wrap Go.IntKind.i64 (k+(1:Int))) (M.aj.PC q8) (M.aj.qN q8) (M.aj.Status q8) (M.aj.Result q8) (M.aj.kX q8) (M.aj.Asked q8) (M.aj.Told q8) (M.aj.EG q8) (M.aj.Set q8)))
 let q10:=(List.getD q9 (Int.toNat i) M.aj.zero)
 let q11:=(List.set q9 (Int.toNat i) (M.aj.mk (M.aj.Id q10) (M.aj.Prog q10) q0 (M.aj.qN q10) (M.aj.Status q10) (M.aj.Result q10) (M.aj.kX q10) (M.aj.Asked q10) (M.aj.Told q10) (M.aj.EG q10) (M.aj.Set q10)))
 let q12:=(List.getD q11 (Int.toNat i) M.aj.zero)
 let q13:=(List.set q11 (Int.toNat i) (M.aj.mk (M.aj.Id q12) (M.aj.Prog q12) (M.aj.PC q12) q1 (M.aj.Status q12) (M.aj.Result q12) (M.aj.kX q12) (M.aj.Asked q12) (M.aj.Told q12) (M.aj.EG q12) (M.aj.Set q12)))
 let GH:=(List.getD q13 (Int.toNat i) M.aj.zero)
 let GI:=(List.set q13 (Int.toNat i) (M.aj.mk (M.aj.Id GH) (M.aj.Prog GH) (M.aj.PC GH) (M.aj.qN GH) q2 (M.aj.Result GH) (M.aj.kX GH) (M.aj.Asked GH) (M.aj.Told GH) (M.aj.EG GH) (M.aj.Set GH)))
 let q16:=(List.getD GI (Int.toNat i) M.aj.zero)
 let Lu:=(List.set GI (Int.toNat i) (M.aj.mk (M.aj.Id q16) (M.aj.Prog q16) (M.aj.PC q16) (M.aj.qN q16) (M.aj.Status q16) q3 (M.aj.kX q16) (M.aj.Asked q16) (M.aj.Told q16) (M.aj.EG q16) (M.aj.Set q16)))
 let Ku:=(List.getD Lu (Int.toNat i) M.aj.zero)
 let Yi:=(List.set Lu (Int.toNat i) (M.aj.mk (M.aj.Id Ku) (M.aj.Prog Ku) (M.aj.PC Ku) (M.aj.qN Ku) (M.aj.Status Ku) (M.aj.Result Ku) ((Int.tmod q4 (3:Int))==(0:Int)) (M.aj.Asked Ku) (M.aj.Told Ku) (M.aj.EG Ku) (M.aj.Set Ku)))
 let RI:=(List.getD Yi (Int.toNat i) M.aj.zero)
 let VW:=(List.set Yi (Int.toNat i) (M.aj.mk (M.aj.Id RI) (M.aj.Prog RI) (M.aj.PC RI) (M.aj.qN RI) (M.aj.Status RI) (M.aj.Result RI) (M.aj.kX RI) ((Int.tmod q5 (3:Int))==(0:Int)) (M.aj.Told RI) (M.aj.EG RI) (M.aj.Set RI)))
 let q22:=(List.getD VW (Int.toNat i) M.aj.zero)
 let q23:=(List.set VW (Int.toNat i) (M.aj.mk (M.aj.Id q22) (M.aj.Prog q22) (M.aj.PC q22) (M.aj.qN q22) (M.aj.Status q22) (M.aj.Result q22) (M.aj.kX q22) (M.aj.Asked q22) ((Int.tmod q6 (3:Int))==(0:Int)) (M.aj.EG q22) (M.aj.Set q22)))
 let q24:=(List.getD q23 (Int.toNat i) M.aj.zero)
 let QJ:=(M.gX (Go.IntKind.wrap Go.IntKind.i64 (q6+(1:Int))) (M.aj.EG q24))
 let q26:=(Option.getD QJ default)
 let q27:=(List.set q23 (Int.toNat i) (M.aj.mk (M.aj.Id q24) (M.aj.Prog q24) (M.aj.PC q24) (M.aj.qN q24) (M.aj.Status q24) (M.aj.Result q24) (M.aj.kX q24) (M.aj.Asked q24) (M.aj.Told q24) q26.2 (M.aj.Set q24)))
 let UW:=(List.getD q27 (Int.toNat i) M.aj.zero)
 let q29:=(M.gX q26.1 (M.aj.Set UW))
 bif (((Option.isSome q29)&&true)&&((Go.V.inB i (List.length q27))&&(((Option.isSome QJ)&&true)&&((Go.V.inB i (List.length q23))&&((Go.V.inB i (List.length VW))&&(((3:Int) !=(0:Int))&&((Go.V.inB i (List.length Yi))&&(((3:Int) !=(0:Int))&&((Go.V.inB i (List.length Lu))&&(((3:Int) !=(0:Int))&&((Go.V.inB i (List.length GI))&&((Go.V.inB i (List.length q13))&&((Go.V.inB i (List.length q11))&&((Go.V.inB i (List.length q9))&&((Go.V.inB i (List.length q7))&&((Go.V.inB i (List.length a))&&true)))))))))))))))) then
 let q30:=(Option.getD q29 default)
 M.qB fuel q30.1 (Go.IntKind.wrap Go.IntKind.i64 (i+(1:Int))) (List.set q27 (Int.toNat i) (M.aj.mk (M.aj.Id UW) (M.aj.Prog UW) (M.aj.PC UW) (M.aj.qN UW) (M.aj.Status UW) (M.aj.Result UW) (M.aj.kX UW) (M.aj.Asked UW) (M.aj.Told UW) (M.aj.EG UW) q30.2))
 else
 none
 else
 some ((k,a))
def uF (k:Int) (a:(List M.aj)):Option (Int×(List M.aj)):=
 match (M.qB Go.V.aF k (0:Int) a) with
 |none=>none
 |some y0=>
 some (y0.1,y0.2)
def qC : Nat->Int->Int->(List M.aK)->Option (Int×(List M.aK))
 |0,_,_,_=>none
 |fuel+1,k,i,a=>
 bif (decide (i<((List.length a):Int))) then
 let q0:=(List.set a (Int.toNat i) (M.aK.mk k (M.aK.Kind (List.getD a (Int.toNat i) M.aK.zero)) (M.aK.A (List.getD a (Int.toNat i) M.aK.zero)) (M.aK.B (List.getD a (Int.toNat i) M.aK.zero))))
 let q1:=(List.getD q0 (Int.toNat i) M.aK.zero)
 let q2:=(List.set q0 (Int.toNat i) (M.aK.mk (M.aK.Task q1) (Go.IntKind.wrap Go.IntKind.i64 (k+(1:Int))) (M.aK.A q1) (M.aK.B q1)))
 let q3:=(List.getD q2 (Int.toNat i) M.aK.zero)
 let q4:=(Go.IntKind.wrap Go.IntKind.i64 ((Go.IntKind.wrap Go.IntKind.i64 (k+(1:Int)))+(1:Int)))
 let q5:=(List.set q2 (Int.toNat i) (M.aK.mk (M.aK.Task q3) (M.aK.Kind q3) q4 (M.aK.B q3)))
 bif ((Go.V.inB i (List.length q5))&&((Go.V.inB i (List.length q2))&&((Go.V.inB i (List.length q0))&&((Go.V.inB i (List.length a))&&true)))) then
 let q6:=(Go.IntKind.wrap Go.IntKind.i64 (q4+(1:Int)))
 let q7:=(List.getD q5 (Int.toNat i) M.aK.zero)
 M.qC fuel (Go.IntKind.wrap Go.IntKind.i64 (q6+(1:Int))) (Go.IntKind.wrap Go.IntKind.i64 (i+(1:Int))) (List.set q5 (Int.toNat i) (M.aK.mk (M.aK.Task q7) (M.aK.Kind q7) (M.aK.A q7) q6))
 else
 none
 else
 some ((k,a))
def uG (k:Int) (a:(List M.aK)):Option (Int×(List M.aK)):=
 match (M.qC Go.V.aF k (0:Int) a) with
 |none=>none
 |some y0=>
 some (y0.1,y0.2)
def mO (a:(List M.aT)):Nat->Int->Int->Option ((Int)⊕(Int))
 |0,_,_=>none
 |fuel+1,k,i=>
 bif (decide (i<((List.length a):Int))) then
 bif ((M.aT.Kind (List.getD a (Int.toNat i) M.aT.zero)) !=k) then
 bif ((Go.V.inB i (List.length a))&&true) then
 some (.inl (-(1:Int)))
 else
 none
 else
 bif ((M.aT.A (List.getD a (Int.toNat i) M.aT.zero)) !=(Go.IntKind.wrap Go.IntKind.i64 (k+(1:Int)))) then
 let q0:=((Go.V.inB i (List.length a))&&((Go.V.inB i (List.length a))&&true))
 bif q0 then
 some (.inl (-(1:Int)))
 else
 none
 else
 let q0:=(Go.IntKind.wrap Go.IntKind.i64 ((Go.IntKind.wrap Go.IntKind.i64 (k+(1:Int)))+(1:Int)))
 bif ((M.aT.B (List.getD a (Int.toNat i) M.aT.zero)) !=q0) then
 let q1:=((Go.V.inB i (List.length a))&&((Go.V.inB i (List.length a))&&true))
 let q2:=((Go.V.inB i (List.length a))&&q1)
 bif q2 then
 some (.inl (-(1:Int)))
 else
 none
 else
 let q1:=((Go.V.inB i (List.length a))&&((Go.V.inB i (List.length a))&&true))
 let q2:=((Go.V.inB i (List.length a))&&q1)
 bif q2 then
 M.mO a fuel (Go.IntKind.wrap Go.IntKind.i64 (q0+(1:Int))) (Go.IntKind.wrap Go.IntKind.i64 (i+(1:Int)))
 else
 none
 else
 some ((.inr (k)))
def xA (a:(List M.aT)) (k:Int):Option (Int):=
 match (M.mO a Go.V.aF k (0:Int)) with
 |none=>none
 |some y0=>
 (match y0 with
 | .inl a1=>
 some a1
 | .inr b1=>
 some b1)
def kR (a:(List M.ak)):Nat->Int->Int->Option ((Int)⊕(Int))
 |0,_,_=>none
 |fuel+1,k,i=>
 bif (decide (i<((List.length a):Int))) then
 bif ((M.ak.Ai (List.getD a (Int.toNat i) M.ak.zero)) !=k) then
 bif ((Go.V.inB i (List.length a))&&true) then
 some (.inl (-(1:Int)))
 else
 none
 else
 let q0:=(M.xA (M.ak.Ops (List.getD a (Int.toNat i) M.ak.zero)) (Go.IntKind.wrap Go.IntKind.i64 (k+(1:Int))))
 let q1:=(Option.getD q0 default)
 bif (decide (q1<(0:Int))) then
 let q2:=((Option.isSome q0)&&((Go.V.inB i (List.length a))&&((Go.V.inB i (List.length a))&&true)))
 bif q2 then
 some (.inl (-(1:Int)))
 else
 none
 else
 let q2:=((Option.isSome q0)&&((Go.V.inB i (List.length a))&&((Go.V.inB i (List.length a))&&true)))
 bif q2 then
 M.kR a fuel q1 (Go.IntKind.wrap Go.IntKind.i64 (i+(1:Int)))
 else
 none
 else
 some ((.inr (k)))
def qx (a:(List M.ak)) (k:Int):Option (Int):=
 match (M.kR a Go.V.aF k (0:Int)) with
 |none=>none
 |some y0=>
 (match y0 with
 | .inl a1=>
 some a1
 | .inr b1=>
 some b1)
def jd (a:(List M.af)):Nat->Int->Int->Option ((Int)⊕(Int))
 |0,_,_=>none
 |fuel+1,k,i=>
 bif (decide (i<((List.length a):Int))) then
 bif ((M.ae.Kind (M.af.iw (List.getD a (Int.toNat i) M.af.zero))) !=k) then
 bif ((Go.V.inB i (List.length a))&&true) then
 some (.inl (-(1:Int)))
 else
 none
 else
 let q0:=(M.ed (Go.IntKind.wrap Go.IntKind.i64 (k+(1:Int))))
 bif (!((M.ae.Name (M.af.iw (List.getD a (Int.toNat i) M.af.zero)))==(Option.getD q0 default))) then
 let q1:=((Option.isSome q0)&&((Go.V.inB i (List.length a))&&((Go.V.inB i (List.length a))&&true)))
 bif q1 then
 some (.inl (-(1:Int)))
 else
 none
 else
 let q1:=(M.jT (M.ae.bV (M.af.iw (List.getD a (Int.toNat i) M.af.zero))) (Go.IntKind.wrap Go.IntKind.i64 ((Go.IntKind.wrap Go.IntKind.i64 (k+(1:Int)))+(1:Int))))
 let q2:=(Option.getD q1 default)
 bif (decide (q2<(0:Int))) then
 let q3:=((Option.isSome q0)&&((Go.V.inB i (List.length a))&&((Go.V.inB i (List.length a))&&true)))
 let q4:=((Option.isSome q1)&&((Go.V.inB i (List.length a))&&q3))
 bif q4 then
 some (.inl (-(1:Int)))
 else
 none
 else
 let q3:=(M.yZ (M.ae.Kids (M.af.iw (List.getD a (Int.toNat i) M.af.zero))) q2)
 let q4:=(Option.getD q3 default)
 bif (decide (q4<(0:Int))) then
 let q5:=((Option.isSome q0)&&((Go.V.inB i (List.length a))&&((Go.V.inB i (List.length a))&&true)))
 let q6:=((Option.isSome q1)&&((Go.V.inB i (List.length a))&&q5))
 let q7:=((Option.isSome q3)&&((Go.V.inB i (List.length a))&&q6))
 bif q7 then
 some (.inl (-(1:Int)))
 else
 none
 else
 bif ((M.af.Room (List.getD a (Int.toNat i) M.af.zero)) !=q4) then
 let q5:=((Option.isSome q0)&&((Go.V.inB i (List.length a))&&((Go.V.inB i (List.length a))&&true)))
 let q6:=((Option.isSome q1)&&((Go.V.inB i (List.length a))&&q5))
 let q7:=((Option.isSome q3)&&((Go.V.inB i (List.length a))&&q6))
 let q8:=((Go.V.inB i (List.length a))&&q7)
 bif q8 then
 some (.inl (-(1:Int)))
 else
 none
 else
 let q5:=(Go.IntKind.wrap Go.IntKind.i64 (q4+(1:Int)))
 bif (!((M.af.rX (List.getD a (Int.toNat i) M.af.zero))==((Int.tmod q5 (3:Int))==(0:Int)))) then
 let q6:=((Option.isSome q0)&&((Go.V.inB i (List.length a))&&((Go.V.inB i (List.length a))&&true)))
 let q7:=((Option.isSome q1)&&((Go.V.inB i (List.length a))&&q6))
 let q8:=((Option.isSome q3)&&((Go.V.inB i (List.length a))&&q7))
 let q9:=((Go.V.inB i (List.length a))&&q8)
 let q10:=(((3:Int) !=(0:Int))&&((Go.V.inB i (List.length a))&&q9))
 bif q10 then
 some (.inl (-(1:Int)))
 else
 none
 else
 let q6:=(M.vK (M.af.Buffer (List.getD a (Int.toNat i) M.af.zero)) (Go.IntKind.wrap Go.IntKind.i64 (q5+(1:Int))))
 let q7:=(Option.getD q6 default)
 bif (decide (q7<(0:Int))) then
 let q8:=((Option.isSome q0)&&((Go.V.inB i (List.length a))&&((Go.V.inB i (List.length a))&&true)))
 let q9:=((Option.isSome q1)&&((Go.V.inB i (List.length a))&&q8))
 let q10:=((Option.isSome q3)&&((Go.V.inB i (List.length a))&&q9))
 let q11:=((Go.V.inB i (List.length a))&&q10)
 let q12:=(((3:Int) !=(0:Int))&&((Go.V.inB i (List.length a))&&q11))
 let q13:=((Option.isSome q6)&&((Go.V.inB i (List.length a))&&q12))
 bif q13 then
 some (.inl (-(1:Int)))
 else
 none
 else
 bif ((M.af.Put (List.getD a (Int.toNat i) M.af.zero)) !=q7) then
 let q8:=((Option.isSome q0)&&((Go.V.inB i (List.length a))&&((Go.V.inB i (List.length a))&&true)))
 let q9:=((Option.isSome q1)&&((Go.V.inB i (List.length a))&&q8))
 let q10:=((Option.isSome q3)&&((Go.V.inB i (List.length a))&&q9))
 let q11:=((Go.V.inB i (List.length a))&&q10)
 let q12:=(((3:Int) !=(0:Int))&&((Go.V.inB i (List.length a))&&q11))
 let q13:=((Option.isSome q6)&&((Go.V.inB i (List.length a))&&q12))
 let GH:=((Go.V.inB i (List.length a))&&q13)
 bif GH then
 some (.inl (-(1:Int)))
 else
 none
 else
 let q8:=(Go.IntKind.wrap Go.IntKind.i64 (q7+(1:Int)))
 bif ((M.af.ZC (List.getD a (Int.toNat i) M.af.zero)) !=q8) then
 let q9:=((Option.isSome q0)&&((Go.V.inB i (List.length a))&&((Go.V.inB i (List.length a))&&true)))
 let q10:=((Option.isSome q1)&&((Go.V.inB i (List.length a))&&q9))
 let q11:=((Option.isSome q3)&&((Go.V.inB i (List.length a))&&q10))
 let q12:=((Go.V.inB i (List.length a))&&q11)
 let q13:=(((3:Int) !=(0:Int))&&((Go.V.inB i (List.length a))&&q12))
 let GH:=((Option.isSome q6)&&((Go.V.inB i (List.length a))&&q13))
 let GI:=((Go.V.inB i (List.length a))&&GH)
 let q16:=((Go.V.inB i (List.length a))&&GI)
 bif q16 then
 some (.inl (-(1:Int)))
 else
 none
 else
 let q9:=(Go.IntKind.wrap Go.IntKind.i64 (q8+(1:Int)))
 bif (!((M.af.Shut (List.getD a (Int.toNat i) M.af.zero))==((Int.tmod q9 (3:Int))==(0:Int)))) then
 let q10:=((Option.isSome q0)&&((Go.V.inB i (List.length a))&&((Go.V.inB i (List.length a))&&true)))
 let q11:=((Option.isSome q1)&&((Go.V.inB i (List.length a))&&q10))
 let q12:=((Option.isSome q3)&&((Go.V.inB i (List.length a))&&q11))
 let q13:=((Go.V.inB i (List.length a))&&q12)
 let GH:=(((3:Int) !=(0:Int))&&((Go.V.inB i (List.length a))&&q13))
 let GI:=((Option.isSome q6)&&((Go.V.inB i (List.length a))&&GH))
 let q16:=((Go.V.inB i (List.length a))&&GI)
 let Lu:=((Go.V.inB i (List.length a))&&q16)
 let Ku:=(((3:Int) !=(0:Int))&&((Go.V.inB i (List.length a))&&Lu))
 bif Ku then
 some (.inl (-(1:Int)))
 else
 none
 else
 let q10:=(Go.IntKind.wrap Go.IntKind.i64 (q9+(1:Int)))
 bif (!((M.af.Gone (List.getD a (Int.toNat i) M.af.zero))==((Int.tmod q10 (3:Int))==(0:Int)))) then
 let q11:=((Option.isSome q0)&&((Go.V.inB i (List.length a))&&((Go.V.inB i (List.length a))&&true)))
 let q12:=((Option.isSome q1)&&((Go.V.inB i (List.length a))&&q11))
 let q13:=((Option.isSome q3)&&((Go.V.inB i (List.length a))&&q12))
 let GH:=((Go.V.inB i (List.length a))&&q13)
 let GI:=(((3:Int) !=(0:Int))&&((Go.V.inB i (List.length a))&&GH))
 let q16:=((Option.isSome q6)&&((Go.V.inB i (List.length a))&&GI))
 let Lu:=((Go.V.inB i (List.length a))&&q16)
 let Ku:=((Go.V.inB i (List.length a))&&Lu)
 let Yi:=(((3:Int) !=(0:Int))&&((Go.V.inB i (List.length a))&&Ku))
 let RI:=(((3:Int) !=(0:Int))&&((Go.V.inB i (List.length a))&&Yi))
 bif RI then
 some (.inl (-(1:Int)))
 else
 none
 else
 let q11:=((Option.isSome q0)&&((Go.V.inB i (List.length a))&&((Go.V.inB i (List.length a))&&true)))
 let q12:=((Option.isSome q1)&&((Go.V.inB i (List.length a))&&q11))
 let q13:=((Option.isSome q3)&&((Go.V.inB i (List.length a))&&q12))
 let GH:=((Go.V.inB i (List.length a))&&q13)
 let GI:=(((3:Int) !=(0:Int))&&((Go.V.inB i (List.length a))&&GH))
 let q16:=((Option.isSome q6)&&((Go.V.inB i (List.length a))&&GI))
 let Lu:=((Go.V.inB i (List.length a))&&q16)
 let Ku:=((Go.V.inB i (List.length a))&&Lu)
 let Yi:=(((3:Int) !=(0:Int))&&((Go.V.inB i (List.length a))&&Ku))
 let RI:=(((3:Int) !=(0:Int))&&((Go.V.inB i (List.length a))&&Yi))
 bif RI then
 M.jd a fuel (Go.IntKind.wrap Go.IntKind.i64 (q10+(1:Int))) (Go.IntKind.wrap Go.IntKind.i64 (i+(1:Int)))
 else
 none
 else
 some ((.inr (k)))
def mP (a:(List M.af)) (k:Int):Option (Int):=
 match (M.jd a Go.V.aF k (0:Int)) with
 |none=>none
 |some y0=>
 (match y0 with
 | .inl a1=>
 some a1
 | .inr b1=>
 some b1)
def pI (a:(List Int)):Nat->Int->Int->Option ((Int)⊕(Int))
 |0,_,_=>none
 |fuel+1,k,i=>
 bif (decide (i<((List.length a):Int))) then
 bif ((List.getD a (Int.toNat i) (0:Int)) !=k) then
 bif ((Go.V.inB i (List.length a))&&true) then
 some (.inl (-(1:Int)))
 else
 none
 else
 bif ((Go.V.inB i (List.length a))&&true) then
 M.pI a fuel (Go.IntKind.wrap Go.IntKind.i64 (k+(1:Int))) (Go.IntKind.wrap Go.IntKind.i64 (i+(1:Int)))
 else
 none
 else
 some ((.inr (k)))
def jM (a:(List Int)) (k:Int):Option (Int):=
 match (M.pI a Go.V.aF k (0:Int)) with
 |none=>none
 |some y0=>
 (match y0 with
 | .inl a1=>
 some a1
 | .inr b1=>
 some b1)
def qG (a:(List M.aj)):Nat->Int->Int->Option ((Int)⊕(Int))
 |0,_,_=>none
 |fuel+1,k,i=>
 bif (decide (i<((List.length a):Int))) then
 bif ((M.aj.Id (List.getD a (Int.toNat i) M.aj.zero)) !=k) then
 bif ((Go.V.inB i (List.length a))&&true) then
 some (.inl (-(1:Int)))
 else
 none
 else
 bif ((M.aj.Prog (List.getD a (Int.toNat i) M.aj.zero)) !=(Go.IntKind.wrap Go.IntKind.i64 (k+(1:Int)))) then
 let q0:=((Go.V.inB i (List.length a))&&((Go.V.inB i (List.length a))&&true))
 bif q0 then
 some (.inl (-(1:Int)))
 else
 none
 else
 let q0:=(Go.IntKind.wrap Go.IntKind.i64 ((Go.IntKind.wrap Go.IntKind.i64 (k+(1:Int)))+(1:Int)))
 bif ((M.aj.PC (List.getD a (Int.toNat i) M.aj.zero)) !=q0) then
 let q1:=((Go.V.inB i (List.length a))&&((Go.V.inB i (List.length a))&&true))
 let q2:=((Go.V.inB i (List.length a))&&q1)
 bif q2 then
 some (.inl (-(1:Int)))
 else
 none
 else
 let q1:=(Go.IntKind.wrap Go.IntKind.i64 (q0+(1:Int)))
 bif ((M.aj.qN (List.getD a (Int.toNat i) M.aj.zero)) !=q1) then
 let q2:=((Go.V.inB i (List.length a))&&((Go.V.inB i (List.length a))&&true))
 let q3:=((Go.V.inB i (List.length a))&&q2)
 let q4:=((Go.V.inB i (List.length a))&&q3)
 bif q4 then
 some (.inl (-(1:Int)))
 else
 none
 else
 let q2:=(Go.IntKind.wrap Go.IntKind.i64 (q1+(1:Int)))
 bif ((M.aj.Status (List.getD a (Int.toNat i) M.aj.zero)) !=q2) then
 let q3:=((Go.V.inB i (List.length a))&&((Go.V.inB i (List.length a))&&true))
 let q4:=((Go.V.inB i (List.length a))&&q3)
 let q5:=((Go.V.inB i (List.length a))&&q4)
 let q6:=((Go.V.inB i (List.length a))&&q5)
 bif q6 then
 some (.inl (-(1:Int)))
 else
 none
 else
 let q3:=(Go.IntKind.wrap Go.IntKind.i64 (q2+(1:Int)))
 bif ((M.aj.Result (List.getD a (Int.toNat i) M.aj.zero)) !=q3) then
 let q4:=((Go.V.inB i (List.length a))&&((Go.V.inB i (List.length a))&&true))
 let q5:=((Go.V.inB i (List.length a))&&q4)
 let q6:=((Go.V.inB i (List.length a))&&q5)
 let q7:=((Go.V.inB i (List.length a))&&q6)
 let q8:=((Go.V.inB i (List.length a))&&q7)
 bif q8 then
 some (.inl (-(1:Int)))
 else
 none
 else
 let q4:=(Go.IntKind.wrap Go.IntKind.i64 (q3+(1:Int)))
 bif (!((M.aj.kX (List.getD a (Int.toNat i) M.aj.zero))==((Int.tmod q4 (3:Int))==(0:Int)))) then
 let q5:=((Go.V.inB i (List.length a))&&((Go.V.inB i (List.length a))&&true))
 let q6:=((Go.V.inB i (List.length a))&&q5)
 let q7:=((Go.V.inB i (List.length a))&&q6)
 let q8:=((Go.V.inB i (List.length a))&&q7)
 let q9:=((Go.V.inB i (List.length a))&&q8)
 let q10:=(((3:Int) !=(0:Int))&&((Go.V.inB i (List.length a))&&q9))
 bif q10 then
 some (.inl (-(1:Int)))
 else
 none
 else
 let q5:=(Go.IntKind.wrap Go.IntKind.i64 (q4+(1:Int)))
 bif (!((M.aj.Asked (List.getD a (Int.toNat i) M.aj.zero))==((Int.tmod q5 (3:Int))==(0:Int)))) then
 let q6:=((Go.V.inB i (List.length a))&&((Go.V.inB i (List.length a))&&true))
 let q7:=((Go.V.inB i (List.length a))&&q6)
 let q8:=((Go.V.inB i (List.length a))&&q7)
 let q9:=((Go.V.inB i (List.length a))&&q8)
 let q10:=((Go.V.inB i (List.length a))&&q9)
 let q11:=(((3:Int) !=(0:Int))&&((Go.V.inB i (List.length a))&&q10))
 let q12:=(((3:Int) !=(0:Int))&&((Go.V.inB i (List.length a))&&q11))
 bif q12 then
 some (.inl (-(1:Int)))
 else
 none
 else
 let q6:=(Go.IntKind.wrap Go.IntKind.i64 (q5+(1:Int)))
 bif (!((M.aj.Told (List.getD a (Int.toNat i) M.aj.zero))==((Int.tmod q6 (3:Int))==(0:Int)))) then
 let q7:=((Go.V.inB i (List.length a))&&((Go.V.inB i (List.length a))&&true))
 let q8:=((Go.V.inB i (List.length a))&&q7)
 let q9:=((Go.V.inB i (List.length a))&&q8)
 let q10:=((Go.V.inB i (List.length a))&&q9)
 let q11:=((Go.V.inB i (List.length a))&&q10)
 let q12:=(((3:Int) !=(0:Int))&&((Go.V.inB i (List.length a))&&q11))
 let q13:=(((3:Int) !=(0:Int))&&((Go.V.inB i (List.length a))&&q12))
 let GH:=(((3:Int) !=(0:Int))&&((Go.V.inB i (List.length a))&&q13))
 bif GH then
 some (.inl (-(1:Int)))
 else
 none
 else
 let q7:=(M.jM (M.aj.EG (List.getD a (Int.toNat i) M.aj.zero)) (Go.IntKind.wrap Go.IntKind.i64 (q6+(1:Int))))
 let q8:=(Option.getD q7 default)
 bif (decide (q8<(0:Int))) then
 let q9:=((Go.V.inB i (List.length a))&&((Go.V.inB i (List.length a))&&true))
 let q10:=((Go.V.inB i (List.length a))&&q9)
 let q11:=((Go.V.inB i (List.length a))&&q10)
 let q12:=((Go.V.inB i (List.length a))&&q11)
 let q13:=((Go.V.inB i (List.length a))&&q12)
 let GH:=(((3:Int) !=(0:Int))&&((Go.V.inB i (List.length a))&&q13))
 let GI:=(((3:Int) !=(0:Int))&&((Go.V.inB i (List.length a))&&GH))
 let q16:=(((3:Int) !=(0:Int))&&((Go.V.inB i (List.length a))&&GI))
 let Lu:=((Option.isSome q7)&&((Go.V.inB i (List.length a))&&q16))
 bif Lu then
 some (.inl (-(1:Int)))
 else
 none
 else
 let q9:=(M.jM (M.aj.Set (List.getD a (Int.toNat i) M.aj.zero)) q8)
 let q10:=(Option.getD q9 default)
 bif (decide (q10<(0:Int))) then
 let q11:=((Go.V.inB i (List.length a))&&((Go.V.inB i (List.length a))&&true))
 let q12:=((Go.V.inB i (List.length a))&&q11)
 let q13:=((Go.V.inB i (List.length a))&&q12)
 let GH:=((Go.V.inB i (List.length a))&&q13)
 let GI:=((Go.V.inB i (List.length a))&&GH)
 let q16:=(((3:Int) !=(0:Int))&&((Go.V.inB i (List.length a))&&GI))
 let Lu:=(((3:Int) !=(0:Int))&&((Go.V.inB i (List.length a))&&q16))
 let Ku:=(((3:Int) !=(0:Int))&&((Go.V.inB i (List.length a))&&Lu))
 let Yi:=((Option.isSome q7)&&((Go.V.inB i (List.length a))&&Ku))
 let RI:=((Option.isSome q9)&&((Go.V.inB i (List.length a))&&Yi))
 bif RI then
 some (.inl (-(1:Int)))
 else
 none
 else
 let q11:=((Go.V.inB i (List.length a))&&((Go.V.inB i (List.length a))&&true))
 let q12:=((Go.V.inB i (List.length a))&&q11)
 let q13:=((Go.V.inB i (List.length a))&&q12)
 let GH:=((Go.V.inB i (List.length a))&&q13)
 let GI:=((Go.V.inB i (List.length a))&&GH)
 let q16:=(((3:Int) !=(0:Int))&&((Go.V.inB i (List.length a))&&GI))
 let Lu:=(((3:Int) !=(0:Int))&&((Go.V.inB i (List.length a))&&q16))
 let Ku:=(((3:Int) !=(0:Int))&&((Go.V.inB i (List.length a))&&Lu))
 let Yi:=((Option.isSome q7)&&((Go.V.inB i (List.length a))&&Ku))
 let RI:=((Option.isSome q9)&&((Go.V.inB i (List.length a))&&Yi))
 bif RI then
 M.qG a fuel q10 (Go.IntKind.wrap Go.IntKind.i64 (i+(1:Int)))
 else
 none
 else
 some ((.inr (k)))
def uH (a:(List M.aj)) (k:Int):Option (Int):=
 match (M.qG a Go.V.aF k (0:Int)) with
 |none=>none
 |some y0=>
 (match y0 with
 | .inl a1=>
 some a1
 | .inr b1=>
 some b1)
def qH (a:(List M.aK)):Nat->Int->Int->Option ((Int)⊕(Int))
 |0,_,_=>none
 |fuel+1,k,i=>
 bif (decide (i<((List.length a):Int))) then
 bif ((M.aK.Task (List.getD a (Int.toNat i) M.aK.zero)) !=k) then
 bif ((Go.V.inB i (List.length a))&&true) then
 some (.inl (-(1:Int)))
 else
 none
 else
 bif ((M.aK.Kind (List.getD a (Int.toNat i) M.aK.zero)) !=(Go.IntKind.wrap Go.IntKind.i64 (k+(1:Int)))) then
 let q0:=((Go.V.inB i (List.length a))&&((Go.V.inB i (List.length a))&&true))
 bif q0 then
 some (.inl (-(1:Int)))
 else
 none
 else
 let q0:=(Go.IntKind.wrap Go.IntKind.i64 ((Go.IntKind.wrap Go.IntKind.i64 (k+(1:Int)))+(1:Int)))
 bif ((M.aK.A (List.getD a (Int.toNat i) M.aK.zero)) !=q0) then
 let q1:=((Go.V.inB i (List.length a))&&((Go.V.inB i (List.length a))&&true))
 let q2:=((Go.V.inB i (List.length a))&&q1)
 bif q2 then
 some (.inl (-(1:Int)))
 else
 none
 else
 let q1:=(Go.IntKind.wrap Go.IntKind.i64 (q0+(1:Int)))
 bif ((M.aK.B (List.getD a (Int.toNat i) M.aK.zero)) !=q1) then
 let q2:=((Go.V.inB i (List.length a))&&((Go.V.inB i (List.length a))&&true))
 let q3:=((Go.V.inB i (List.length a))&&q2)
 let q4:=((Go.V.inB i (List.length a))&&q3)
 bif q4 then
 some (.inl (-(1:Int)))
 else
 none
 else
 let q2:=((Go.V.inB i (List.length a))&&((Go.V.inB i (List.length a))&&true))
 let q3:=((Go.V.inB i (List.length a))&&q2)
 let q4:=((Go.V.inB i (List.length a))&&q3)
 bif q4 then
 M.qH a fuel (Go.IntKind.wrap Go.IntKind.i64 (q1+(1:Int))) (Go.IntKind.wrap Go.IntKind.i64 (i+(1:Int)))
 else
 none
 else
 some ((.inr (k)))
def uI (a:(List M.aK)) (k:Int):Option (Int):=
 match (M.qH a Go.V.aF k (0:Int)) with
 |none=>none
 |some y0=>
 (match y0 with
 | .inl a1=>
 some a1
 | .inr b1=>
 some b1)
def uJ (k:Int) (o0:(List M.ak)) (o1:(List M.af)) (o2:(List M.aj)) (o3:(List Int)) (o4:(List M.aK)):Option (Int×(List M.ak)×(List M.af)×(List M.aj)×(List Int)×(List M.aK)):=
 let q0:=(M.oD k o0)
 let q1:=(M.pO (Option.getD q0 default).1 o1)
 let q2:=(Option.getD q1 default)
 let q3:=(M.uF q2.1 o2)
 let q4:=(Option.getD q3 default)
 let q5:=(M.gX q4.1 o3)
 let q6:=(Option.getD q5 default)
 let q7:=(M.uG q6.1 o4)
 bif (((Option.isSome q7)&&true)&&(((Option.isSome q5)&&true)&&(((Option.isSome q3)&&true)&&(((Option.isSome q1)&&true)&&(((Option.isSome q0)&&true)&&true))))) then
 let q8:=(Option.getD q7 default)
 some (q8.1,(Option.getD q0 default).2,q2.2,q4.2,q6.2,q8.2)
 else
 none
def uK (a:M.aX) (k:Int):Option (Int):=
 let q0:=(M.qx (M.aX.qp a) k)
 bif (decide ((Option.getD q0 default)<(0:Int))) then
 bif ((Option.isSome q0)&&true) then
 some (-(1:Int))
 else
 none
 else
 let q1:=(M.mP (M.aX.gW a) (Option.getD q0 default))
 let q2:=(Option.getD q1 default)
 bif (decide (q2<(0:Int))) then
 let q3:=((Option.isSome q1)&&((Option.isSome q0)&&true))
 bif q3 then
 some (-(1:Int))
 else
 none
 else
 let q3:=(M.uH (M.aX.BA a) q2)
 let q4:=(Option.getD q3 default)
 bif (decide (q4<(0:Int))) then
 let q5:=((Option.isSome q1)&&((Option.isSome q0)&&true))
 let q6:=((Option.isSome q3)&&q5)
 bif q6 then
 some (-(1:Int))
 else
 none
 else
 let q5:=(M.jM (M.aX.Back a) q4)
 let q6:=(Option.getD q5 default)
 bif (decide (q6<(0:Int))) then
 let q7:=((Option.isSome q1)&&((Option.isSome q0)&&true))
 let q8:=((Option.isSome q3)&&q7)
 let q9:=((Option.isSome q5)&&q8)
 bif q9 then
 some (-(1:Int))
 else
 none
 else
 let q7:=(M.uI (M.aX.Notes a) q6)
 let q8:=(Option.getD q7 default)
 bif (decide (q8<(0:Int))) then
 let q9:=((Option.isSome q1)&&((Option.isSome q0)&&true))
 let q10:=((Option.isSome q3)&&q9)
 let q11:=((Option.isSome q5)&&q10)
 let q12:=((Option.isSome q7)&&q11)
 bif q12 then
 some (-(1:Int))
 else
 none
 else
 let q9:=((Option.isSome q1)&&((Option.isSome q0)&&true))
 let q10:=((Option.isSome q3)&&q9)
 let q11:=((Option.isSome q5)&&q10)
 let q12:=((Option.isSome q7)&&q11)
 bif q12 then
 some q8
 else
 none
def jw (ael:(List M.ak)) (aem:(List Int)):Option (Bool):=
 bif (decide ((1048576:Int)<((List.length aem):Int))) then
 some true
 else
 let q0:=(M.A8 ael (1048576:Int))
 bif (decide ((Option.getD q0 default)<(0:Int))) then
 bif ((Option.isSome q0)&&true) then
 some true
 else
 none
 else
 let q1:=(M.Ba ael)
 let q2:=(M.xM aem)
 let q3:=(M.xw (Option.getD q1 default) (Option.getD q2 default))
 let q4:=default
 let q5:=(Option.getD q3 q4)
 let q6:=q5.2
 let q7:=q6.1
 let q8:=q6.2
 let q9:=q8.1
 let q10:=q8.2
 let q11:=q10.1
 let q12:=q10.2
 let q13:=q12.1
 let GH:=q12.2
 let GI:=(M.xu (Option.getD q1 default) (Option.getD q2 default))
 let q16:=(Option.getD GI default)
 let Lu:=(M.Be (M.aX.mk q7 q9 q11 q13 GH) q16.1)
 let Ku:=(!(Option.getD Lu default))
 let Yi:=(q5.1 !=q16.2)
 let RI:=(Ku||Yi)
 bif RI then
 let VW:=(Option.isSome Lu)
 let q22:=(Option.isSome q3)
 let q23:=(VW&&(q22&&((Option.isSome q2)&&((Option.isSome q1)&&((Option.isSome GI)&&((Option.isSome q2)&&((Option.isSome q1)&&((Option.isSome q0)&&true))))))))
 bif q23 then
 some false
 else
 none
 else
 let VW:=(M.uP (Option.getD q1 default) (Option.getD q1 default))
 bif (!(Option.getD VW default)) then
 let q22:=(Option.isSome Lu)
 let q23:=(Option.isSome q3)
 let q24:=(q22&&(q23&&((Option.isSome q2)&&((Option.isSome q1)&&((Option.isSome GI)&&((Option.isSome q2)&&((Option.isSome q1)&&((Option.isSome q0)&&true))))))))
 let QJ:=((Option.isSome VW)&&((Option.isSome q1)&&q24))
 bif QJ then
 some false
 else
 none
 else
 let q22:=(M.kW (Option.getD q2 default) (Option.getD q2 default))
 bif (!(Option.getD q22 default)) then
 let q23:=(Option.isSome Lu)
 let q24:=(Option.isSome q3)
 let QJ:=(q23&&(q24&&((Option.isSome q2)&&((Option.isSome q1)&&((Option.isSome GI)&&((Option.isSome q2)&&((Option.isSome q1)&&((Option.isSome q0)&&true))))))))
 let q26:=((Option.isSome VW)&&((Option.isSome q1)&&QJ))
 let q27:=((Option.isSome q22)&&((Option.isSome q2)&&q26))
 bif q27 then
 some false
 else
 none
 else
 let q23:=(M.oD (1:Int) (Option.getD q1 default))
 let q24:=(M.gX (Option.getD q23 default).1 (Option.getD q2 default))
 bif (((decide ((Option.getD q24 default).1<(0:Int)))||Ku)||Yi) then
 let QJ:=(Option.isSome Lu)
 let q26:=(Option.isSome q3)
 let q27:=(QJ&&(q26&&((Option.isSome q2)&&((Option.isSome q1)&&((Option.isSome GI)&&((Option.isSome q2)&&((Option.isSome q1)&&((Option.isSome q0)&&true))))))))
 let UW:=((Option.isSome VW)&&((Option.isSome q1)&&q27))
 let q29:=((Option.isSome q22)&&((Option.isSome q2)&&UW))
 let q30:=((QJ||(!((decide ((Option.getD q24 default).1<(0:Int)))==false)))&&((Option.isSome q24)&&((Option.isSome q23)&&q29)))
 bif q30 then
 some false
 else
 none
 else
 let QJ:=(M.uJ (1:Int) q7 q9 q11 q13 GH)
 let q26:=(Option.getD QJ q4)
 let q27:=q26.2
 let UW:=q27.2
 let q29:=UW.2
 let q30:=q29.2
 let q31:=(M.uK (M.aX.mk q27.1 UW.1 q29.1 q30.1 q30.2) (1:Int))
 let q32:=(Option.getD q31 default)
 bif (decide (q32<(0:Int))) then
 let q33:=(Option.isSome q31)
 let q34:=(Option.isSome Lu)
 let q35:=(Option.isSome q3)
 let q36:=(q34&&(q35&&((Option.isSome q2)&&((Option.isSome q1)&&((Option.isSome GI)&&((Option.isSome q2)&&((Option.isSome q1)&&((Option.isSome q0)&&true))))))))
 let q37:=((Option.isSome VW)&&((Option.isSome q1)&&q36))
 let q38:=((Option.isSome q22)&&((Option.isSome q2)&&q37))
 let q39:=((q34||(!((decide ((Option.getD q24 default).1<(0:Int)))==false)))&&((Option.isSome q24)&&((Option.isSome q23)&&q38)))
 let q40:=(q33&&((Option.isSome QJ)&&q39))
 bif q40 then
 some false
 else
 none
 else
 let q33:=(q32 !=q26.1)
 bif q33 then
 let q34:=(Option.isSome q31)
 let q35:=(Option.isSome Lu)
 let q36:=(Option.isSome q3)
 let q37:=(q35&&(q36&&((Option.isSome q2)&&((Option.isSome q1)&&((Option.isSome GI)&&((Option.isSome q2)&&((Option.isSome q1)&&((Option.isSome q0)&&true))))))))
 let q38:=((Option.isSome VW)&&((Option.isSome q1)&&q37))
 let q39:=((Option.isSome q22)&&((Option.isSome q2)&&q38))
 let q40:=((q35||(!((decide ((Option.getD q24 default).1<(0:Int)))==false)))&&((Option.isSome q24)&&((Option.isSome q23)&&q39)))
 let q41:=(q34&&((Option.isSome QJ)&&q40))
 bif q41 then
 some false
 else
 none
 else
 bif RI then
 let q34:=(Option.isSome Lu)
 let q35:=(Option.isSome q3)
 let q36:=(Option.isSome q31)
 let q37:=(q34&&(q35&&((Option.isSome q2)&&((Option.isSome q1)&&((Option.isSome GI)&&((Option.isSome q2)&&((Option.isSome q1)&&((Option.isSome q0)&&true))))))))
 let q38:=((Option.isSome VW)&&((Option.isSome q1)&&q37))
 let q39:=((Option.isSome q22)&&((Option.isSome q2)&&q38))
 let q40:=((q34||(!((decide ((Option.getD q24 default).1<(0:Int)))==false)))&&((Option.isSome q24)&&((Option.isSome q23)&&q39)))
 let q41:=(q36&&((Option.isSome QJ)&&q40))
 let q42:=(q34&&(q35&&((Option.isSome q2)&&((Option.isSome q1)&&q41))))
 bif q42 then
 some false
 else
 none
 else
 bif (decide (q32<(0:Int))) then
 let q34:=(Option.isSome q31)
 let q35:=(Option.isSome Lu)
 let q36:=(Option.isSome q3)
 let q37:=(q35&&(q36&&((Option.isSome q2)&&((Option.isSome q1)&&((Option.isSome GI)&&((Option.isSome q2)&&((Option.isSome q1)&&((Option.isSome q0)&&true))))))))
 let q38:=((Option.isSome VW)&&((Option.isSome q1)&&q37))
 let q39:=((Option.isSome q22)&&((Option.isSome q2)&&q38))
 let q40:=((q35||(!((decide ((Option.getD q24 default).1<(0:Int)))==false)))&&((Option.isSome q24)&&((Option.isSome q23)&&q39)))
 let q41:=(q34&&((Option.isSome QJ)&&q40))
 let q42:=(q35&&(q36&&((Option.isSome q2)&&((Option.isSome q1)&&q41))))
 let q43:=(q34&&q42)
 bif q43 then
 some false
 else
 none
 else
 bif q33 then
 let q34:=(Option.isSome q31)
 let q35:=(Option.isSome Lu)
 let q36:=(Option.isSome q3)
 let q37:=(q35&&(q36&&((Option.isSome q2)&&((Option.isSome q1)&&((Option.isSome GI)&&((Option.isSome q2)&&((Option.isSome q1)&&((Option.isSome q0)&&true))))))))
 let q38:=((Option.isSome VW)&&((Option.isSome q1)&&q37))
 let q39:=((Option.isSome q22)&&((Option.isSome q2)&&q38))
 let q40:=((q35||(!((decide ((Option.getD q24 default).1<(0:Int)))==false)))&&((Option.isSome q24)&&((Option.isSome q23)&&q39)))
 let q41:=(q34&&((Option.isSome QJ)&&q40))
 let q42:=(q35&&(q36&&((Option.isSome q2)&&((Option.isSome q1)&&q41))))
 let q43:=(q34&&q42)
 bif q43 then
 some false
 else
 none
 else
 let q34:=(Option.isSome q31)
 let q35:=(Option.isSome Lu)
 let q36:=(Option.isSome q3)
 let q37:=(q35&&(q36&&((Option.isSome q2)&&((Option.isSome q1)&&((Option.isSome GI)&&((Option.isSome q2)&&((Option.isSome q1)&&((Option.isSome q0)&&true))))))))
 let q38:=((Option.isSome VW)&&((Option.isSome q1)&&q37))
 let q39:=((Option.isSome q22)&&((Option.isSome q2)&&q38))
 let q40:=((q35||(!((decide ((Option.getD q24 default).1<(0:Int)))==false)))&&((Option.isSome q24)&&((Option.isSome q23)&&q39)))
 let q41:=(q34&&((Option.isSome QJ)&&q40))
 let q42:=(q35&&(q36&&((Option.isSome q2)&&((Option.isSome q1)&&q41))))
 let q43:=(q34&&q42)
 bif q43 then
 some true
 else
 none
end M
