/-
  THE PARSER, its lists plain: what the texts on the grammar speak of.
-/
import Derived.Test.YtfeedngnaochdaaGreatDoorXZ2M
set_option linter.unusedVariables false
set_option maxRecDepth 100000
namespace M
noncomputable def l8(aN:Int->M.ad->Option (M.aa×M.ad))(t0:Int)(t02:(List UInt8))(t2:Int)(o3:(List (List UInt8)))(o4:(List M.aa))(o5:(List M.ae))(pL:Int)(pM:Bool):Option (Int×(List UInt8)×Int×(List M.ae)×Int×Bool×(List (List UInt8))×(List M.aa)):=
 let q0:=[(M.aa.mk (0:Int) [] [] [])]
 let q1:=(o4++q0)
 bif((Go.V.inB ((List.length o4):Int) (List.length q1))&&((decide (((List.length o4)+(List.length q0))<=1073741824))&&((Option.isSome (aN (Go.IntKind.wrap Go.IntKind.i64 (t2+(1:Int))) (M.ad.mk o5 pL pM)))&&true)))then
  let q2:=(Option.getD (aN (Go.IntKind.wrap Go.IntKind.i64 (t2+(1:Int))) (M.ad.mk o5 pL pM)) Inhabited.default)
  let q3:=q2.2
  some (t0,t02,t2,(M.ad.list q3),(M.ad.at_ q3),(M.ad.bad q3),o3,(List.set q1 (Int.toNat ((List.length o4):Int)) (M.aa.re q2.1)))
 else
  none
end M
namespace M
noncomputable def nU(aN:Int->M.ad->Option (M.aa×M.ad))(most:Int):Nat->Int->M.ad->Int->(List UInt8)->Int->(List (List UInt8))->(List M.aa)->Option (((List M.ae)×Int×Bool×Int×(List UInt8)×Int×(List (List UInt8))×(List M.aa))⊕((List M.ae)×Int×Bool×Int×(List UInt8)×Int×(List (List UInt8))×(List M.aa)))
 |0,_,_,_,_,_,_,_=>none
 |fuel+1,k,p,o1,fm,o3,o6,o7=>
  bif(!(M.ad.bad p))then
   let q0:=(M.l8 aN o1 fm o3 o6 o7 (M.ad.list p) (M.ad.at_ p) (M.ad.bad p))
   let q1:=(Option.getD q0 Inhabited.default)
   let q2:=q1.2
   let q3:=q2.2
   let q4:=q3.2
   let q5:=q4.2
   let q6:=q5.2
   let q7:=q6.1
   let q8:=(q7||(k==most))
   bif q8 then
    let q9:=(q8==true)
    let q10:=((Option.isSome q0)&&true)
    bif(q9&&(q9&&(q9&&(q9&&q10))))then
     let q11:=q4.1
     let q12:=q5.1
     let q13:=q1.1
     let al:=q2.1
     let av:=q3.1
     let q16:=q6.2
     let aE:=q16.1
     let aD:=q16.2
     some (.inl (q11,q12,q7,q13,al,av,aE,aD))
    else
     none
   else
    let q9:=q4.1
    let q10:=q5.1
    let q11:=(M.cJ [(44:UInt8)] (M.ad.mk q9 q10 q7))
    let q12:=(Option.getD q11 Inhabited.default)
    bif(!q12.1)then
     let q13:=(q8==false)
     let al:=((Option.isSome q0)&&true)
     let av:=(q13&&(q13&&(((Option.isSome q11)&&q13)&&(q13&&al))))
     bif av then
      let q16:=q12.2
      let aE:=q1.1
      let aD:=q2.1
      let aM:=q3.1
      let aT:=q6.2
      let ba:=aT.1
      let q22:=aT.2
      some (.inl ((M.ad.list q16),(M.ad.at_ q16),(M.ad.bad q16),aE,aD,aM,ba,q22))
     else
      none
    else
     let q13:=(q8==false)
     let al:=((Option.isSome q0)&&true)
     let av:=(q13&&(q13&&(((Option.isSome q11)&&q13)&&(q13&&al))))
     bif av then
      let q16:=q12.2
      let aE:=q1.1
      let aD:=q2.1
      let aM:=q3.1
      let aT:=q6.2
      let ba:=aT.1
      let q22:=aT.2
      M.nU aN most fuel (Go.IntKind.wrap Go.IntKind.i64 (k+(1:Int))) q16 aE aD aM ba q22
     else
      none
  else
   some ((.inr (((M.ad.list p),(M.ad.at_ p),(M.ad.bad p),o1,fm,o3,o6,o7))))
end M
namespace M
noncomputable def uf(aN:Int->M.ad->Option (M.aa×M.ad))(most:Int)(p:M.ad)(o1:Int)(fm:(List UInt8))(o3:Int)(o4:(List (List UInt8)))(o5:(List M.aa)):Option (M.ad×Int×(List UInt8)×Int×(List (List UInt8))×(List M.aa)):=
 match(M.nU aN most Go.V.ai (1:Int) p o1 fm o3 o4 o5)with
 |none=>none
 |some y0=>
  (match y0 with
  |.inl a1=>
    let q2:=a1.2
    let q3:=q2.2
    let q4:=q3.2
    let q5:=q4.2
    let q6:=q5.2
    let q7:=q6.2
    some ((M.ad.mk a1.1 q2.1 q3.1),q4.1,q5.1,q6.1,q7.1,q7.2)
  |.inr b1=>
    let q2:=b1.2
    let q3:=q2.2
    let q4:=q3.2
    let q5:=q4.2
    let q6:=q5.2
    let q7:=q6.2
    some ((M.ad.mk b1.1 q2.1 q3.1),q4.1,q5.1,q6.1,q7.1,q7.2))
end M
namespace M
noncomputable def kh(t:Int)(t2:(List UInt8))(o3:(List (List UInt8))):Nat->(List M.aa)->Option (Int×(List UInt8)×(List (List UInt8))×(List M.aa))
 |0,_=>none
 |fuel+1,o4=>
  bif(decide (((List.length o4):Int)<(2:Int)))then
   let q0:=[(M.aa.mk (0:Int) [] [] [])]
   let q1:=(o4++q0)
   bif((Go.V.inB ((List.length o4):Int) (List.length q1))&&((decide (((List.length o4)+(List.length q0))<=1073741824))&&true))then
    M.kh t t2 o3 fuel (List.set q1 (Int.toNat ((List.length o4):Int)) (M.aa.mk (1:Int) [] [] []))
   else
    none
  else
   some ((t,t2,o3,o4))
end M
namespace M
noncomputable def wA(aN:Int->M.ad->Option (M.aa×M.ad))(p:M.ad)(t:Int)(t2:(List UInt8))(o3:Int)(o4:(List (List UInt8)))(o5:(List M.aa)):Option (M.ad×Int×(List UInt8)×Int×(List (List UInt8))×(List M.aa)):=
 let q0:=(M.cJ [(60:UInt8)] p)
 let q1:=(Option.getD q0 Inhabited.default)
 bif q1.1 then
  let q2:=q1.2
  let q3:=(M.cJ [(95:UInt8)] q2)
  let q4:=(Option.getD q3 Inhabited.default)
  bif q4.1 then
   let q5:=q4.2
   let q6:=(M.cJ [(44:UInt8)] q5)
   let q7:=(Option.getD q6 Inhabited.default)
   bif q7.1 then
    let q8:=[(M.aa.mk (0:Int) [] [] [])]
    let q9:=(o5++q8)
    let q10:=(List.set q9 (Int.toNat ((List.length o5):Int)) (M.aa.mk (1:Int) [] [] []))
    let q11:=q7.2
    let q12:=(M.l8 aN t t2 o3 o4 q10 (M.ad.list q11) (M.ad.at_ q11) (M.ad.bad q11))
    let q13:=Inhabited.default
    let al:=(Option.getD q12 q13)
    let av:=al.2
    let q16:=av.2
    let aE:=q16.2
    let aD:=aE.2
    let aM:=aD.2
    let aT:=aM.2
    match(M.kh al.1 av.1 aT.1 Go.V.ai aT.2)with
    |none=>none
    |some y21=>
     let q22:=(M.bF [(62:UInt8)] (M.ad.mk aE.1 aD.1 aM.1))
     let q23:=((Option.isSome q0)&&true)
     let q24:=((Option.isSome q3)&&q23)
     let cf:=((Option.isSome q6)&&((Go.V.inB ((List.length o5):Int) (List.length q9))&&((decide (((List.length o5)+(List.length q8))<=1073741824))&&q24)))
     bif((Option.isSome q22)&&((Option.isSome q12)&&cf))then
      let cu:=y21.2.2
      some ((Option.getD q22 Inhabited.default),y21.1,y21.2.1,q16.1,cu.1,cu.2)
     else
      none
   else
    let q8:=[(M.aa.mk (0:Int) [] [] [])]
    let q9:=(o5++q8)
    let q10:=(List.set q9 (Int.toNat ((List.length o5):Int)) (M.aa.mk (1:Int) [] [] []))
    match(M.kh t t2 o4 Go.V.ai q10)with
    |none=>none
    |some mV=>
     let q12:=q7.2
     let q13:=(M.bF [(62:UInt8)] q12)
     let al:=((Option.isSome q0)&&true)
     let av:=((Option.isSome q3)&&al)
     let q16:=((Option.isSome q6)&&((Go.V.inB ((List.length o5):Int) (List.length q9))&&((decide (((List.length o5)+(List.length q8))<=1073741824))&&av)))
     bif((Option.isSome q13)&&q16)then
      let aE:=mV.2.2
      some ((Option.getD q13 Inhabited.default),mV.1,mV.2.1,o3,aE.1,aE.2)
     else
      none
  else
   let q5:=q4.2
   let q6:=(M.l8 aN t t2 o3 o4 o5 (M.ad.list q5) (M.ad.at_ q5) (M.ad.bad q5))
   let q7:=Inhabited.default
   let q8:=(Option.getD q6 q7)
   let q9:=q8.2
   let q10:=q9.2
   let q11:=q10.2
   let q12:=q11.2
   let q13:=q12.2
   let al:=(M.cJ [(44:UInt8)] (M.ad.mk q11.1 q12.1 q13.1))
   let av:=(Option.getD al Inhabited.default)
   bif av.1 then
    let q16:=q8.1
    let aE:=q9.1
    let aD:=q10.1
    let aM:=q13.2
    let aT:=aM.1
    let ba:=aM.2
    let q22:=av.2
    let q23:=(M.l8 aN q16 aE aD aT ba (M.ad.list q22) (M.ad.at_ q22) (M.ad.bad q22))
    let q24:=(Option.getD q23 q7)
    let cf:=q24.2
    let cu:=cf.2
    let cQ:=cu.2
    let cG:=cQ.2
    let dz:=cG.2
    let q30:=dz.2
    match(M.kh q24.1 cf.1 q30.1 Go.V.ai q30.2)with
    |none=>none
    |some y31=>
     let q32:=(M.bF [(62:UInt8)] (M.ad.mk cQ.1 cG.1 dz.1))
     let eV:=((Option.isSome q0)&&true)
     let d6:=((Option.isSome q3)&&eV)
     let q35:=((Option.isSome al)&&((Option.isSome q6)&&d6))
     bif((Option.isSome q32)&&((Option.isSome q23)&&q35))then
      let fq:=y31.2.2
      some ((Option.getD q32 Inhabited.default),y31.1,y31.2.1,cu.1,fq.1,fq.2)
     else
      none
   else
    let q16:=q8.1
    let aE:=q9.1
    let aD:=q13.2
    let aM:=aD.1
    let aT:=aD.2
    match(M.kh q16 aE aM Go.V.ai aT)with
    |none=>none
    |some y21=>
     let q22:=av.2
     let q23:=(M.bF [(62:UInt8)] q22)
     let q24:=((Option.isSome q0)&&true)
     let cf:=((Option.isSome q3)&&q24)
     let cu:=((Option.isSome al)&&((Option.isSome q6)&&cf))
     bif((Option.isSome q23)&&cu)then
      let cQ:=q10.1
      let cG:=y21.2.2
      some ((Option.getD q23 Inhabited.default),y21.1,y21.2.1,cQ,cG.1,cG.2)
     else
      none
 else
  match(M.kh t t2 o4 Go.V.ai o5)with
  |none=>none
  |some y2=>
   let q3:=((Option.isSome q0)&&true)
   bif q3 then
    let q4:=q1.2
    let q5:=y2.2.2
    some (q4,y2.1,y2.2.1,o3,q5.1,q5.2)
   else
    none
end M
namespace M
noncomputable def ug(aN:Int->M.ad->Option (M.aa×M.ad))(p:M.ad)(t:Int)(t2:(List UInt8))(o3:Int)(o4:(List (List UInt8)))(o5:(List M.aa)):Option (M.ad×Int×(List UInt8)×Int×(List (List UInt8))×(List M.aa)):=
 bif(t==(16:Int))then
  let q0:=(M.ek p)
  let q1:=[(Option.getD q0 Inhabited.default).1]
  let q2:=(o4++q1)
  let q3:=(Option.getD q0 Inhabited.default).2
  let q4:=(M.bF [(58:UInt8)] q3)
  let q5:=(Option.getD q4 Inhabited.default)
  let q6:=(M.l8 aN t t2 o3 q2 o5 (M.ad.list q5) (M.ad.at_ q5) (M.ad.bad q5))
  let q7:=((decide (((List.length o4)+(List.length q1))<=1073741824))&&((Option.isSome q0)&&true))
  bif((Option.isSome q6)&&((Option.isSome q4)&&q7))then
   let q8:=Inhabited.default
   let q9:=(Option.getD q6 q8)
   let q10:=q9.2
   let q11:=q10.2
   let q12:=q11.2
   let q13:=q12.2
   let al:=q13.2
   let av:=al.2
   some ((M.ad.mk q12.1 q13.1 al.1),q9.1,q10.1,q11.1,av.1,av.2)
  else
   none
 else
  bif(t==(17:Int))then
   let q0:=(M.ek p)
   let q1:=(Option.getD q0 Inhabited.default).2
   let q2:=(M.cJ [(40:UInt8)] q1)
   let q3:=(Option.getD q2 Inhabited.default)
   bif q3.1 then
    let q4:=[(Option.getD q0 Inhabited.default).1]
    let q5:=(o4++q4)
    let q6:=q3.2
    let q7:=(M.l8 aN t t2 o3 q5 o5 (M.ad.list q6) (M.ad.at_ q6) (M.ad.bad q6))
    let q8:=Inhabited.default
    let q9:=(Option.getD q7 q8)
    let q10:=q9.2
    let q11:=q10.2
    let q12:=q11.2
    let q13:=q12.2
    let al:=q13.2
    let av:=(M.bF [(41:UInt8)] (M.ad.mk q12.1 q13.1 al.1))
    let q16:=((decide (((List.length o4)+(List.length q4))<=1073741824))&&((Option.isSome q0)&&true))
    let aE:=(((t==(17:Int))==true)&&(((Option.isSome q2)&&((t==(17:Int))==true))&&(((t==(17:Int))==true)&&q16)))
    bif((Option.isSome av)&&((Option.isSome q7)&&aE))then
     let aD:=al.2
     some ((Option.getD av Inhabited.default),q9.1,q10.1,q11.1,aD.1,aD.2)
    else
     none
   else
    bif(t==(17:Int))then
     let q4:=[(M.aa.mk (0:Int) [] [] [])]
     let q5:=(o5++q4)
     let q6:=(Go.V.inB ((List.length o5):Int) (List.length q5))
     let q7:=[(Option.getD q0 Inhabited.default).1]
     let q8:=((decide (((List.length o4)+(List.length q7))<=1073741824))&&((Option.isSome q0)&&true))
     let q9:=(((t==(17:Int))==true)&&(((Option.isSome q2)&&((t==(17:Int))==true))&&(((t==(17:Int))==true)&&q8)))
     bif(q6&&((decide (((List.length o5)+(List.length q4))<=1073741824))&&q9))then
      let q10:=q3.2
      let q11:=(o4++q7)
      let q12:=(List.set q5 (Int.toNat ((List.length o5):Int)) (M.aa.mk (1:Int) [] [] []))
      some (q10,t,t2,o3,q11,q12)
     else
      none
    else
     let q4:=[(Option.getD q0 Inhabited.default).1]
     let q5:=((decide (((List.length o4)+(List.length q4))<=1073741824))&&((Option.isSome q0)&&true))
     let q6:=(((t==(17:Int))==true)&&(((Option.isSome q2)&&((t==(17:Int))==true))&&(((t==(17:Int))==true)&&q5)))
     bif q6 then
      let q7:=q3.2
      let q8:=(o4++q4)
      some (q7,t,t2,o3,q8,o5)
     else
      none
  else
   bif(t==(17:Int))then
    let q0:=[(M.aa.mk (0:Int) [] [] [])]
    let q1:=(o5++q0)
    let q2:=(Go.V.inB ((List.length o5):Int) (List.length q1))
    let q3:=(M.ek p)
    let q4:=[(Option.getD q3 Inhabited.default).1]
    let q5:=((decide (((List.length o4)+(List.length q4))<=1073741824))&&((Option.isSome q3)&&true))
    let q6:=(((t==(17:Int))==false)&&(((t==(17:Int))==false)&&(((t==(17:Int))==false)&&q5)))
    bif(q2&&((decide (((List.length o5)+(List.length q0))<=1073741824))&&q6))then
     let q7:=(Option.getD q3 Inhabited.default).2
     let q8:=(o4++q4)
     let q9:=(List.set q1 (Int.toNat ((List.length o5):Int)) (M.aa.mk (1:Int) [] [] []))
     some (q7,t,t2,o3,q8,q9)
    else
     none
   else
    let q0:=(M.ek p)
    let q1:=[(Option.getD q0 Inhabited.default).1]
    let q2:=((decide (((List.length o4)+(List.length q1))<=1073741824))&&((Option.isSome q0)&&true))
    let q3:=(((t==(17:Int))==false)&&(((t==(17:Int))==false)&&(((t==(17:Int))==false)&&q2)))
    bif q3 then
     let q4:=(Option.getD q0 Inhabited.default).2
     let q5:=(o4++q1)
     some (q4,t,t2,o3,q5,o5)
    else
     none
end M
namespace M
noncomputable def zA(aN:Int->M.ad->Option (M.aa×M.ad))(t1:Int)(t12:(List UInt8))(o3:(List M.ae))(o32:Int)(uh:Bool)(o4:(List (List UInt8)))(o5:(List M.aa))(o6:Int):Option (Int×(List UInt8)×(List M.ae)×Int×Bool×Int×(List (List UInt8))×(List M.aa)):=
 let q0:=(M.ug aN (M.ad.mk o3 o32 uh) t1 t12 o6 o4 o5)
 bif((Option.isSome q0)&&true)then
  let q1:=(Option.getD q0 Inhabited.default)
  let q2:=q1.2
  let q3:=q2.2
  let q4:=q1.1
  let q5:=q3.2
  let q6:=q5.2
  some (q2.1,q3.1,(M.ad.list q4),(M.ad.at_ q4),(M.ad.bad q4),q5.1,q6.1,q6.2)
 else
  none
end M
namespace M
noncomputable def nV(aN:Int->M.ad->Option (M.aa×M.ad))(most:Int):Nat->Int->M.ad->Int->(List UInt8)->Int->(List (List UInt8))->(List M.aa)->Option (((List M.ae)×Int×Bool×Int×(List UInt8)×Int×(List (List UInt8))×(List M.aa))⊕((List M.ae)×Int×Bool×Int×(List UInt8)×Int×(List (List UInt8))×(List M.aa)))
 |0,_,_,_,_,_,_,_=>none
 |fuel+1,k,p,o2,cn,o6,o7,o8=>
  bif(!(M.ad.bad p))then
   let q0:=(M.zA aN o2 cn (M.ad.list p) (M.ad.at_ p) (M.ad.bad p) o7 o8 o6)
   let q1:=(Option.getD q0 Inhabited.default)
   let q2:=q1.2
   let q3:=q2.2
   let q4:=q3.2
   let q5:=q4.2
   let q6:=q5.1
   let q7:=(q6||(k==most))
   bif q7 then
    let q8:=(q7==true)
    let q9:=((Option.isSome q0)&&true)
    bif(q8&&(q8&&(q8&&(q8&&q9))))then
     let q10:=q3.1
     let q11:=q4.1
     let q12:=q1.1
     let q13:=q2.1
     let al:=q5.2
     let av:=al.1
     let q16:=al.2
     let aE:=q16.1
     let aD:=q16.2
     some (.inl (q10,q11,q6,q12,q13,av,aE,aD))
    else
     none
   else
    let q8:=q3.1
    let q9:=q4.1
    let q10:=(M.cJ [(44:UInt8)] (M.ad.mk q8 q9 q6))
    let q11:=(Option.getD q10 Inhabited.default)
    bif(!q11.1)then
     let q12:=(q7==false)
     let q13:=((Option.isSome q0)&&true)
     let al:=(q12&&(q12&&(((Option.isSome q10)&&q12)&&(q12&&q13))))
     bif al then
      let av:=q11.2
      let q16:=q1.1
      let aE:=q2.1
      let aD:=q5.2
      let aM:=aD.1
      let aT:=aD.2
      let ba:=aT.1
      let q22:=aT.2
      some (.inl ((M.ad.list av),(M.ad.at_ av),(M.ad.bad av),q16,aE,aM,ba,q22))
     else
      none
    else
     let q12:=(q7==false)
     let q13:=((Option.isSome q0)&&true)
     let al:=(q12&&(q12&&(((Option.isSome q10)&&q12)&&(q12&&q13))))
     bif al then
      let av:=q11.2
      let q16:=q1.1
      let aE:=q2.1
      let aD:=q5.2
      let aM:=aD.1
      let aT:=aD.2
      let ba:=aT.1
      let q22:=aT.2
      M.nV aN most fuel (Go.IntKind.wrap Go.IntKind.i64 (k+(1:Int))) av q16 aE aM ba q22
     else
      none
  else
   some ((.inr (((M.ad.list p),(M.ad.at_ p),(M.ad.bad p),o2,cn,o6,o7,o8))))
end M
namespace M
noncomputable def ui(aN:Int->M.ad->Option (M.aa×M.ad))(most:Int)(p:M.ad)(o2:Int)(cn:(List UInt8))(o4:(List (List UInt8)))(o5:(List M.aa))(o6:Int):Option (M.ad×Int×(List UInt8)×Int×(List (List UInt8))×(List M.aa)):=
 match(M.nV aN most Go.V.ai (1:Int) p o2 cn o6 o4 o5)with
 |none=>none
 |some y0=>
  (match y0 with
  |.inl a1=>
    let q2:=a1.2
    let q3:=q2.2
    let q4:=q3.2
    let q5:=q4.2
    let q6:=q5.2
    let q7:=q6.2
    some ((M.ad.mk a1.1 q2.1 q3.1),q4.1,q5.1,q6.1,q7.1,q7.2)
  |.inr b1=>
    let q2:=b1.2
    let q3:=q2.2
    let q4:=q3.2
    let q5:=q4.2
    let q6:=q5.2
    let q7:=q6.2
    some ((M.ad.mk b1.1 q2.1 q3.1),q4.1,q5.1,q6.1,q7.1,q7.2))
end M
namespace M
noncomputable def mW(aN:Int->M.ad->Option (M.aa×M.ad))(level:Int)(p:M.ad):Option (M.aa×M.ad):=
 bif(decide ((4:Int)<level))then
  some ((M.aa.mk (30:Int) [] [] []),(M.ad.mk (M.ad.list p) (M.ad.at_ p) true))
 else
  let q0:=(M.ek p)
  let q1:=(Option.getD q0 Inhabited.default).1
  let q2:=(M.mX q1)
  bif(!(Option.getD q2 Inhabited.default))then
   let q3:=((Option.isSome q2)&&((Option.isSome q0)&&true))
   bif q3 then
    let q4:=(Option.getD q0 Inhabited.default).2
    some ((M.aa.mk (30:Int) q1 [] []),q4)
   else
    none
  else
   let q3:=(M.pO (Option.getD M.gj Inhabited.default) q1)
   let q4:=(Option.getD q3 Inhabited.default)
   let q5:=(q4==(12:Int))
   let q6:=(q4==(13:Int))
   let q7:=(q4==(22:Int))
   bif(bif q5 then q5 else(bif q6 then q6 else(bif q7 then q7 else(q4==(23:Int)))))then
    let q8:=(Option.getD q0 Inhabited.default).2
    let q9:=(M.bF [(60:UInt8)] q8)
    let q10:=(Option.getD q9 Inhabited.default)
    let q11:=(M.l8 aN q4 [] level [] [] (M.ad.list q10) (M.ad.at_ q10) (M.ad.bad q10))
    let q12:=(Option.getD q11 Inhabited.default)
    let q13:=q12.2
    let al:=q13.2.2
    let av:=al.2
    let q16:=av.2
    let aE:=(M.bF [(62:UInt8)] (M.ad.mk al.1 av.1 q16.1))
    let aD:=(Option.isSome q9)
    let aM:=((Option.isSome q2)&&((Option.isSome q0)&&true))
    let aT:=((Option.isSome q3)&&((Option.isSome M.gj)&&aM))
    let ba:=((aT||(!q5))&&(((aT||(!q6))&&(((aT||(!q7))&&(aT||q7))||q6))||q5))
    let q22:=(aD&&ba)
    bif((Option.isSome aE)&&((Option.isSome q11)&&q22))then
     let q23:=q16.2
     some ((M.aa.mk q12.1 q13.1 q23.1 q23.2),(Option.getD aE Inhabited.default))
    else
     none
   else
    bif(q4==(15:Int))then
     let q8:=(Option.getD q0 Inhabited.default).2
     let q9:=(M.bF [(60:UInt8)] q8)
     let q10:=(Option.getD q9 Inhabited.default)
     let q11:=(M.uf aN (6:Int) q10 q4 [] level [] [])
     let q12:=Inhabited.default
     let q13:=(Option.getD q11 q12)
     let al:=(M.bF [(62:UInt8)] q13.1)
     let av:=(Option.isSome q9)
     let q16:=((Option.isSome q2)&&((Option.isSome q0)&&true))
     let aE:=((Option.isSome q3)&&((Option.isSome M.gj)&&q16))
     let aD:=((aE||(!q5))&&(((aE||(!q6))&&(((aE||(!q7))&&(aE||q7))||q6))||q5))
     let aM:=(av&&aD)
     bif((Option.isSome al)&&((Option.isSome q11)&&aM))then
      let aT:=q13.2
      let ba:=aT.2
      let q22:=ba.2.2
      some ((M.aa.mk aT.1 ba.1 q22.1 q22.2),(Option.getD al Inhabited.default))
     else
      none
    else
     let q8:=(q4==(20:Int))
     bif(bif q8 then q8 else(q4==(21:Int)))then
      let q9:=(Option.getD q0 Inhabited.default).2
      let q10:=(M.bF [(60:UInt8)] q9)
      let q11:=(Option.getD q10 Inhabited.default)
      let q12:=(M.ja q11)
      let q13:=(Option.getD q12 Inhabited.default)
      let al:=(M.bF [(62:UInt8)] q13.2)
      let av:=(Option.isSome q10)
      let q16:=((Option.isSome q2)&&((Option.isSome q0)&&true))
      let aE:=((Option.isSome q3)&&((Option.isSome M.gj)&&q16))
      let aD:=((aE||(!q5))&&(((aE||(!q6))&&(((aE||(!q7))&&(aE||q7))||q6))||q5))
      let aM:=((aD||(!q8))&&(aD||q8))
      bif((Option.isSome al)&&((Option.isSome q12)&&(av&&aM)))then
       some ((M.aa.mk q4 q13.1 [] []),(Option.getD al Inhabited.default))
      else
       none
     else
      bif(q4==(14:Int))then
       let q9:=(Option.getD q0 Inhabited.default).2
       let q10:=(M.wA aN q9 q4 [] level [] [])
       let q11:=((Option.isSome q2)&&((Option.isSome q0)&&true))
       let q12:=((Option.isSome q3)&&((Option.isSome M.gj)&&q11))
       let q13:=((q12||(!q5))&&(((q12||(!q6))&&(((q12||(!q7))&&(q12||q7))||q6))||q5))
       let al:=((q13||(!q8))&&(q13||q8))
       bif((Option.isSome q10)&&al)then
        let av:=Inhabited.default
        let q16:=(Option.getD q10 av)
        let aE:=q16.2
        let aD:=aE.2
        let aM:=aD.2.2
        some ((M.aa.mk aE.1 aD.1 aM.1 aM.2),q16.1)
       else
        none
      else
       let q9:=(q4==(16:Int))
       let q10:=(q4==(17:Int))
       let q11:=(q4==(18:Int))
       bif(bif q9 then q9 else(bif q10 then q10 else(bif q11 then q11 else(q4==(19:Int)))))then
        let q12:=(Option.getD q0 Inhabited.default).2
        let q13:=(M.bF [(123:UInt8)] q12)
        let al:=(M.ui aN (16:Int) (Option.getD q13 Inhabited.default) q4 [] [] [] level)
        let av:=Inhabited.default
        let q16:=(Option.getD al av)
        let aE:=(M.bF [(125:UInt8)] q16.1)
        let aD:=((Option.isSome q2)&&((Option.isSome q0)&&true))
        let aM:=((Option.isSome q3)&&((Option.isSome M.gj)&&aD))
        let aT:=((aM||(!q5))&&(((aM||(!q6))&&(((aM||(!q7))&&(aM||q7))||q6))||q5))
        let ba:=((aT||(!q8))&&(aT||q8))
        let q22:=((ba||(!q9))&&(((ba||(!q10))&&(((ba||(!q11))&&(ba||q11))||q10))||q9))
        bif((Option.isSome aE)&&((Option.isSome al)&&((Option.isSome q13)&&q22)))then
         let q23:=q16.2
         let q24:=q23.2
         let cf:=q24.2.2
         some ((M.aa.mk q23.1 q24.1 cf.1 cf.2),(Option.getD aE Inhabited.default))
        else
         none
       else
        let q12:=((Option.isSome q2)&&((Option.isSome q0)&&true))
        let q13:=((Option.isSome q3)&&((Option.isSome M.gj)&&q12))
        let al:=((q13||(!q5))&&(((q13||(!q6))&&(((q13||(!q7))&&(q13||q7))||q6))||q5))
        let av:=((al||(!q8))&&(al||q8))
        let q16:=((av||(!q9))&&(((av||(!q10))&&(((av||(!q11))&&(av||q11))||q10))||q9))
        bif q16 then
         let aE:=(Option.getD q0 Inhabited.default).2
         some ((M.aa.mk q4 [] [] []),aE)
        else
         none
noncomputable def pP:Nat->Int->M.ad->Option (M.aa×M.ad)
 |0=>fun _ _=>none
 |n+1=>mW (pP n)
noncomputable def uj:Int->M.ad->Option (M.aa×M.ad):=pP Go.V.ai
end M
namespace M
noncomputable def wB(t1:Int)(t12:(List UInt8))(t13:Int)(t14:(List UInt8))(t15:Bool)(t16:(List UInt8))(t17:(List UInt8))(t18:(List UInt8))(o2:(List M.ae))(cn:Int)(cA:Bool)(o3:(List (List UInt8)))(o4:(List M.aa))(o5:(List M.aA))(o6:(List M.aH)):Option (Int×(List UInt8)×Int×(List UInt8)×Bool×(List UInt8)×(List UInt8)×(List UInt8)×(List M.ae)×Int×Bool×(List (List UInt8))×(List M.aa)×(List M.aA)×(List M.aH)):=
 let q0:=(M.ek (M.ad.mk o2 cn cA))
 let q1:=(M.bF [(58:UInt8)] (Option.getD q0 Inhabited.default).2)
 let q2:=(M.uj (1:Int) (Option.getD q1 Inhabited.default))
 let q3:=(Option.getD q2 Inhabited.default)
 let q4:=[(M.aA.mk (Option.getD q0 Inhabited.default).1 (M.aa.re q3.1))]
 bif((decide (((List.length o5)+(List.length q4))<=1073741824))&&((Option.isSome q2)&&((Option.isSome q1)&&((Option.isSome q0)&&true))))then
  let q5:=q3.2
  some (t1,t12,t13,t14,t15,t16,t17,t18,(M.ad.list q5),(M.ad.at_ q5),(M.ad.bad q5),o3,o4,(o5++q4),o6)
 else
  none
end M
namespace M
noncomputable def pQ(most:Int):Nat->Int->M.ad->Int->(List UInt8)->Int->(List UInt8)->Bool->(List UInt8)->(List UInt8)->(List UInt8)->(List (List UInt8))->(List M.aa)->(List M.aA)->(List M.aH)->Option (((List M.ae)×Int×Bool×Int×(List UInt8)×Int×(List UInt8)×Bool×(List UInt8)×(List UInt8)×(List UInt8)×(List (List UInt8))×(List M.aa)×(List M.aA)×(List M.aH))⊕((List M.ae)×Int×Bool×Int×(List UInt8)×Int×(List UInt8)×Bool×(List UInt8)×(List UInt8)×(List UInt8)×(List (List UInt8))×(List M.aa)×(List M.aA)×(List M.aH)))
 |0,_,_,_,_,_,_,_,_,_,_,_,_,_,_=>none
 |fuel+1,k,p,o2,cn,cA,dh,di,dj,dk,dm,o7,o8,o9,bG=>
  bif(!(M.ad.bad p))then
   let q0:=(M.wB o2 cn cA dh di dj dk dm (M.ad.list p) (M.ad.at_ p) (M.ad.bad p) o7 o8 o9 bG)
   let q1:=(Option.getD q0 Inhabited.default)
   let q2:=q1.2
   let q3:=q2.2
   let q4:=q3.2
   let q5:=q4.2
   let q6:=q5.2
   let q7:=q6.2
   let q8:=q7.2
   let q9:=q8.2
   let q10:=q9.2
   let q11:=q10.2
   let q12:=q11.1
   let q13:=(q12||(k==most))
   bif q13 then
    let al:=(q13==true)
    let av:=((Option.isSome q0)&&true)
    bif(al&&(al&&(al&&(al&&av))))then
     let q16:=q9.1
     let aE:=q10.1
     let aD:=q1.1
     let aM:=q2.1
     let aT:=q3.1
     let ba:=q4.1
     let q22:=q5.1
     let q23:=q6.1
     let q24:=q7.1
     let cf:=q8.1
     let cu:=q11.2
     let cQ:=cu.1
     let cG:=cu.2
     let dz:=cG.1
     let q30:=cG.2
     let dY:=q30.1
     let q32:=q30.2
     some (.inl (q16,aE,q12,aD,aM,aT,ba,q22,q23,q24,cf,cQ,dz,dY,q32))
    else
     none
   else
    let al:=q9.1
    let av:=q10.1
    let q16:=(M.cJ [(44:UInt8)] (M.ad.mk al av q12))
    let aE:=(Option.getD q16 Inhabited.default)
    bif(!aE.1)then
     let aD:=(q13==false)
     let aM:=((Option.isSome q0)&&true)
     let aT:=(aD&&(aD&&(((Option.isSome q16)&&aD)&&(aD&&aM))))
     bif aT then
      let ba:=aE.2
      let q22:=q1.1
      let q23:=q2.1
      let q24:=q3.1
      let cf:=q4.1
      let cu:=q5.1
      let cQ:=q6.1
      let cG:=q7.1
      let dz:=q8.1
      let q30:=q11.2
      let dY:=q30.1
      let q32:=q30.2
      let eV:=q32.1
      let d6:=q32.2
      let q35:=d6.1
      let fq:=d6.2
      some (.inl ((M.ad.list ba),(M.ad.at_ ba),(M.ad.bad ba),q22,q23,q24,cf,cu,cQ,cG,dz,dY,eV,q35,fq))
     else
      none
    else
     let aD:=(q13==false)
     let aM:=((Option.isSome q0)&&true)
     let aT:=(aD&&(aD&&(((Option.isSome q16)&&aD)&&(aD&&aM))))
     bif aT then
      let ba:=aE.2
      let q22:=q1.1
      let q23:=q2.1
      let q24:=q3.1
      let cf:=q4.1
      let cu:=q5.1
      let cQ:=q6.1
      let cG:=q7.1
      let dz:=q8.1
      let q30:=q11.2
      let dY:=q30.1
      let q32:=q30.2
      let eV:=q32.1
      let d6:=q32.2
      let q35:=d6.1
      let fq:=d6.2
      M.pQ most fuel (Go.IntKind.wrap Go.IntKind.i64 (k+(1:Int))) ba q22 q23 q24 cf cu cQ cG dz dY eV q35 fq
     else
      none
  else
   some ((.inr (((M.ad.list p),(M.ad.at_ p),(M.ad.bad p),o2,cn,cA,dh,di,dj,dk,dm,o7,o8,o9,bG))))
end M
namespace M
noncomputable def uk(most:Int)(p:M.ad)(o2:Int)(cn:(List UInt8))(cA:Int)(dh:(List UInt8))(di:Bool)(dj:(List UInt8))(dk:(List UInt8))(dm:(List UInt8))(o3:(List (List UInt8)))(o4:(List M.aa))(o5:(List M.aA))(o6:(List M.aH)):Option (M.ad×Int×(List UInt8)×Int×(List UInt8)×Bool×(List UInt8)×(List UInt8)×(List UInt8)×(List (List UInt8))×(List M.aa)×(List M.aA)×(List M.aH)):=
 match(M.pQ most Go.V.ai (1:Int) p o2 cn cA dh di dj dk dm o3 o4 o5 o6)with
 |none=>none
 |some y0=>
  (match y0 with
  |.inl a1=>
    let q2:=a1.2
    let q3:=q2.2
    let q4:=q3.2
    let q5:=q4.2
    let q6:=q5.2
    let q7:=q6.2
    let q8:=q7.2
    let q9:=q8.2
    let q10:=q9.2
    let q11:=q10.2
    let q12:=q11.2
    let q13:=q12.2
    let al:=q13.2
    some ((M.ad.mk a1.1 q2.1 q3.1),q4.1,q5.1,q6.1,q7.1,q8.1,q9.1,q10.1,q11.1,q12.1,q13.1,al.1,al.2)
  |.inr b1=>
    let q2:=b1.2
    let q3:=q2.2
    let q4:=q3.2
    let q5:=q4.2
    let q6:=q5.2
    let q7:=q6.2
    let q8:=q7.2
    let q9:=q8.2
    let q10:=q9.2
    let q11:=q10.2
    let q12:=q11.2
    let q13:=q12.2
    let al:=q13.2
    some ((M.ad.mk b1.1 q2.1 q3.1),q4.1,q5.1,q6.1,q7.1,q8.1,q9.1,q10.1,q11.1,q12.1,q13.1,al.1,al.2))
end M
namespace M
noncomputable def um(name:(List UInt8))(p:M.ad):Option (M.ak×M.ad):=
 let q0:=(M.bF [(58:UInt8)] p)
 let q1:=(M.cJ [(97:UInt8),(115:UInt8),(121:UInt8),(110:UInt8),(99:UInt8)] (Option.getD q0 Inhabited.default))
 let q2:=(Option.getD q1 Inhabited.default)
 let q3:=(M.bF [(102:UInt8),(117:UInt8),(110:UInt8),(99:UInt8)] q2.2)
 let q4:=(M.bF [(40:UInt8)] (Option.getD q3 Inhabited.default))
 let q5:=(M.jb [(41:UInt8)] (Option.getD q4 Inhabited.default))
 let q6:=(Option.getD q5 Inhabited.default)
 bif(!q6.1)then
  let q7:=q6.2
  let q8:=q2.1
  let q9:=(M.uk (6:Int) q7 (3:Int) name (1:Int) [] q8 [] [] [] [] [] [] [])
  let q10:=(Option.getD q9 Inhabited.default)
  let q11:=(M.bF [(41:UInt8)] q10.1)
  let q12:=(M.cJ [(45:UInt8),(62:UInt8)] (Option.getD q11 Inhabited.default))
  let q13:=(Option.getD q12 Inhabited.default)
  bif q13.1 then
   let al:=q13.2
   let av:=(M.uj (1:Int) al)
   let q16:=((Option.isSome q5)&&((Option.isSome q4)&&((Option.isSome q3)&&((Option.isSome q1)&&((Option.isSome q0)&&true)))))
   let aE:=((Option.isSome q12)&&((Option.isSome q11)&&((Option.isSome q9)&&q16)))
   bif((Option.isSome av)&&aE)then
    let aD:=q10.2
    let aM:=aD.1
    let aT:=aD.2
    let ba:=aT.1
    let q22:=(Option.getD av Inhabited.default)
    let q23:=aT.2
    let q24:=q23.2
    let cf:=q24.2
    let cu:=cf.2
    let cQ:=cu.2
    let cG:=cQ.2
    let dz:=cG.2
    let q30:=dz.2
    let dY:=q30.2
    let q32:=dY.1
    let eV:=cf.1
    let d6:=dY.2
    some ((M.ak.mk aM ba (M.aa.re q22.1) q32 eV (M.bh.mk cu.1 cQ.1 cG.1) d6),q22.2)
   else
    none
  else
   let al:=((Option.isSome q5)&&((Option.isSome q4)&&((Option.isSome q3)&&((Option.isSome q1)&&((Option.isSome q0)&&true)))))
   let av:=((Option.isSome q12)&&((Option.isSome q11)&&((Option.isSome q9)&&al)))
   bif av then
    let q16:=q10.2
    let aE:=q16.1
    let aD:=q16.2
    let aM:=aD.1
    let aT:=aD.2
    let ba:=aT.2
    let q22:=ba.2
    let q23:=q22.2
    let q24:=q23.2
    let cf:=q24.2
    let cu:=cf.2
    let cQ:=cu.2
    let cG:=cQ.2
    let dz:=cG.1
    let q30:=q22.1
    let dY:=cG.2
    let q32:=q13.2
    some ((M.ak.mk aE aM (M.aa.mk aT.1 ba.1 cu.1 cQ.1) dz q30 (M.bh.mk q23.1 q24.1 cf.1) dY),q32)
   else
    none
 else
  let q7:=q6.2
  let q8:=(M.bF [(41:UInt8)] q7)
  let q9:=(M.cJ [(45:UInt8),(62:UInt8)] (Option.getD q8 Inhabited.default))
  let q10:=(Option.getD q9 Inhabited.default)
  bif q10.1 then
   let q11:=q10.2
   let q12:=(M.uj (1:Int) q11)
   let q13:=((Option.isSome q5)&&((Option.isSome q4)&&((Option.isSome q3)&&((Option.isSome q1)&&((Option.isSome q0)&&true)))))
   let al:=((Option.isSome q9)&&((Option.isSome q8)&&q13))
   bif((Option.isSome q12)&&al)then
    let av:=(Option.getD q12 Inhabited.default)
    let q16:=q2.1
    some ((M.ak.mk (3:Int) name (M.aa.re av.1) [] q16 (M.bh.mk [] [] []) []),av.2)
   else
    none
  else
   let q11:=((Option.isSome q5)&&((Option.isSome q4)&&((Option.isSome q3)&&((Option.isSome q1)&&((Option.isSome q0)&&true)))))
   let q12:=((Option.isSome q9)&&((Option.isSome q8)&&q11))
   bif q12 then
    let q13:=q2.1
    let al:=q10.2
    some ((M.ak.mk (3:Int) name (M.aa.mk (1:Int) [] [] []) [] q13 (M.bh.mk [] [] []) []),al)
   else
    none
end M
namespace M
noncomputable def zB(t1:Int)(t12:(List UInt8))(t13:Int)(t14:(List UInt8))(t15:Bool)(t16:(List UInt8))(t17:(List UInt8))(t18:(List UInt8))(o2:(List M.ae))(cn:Int)(cA:Bool)(o3:(List (List UInt8)))(o4:(List M.aa))(o5:(List M.aA))(o6:(List M.aH)):Option (Int×(List UInt8)×Int×(List UInt8)×Bool×(List UInt8)×(List UInt8)×(List UInt8)×(List M.ae)×Int×Bool×(List (List UInt8))×(List M.aa)×(List M.aA)×(List M.aH)):=
 let q0:=(M.ja (M.ad.mk o2 cn cA))
 let q1:=(M.cJ [(97:UInt8),(115:UInt8)] (Option.getD q0 Inhabited.default).2)
 let q2:=(Option.getD q1 Inhabited.default)
 bif q2.1 then
  let q3:=(List.length o6)
  let q4:=(Option.getD q0 Inhabited.default).1
  let q5:=q2.2
  let q6:=(M.ja q5)
  let q7:=(Option.getD q6 Inhabited.default)
  let q8:=[(M.aH.mk q4 q7.1)]
  let q9:=((Option.isSome q1)&&((Option.isSome q0)&&true))
  bif((decide ((q3+(List.length q8))<=1073741824))&&((Option.isSome q6)&&q9))then
   let q10:=q7.2
   some (t1,t12,t13,t14,t15,t16,t17,t18,(M.ad.list q10),(M.ad.at_ q10),(M.ad.bad q10),o3,o4,o5,(o6++q8))
  else
   none
 else
  let q3:=(List.length o6)
  let q4:=(Option.getD q0 Inhabited.default).1
  let q5:=[(M.aH.mk q4 [])]
  let q6:=((Option.isSome q1)&&((Option.isSome q0)&&true))
  bif((decide ((q3+(List.length q5))<=1073741824))&&q6)then
   let q7:=q2.2
   some (t1,t12,t13,t14,t15,t16,t17,t18,(M.ad.list q7),(M.ad.at_ q7),(M.ad.bad q7),o3,o4,o5,(o6++q5))
  else
   none
end M
namespace M
noncomputable def pR(most:Int):Nat->Int->M.ad->Int->(List UInt8)->Int->(List UInt8)->Bool->(List UInt8)->(List UInt8)->(List UInt8)->(List (List UInt8))->(List M.aa)->(List M.aA)->(List M.aH)->Option (((List M.ae)×Int×Bool×Int×(List UInt8)×Int×(List UInt8)×Bool×(List UInt8)×(List UInt8)×(List UInt8)×(List (List UInt8))×(List M.aa)×(List M.aA)×(List M.aH))⊕((List M.ae)×Int×Bool×Int×(List UInt8)×Int×(List UInt8)×Bool×(List UInt8)×(List UInt8)×(List UInt8)×(List (List UInt8))×(List M.aa)×(List M.aA)×(List M.aH)))
 |0,_,_,_,_,_,_,_,_,_,_,_,_,_,_=>none
 |fuel+1,k,p,o2,cn,cA,dh,di,dj,dk,dm,o7,o8,o9,bG=>
  bif(!(M.ad.bad p))then
   let q0:=(M.zB o2 cn cA dh di dj dk dm (M.ad.list p) (M.ad.at_ p) (M.ad.bad p) o7 o8 o9 bG)
   let q1:=(Option.getD q0 Inhabited.default)
   let q2:=q1.2
   let q3:=q2.2
   let q4:=q3.2
   let q5:=q4.2
   let q6:=q5.2
   let q7:=q6.2
   let q8:=q7.2
   let q9:=q8.2
   let q10:=q9.2
   let q11:=q10.2
   let q12:=q11.1
   let q13:=(q12||(k==most))
   bif q13 then
    let al:=(q13==true)
    let av:=((Option.isSome q0)&&true)
    bif(al&&(al&&(al&&(al&&av))))then
     let q16:=q9.1
     let aE:=q10.1
     let aD:=q1.1
     let aM:=q2.1
     let aT:=q3.1
     let ba:=q4.1
     let q22:=q5.1
     let q23:=q6.1
     let q24:=q7.1
     let cf:=q8.1
     let cu:=q11.2
     let cQ:=cu.1
     let cG:=cu.2
     let dz:=cG.1
     let q30:=cG.2
     let dY:=q30.1
     let q32:=q30.2
     some (.inl (q16,aE,q12,aD,aM,aT,ba,q22,q23,q24,cf,cQ,dz,dY,q32))
    else
     none
   else
    let al:=q9.1
    let av:=q10.1
    let q16:=(M.cJ [(44:UInt8)] (M.ad.mk al av q12))
    let aE:=(Option.getD q16 Inhabited.default)
    bif(!aE.1)then
     let aD:=(q13==false)
     let aM:=((Option.isSome q0)&&true)
     let aT:=(aD&&(aD&&(((Option.isSome q16)&&aD)&&(aD&&aM))))
     bif aT then
      let ba:=aE.2
      let q22:=q1.1
      let q23:=q2.1
      let q24:=q3.1
      let cf:=q4.1
      let cu:=q5.1
      let cQ:=q6.1
      let cG:=q7.1
      let dz:=q8.1
      let q30:=q11.2
      let dY:=q30.1
      let q32:=q30.2
      let eV:=q32.1
      let d6:=q32.2
      let q35:=d6.1
      let fq:=d6.2
      some (.inl ((M.ad.list ba),(M.ad.at_ ba),(M.ad.bad ba),q22,q23,q24,cf,cu,cQ,cG,dz,dY,eV,q35,fq))
     else
      none
    else
     let aD:=(q13==false)
     let aM:=((Option.isSome q0)&&true)
     let aT:=(aD&&(aD&&(((Option.isSome q16)&&aD)&&(aD&&aM))))
     bif aT then
      let ba:=aE.2
      let q22:=q1.1
      let q23:=q2.1
      let q24:=q3.1
      let cf:=q4.1
      let cu:=q5.1
      let cQ:=q6.1
      let cG:=q7.1
      let dz:=q8.1
      let q30:=q11.2
      let dY:=q30.1
      let q32:=q30.2
      let eV:=q32.1
      let d6:=q32.2
      let q35:=d6.1
      let fq:=d6.2
      M.pR most fuel (Go.IntKind.wrap Go.IntKind.i64 (k+(1:Int))) ba q22 q23 q24 cf cu cQ cG dz dY eV q35 fq
     else
      none
  else
   some ((.inr (((M.ad.list p),(M.ad.at_ p),(M.ad.bad p),o2,cn,cA,dh,di,dj,dk,dm,o7,o8,o9,bG))))
end M
namespace M
noncomputable def qY(most:Int)(p:M.ad)(o2:Int)(cn:(List UInt8))(cA:Int)(dh:(List UInt8))(di:Bool)(dj:(List UInt8))(dk:(List UInt8))(dm:(List UInt8))(o3:(List (List UInt8)))(o4:(List M.aa))(o5:(List M.aA))(o6:(List M.aH)):Option (M.ad×Int×(List UInt8)×Int×(List UInt8)×Bool×(List UInt8)×(List UInt8)×(List UInt8)×(List (List UInt8))×(List M.aa)×(List M.aA)×(List M.aH)):=
 match(M.pR most Go.V.ai (1:Int) p o2 cn cA dh di dj dk dm o3 o4 o5 o6)with
 |none=>none
 |some y0=>
  (match y0 with
  |.inl a1=>
    let q2:=a1.2
    let q3:=q2.2
    let q4:=q3.2
    let q5:=q4.2
    let q6:=q5.2
    let q7:=q6.2
    let q8:=q7.2
    let q9:=q8.2
    let q10:=q9.2
    let q11:=q10.2
    let q12:=q11.2
    let q13:=q12.2
    let al:=q13.2
    some ((M.ad.mk a1.1 q2.1 q3.1),q4.1,q5.1,q6.1,q7.1,q8.1,q9.1,q10.1,q11.1,q12.1,q13.1,al.1,al.2)
  |.inr b1=>
    let q2:=b1.2
    let q3:=q2.2
    let q4:=q3.2
    let q5:=q4.2
    let q6:=q5.2
    let q7:=q6.2
    let q8:=q7.2
    let q9:=q8.2
    let q10:=q9.2
    let q11:=q10.2
    let q12:=q11.2
    let q13:=q12.2
    let al:=q13.2
    some ((M.ad.mk b1.1 q2.1 q3.1),q4.1,q5.1,q6.1,q7.1,q8.1,q9.1,q10.1,q11.1,q12.1,q13.1,al.1,al.2))
end M
namespace M
noncomputable def wC(p:M.ad):Option (M.ak×M.ad):=
 let q0:=(M.ek p)
 let q1:=(Option.getD q0 Inhabited.default).2
 bif(M.ad.bad q1)then
  let q2:=(Option.getD q0 Inhabited.default).1
  let q3:=(M.um q2 q1)
  let q4:=((M.ad.bad q1)==true)
  bif((Option.isSome q3)&&(q4&&(q4&&(q4&&((Option.isSome q0)&&true)))))then
   let q5:=(Option.getD q3 Inhabited.default)
   some ((M.ak.re q5.1),q5.2)
  else
   none
 else
  let q2:=(M.jb [(58:UInt8)] q1)
  let q3:=(Option.getD q2 Inhabited.default)
  bif q3.1 then
   let q4:=(Option.getD q0 Inhabited.default).1
   let q5:=q3.2
   let q6:=(M.um q4 q5)
   let q7:=((M.ad.bad q1)==false)
   let q8:=(q7&&(((Option.isSome q2)&&q7)&&(q7&&((Option.isSome q0)&&true))))
   bif((Option.isSome q6)&&q8)then
    let q9:=(Option.getD q6 Inhabited.default)
    some ((M.ak.re q9.1),q9.2)
   else
    none
  else
   let q4:=(Option.getD q0 Inhabited.default).1
   bif(q4==[(114:UInt8),(101:UInt8),(115:UInt8),(111:UInt8),(117:UInt8),(114:UInt8),(99:UInt8),(101:UInt8)])then
    let q5:=q3.2
    let q6:=(M.ja q5)
    let q7:=((M.ad.bad q1)==false)
    let q8:=(q7&&(((Option.isSome q2)&&q7)&&(q7&&((Option.isSome q0)&&true))))
    let q9:=((Option.isSome q6)&&q8)
    bif q9 then
     let q10:=(Option.getD q6 Inhabited.default)
     let q11:=q10.1
     let q12:=q10.2
     some ((M.ak.mk (1:Int) q11 (M.aa.mk (0:Int) [] [] []) [] false (M.bh.mk [] [] []) []),q12)
    else
     none
   else
    bif(q4==[(116:UInt8),(121:UInt8),(112:UInt8),(101:UInt8)])then
     let q5:=q3.2
     let q6:=(M.ja q5)
     let q7:=(Option.getD q6 Inhabited.default)
     let q8:=q7.2
     let q9:=(M.bF [(61:UInt8)] q8)
     let q10:=(M.uj (1:Int) (Option.getD q9 Inhabited.default))
     let q11:=((M.ad.bad q1)==false)
     let q12:=(q11&&(((Option.isSome q2)&&q11)&&(q11&&((Option.isSome q0)&&true))))
     let q13:=((Option.isSome q6)&&q12)
     bif((Option.isSome q10)&&((Option.isSome q9)&&q13))then
      let al:=q7.1
      let av:=(Option.getD q10 Inhabited.default)
      some ((M.ak.mk (2:Int) al (M.aa.re av.1) [] false (M.bh.mk [] [] []) []),av.2)
     else
      none
    else
     bif(q4==[(117:UInt8),(115:UInt8),(101:UInt8)])then
      let q5:=q3.2
      let q6:=(M.jc q5)
      let q7:=(Option.getD q6 Inhabited.default)
      let q8:=(M.bF [(46:UInt8)] q7.2)
      let q9:=(M.bF [(123:UInt8)] (Option.getD q8 Inhabited.default))
      let q10:=q7.1
      let q11:=(M.qY (16:Int) (Option.getD q9 Inhabited.default) (4:Int) [] (0:Int) [] false (M.bh.dw q10) (M.bh.Name q10) (M.bh.Version q10) [] [] [] [])
      let q12:=(Option.getD q11 Inhabited.default)
      let q13:=(M.bF [(125:UInt8)] q12.1)
      let al:=((M.ad.bad q1)==false)
      let av:=(al&&(((Option.isSome q2)&&al)&&(al&&((Option.isSome q0)&&true))))
      bif((Option.isSome q13)&&((Option.isSome q11)&&((Option.isSome q9)&&((Option.isSome q8)&&((Option.isSome q6)&&av)))))then
       let q16:=q12.2
       let aE:=q16.2
       let aD:=aE.2
       let aM:=aD.2
       let aT:=aM.2
       let ba:=aT.2
       let q22:=ba.2
       let q23:=q22.2
       let q24:=q23.2
       let cf:=q24.2
       let cu:=cf.2
       some ((M.ak.mk q16.1 aE.1 (M.aa.mk aD.1 aM.1 q24.1 cf.1) cu.1 aT.1 (M.bh.mk ba.1 q22.1 q23.1) cu.2),(Option.getD q13 Inhabited.default))
      else
       none
     else
      let q5:=((M.ad.bad q1)==false)
      let q6:=(q5&&(((Option.isSome q2)&&q5)&&(q5&&((Option.isSome q0)&&true))))
      bif q6 then
       let q7:=q3.2
       some ((M.ak.mk (0:Int) [] (M.aa.mk (0:Int) [] [] []) [] false (M.bh.mk [] [] []) []),(M.ad.mk (M.ad.list q7) (M.ad.at_ q7) true))
      else
       none
end M
namespace M
noncomputable def uo(t2:(List UInt8))(x:(List UInt8))(o5:(List M.ak)):Nat->M.ad->(List M.ak)->Option (M.ad×(List UInt8)×(List UInt8)×(List M.ak)×(List M.ak))
 |0,_,_=>none
 |fuel+1,p,o6=>
  let q0:=((decide (((List.length o6):Int)<(16:Int)))&&(!(M.ad.bad p)))
  bif q0 then
   let q1:=(M.jb [(125:UInt8)] p)
   let q2:=(Option.getD q1 Inhabited.default)
   bif(!q2.1)then
    let q3:=q2.2
    let q4:=(M.wC q3)
    let q5:=(Option.getD q4 Inhabited.default)
    let q6:=(M.bF [(59:UInt8)] q5.2)
    let q7:=[(M.ak.re q5.1)]
    let q8:=(q0==true)
    let q9:=(q8&&(q8&&(((Option.isSome q1)&&q8)&&(q8&&true))))
    bif((Option.isSome q6)&&((decide (((List.length o6)+(List.length q7))<=1073741824))&&((Option.isSome q4)&&q9)))then
     M.uo t2 x o5 fuel (Option.getD q6 Inhabited.default) (o6++q7)
    else
     none
   else
    let q3:=(q0==true)
    let q4:=(q3&&(q3&&(((Option.isSome q1)&&q3)&&(q3&&true))))
    bif q4 then
     let q5:=q2.2
     some ((q5,t2,x,o5,o6))
    else
     none
  else
   let q1:=(q0==false)
   bif(q1&&(q1&&(q1&&(q1&&true))))then
    some ((p,t2,x,o5,o6))
   else
    none
end M
namespace M
noncomputable def uu(p:M.ad):Option (M.aC×M.ad):=
 let q0:=(M.ek p)
 let q1:=(M.bF [(123:UInt8)] (Option.getD q0 Inhabited.default).2)
 match(M.uo [] (Option.getD q0 Inhabited.default).1 [] Go.V.ai (Option.getD q1 Inhabited.default) [])with
 |none=>none
 |some y2=>
  let q3:=(M.bF [(125:UInt8)] y2.1)
  bif((Option.isSome q3)&&((Option.isSome q1)&&((Option.isSome q0)&&true)))then
   let q4:=y2.2.2
   some ((M.aC.mk q4.1 q4.2.2),(Option.getD q3 Inhabited.default))
  else
   none
end M
namespace M
noncomputable def nW(t2:(List UInt8))(x:(List UInt8))(o5:(List M.aG)):Nat->M.ad->(List M.aG)->Option (M.ad×(List UInt8)×(List UInt8)×(List M.aG)×(List M.aG))
 |0,_,_=>none
 |fuel+1,p,o6=>
  let q0:=((decide (((List.length o6):Int)<(16:Int)))&&(!(M.ad.bad p)))
  bif q0 then
   let q1:=(M.jb [(125:UInt8)] p)
   let q2:=(Option.getD q1 Inhabited.default)
   bif(!q2.1)then
    let q3:=[(112:UInt8),(111:UInt8),(114:UInt8),(116:UInt8)]
    let q4:=q2.2
    let q5:=(M.cJ [(105:UInt8),(109:UInt8),(112:UInt8),(111:UInt8),(114:UInt8),(116:UInt8)] q4)
    let q6:=(Option.getD q5 Inhabited.default)
    bif q6.1 then
     let q7:=(List.length o6)
     let q8:=q6.2
     let q9:=(M.jc q8)
     let q10:=(Option.getD q9 Inhabited.default)
     let q11:=[(M.aG.mk (1:Int) q10.1)]
     let q12:=(M.bF [(59:UInt8)] q10.2)
     let q13:=(q0==true)
     let al:=(q13&&(q13&&(((Option.isSome q1)&&q13)&&(q13&&true))))
     let av:=((Option.isSome q5)&&al)
     bif((decide ((q7+(List.length q11))<=1073741824))&&((Option.isSome q12)&&((Option.isSome q9)&&av)))then
      M.nW t2 x o5 fuel (Option.getD q12 Inhabited.default) (o6++q11)
     else
      none
    else
     let q7:=q6.2
     let q8:=(M.cJ [(101:UInt8),(120:UInt8),(112:UInt8),(111:UInt8),(114:UInt8),(116:UInt8)] q7)
     let q9:=(Option.getD q8 Inhabited.default)
     bif q9.1 then
      let q10:=(List.length o6)
      let q11:=q9.2
      let q12:=(M.jc q11)
      let q13:=(Option.getD q12 Inhabited.default)
      let al:=[(M.aG.mk (2:Int) q13.1)]
      let av:=(M.bF [(59:UInt8)] q13.2)
      let q16:=(q0==true)
      let aE:=(q16&&(q16&&(((Option.isSome q1)&&q16)&&(q16&&true))))
      let aD:=((Option.isSome q5)&&aE)
      let aM:=((Option.isSome q8)&&aD)
      bif((decide ((q10+(List.length al))<=1073741824))&&((Option.isSome av)&&((Option.isSome q12)&&aM)))then
       M.nW t2 x o5 fuel (Option.getD av Inhabited.default) (o6++al)
      else
       none
     else
      let q10:=q9.2
      let q11:=(M.cJ [(105:UInt8),(110:UInt8),(99:UInt8),(108:UInt8),(117:UInt8),(100:UInt8),(101:UInt8)] q10)
      let q12:=(Option.getD q11 Inhabited.default)
      bif q12.1 then
       let q13:=(List.length o6)
       let al:=q12.2
       let av:=(M.jc al)
       let q16:=(Option.getD av Inhabited.default)
       let aE:=[(M.aG.mk (3:Int) q16.1)]
       let aD:=(M.bF [(59:UInt8)] q16.2)
       let aM:=(q0==true)
       let aT:=(aM&&(aM&&(((Option.isSome q1)&&aM)&&(aM&&true))))
       let ba:=((Option.isSome q5)&&aT)
       let q22:=((Option.isSome q8)&&ba)
       let q23:=((Option.isSome q11)&&q22)
       bif((decide ((q13+(List.length aE))<=1073741824))&&((Option.isSome aD)&&((Option.isSome av)&&q23)))then
        M.nW t2 x o5 fuel (Option.getD aD Inhabited.default) (o6++aE)
       else
        none
      else
       let q13:=(List.length o6)
       let al:=q12.2
       let av:=(M.jc (M.ad.mk (M.ad.list al) (M.ad.at_ al) true))
       let q16:=(Option.getD av Inhabited.default)
       let aE:=[(M.aG.mk (0:Int) q16.1)]
       let aD:=(M.bF [(59:UInt8)] q16.2)
       let aM:=(q0==true)
       let aT:=(aM&&(aM&&(((Option.isSome q1)&&aM)&&(aM&&true))))
       let ba:=((Option.isSome q5)&&aT)
       let q22:=((Option.isSome q8)&&ba)
       let q23:=((Option.isSome q11)&&q22)
       bif((decide ((q13+(List.length aE))<=1073741824))&&((Option.isSome aD)&&((Option.isSome av)&&q23)))then
        M.nW t2 x o5 fuel (Option.getD aD Inhabited.default) (o6++aE)
       else
        none
   else
    let q3:=(q0==true)
    let q4:=(q3&&(q3&&(((Option.isSome q1)&&q3)&&(q3&&true))))
    bif q4 then
     let q5:=q2.2
     some ((q5,t2,x,o5,o6))
    else
     none
  else
   let q1:=(q0==false)
   bif(q1&&(q1&&(q1&&(q1&&true))))then
    some ((p,t2,x,o5,o6))
   else
    none
end M
namespace M
noncomputable def qZ(p:M.ad):Option (M.aL×M.ad):=
 let q0:=(M.ek p)
 let q1:=(M.bF [(123:UInt8)] (Option.getD q0 Inhabited.default).2)
 match(M.nW [] (Option.getD q0 Inhabited.default).1 [] Go.V.ai (Option.getD q1 Inhabited.default) [])with
 |none=>none
 |some y2=>
  let q3:=(M.bF [(125:UInt8)] y2.1)
  bif((Option.isSome q3)&&((Option.isSome q1)&&((Option.isSome q0)&&true)))then
   let q4:=y2.2.2
   some ((M.aL.mk q4.1 q4.2.2),(Option.getD q3 Inhabited.default))
  else
   none
end M
namespace M
noncomputable def jd(t2:(List UInt8))(t22:(List UInt8))(x:(List UInt8))(x2:(List UInt8))(o7:(List M.aC))(o8:(List M.aL)):Nat->M.ad->(List M.aC)->(List M.aL)->Option ((List M.ae)×Int×Bool×(List UInt8)×(List UInt8)×(List UInt8)×(List UInt8)×(List M.aC)×(List M.aL)×(List M.aC)×(List M.aL))
 |0,_,_,_=>none
 |fuel+1,p,o9,bG=>
  bif((!(M.ad.bad p))&&((M.ae.Kind (List.getD (M.ad.list p) (Int.toNat (M.ad.at_ p)) M.ae.zero)) !=(4:Int)))then
   bif(decide (((List.length o9):Int)<(8:Int)))then
    let q0:=(M.cJ [(105:UInt8),(110:UInt8),(116:UInt8),(101:UInt8),(114:UInt8),(102:UInt8),(97:UInt8),(99:UInt8),(101:UInt8)] p)
    let q1:=(Option.getD q0 Inhabited.default)
    bif q1.1 then
     let q2:=q1.2
     let q3:=(M.uu q2)
     let q4:=(Option.getD q3 Inhabited.default)
     let q5:=[q4.1]
     let q6:=((decide (((List.length o9):Int)<(8:Int)))==true)
     let q7:=(((Go.V.inB (M.ad.at_ p) (List.length (M.ad.list p)))||(!((!(M.ad.bad p))==true)))&&true)
     let q8:=(q6&&(((Option.isSome q0)&&q6)&&(q6&&q7)))
     bif((decide (((List.length o9)+(List.length q5))<=1073741824))&&((Option.isSome q3)&&q8))then
      M.jd t2 t22 x x2 o7 o8 fuel q4.2 (o9++q5) bG
     else
      none
    else
     bif(decide (((List.length bG):Int)<(8:Int)))then
      let q2:=[(119:UInt8),(111:UInt8),(114:UInt8),(108:UInt8),(100:UInt8)]
      let q3:=q1.2
      let q4:=(M.cJ q2 q3)
      let q5:=(Option.getD q4 Inhabited.default)
      bif q5.1 then
       let q6:=(List.length bG)
       let q7:=q5.2
       let q8:=(M.qZ q7)
       let q9:=(Option.getD q8 Inhabited.default)
       let q10:=[q9.1]
       let q11:=((decide (((List.length bG):Int)<(8:Int)))==true)
       let q12:=((decide (((List.length o9):Int)<(8:Int)))==true)
       let q13:=(((Go.V.inB (M.ad.at_ p) (List.length (M.ad.list p)))||(!((!(M.ad.bad p))==true)))&&true)
       let al:=(q12&&(((Option.isSome q0)&&q12)&&(q12&&q13)))
       let av:=(q11&&(((Option.isSome q4)&&q11)&&(q11&&al)))
       bif((decide ((q6+(List.length q10))<=1073741824))&&((Option.isSome q8)&&av))then
        M.jd t2 t22 x x2 o7 o8 fuel q9.2 o9 (bG++q10)
       else
        none
      else
       let q6:=((decide (((List.length bG):Int)<(8:Int)))==true)
       let q7:=((decide (((List.length o9):Int)<(8:Int)))==true)
       let q8:=(((Go.V.inB (M.ad.at_ p) (List.length (M.ad.list p)))||(!((!(M.ad.bad p))==true)))&&true)
       let q9:=(q7&&(((Option.isSome q0)&&q7)&&(q7&&q8)))
       let q10:=(q6&&(((Option.isSome q4)&&q6)&&(q6&&q9)))
       bif q10 then
        let q11:=q5.2
        M.jd t2 t22 x x2 o7 o8 fuel (M.ad.mk (M.ad.list q11) (M.ad.at_ q11) true) o9 bG
       else
        none
     else
      let q2:=((decide (((List.length bG):Int)<(8:Int)))==false)
      let q3:=((decide (((List.length o9):Int)<(8:Int)))==true)
      let q4:=(((Go.V.inB (M.ad.at_ p) (List.length (M.ad.list p)))||(!((!(M.ad.bad p))==true)))&&true)
      let q5:=(q3&&(((Option.isSome q0)&&q3)&&(q3&&q4)))
      bif(q2&&(q2&&(q2&&q5)))then
       let q6:=q1.2
       M.jd t2 t22 x x2 o7 o8 fuel (M.ad.mk (M.ad.list q6) (M.ad.at_ q6) true) o9 bG
      else
       none
   else
    bif(decide (((List.length bG):Int)<(8:Int)))then
     let q0:=[(119:UInt8),(111:UInt8),(114:UInt8),(108:UInt8),(100:UInt8)]
     let q1:=(M.cJ q0 p)
     let q2:=(Option.getD q1 Inhabited.default)
     bif q2.1 then
      let q3:=(List.length bG)
      let q4:=q2.2
      let q5:=(M.qZ q4)
      let q6:=(Option.getD q5 Inhabited.default)
      let q7:=[q6.1]
      let q8:=((decide (((List.length bG):Int)<(8:Int)))==true)
      let q9:=((decide (((List.length o9):Int)<(8:Int)))==false)
      let q10:=(((Go.V.inB (M.ad.at_ p) (List.length (M.ad.list p)))||(!((!(M.ad.bad p))==true)))&&true)
      let q11:=(q9&&(q9&&(q9&&q10)))
      let q12:=(q8&&(((Option.isSome q1)&&q8)&&(q8&&q11)))
      bif((decide ((q3+(List.length q7))<=1073741824))&&((Option.isSome q5)&&q12))then
       M.jd t2 t22 x x2 o7 o8 fuel q6.2 o9 (bG++q7)
      else
       none
     else
      let q3:=((decide (((List.length bG):Int)<(8:Int)))==true)
      let q4:=((decide (((List.length o9):Int)<(8:Int)))==false)
      let q5:=(((Go.V.inB (M.ad.at_ p) (List.length (M.ad.list p)))||(!((!(M.ad.bad p))==true)))&&true)
      let q6:=(q4&&(q4&&(q4&&q5)))
      let q7:=(q3&&(((Option.isSome q1)&&q3)&&(q3&&q6)))
      bif q7 then
       let q8:=q2.2
       M.jd t2 t22 x x2 o7 o8 fuel (M.ad.mk (M.ad.list q8) (M.ad.at_ q8) true) o9 bG
      else
       none
    else
     let q0:=((decide (((List.length bG):Int)<(8:Int)))==false)
     let q1:=((decide (((List.length o9):Int)<(8:Int)))==false)
     let q2:=(((Go.V.inB (M.ad.at_ p) (List.length (M.ad.list p)))||(!((!(M.ad.bad p))==true)))&&true)
     let q3:=(q1&&(q1&&(q1&&q2)))
     bif(q0&&(q0&&(q0&&q3)))then
      M.jd t2 t22 x x2 o7 o8 fuel (M.ad.mk (M.ad.list p) (M.ad.at_ p) true) o9 bG
     else
      none
  else
   let q0:=(((Go.V.inB (M.ad.at_ p) (List.length (M.ad.list p)))||(!((!(M.ad.bad p))==true)))&&true)
   bif q0 then
    some (((M.ad.list p),(M.ad.at_ p),(M.ad.bad p),t2,t22,x,x2,o7,o8,o9,bG))
   else
    none
end M
namespace M
noncomputable def wE(p:M.ad):Option ((List UInt8)×(List UInt8)×M.ad×(List M.aC)×(List M.aL)):=
 let q0:=(M.bF [(112:UInt8),(97:UInt8),(99:UInt8),(107:UInt8),(97:UInt8),(103:UInt8),(101:UInt8)] p)
 let q1:=(M.ek (Option.getD q0 Inhabited.default))
 let q2:=(Option.getD q1 Inhabited.default)
 let q3:=(M.bF [(64:UInt8)] q2.2)
 let q4:=(M.nX (Option.getD q3 Inhabited.default))
 let q5:=(Option.getD q4 Inhabited.default)
 let q6:=(M.bF [(59:UInt8)] q5.2)
 match(M.jd [] [] q2.1 q5.1 [] [] Go.V.ai (Option.getD q6 Inhabited.default) [] [])with
 |none=>none
 |some y7=>
  bif((Option.isSome q6)&&((Option.isSome q4)&&((Option.isSome q3)&&((Option.isSome q1)&&((Option.isSome q0)&&true)))))then
   let q8:=y7.2
   let q9:=q8.2
   let q10:=q9.2.2.2
   let q11:=q10.2
   let q12:=q11.2.2.2
   some (q10.1,q11.1,(M.ad.mk y7.1 q8.1 q9.1),q12.1,q12.2)
  else
   none
end M
namespace M
noncomputable def wF(p:M.ad)(t1:(List UInt8))(t12:(List UInt8))(o2:(List M.aC))(o3:(List M.aL)):Option (M.ad×(List UInt8)×(List UInt8)×(List M.aC)×(List M.aL)):=
 let q0:=(M.wE p)
 bif((Option.isSome q0)&&true)then
  let q1:=(Option.getD q0 Inhabited.default)
  let q2:=q1.2
  let q3:=q2.2
  let q4:=q3.2
  some (q3.1,q1.1,q2.1,q4.1,q4.2)
 else
  none
end M
namespace M
noncomputable def mY(s:(List UInt8))(o0:(List UInt8))(pS:(List UInt8))(o1:(List M.aC))(o2:(List M.aL)):Option (Int×Int×(List UInt8)×(List UInt8)×(List M.aC)×(List M.aL)):=
 let q0:=(M.uv s)
 let q1:=(Option.getD q0 Inhabited.default).2
 let q2:=q1.2
 bif(q2 !=(0:Int))then
  bif((Option.isSome q0)&&true)then
   some (q1.1,q2,o0,pS,o1,o2)
  else
   none
 else
  let q3:=(Option.getD q0 Inhabited.default).1
  let q4:=(M.wF (M.ad.mk q3 (0:Int) false) o0 pS o1 o2)
  let q5:=(Option.getD q4 Inhabited.default)
  let q6:=q5.1
  let q7:=(List.getD q3 (Int.toNat (M.ad.at_ q6)) M.ae.zero)
  bif((M.ad.bad q6)||((M.ae.Kind q7) !=(4:Int)))then
   let q8:=(Go.V.inB (M.ad.at_ q6) (List.length q3))
   let q9:=((q8||(!((M.ad.bad q6)==false)))&&((Option.isSome q4)&&((Option.isSome q0)&&true)))
   bif(q8&&q9)then
    let q10:=q5.2
    let q11:=q10.1
    let q12:=q10.2
    let q13:=q12.1
    let al:=q12.2
    let av:=al.1
    let q16:=al.2
    some ((M.ae.Line q7),(6:Int),q11,q13,av,q16)
   else
    none
  else
   let q8:=(Go.V.inB (M.ad.at_ q6) (List.length q3))
   let q9:=((q8||(!((M.ad.bad q6)==false)))&&((Option.isSome q4)&&((Option.isSome q0)&&true)))
   bif q9 then
    let q10:=q5.2
    let q11:=q10.1
    let q12:=q10.2
    let q13:=q12.1
    let al:=q12.2
    let av:=al.1
    let q16:=al.2
    some ((0:Int),(0:Int),q11,q13,av,q16)
   else
    none
end M
namespace M
noncomputable def zC(s:(List UInt8)):Option (M.bf×Int×Int):=
 let q0:=(M.mY s [] [] [] [])
 let q1:=(Option.getD q0 Inhabited.default)
 let q2:=q1.2
 let q3:=q2.1
 bif(q3 !=(0:Int))then
  let q4:=((Option.isSome q0)&&true)
  bif q4 then
   some ((M.bf.mk [] [] [] []),q1.1,q3)
  else
   none
 else
  let q4:=q2.2
  let q5:=q4.2
  let q6:=q5.2
  let q7:=(M.uw (M.bf.mk q4.1 q5.1 q6.1 q6.2))
  bif(!(Option.getD q7 Inhabited.default))then
   let q8:=((Option.isSome q0)&&true)
   let q9:=((Option.isSome q7)&&q8)
   bif q9 then
    some ((M.bf.mk [] [] [] []),(0:Int),(1:Int))
   else
    none
  else
   let q8:=((Option.isSome q0)&&true)
   let q9:=((Option.isSome q7)&&q8)
   bif q9 then
    some ((M.bf.mk q4.1 q5.1 q6.1 q6.2),(0:Int),(0:Int))
   else
    none
end M
