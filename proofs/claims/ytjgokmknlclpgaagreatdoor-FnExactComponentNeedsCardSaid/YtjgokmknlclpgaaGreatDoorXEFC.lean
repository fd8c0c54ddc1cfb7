/-
  Part of the proof of the claim.
-/
import Derived.Test.YtjgokmknlclpgaaGreatDoorXEFCa
import Derived.Test.YtjgokmknlclpgaaGreatDoorXEFM
import Derived.Test.YtjgokmknlclpgaaGreatDoorXEHdA
import Derived.Test.YtjgokmknlclpgaaGreatDoorXEHd4
import Derived.Test.YtjgokmknlclpgaaGreatDoorXEHdV
import Derived.Test.YtjgokmknlclpgaaGreatDoorProg
set_option linter.unusedVariables false
set_option maxRecDepth 100000
open Go Go.Proofs
open Go.V
noncomputable section
theorem auk:dD (ad5 (M.Tm)):=fJ (cx:=BP) true N7 Tryz.func102 (aS (aO 2 (by kernel_rfl) (lt_succ (bM (.mk (by kernel_rfl) ajR)) (.mk (by kernel_rfl) ajS)))) ⟨zs0,fun x=>x.1.1⟩ (fun x=>by kernel_rfl)
def zS(m:M.aI->Option ((List UInt8))):bG K:=cS 48 aB9 (fun x=>m x.1.1)
theorem Fv:dD (zS (M.jS)):=fJ (cx:=bZ) true bP Tryz.func48 (aS (af (by kernel_rfl))) ⟨zs6,fun x=>x.1.1⟩ (fun x=>by kernel_rfl)
def WX:cO K:=df D false 25 1 [1,3] [2] aEh (fun x=>M.lZ az x.1.2.1 x.2.1) kN
def Y2(m:M.ah->Option Bool):bG K:=cB 103 arJ (fun x=>m x.1.1)
def IC:Cx K:=iZ [(130,.plain)] [oH M.qM] [(4,WX)]
theorem WY:aJ IC:=ak aV _ (ai Y3 aY)
theorem ahc:bH IC (bD (bJ Tryz.f103) 0) WX:=bf (cx:=IC) (sh:=aEh) (run:=fun n x=>M.lZ n x.1.2.1 x.2.1) (cZ:=lI) aV WY aG (af (by kernel_rfl)) (fun _=>rfl) (fun m x=>by kernel_rfl) (ai ⟨dH,fun _ _ _=>rfl⟩ (ai ⟨bg,fun _ _ _=>rfl⟩ aY)) false az
theorem arK:dD (Y2 (M.N8)):=fJ (cx:=IC) true WY Tryz.func103 (aS (aO 1 (by kernel_rfl) (bM (.mk (by kernel_rfl) ahc)))) ⟨zs0,fun x=>x.1.1⟩ (fun x=>by kernel_rfl)
def adh(y:Bool⊕((List M.aI)×Int)){R:Type}(k:KT R):R:=match y with|.inl a0=>kk k Ex.ret aAM (((),((),(a0,()))),())|.inr a1=>kk k (Ex.exit 2) ⟨[.bY U.dE,.int .i64,.any],[]⟩ ((a1.1,(a1.2,((),()))),())
def afM:List (gB K ((Bool)⊕((List M.aI)×Int))):=[⟨Ex.ret,aAM,fun x=>.inl x.1.2.2.1⟩,⟨(Ex.exit 2),⟨[.bY U.dE,.int .i64,.any],[]⟩,fun x=>.inr ((x.1.1,x.1.2.1))⟩]
def Qa:cO K:=df D false 59 0 [0,3,4] [0,3,2] aEi (fun x=>M.nK x.1.1 x.1.2.1 az x.1.2.2.1) adh
def WZ:cO K:=df D false 59 0 [0,3] [2] aHn (fun x=>M.l7 az x.1.1 x.1.2.1) dU
def Y4(m:(List M.aI)->Option Bool):bG K:=cB 72 aAN (fun x=>m x.1.1)
def zT:Cx K:=iZ [(102,.plain),(48,.plain),(103,.plain)] [ad5 M.Tm,zS M.jS,Y2 M.N8] [(9,Qa),(4,WZ)]
theorem KE:aJ zT:=ak aV _ (ai auk (ai Fv (ai arK aY)))
theorem adi:bH zT (bD (bD (bJ Tryz.f72) 0) 0) Qa:=bf (cx:=zT) (sh:=aEi) (run:=fun n x=>M.nK x.1.1 x.1.2.1 n x.1.2.2.1) (cZ:=afM) aV KE aG (af (by kernel_rfl)) (fun _=>rfl) (fun m x=>by kernel_rfl) (ai ⟨dH,fun _ _ _=>rfl⟩ (ai ⟨bg,fun _ _ _=>rfl⟩ aY)) false az
theorem ahd:bH zT (bD (bJ Tryz.f72) 0) WZ:=bf (cx:=zT) (sh:=aHn) (run:=fun n x=>M.l7 n x.1.1 x.1.2.1) (cZ:=dZ) aV KE aG (aO 1 (by kernel_rfl) (bM (.mk (by kernel_rfl) adi))) (fun _=>rfl) (fun m x=>by kernel_rfl) (ai ⟨dH,fun _ _ _=>rfl⟩ (ai ⟨bg,fun _ _ _=>rfl⟩ aY)) false az
theorem arL:dD (Y4 (M.H5)):=fJ (cx:=zT) true KE Tryz.func72 (aS (aO 1 (by kernel_rfl) (bM (.mk (by kernel_rfl) ahd)))) ⟨zs0,fun x=>x.1.1⟩ (fun x=>by kernel_rfl)
def VX(y:(Int×Bool)⊕Int){R:Type}(k:KT R):R:=match y with|.inl a0=>kk k Ex.ret ⟨[.any,.int .i64,.bool],[]⟩ (((),(a0.1,(a0.2,()))),())|.inr a1=>kk k (Ex.exit 0) ⟨[.int .i64,.any,.any],[]⟩ ((a1,((),((),()))),())
def YD:List (gB K ((Int×Bool)⊕Int)):=[⟨Ex.ret,⟨[.any,.int .i64,.bool],[]⟩,fun x=>.inl (x.1.2.1,x.1.2.2.1)⟩,⟨(Ex.exit 0),⟨[.int .i64,.any,.any],[]⟩,fun x=>.inr (x.1.1)⟩]
def Jo:cO K:=df D false 39 0 [5,15,16,17] [5,2,3] aFv (fun x=>M.jr x.1.2.1 x.1.2.2.1 az x.1.1 x.1.2.2.2.1) VX
def La(m:(List UInt8)->Option (Int×Bool)):bG K:={f:=111,sh:=zs6,R:=Int×Bool,run:=fun x=>m x.1.1,dflt:=default,out:=fun r=>(Sh.enc D (.sO [.int .i64,.bool]) (r.1,(r.2,())),ja.encs D [] ())}
def yX:Cx K:=iZ [(138,.lF),(139,.plain),(88,.plain)] [Fz M.strings_Split,FB M.oI,mO M.AX] [(6,Jo)]
theorem Jp:aJ yX:=ak aV _ (ai ajT (ai ajU (ai rf aY)))
theorem VY:bH yX (bD (bJ Tryz.f111) 0) Jo:=bf (cx:=yX) (sh:=aFv) (run:=fun n x=>M.jr x.1.2.1 x.1.2.2.1 n x.1.1 x.1.2.2.2.1) (cZ:=YD) aV Jp aG (af (by kernel_rfl)) (fun _=>rfl) (fun m x=>by kernel_rfl) (ai ⟨dH,fun _ _ _=>rfl⟩ (ai ⟨bg,fun _ _ _=>rfl⟩ aY)) false az
theorem afN:dD (La (M.zI)):=fJ (cx:=yX) true Jp Tryz.func111 (aS (aO 1 (by kernel_rfl) (bM (.mk (by kernel_rfl) VY)))) ⟨aCa,fun x=>(x.1.1.1,x.1.1.2.1)⟩ (fun x=>by kernel_rfl)
def KF(m:(List UInt8)->Option Bool):bG K:=cB 84 zs6 (fun x=>m x.1.1)
def Y5:Cx K:=iZ [(111,.plain)] [La M.zI] []
theorem ajV:aJ Y5:=ak aV _ (ai afN aY)
theorem Y6:dD (KF (M.AY)):=fJ (cx:=Y5) true ajV Tryz.func84 (aS (af (by kernel_rfl))) ⟨zs0,fun x=>x.1.1⟩ (fun x=>by kernel_rfl)
def Qb:cO K:=df D false 20 0 [0,3] [2] aAO (fun x=>M.nM x.1.1 az x.1.2.1) dU
def H6(m:(List (List UInt8))->Option Bool):bG K:=cB 116 aoK (fun x=>m x.1.1)
def DN:Cx K:=iZ [] [] [(2,Qb)]
theorem Qc:aJ DN:=ak aV _ aY
theorem adk:bH DN (bD (bJ Tryz.f116) 0) Qb:=bf (cx:=DN) (sh:=aAO) (run:=fun n x=>M.nM x.1.1 n x.1.2.1) (cZ:=dZ) aV Qc aG (af (by kernel_rfl)) (fun _=>rfl) (fun m x=>by kernel_rfl) (ai ⟨dH,fun _ _ _=>rfl⟩ (ai ⟨bg,fun _ _ _=>rfl⟩ aY)) false az
theorem W9:dD (H6 (M.uZ)):=fJ (cx:=DN) true Qc Tryz.func116 (aS (aO 1 (by kernel_rfl) (bM (.mk (by kernel_rfl) adk)))) ⟨zs0,fun x=>x.1.1⟩ (fun x=>by kernel_rfl)
def Xa(m:(List UInt8)->Option Bool):bG K:=cB 141 zs6 (fun x=>m x.1.1)
theorem aoL:dD (Xa (M.Jq)):=fJ (cx:=H7) true N9 Tryz.func141 (aS (af (by kernel_rfl))) ⟨zs0,fun x=>x.1.1⟩ (fun x=>by kernel_rfl)
def qi:cO K:=df D false 19 0 [0,1,7,8] [4] aFw (fun x=>M.fA x.1.1 x.1.2.2.1 az x.1.2.2.2.1) dL
def qN(m:(List (List UInt8))->Option Int):bG K:=cI 181 ⟨[.bY U.str,.fn 141 []],[]⟩ (fun x=>m x.1.1)
def jh:Cx K:=iZ [(141,.plain)] [Xa M.Jq] [(2,qi)]
theorem qj:aJ jh:=ak aV _ (ai aoL aY)
theorem Aw:bH jh (bD (bJ Tryz.f181) 0) qi:=bf (cx:=jh) (sh:=aFw) (run:=fun n x=>M.fA x.1.1 x.1.2.2.1 n x.1.2.2.2.1) (cZ:=dQ) aV qj aG (af (by kernel_rfl)) (fun _=>rfl) (fun m x=>by kernel_rfl) (ai ⟨dH,fun _ _ _=>rfl⟩ (ai ⟨bg,fun _ _ _=>rfl⟩ aY)) false az
theorem Df:dD (qN (M.jK)):=fJ (cx:=jh) true qj Tryz.func181 (aS (aO 1 (by kernel_rfl) (bM (.mk (by kernel_rfl) Aw)))) ⟨zs1,fun x=>x.1.1⟩ (fun x=>by kernel_rfl)
def oq(m:(List (List UInt8))->Option Bool):bG K:=cB 140 ⟨[.bY U.str,.fn 141 []],[]⟩ (fun x=>m x.1.1)
def pz:Cx K:=iZ [(181,.plain)] [qN M.jK] []
theorem Af:aJ pz:=ak aV _ (ai Df aY)
theorem AZ:dD (oq (M.iq)):=fJ (cx:=pz) true Af Tryz.func140 (aS (af (by kernel_rfl))) ⟨zs0,fun x=>x.1.1⟩ (fun x=>by kernel_rfl)
def VZ(m:M.ae->Option Bool):bG K:=cB 183 zs8 (fun x=>m x.1.1)
def alT:Cx K:=iZ [(223,.plain),(224,.plain),(225,.plain)] [A7 M.aum,yB M.aop,ji M.acQ] []
theorem arM:aJ alT:=ak aV _ (ai aAP (ai ayd (ai aun aY)))
theorem alU:dD (VZ (M.Oa)):=fJ (cx:=alT) true arM Tryz.func183 (aS (af (by kernel_rfl))) ⟨zs0,fun x=>x.1.1⟩ (fun x=>by kernel_rfl)
def ahe(y:Bool⊕((List M.ay)×(List (List UInt8)))){R:Type}(k:KT R):R:=match y with|.inl a0=>kk k Ex.ret aAQ (((),((),(a0,()))),((),((),())))|.inr a1=>kk k (Ex.exit 0) aFx ((a1.1,((),((),()))),((),(a1.2,())))
def ajW:List (gB K ((Bool)⊕((List M.ay)×(List (List UInt8))))):=[⟨Ex.ret,aAQ,fun x=>.inl x.1.2.2.1⟩,⟨(Ex.exit 0),aFx,fun x=>.inr ((x.1.1,x.2.2.1))⟩]
def Xb:cO K:=df D false 41 1 [0,3,7,8,9] [0,3,2] aFy (fun x=>M.rq x.1.1 x.1.2.2.1 x.1.2.2.2.1 az x.1.2.2.2.2.1 x.2.2.1) ahe
def Y7(m:(List M.ay)->Option Bool):bG K:=cB 182 ⟨[.bY U.Param],[]⟩ (fun x=>m x.1.1)
def IE:Cx K:=iZ [(83,.plain),(183,.plain),(157,.plain),(123,.plain)] [BQ M.qO,VZ M.Oa,LU M.ahf,xI M.mP] [(3,Xb)]
theorem Xc:aJ IE:=ak aV _ (ai Jr (ai alU (ai Y8 (ai IG aY))))
theorem ahg:bH IE (bD (bJ Tryz.f182) 0) Xb:=bf (cx:=IE) (sh:=aFy) (run:=fun n x=>M.rq x.1.1 x.1.2.2.1 x.1.2.2.2.1 n x.1.2.2.2.2.1 x.2.2.1) (cZ:=ajW) aV Xc aG (af (by kernel_rfl)) (fun _=>rfl) (fun m x=>by kernel_rfl) (ai ⟨dH,fun _ _ _=>rfl⟩ (ai ⟨bg,fun _ _ _=>rfl⟩ aY)) false az
theorem arN:dD (Y7 (M.Oc)):=fJ (cx:=IE) true Xc Tryz.func182 (aS (aO 1 (by kernel_rfl) (bM (.mk (by kernel_rfl) ahg)))) ⟨zs0,fun x=>x.1.1⟩ (fun x=>by kernel_rfl)
def ahh(m:M.ah->Option Bool):bG K:=cB 142 arJ (fun x=>m x.1.1)
def alV:Cx K:=iZ [(182,.plain),(183,.plain),(150,.plain)] [Y7 M.Oc,VZ M.Oa,iJ M.nV] []
theorem arO:aJ alV:=ak aV _ (ai arN (ai alU (ai V3 aY)))
theorem avZ:dD (ahh (M.Y9)):=fJ (cx:=alV) true arO Tryz.func142 (aS (af (by kernel_rfl))) ⟨zs0,fun x=>x.1.1⟩ (fun x=>by kernel_rfl)
def nN(m:M.ae->Option ((List (List UInt8)))):bG K:={f:=184,sh:=zs8,R:=(List (List UInt8)),run:=fun x=>m x.1.1,dflt:=default,out:=fun r=>(Sh.enc D (.own 0) (),ja.encs D [.arr U.str] (r,()))}
def sU(y:(List (List UInt8))){R:Type}(k:KT R):R:=match y with|a0=>kk k (Ex.exit 0) aIO (((),()),((),(a0,())))
def ve:List (gB K ((List (List UInt8)))):=[⟨(Ex.exit 0),aIO,fun x=>x.2.2.1⟩]
def Tn(dG:M.ae->Option ((List (List UInt8)))):cO K:=df D false 33 1 [3,21,22,23] [3] aFz (fun x=>M.mQ dG x.1.2.1 x.1.2.2.1 az x.1.2.2.2.1 x.2.2.1) sU
def FC(dG:M.ae->Option ((List (List UInt8)))):Cx K:={Js with mode:=iY .plain [(184,.fresh)],rsl:=[[some U.str]],call:=callOf D [nN dG],loop:=iO [(5,Tn dG)]}
theorem Tq(dG:M.ae->Option ((List (List UInt8))))(sF:dD (nN dG)):aJ (FC dG):=ak aV _ (ai sF aY)
theorem afO(dG:M.ae->Option ((List (List UInt8))))(sF:dD (nN dG)):bH (FC dG) (bD (bJ Tryz.f184) 0) (Tn dG):=bf (cx:=FC dG) (sh:=aFz) (run:=fun n x=>M.mQ dG x.1.2.1 x.1.2.2.1 n x.1.2.2.2.1 x.2.2.1) (cZ:=ve) aV (Tq dG sF) aG (af (by kernel_rfl)) (fun _=>rfl) (fun m x=>by kernel_rfl) (ai ⟨bg,fun _ _ _=>rfl⟩ aY) false az
theorem ajX(dG:M.ae->Option ((List (List UInt8))))(sF:dD (nN dG)):dD (nN (M.II dG)):=vg (cx:=FC dG) (fz:=false) aV (Tq dG sF) aG ⟨Tryz.func184,by kernel_rfl⟩ (aS (aO 1 (by kernel_rfl) (bM (.mk (by kernel_rfl) (afO dG sF))))) ⟨aEj,fun x=>x.2.1⟩ (fun x=>rfl) (fun x=>by kernel_rfl)
theorem Tt:∀n,dD (nN (M.oJ n))|0=>qW fun _=>rfl|n+1=>ajX (M.oJ n) (Tt n)
theorem aoM:dD (nN (M.Ez)):=Tt az
def Jt:cO K:=df D false 23 1 [3,10,11,12] [3] aFA (fun x=>M.lG x.1.2.1 x.1.2.2.1 az x.1.2.2.2.1 x.2.2.1) sU
def Lc(m:M.ah->Option ((List (List UInt8)))):bG K:={f:=143,sh:=arJ,R:=(List (List UInt8)),run:=fun x=>m x.1.1,dflt:=default,out:=fun r=>(Sh.enc D (.bY U.str) r,ja.encs D [] ())}
def yY:Cx K:=iZ [(184,.fresh)] [nN M.Ez] [(3,Jt)]
theorem Ju:aJ yY:=ak aV _ (ai aoM aY)
theorem V4:bH yY (bD (bJ Tryz.f143) 0) Jt:=bf (cx:=yY) (sh:=aFA) (run:=fun n x=>M.lG x.1.2.1 x.1.2.2.1 n x.1.2.2.2.1 x.2.2.1) (cZ:=ve) aV Ju aG (af (by kernel_rfl)) (fun _=>rfl) (fun m x=>by kernel_rfl) (ai ⟨bg,fun _ _ _=>rfl⟩ aY) false az
theorem afP:dD (Lc (M.zJ)):=fJ (cx:=yY) true Ju Tryz.func143 (aS (aO 1 (by kernel_rfl) (bM (.mk (by kernel_rfl) V4)))) ⟨aoK,fun x=>x.1.1⟩ (fun x=>by kernel_rfl)
def wZ:cO K:=df D false 19 0 [0,1,7,8] [4] aFB (fun x=>M.gK x.1.1 x.1.2.1 x.1.2.2.1 az x.1.2.2.2.1) dL
def xJ(m:(List (List UInt8))->(List UInt8)->Option Int):bG K:=cI 185 aHo (fun x=>m x.1.1 x.1.2.1)
def kP:Cx K:=iZ [] [] [(2,wZ)]
theorem xe:aJ kP:=ak aV _ aY
theorem E5:bH kP (bD (bJ Tryz.f185) 0) wZ:=bf (cx:=kP) (sh:=aFB) (run:=fun n x=>M.gK x.1.1 x.1.2.1 x.1.2.2.1 n x.1.2.2.2.1) (cZ:=dQ) aV xe aG (af (by kernel_rfl)) (fun _=>rfl) (fun m x=>by kernel_rfl) (ai ⟨dH,fun _ _ _=>rfl⟩ (ai ⟨bg,fun _ _ _=>rfl⟩ aY)) false az
theorem Jv:dD (xJ (M.mV)):=fJ (cx:=kP) true xe Tryz.func185 (aS (aO 1 (by kernel_rfl) (bM (.mk (by kernel_rfl) E5)))) ⟨zs1,fun x=>x.1.1⟩ (fun x=>by kernel_rfl)
def lV(m:(List (List UInt8))->(List UInt8)->Option Bool):bG K:=cB 145 aHo (fun x=>m x.1.1 x.1.2.1)
def vk:Cx K:=iZ [(185,.plain)] [xJ M.mV] []
theorem Ed:aJ vk:=ak aV _ (ai Jv aY)
theorem vz:dD (lV (M.fG)):=fJ (cx:=vk) true Ed Tryz.func145 (aS (af (by kernel_rfl))) ⟨zs0,fun x=>x.1.1⟩ (fun x=>by kernel_rfl)
def Xd(m:(List UInt8)->M.aI->Option Bool):bG K:=cB 144 ⟨[.str,.rp U.dE 0],[]⟩ (fun x=>m x.1.1 x.1.2.1)
def Za:Cx K:=iZ [(145,.plain)] [lV M.fG] []
theorem ajY:aJ Za:=ak aV _ (ai vz aY)
theorem aoN:dD (Xd (M.Jw)):=fJ (cx:=Za) true ajY Tryz.func144 (aS (af (by kernel_rfl))) ⟨zs0,fun x=>x.1.1⟩ (fun x=>by kernel_rfl)
def ql:cO K:=df D false 19 0 [0,1,7,8] [4] aFC (fun x=>M.fB x.1.1 x.1.2.1.1 x.1.2.2.1 az x.1.2.2.2.1) dL
def qP(m:(List (List UInt8))->M.aI->Option Int):bG K:=cI 181 aFD (fun x=>m x.1.1 x.1.2.1.1)
def jk:Cx K:=iZ [(144,.plain)] [Xd M.Jw] [(2,ql)]
theorem qm:aJ jk:=ak aV _ (ai aoN aY)
theorem Az:bH jk (bD (bJ Tryz.f181) 0) ql:=bf (cx:=jk) (sh:=aFC) (run:=fun n x=>M.fB x.1.1 x.1.2.1.1 x.1.2.2.1 n x.1.2.2.2.1) (cZ:=dQ) aV qm aG (af (by kernel_rfl)) (fun _=>rfl) (fun m x=>by kernel_rfl) (ai ⟨dH,fun _ _ _=>rfl⟩ (ai ⟨bg,fun _ _ _=>rfl⟩ aY)) false az
theorem Dh:dD (qP (M.jL)):=fJ (cx:=jk) true qm Tryz.func181 (aS (aO 1 (by kernel_rfl) (bM (.mk (by kernel_rfl) Az)))) ⟨zs1,fun x=>x.1.1⟩ (fun x=>by kernel_rfl)
def ou(m:(List (List UInt8))->M.aI->Option Bool):bG K:=cB 140 aFD (fun x=>m x.1.1 x.1.2.1.1)
def pF:Cx K:=iZ [(181,.plain)] [qP M.jL] []
theorem Ag:aJ pF:=ak aV _ (ai Dh aY)
theorem A8:dD (ou (M.iw)):=fJ (cx:=pF) true Ag Tryz.func140 (aS (af (by kernel_rfl))) ⟨zs0,fun x=>x.1.1⟩ (fun x=>by kernel_rfl)
def anb(y:Bool⊕((List (List UInt8)))){R:Type}(k:KT R):R:=match y with|.inl a0=>kk k Ex.ret ⟨[.any,.bool],[.dead,.dead,.dead]⟩ (((),(a0,())),((),((),((),()))))|.inr a1=>kk k (Ex.exit 0) aFE (((),((),())),((),((),(a1,()))))
def aoO:List (gB K ((Bool)⊕((List (List UInt8))))):=[⟨Ex.ret,⟨[.any,.bool],[.dead,.dead,.dead]⟩,fun x=>.inl x.1.2.1⟩,⟨(Ex.exit 0),aFE,fun x=>.inr (x.2.2.2.1)⟩]
def ad6:cO K:=df D false 74 2 [1,3,45,46,47] [3,2] aFF (fun x=>M.yC x.1.2.2.1 x.1.2.2.2.1 x.2.1 az x.1.2.2.2.2.1 x.2.2.2.1) anb
def ahi(m:M.aI->Option Bool):bG K:=cB 112 aB9 (fun x=>m x.1.1)
def Qd:Cx K:=iZ [(83,.plain),(84,.plain),(116,.plain),(140,.plain),(142,.plain),(143,.lF)] [BQ M.qO,KF M.AY,H6 M.uZ,oq M.iq,ahh M.Y9,Lc M.zJ,ou M.iw] [(7,ad6)]
theorem ad7:aJ Qd:=ak aV _ (ai Jr (ai Y6 (ai W9 (ai AZ (ai avZ (ai afP (ai A8 aY)))))))
theorem anc:bH Qd (bD (bJ Tryz.f112) 0) ad6:=bf (cx:=Qd) (sh:=aFF) (run:=fun n x=>M.yC x.1.2.2.1 x.1.2.2.2.1 x.2.1 n x.1.2.2.2.2.1 x.2.2.2.1) (cZ:=aoO) aV ad7 aG (af (by kernel_rfl)) (fun _=>rfl) (fun m x=>by kernel_rfl) (ai ⟨dH,fun _ _ _=>rfl⟩ (ai ⟨bg,fun _ _ _=>rfl⟩ aY)) false az
theorem av1:dD (ahi (M.Zb)):=fJ (cx:=Qd) true ad7 Tryz.func112 (aS (aO 1 (by kernel_rfl) (bM (.mk (by kernel_rfl) anc)))) ⟨zs0,fun x=>x.1.1⟩ (fun x=>by kernel_rfl)
def ane(y:(List M.ae)){R:Type}(k:KT R):R:=match y with|a0=>kk k (Ex.exit 0) ⟨[.own 1],[.dead,.arr U.Type]⟩ (((),()),((),(a0,())))
def aoP:List (gB K ((List M.ae))):=[⟨(Ex.exit 0),⟨[.own 1],[.dead,.arr U.Type]⟩,fun x=>x.2.2.1⟩]
def ad8:cO K:=df D false 21 1 [3,8,9,10] [3] aFG (fun x=>M.pG x.1.2.1 x.1.2.2.1 az x.1.2.2.2.1 x.2.2.1) ane
def V5(m:M.ah->Option ((List M.ae))):bG K:={f:=148,sh:=arJ,R:=(List M.ae),run:=fun x=>m x.1.1,dflt:=default,out:=fun r=>(Sh.enc D (.own 0) (),ja.encs D [.arr U.Type] (r,()))}
def Qe:Cx K:={Js with mode:=iY .plain [],rsl:=[[some U.Type]],call:=callOf D [],loop:=iO [(3,ad8)]}
theorem ad9:aJ Qe:=ak aV _ aY
theorem anf:bH Qe (bD (bJ Tryz.f148) 0) ad8:=bf (cx:=Qe) (sh:=aFG) (run:=fun n x=>M.pG x.1.2.1 x.1.2.2.1 n x.1.2.2.2.1 x.2.2.1) (cZ:=aoP) aV ad9 aG (af (by kernel_rfl)) (fun _=>rfl) (fun m x=>by kernel_rfl) (ai ⟨bg,fun _ _ _=>rfl⟩ aY) false az
theorem alW:dD (V5 (M.FD)):=fJ (cx:=Qe) false ad9 Tryz.func148 (aS (aO 1 (by kernel_rfl) (bM (.mk (by kernel_rfl) anf)))) ⟨⟨[.own 0],[.arr U.Type]⟩,fun x=>x.2.1⟩ (fun x=>by kernel_rfl)
def Oe(m:M.ae->Option Bool):bG K:=cB 149 zs8 (fun x=>m x.1.1)
def Qg:Cx K:=iZ [(150,.plain)] [iJ M.nV] []
theorem adm:aJ Qg:=ak aV _ (ai V3 aY)
theorem ahj:dD (Oe (M.Ba)):=fJ (cx:=Qg) true adm Tryz.func149 (aS (af (by kernel_rfl))) ⟨zs0,fun x=>x.1.1⟩ (fun x=>by kernel_rfl)
def uG:cO K:=df D false 19 0 [0,1,7,8] [4] aFH (fun x=>M.fK x.1.1 x.1.2.2.1 az x.1.2.2.2.1) dL
def vC(m:(List M.ae)->Option Int):bG K:=cI 186 ⟨[.bY U.Type,.fn 149 []],[]⟩ (fun x=>m x.1.1)
def jT:Cx K:=iZ [(149,.plain)] [Oe M.Ba] [(2,uG)]
theorem uH:aJ jT:=ak aV _ (ai ahj aY)
theorem Di:bH jT (bD (bJ Tryz.f186) 0) uG:=bf (cx:=jT) (sh:=aFH) (run:=fun n x=>M.fK x.1.1 x.1.2.2.1 n x.1.2.2.2.1) (cZ:=dQ) aV uH aG (af (by kernel_rfl)) (fun _=>rfl) (fun m x=>by kernel_rfl) (ai ⟨dH,fun _ _ _=>rfl⟩ (ai ⟨bg,fun _ _ _=>rfl⟩ aY)) false az
theorem Hg:dD (vC (M.kZ)):=fJ (cx:=jT) true uH Tryz.func186 (aS (aO 1 (by kernel_rfl) (bM (.mk (by kernel_rfl) Di)))) ⟨zs1,fun x=>x.1.1⟩ (fun x=>by kernel_rfl)
def ru(m:(List M.ae)->Option Bool):bG K:=cB 147 ⟨[.bY U.Type,.fn 149 []],[]⟩ (fun x=>m x.1.1)
def sV:Cx K:=iZ [(186,.plain)] [vC M.kZ] []
theorem CQ:aJ sV:=ak aV _ (ai Hg aY)
theorem Ee:dD (ru (M.iT)):=fJ (cx:=sV) true CQ Tryz.func147 (aS (af (by kernel_rfl))) ⟨zs0,fun x=>x.1.1⟩ (fun x=>by kernel_rfl)
def Xe(m:M.ah->Option Bool):bG K:=cB 115 arJ (fun x=>m x.1.1)
def Zc:Cx K:=iZ [(148,.fresh),(147,.plain)] [V5 M.FD,ru M.iT] []
theorem ajZ:aJ Zc:=ak aV _ (ai alW (ai Ee aY))
theorem aoQ:dD (Xe (M.Jy)):=fJ (cx:=Zc) true ajZ Tryz.func115 (aS (af (by kernel_rfl))) ⟨zs0,fun x=>x.1.1⟩ (fun x=>by kernel_rfl)
def Tu(m:M.aQ->Option Bool):bG K:=cB 114 ⟨[.el U.Func],[]⟩ (fun x=>m x.1.1)
def Xf:Cx K:=iZ [(115,.plain)] [Xe M.Jy] []
theorem ahk:aJ Xf:=ak aV _ (ai aoQ aY)
theorem ang:dD (Tu (M.FH)):=fJ (cx:=Xf) true ahk Tryz.func114 (aS (af (by kernel_rfl))) ⟨zs0,fun x=>x.1.1⟩ (fun x=>by kernel_rfl)
def xg:cO K:=df D false 19 0 [0,1,7,8] [4] aFI (fun x=>M.gQ x.1.1 x.1.2.2.1 az x.1.2.2.2.1) dL
def xK(m:(List M.aQ)->Option Int):bG K:=cI 146 ⟨[.bY U.Func,.fn 114 []],[]⟩ (fun x=>m x.1.1)
def kQ:Cx K:=iZ [(114,.plain)] [Tu M.FH] [(2,xg)]
theorem xh:aJ kQ:=ak aV _ (ai ang aY)
theorem E8:bH kQ (bD (bJ Tryz.f146) 0) xg:=bf (cx:=kQ) (sh:=aFI) (run:=fun n x=>M.gQ x.1.1 x.1.2.2.1 n x.1.2.2.2.1) (cZ:=dQ) aV xh aG (af (by kernel_rfl)) (fun _=>rfl) (fun m x=>by kernel_rfl) (ai ⟨dH,fun _ _ _=>rfl⟩ (ai ⟨bg,fun _ _ _=>rfl⟩ aY)) false az
theorem Jz:dD (xK (M.mW)):=fJ (cx:=kQ) true xh Tryz.func146 (aS (aO 1 (by kernel_rfl) (bM (.mk (by kernel_rfl) E8)))) ⟨zs1,fun x=>x.1.1⟩ (fun x=>by kernel_rfl)
def uI(m:(List M.aQ)->Option Bool):bG K:=cB 113 ⟨[.bY U.Func,.fn 114 []],[]⟩ (fun x=>m x.1.1)
def vF:Cx K:=iZ [(146,.plain)] [xK M.mW] []
theorem Ef:aJ vF:=ak aV _ (ai Jz aY)
theorem FI:dD (uI (M.jq)):=fJ (cx:=vF) true Ef Tryz.func113 (aS (af (by kernel_rfl))) ⟨zs0,fun x=>x.1.1⟩ (fun x=>by kernel_rfl)
def Bc(m:M.aI->Option ((List UInt8))):bG K:=cS 56 aB9 (fun x=>m x.1.1)
theorem IJ:dD (Bc (M.lD)):=fJ (cx:=bZ) true bP Tryz.func56 (aS (af (by kernel_rfl))) ⟨zs6,fun x=>x.1.1⟩ (fun x=>by kernel_rfl)
def aj0(y:Bool⊕((List M.aI)×(List (List UInt8)))){R:Type}(k:KT R):R:=match y with|.inl a0=>kk k Ex.ret aAQ (((),((),(a0,()))),((),((),())))|.inr a1=>kk k (Ex.exit 0) aFJ ((a1.1,((),((),()))),((),(a1.2,())))
def anh:List (gB K ((Bool)⊕((List M.aI)×(List (List UInt8))))):=[⟨Ex.ret,aAQ,fun x=>.inl x.1.2.2.1⟩,⟨(Ex.exit 0),aFJ,fun x=>.inr ((x.1.1,x.2.2.1))⟩]
def Zd:cO K:=df D false 34 1 [0,3,7,8,9] [0,3,2] aFK (fun x=>M.yZ x.1.1 x.1.2.2.1 x.1.2.2.2.1 az x.1.2.2.2.2.1 x.2.2.1) aj0
def aea(m:(List M.aI)->Option Bool):bG K:=cB 85 aAN (fun x=>m x.1.1)
def LV:Cx K:=iZ [(112,.plain),(113,.plain),(56,.plain),(116,.plain)] [ahi M.Zb,uI M.jq,Bc M.lD,H6 M.uZ] [(3,Zd)]
theorem Ze:aJ LV:=ak aV _ (ai av1 (ai FI (ai IJ (ai W9 aY))))
theorem aj1:bH LV (bD (bJ Tryz.f85) 0) Zd:=bf (cx:=LV) (sh:=aFK) (run:=fun n x=>M.yZ x.1.1 x.1.2.2.1 x.1.2.2.2.1 n x.1.2.2.2.2.1 x.2.2.1) (cZ:=anh) aV Ze aG (af (by kernel_rfl)) (fun _=>rfl) (fun m x=>by kernel_rfl) (ai ⟨dH,fun _ _ _=>rfl⟩ (ai ⟨bg,fun _ _ _=>rfl⟩ aY)) false az
theorem auo:dD (aea (M.NG)):=fJ (cx:=LV) true Ze Tryz.func85 (aS (aO 1 (by kernel_rfl) (bM (.mk (by kernel_rfl) aj1)))) ⟨zs0,fun x=>x.1.1⟩ (fun x=>by kernel_rfl)
def aeb(m:M.ay->M.ay->Option Bool):bG K:=cB 241 ⟨[.el U.Param,.el U.Param],[]⟩ (fun x=>m x.1.1 x.1.2.1)
def ahl:Cx K:=iZ [(199,.plain)] [mX M.Tv] []
theorem aoR:aJ ahl:=ak aV _ (ai alX aY)
theorem aup:dD (aeb (M.Tz)):=fJ (cx:=ahl) true aoR Tryz.func241 (aS (af (by kernel_rfl))) ⟨zs0,fun x=>x.1.1⟩ (fun x=>by kernel_rfl)
def Xg:cO K:=df D false 27 0 [0,1,5] [4] aFL (fun x=>M.wJ x.1.1 x.1.2.1 az x.1.2.2.1) dU
def Zf(m:(List M.ay)->(List M.ay)->Option Bool):bG K:=cB 198 ⟨[.bY U.Param,.bY U.Param],[]⟩ (fun x=>m x.1.1 x.1.2.1)
def IK:Cx K:=iZ [(241,.plain)] [aeb M.Tz] [(4,Xg)]
theorem Xh:aJ IK:=ak aV _ (ai aup aY)
theorem ahm:bH IK (bD (bJ Tryz.f198) 0) Xg:=bf (cx:=IK) (sh:=aFL) (run:=fun n x=>M.wJ x.1.1 x.1.2.1 n x.1.2.2.1) (cZ:=dZ) aV Xh aG (af (by kernel_rfl)) (fun _=>rfl) (fun m x=>by kernel_rfl) (ai ⟨dH,fun _ _ _=>rfl⟩ (ai ⟨bg,fun _ _ _=>rfl⟩ aY)) false az
theorem arP:dD (Zf (M.Og)):=fJ (cx:=IK) true Xh Tryz.func198 (aS (aO 1 (by kernel_rfl) (bM (.mk (by kernel_rfl) ahm)))) ⟨zs0,fun x=>x.1.1⟩ (fun x=>by kernel_rfl)
def TA(m:M.ah->M.ah->Option Bool):bG K:=cB 164 ⟨[.el U.lJ,.el U.lJ],[]⟩ (fun x=>m x.1.1 x.1.2.1)
def Xi:Cx K:=iZ [(198,.plain),(199,.plain)] [Zf M.Og,mX M.Tv] []
theorem ahn:aJ Xi:=ak aV _ (ai arP (ai alX aY))
theorem ani:dD (TA (M.FK)):=fJ (cx:=Xi) true ahn Tryz.func164 (aS (af (by kernel_rfl))) ⟨zs0,fun x=>x.1.1⟩ (fun x=>by kernel_rfl)
def aho(m:M.aQ->M.aQ->Option Bool):bG K:=cB 124 ⟨[.el U.Func,.el U.Func],[]⟩ (fun x=>m x.1.1 x.1.2.1)
def alY:Cx K:=iZ [(164,.plain)] [TA M.FK] []
theorem arQ:aJ alY:=ak aV _ (ai ani aY)
theorem av2:dD (aho (M.Zg)):=fJ (cx:=alY) true arQ Tryz.func124 (aS (af (by kernel_rfl))) ⟨zs0,fun x=>x.1.1⟩ (fun x=>by kernel_rfl)
def Zh:cO K:=df D false 27 0 [0,1,5] [4] aFM (fun x=>M.y8 x.1.1 x.1.2.1 az x.1.2.2.1) dU
def aec(m:(List M.aQ)->(List M.aQ)->Option Bool):bG K:=cB 93 ⟨[.bY U.Func,.bY U.Func],[]⟩ (fun x=>m x.1.1 x.1.2.1)
def LW:Cx K:=iZ [(124,.plain)] [aho M.Zg] [(4,Zh)]
theorem Zi:aJ LW:=ak aV _ (ai av2 aY)
theorem aj2:bH LW (bD (bJ Tryz.f93) 0) Zh:=bf (cx:=LW) (sh:=aFM) (run:=fun n x=>M.y8 x.1.1 x.1.2.1 n x.1.2.2.1) (cZ:=dZ) aV Zi aG (af (by kernel_rfl)) (fun _=>rfl) (fun m x=>by kernel_rfl) (ai ⟨dH,fun _ _ _=>rfl⟩ (ai ⟨bg,fun _ _ _=>rfl⟩ aY)) false az
theorem auq:dD (aec (M.TB)):=fJ (cx:=LW) true Zi Tryz.func93 (aS (aO 1 (by kernel_rfl) (bM (.mk (by kernel_rfl) aj2)))) ⟨zs0,fun x=>x.1.1⟩ (fun x=>by kernel_rfl)
def ahp(m:M.aI->M.aI->Option Bool):bG K:=cB 57 ⟨[.el U.dE,.el U.dE],[]⟩ (fun x=>m x.1.1 x.1.2.1)
def alZ:Cx K:=iZ [(9,.plain),(93,.plain)] [DR M.pI,aec M.TB] []
theorem arR:aJ alZ:=ak aV _ (ai Oh (ai auq aY))
theorem av3:dD (ahp (M.Zj)):=fJ (cx:=alZ) true arR Tryz.func57 (aS (af (by kernel_rfl))) ⟨zs0,fun x=>x.1.1⟩ (fun x=>by kernel_rfl)
def Zk:cO K:=df D false 27 0 [0,1,5] [4] aFN (fun x=>M.y9 x.1.1 x.1.2.1 az x.1.2.2.1) dU
def aed(m:(List M.aI)->(List M.aI)->Option Bool):bG K:=cB 30 ⟨[.bY U.dE,.bY U.dE],[]⟩ (fun x=>m x.1.1 x.1.2.1)
def LX:Cx K:=iZ [(57,.plain)] [ahp M.Zj] [(4,Zk)]
theorem Zl:aJ LX:=ak aV _ (ai av3 aY)
theorem aj3:bH LX (bD (bJ Tryz.f30) 0) Zk:=bf (cx:=LX) (sh:=aFN) (run:=fun n x=>M.y9 x.1.1 x.1.2.1 n x.1.2.2.1) (cZ:=dZ) aV Zl aG (af (by kernel_rfl)) (fun _=>rfl) (fun m x=>by kernel_rfl) (ai ⟨dH,fun _ _ _=>rfl⟩ (ai ⟨bg,fun _ _ _=>rfl⟩ aY)) false az
theorem aur:dD (aed (M.NH)):=fJ (cx:=LX) true Zl Tryz.func30 (aS (aO 1 (by kernel_rfl) (bM (.mk (by kernel_rfl) aj3)))) ⟨zs0,fun x=>x.1.1⟩ (fun x=>by kernel_rfl)
def ahq(m:M.dn->Int->Option Int):bG K:=cI 44 ⟨[.el U.sW,.int .i64],[]⟩ (fun x=>m x.1.1 x.1.2.1)
theorem av4:dD (ahq (M.Zm)):=fJ (cx:=bZ) true bP Tryz.func44 (aS (af (by kernel_rfl))) ⟨zs1,fun x=>x.1.1⟩ (fun x=>by kernel_rfl)
def Zn:cO K:=df D false 27 0 [0,1,5] [1,4] aFO (fun x=>M.zf x.1.1 az x.1.2.1 x.1.2.2.1) iG
def aee(m:(List M.dn)->Int->Option Int):bG K:=cI 18 ⟨[.bY U.sW,.int .i64],[]⟩ (fun x=>m x.1.1 x.1.2.1)
def LY:Cx K:=iZ [(44,.plain)] [ahq M.Zm] [(5,Zn)]
theorem Zo:aJ LY:=ak aV _ (ai av4 aY)
theorem aj6:bH LY (bD (bJ Tryz.f18) 0) Zn:=bf (cx:=LY) (sh:=aFO) (run:=fun n x=>M.zf x.1.1 n x.1.2.1 x.1.2.2.1) (cZ:=iP) aV Zo aG (af (by kernel_rfl)) (fun _=>rfl) (fun m x=>by kernel_rfl) (ai ⟨dH,fun _ _ _=>rfl⟩ (ai ⟨bg,fun _ _ _=>rfl⟩ aY)) false az
theorem aus:dD (aee (M.TC)):=fJ (cx:=LY) true Zo Tryz.func18 (aS (aO 1 (by kernel_rfl) (bM (.mk (by kernel_rfl) aj6)))) ⟨zs1,fun x=>x.1.1⟩ (fun x=>by kernel_rfl)
def aef(m:M.bF->Int->Option Int):bG K:=cI 45 ⟨[.el U.Lower,.int .i64],[]⟩ (fun x=>m x.1.1 x.1.2.1)
theorem aut:dD (aef (M.TD)):=fJ (cx:=bZ) true bP Tryz.func45 (aS (af (by kernel_rfl))) ⟨zs1,fun x=>x.1.1⟩ (fun x=>by kernel_rfl)
def Xj:cO K:=df D false 27 0 [0,1,5] [1,4] aFP (fun x=>M.wK x.1.1 az x.1.2.1 x.1.2.2.1) iG
def Zp(m:(List M.bF)->Int->Option Int):bG K:=cI 19 ⟨[.bY U.Lower,.int .i64],[]⟩ (fun x=>m x.1.1 x.1.2.1)
def IL:Cx K:=iZ [(45,.plain)] [aef M.TD] [(5,Xj)]
theorem Xk:aJ IL:=ak aV _ (ai aut aY)
theorem ahr:bH IL (bD (bJ Tryz.f19) 0) Xj:=bf (cx:=IL) (sh:=aFP) (run:=fun n x=>M.wK x.1.1 n x.1.2.1 x.1.2.2.1) (cZ:=iP) aV Xk aG (af (by kernel_rfl)) (fun _=>rfl) (fun m x=>by kernel_rfl) (ai ⟨dH,fun _ _ _=>rfl⟩ (ai ⟨bg,fun _ _ _=>rfl⟩ aY)) false az
theorem arS:dD (Zp (M.Oi)):=fJ (cx:=IL) true Xk Tryz.func19 (aS (aO 1 (by kernel_rfl) (bM (.mk (by kernel_rfl) ahr)))) ⟨zs1,fun x=>x.1.1⟩ (fun x=>by kernel_rfl)
def Xl(m:M.aN->Int->Option Int):bG K:=cI 46 ⟨[.el U.Builtin,.int .i64],[]⟩ (fun x=>m x.1.1 x.1.2.1)
theorem aoS:dD (Xl (M.JA)):=fJ (cx:=bZ) true bP Tryz.func46 (aS (af (by kernel_rfl))) ⟨zs1,fun x=>x.1.1⟩ (fun x=>by kernel_rfl)
def Qh:cO K:=df D false 27 0 [0,1,5] [1,4] aFQ (fun x=>M.qF x.1.1 az x.1.2.1 x.1.2.2.1) iG
def TE(m:(List M.aN)->Int->Option Int):bG K:=cI 20 ⟨[.bY U.Builtin,.int .i64],[]⟩ (fun x=>m x.1.1 x.1.2.1)
def DT:Cx K:=iZ [(46,.plain)] [Xl M.JA] [(5,Qh)]
theorem Qi:aJ DT:=ak aV _ (ai aoS aY)
theorem adn:bH DT (bD (bJ Tryz.f20) 0) Qh:=bf (cx:=DT) (sh:=aFQ) (run:=fun n x=>M.qF x.1.1 n x.1.2.1 x.1.2.2.1) (cZ:=iP) aV Qi aG (af (by kernel_rfl)) (fun _=>rfl) (fun m x=>by kernel_rfl) (ai ⟨dH,fun _ _ _=>rfl⟩ (ai ⟨bg,fun _ _ _=>rfl⟩ aY)) false az
theorem anj:dD (TE (M.FM)):=fJ (cx:=DT) true Qi Tryz.func20 (aS (aO 1 (by kernel_rfl) (bM (.mk (by kernel_rfl) adn)))) ⟨zs1,fun x=>x.1.1⟩ (fun x=>by kernel_rfl)
def Qj(m:M.aA->Int->Option Int):bG K:=cI 5 ⟨[.el U.gX,.int .i64],[]⟩ (fun x=>m x.1.1 x.1.2.1)
def TF:Cx K:=iZ [(16,.plain),(17,.plain),(18,.plain),(19,.plain),(20,.plain)] [aeg M.NI,Zq M.Oj,aee M.TC,Zp M.Oi,TE M.FM] []
theorem afQ:aJ TF:=ak aV _ (ai auu (ai arT (ai aus (ai arS (ai anj aY)))))
theorem aj7:dD (Qj (M.Dj)):=fJ (cx:=TF) true afQ Tryz.func5 (aS (af (by kernel_rfl))) ⟨zs1,fun x=>x.1.1⟩ (fun x=>by kernel_rfl)
def ahs(m:M.dn->Option (M.dn)):bG K:={f:=52,sh:=⟨[.el U.sW],[]⟩,R:=M.dn,run:=fun x=>m x.1.1,dflt:=default,out:=fun r=>(Sh.enc D (.el U.sW) r,ja.encs D [] ())}
theorem av5:dD (ahs (M.aht)):=fJ (cx:=zU) false zK Tryz.func52 (aS (af (by kernel_rfl))) ⟨⟨[.el U.sW],[]⟩,fun x=>x.1.1⟩ (fun x=>by kernel_rfl)
def aj8(y:(List M.dn)){R:Type}(k:KT R):R:=match y with|a0=>kk k (Ex.exit 0) ⟨[.own 1],[.dead,.arr U.sW]⟩ (((),()),((),(a0,())))
def ank:List (gB K ((List M.dn))):=[⟨(Ex.exit 0),⟨[.own 1],[.dead,.arr U.sW]⟩,fun x=>x.2.2.1⟩]
def Zr:cO K:=df D false 23 1 [0,3,4] [3] aFR (fun x=>M.vG x.1.1 az x.1.2.2.1 x.2.2.1) aj8
def aeh(m:(List M.dn)->Option ((List M.dn))):bG K:={f:=25,sh:=⟨[.bY U.sW],[]⟩,R:=(List M.dn),run:=fun x=>m x.1.1,dflt:=default,out:=fun r=>(Sh.enc D (.own 0) (),ja.encs D [.arr U.sW] (r,()))}
def LZ:Cx K:={Js with mode:=iY .plain [(52,.fresh)],rsl:=[[some U.sW]],deep:=fun c=>dK (D.cells c (K.zero c)),call:=callOf D [ahs M.aht],loop:=iO [(3,Zr)]}
theorem Zt:aJ LZ:=ak aV _ (ai av5 aY)
theorem aj9:bH LZ (bD (bJ Tryz.f25) 0) Zr:=bf (cx:=LZ) (sh:=aFR) (run:=fun n x=>M.vG x.1.1 n x.1.2.2.1 x.2.2.1) (cZ:=ank) aV Zt aG (af (by kernel_rfl)) (fun _=>rfl) (fun m x=>by kernel_rfl) (ai ⟨bg,fun _ _ _=>rfl⟩ aY) false az
theorem auv:dD (aeh (M.TG)):=fJ (cx:=LZ) false Zt Tryz.func25 (aS (aO 1 (by kernel_rfl) (bM (.mk (by kernel_rfl) aj9)))) ⟨⟨[.own 0],[.arr U.sW]⟩,fun x=>x.2.1⟩ (fun x=>by kernel_rfl)
def aei(m:M.bF->Option (M.bF)):bG K:={f:=53,sh:=⟨[.el U.Lower],[]⟩,R:=M.bF,run:=fun x=>m x.1.1,dflt:=default,out:=fun r=>(Sh.enc D (.el U.Lower) r,ja.encs D [] ())}
theorem auw:dD (aei (M.acR)):=fJ (cx:=zU) false zK Tryz.func53 (aS (af (by kernel_rfl))) ⟨⟨[.el U.Lower],[]⟩,fun x=>x.1.1⟩ (fun x=>by kernel_rfl)
def ahu(y:(List M.bF)){R:Type}(k:KT R):R:=match y with|a0=>kk k (Ex.exit 0) ⟨[.own 1],[.dead,.arr U.Lower]⟩ (((),()),((),(a0,())))
def aka:List (gB K ((List M.bF))):=[⟨(Ex.exit 0),⟨[.own 1],[.dead,.arr U.Lower]⟩,fun x=>x.2.2.1⟩]
def Xm:cO K:=df D false 23 1 [0,3,4] [3] aFS (fun x=>M.ry x.1.1 az x.1.2.2.1 x.2.2.1) ahu
def Zu(m:(List M.bF)->Option ((List M.bF))):bG K:={f:=26,sh:=⟨[.bY U.Lower],[]⟩,R:=(List M.bF),run:=fun x=>m x.1.1,dflt:=default,out:=fun r=>(Sh.enc D (.own 0) (),ja.encs D [.arr U.Lower] (r,()))}
def IM:Cx K:={Js with mode:=iY .plain [(53,.fresh)],rsl:=[[some U.Lower]],deep:=fun c=>dK (D.cells c (K.zero c)),call:=callOf D [aei M.acR],loop:=iO [(3,Xm)]}
theorem Xn:aJ IM:=ak aV _ (ai auw aY)
theorem ahv:bH IM (bD (bJ Tryz.f26) 0) Xm:=bf (cx:=IM) (sh:=aFS) (run:=fun n x=>M.ry x.1.1 n x.1.2.2.1 x.2.2.1) (cZ:=aka) aV Xn aG (af (by kernel_rfl)) (fun _=>rfl) (fun m x=>by kernel_rfl) (ai ⟨bg,fun _ _ _=>rfl⟩ aY) false az
theorem arU:dD (Zu (M.Ol)):=fJ (cx:=IM) false Xn Tryz.func26 (aS (aO 1 (by kernel_rfl) (bM (.mk (by kernel_rfl) ahv)))) ⟨⟨[.own 0],[.arr U.Lower]⟩,fun x=>x.2.1⟩ (fun x=>by kernel_rfl)
def Xo(m:M.aN->Option (M.aN)):bG K:={f:=54,sh:=⟨[.el U.Builtin],[]⟩,R:=M.aN,run:=fun x=>m x.1.1,dflt:=default,out:=fun r=>(Sh.enc D (.el U.Builtin) r,ja.encs D [] ())}
theorem aoT:dD (Xo (M.Qk)):=fJ (cx:=zU) false zK Tryz.func54 (aS (af (by kernel_rfl))) ⟨⟨[.el U.Builtin],[]⟩,fun x=>x.1.1⟩ (fun x=>by kernel_rfl)
def ado(y:(List M.aN)){R:Type}(k:KT R):R:=match y with|a0=>kk k (Ex.exit 0) ⟨[.own 1],[.dead,.arr U.Builtin]⟩ (((),()),((),(a0,())))
def afR:List (gB K ((List M.aN))):=[⟨(Ex.exit 0),⟨[.own 1],[.dead,.arr U.Builtin]⟩,fun x=>x.2.2.1⟩]
def Ql:cO K:=df D false 23 1 [0,3,4] [3] aFT (fun x=>M.nO x.1.1 az x.1.2.2.1 x.2.2.1) ado
def TI(m:(List M.aN)->Option ((List M.aN))):bG K:={f:=27,sh:=⟨[.bY U.Builtin],[]⟩,R:=(List M.aN),run:=fun x=>m x.1.1,dflt:=default,out:=fun r=>(Sh.enc D (.own 0) (),ja.encs D [.arr U.Builtin] (r,()))}
def DU:Cx K:={Js with mode:=iY .plain [(54,.fresh)],rsl:=[[some U.Builtin]],deep:=fun c=>dK (D.cells c (K.zero c)),call:=callOf D [Xo M.Qk],loop:=iO [(3,Ql)]}
theorem Qm:aJ DU:=ak aV _ (ai aoT aY)
theorem adp:bH DU (bD (bJ Tryz.f27) 0) Ql:=bf (cx:=DU) (sh:=aFT) (run:=fun n x=>M.nO x.1.1 n x.1.2.2.1 x.2.2.1) (cZ:=afR) aV Qm aG (af (by kernel_rfl)) (fun _=>rfl) (fun m x=>by kernel_rfl) (ai ⟨bg,fun _ _ _=>rfl⟩ aY) false az
theorem anl:dD (TI (M.FN)):=fJ (cx:=DU) false Qm Tryz.func27 (aS (aO 1 (by kernel_rfl) (bM (.mk (by kernel_rfl) adp)))) ⟨⟨[.own 0],[.arr U.Builtin]⟩,fun x=>x.2.1⟩ (fun x=>by kernel_rfl)
def ahw(y:Bool⊕(M.aK)){R:Type}(k:KT R):R:=match y with|.inl a0=>kk k Ex.ret aAR (((),(a0,())),((),()))|.inr a1=>kk k (Ex.exit 0) ⟨[.ptr 0 0,.any],[.el U.Module]⟩ (((),((),())),(a1,()))
def akb:List (gB K ((Bool)⊕(M.aK))):=[⟨Ex.ret,aAR,fun x=>.inl x.1.2.1⟩,⟨(Ex.exit 0),⟨[.ptr 0 0,.any],[.el U.Module]⟩,fun x=>.inr (x.2.1)⟩]
def Xp:cO K:=df D false 82 1 [1,3] [1,2] aAS (fun x=>M.wL x.2.1 az x.1.2.1) ahw
def ahx(m:M.bK->Option Bool):bG K:=cB 245 aCb (fun x=>m x.1.1)
def al0:Cx K:=iZ [(300,.plain),(73,.plain)] [ahy M.aoU,vH M.L6] []
theorem arV:aJ al0:=ak aV _ (ai av6 (ai Bd aY))
theorem av7:dD (ahx (M.ahz)):=fJ (cx:=al0) true arV Tryz.func245 (aS (af (by kernel_rfl))) ⟨zs0,fun x=>x.1.1⟩ (fun x=>by kernel_rfl)
def Zv:cO K:=df D false 40 1 [1,3] [2] ⟨[.ptr 0 0,.int .i64],[.el U.Core]⟩ (fun x=>M.zg x.2.1 az x.1.2.1) kN
def aej(m:M.aH->Option Bool):bG K:=cB 207 aCc (fun x=>m x.1.1)
def L8:Cx K:=iZ [(205,.plain),(73,.plain),(245,.plain)] [Sr M.H8,vH M.L6,ahx M.ahz] [(4,Zv)]
theorem Zw:aJ L8:=ak aV _ (ai ahA (ai Bd (ai av7 aY)))
theorem akc:bH L8 (bD (bJ Tryz.f207) 0) Zv:=bf (cx:=L8) (sh:=⟨[.ptr 0 0,.int .i64],[.el U.Core]⟩) (run:=fun n x=>M.zg x.2.1 n x.1.2.1) (cZ:=lI) aV Zw aG (af (by kernel_rfl)) (fun _=>rfl) (fun m x=>by kernel_rfl) (ai ⟨dH,fun _ _ _=>rfl⟩ (ai ⟨bg,fun _ _ _=>rfl⟩ aY)) false az
theorem auy:dD (aej (M.TJ)):=fJ (cx:=L8) true Zw Tryz.func207 (aS (aO 1 (by kernel_rfl) (bM (.mk (by kernel_rfl) akc)))) ⟨zs0,fun x=>x.1.1⟩ (fun x=>by kernel_rfl)
def Xq:cO K:=df D false 82 1 [1,5] [2] aAS (fun x=>M.wM x.2.1 az x.1.2.1) TK
def Zx(m:M.aK->Option Bool):bG K:=cB 171 auz (fun x=>m x.1.1)
def zV:Cx K:=iZ [(73,.plain),(205,.plain),(206,.plain),(207,.plain),(208,.plain)] [vH M.L6,Sr M.H8,Qn M.Dk,aej M.TJ,Xr M.JB] [(4,Xp),(10,Xq)]
theorem KG:aJ zV:=ak aV _ (ai Bd (ai ahA (ai akd (ai auy (ai aoV aY)))))
theorem ahB:bH zV (bD (bJ Tryz.f171) 0) Xp:=bf (cx:=zV) (sh:=aAS) (run:=fun n x=>M.wL x.2.1 n x.1.2.1) (cZ:=akb) aV KG aG (af (by kernel_rfl)) (fun _=>rfl) (fun m x=>by kernel_rfl) (ai ⟨dH,fun _ _ _=>rfl⟩ (ai ⟨bg,fun _ _ _=>rfl⟩ aY)) false az
theorem ahC:bH zV (bD (bJ Tryz.f171) 1) Xq:=bf (cx:=zV) (sh:=aAS) (run:=fun n x=>M.wM x.2.1 n x.1.2.1) (cZ:=Xt) aV KG aG (af (by kernel_rfl)) (fun _=>rfl) (fun m x=>by kernel_rfl) (ai ⟨dH,fun _ _ _=>rfl⟩ (ai ⟨bg,fun _ _ _=>rfl⟩ aY)) false az
theorem arW:dD (Zx (M.Om)):=fJ (cx:=zV) true KG Tryz.func171 (aS (aO 2 (by kernel_rfl) (lt_succ (bM (.mk (by kernel_rfl) ahB)) (.mk (by kernel_rfl) ahC)))) ⟨zs0,fun x=>x.1.1⟩ (fun x=>by kernel_rfl)
def Oo(y:(Int×Int×Int)⊕Unit){R:Type}(k:KT R):R:=match y with|.inl a0=>kk k Ex.ret aIP ((a0.1,(a0.2.1,(a0.2.2,()))),((),()))|.inr a1=>kk k (Ex.exit 0) aIQ (((),((),((),()))),((),()))
def Qo:List (gB K ((Int×Int×Int)⊕Unit)):=[⟨Ex.ret,aIP,fun x=>.inl (x.1.1,x.1.2.1,x.1.2.2.1)⟩,⟨(Ex.exit 0),aIQ,fun x=>.inr (())⟩]
def TL:cO K:=df D false 33 1 [1,5] [2,3,4] aAS (fun x=>M.pJ x.2.1 az x.1.2.1) Oo
def Xu(m:M.aK->Option (Int×Int×Int)):bG K:={f:=131,sh:=auz,R:=Int×Int×Int,run:=fun x=>m x.1.1,dflt:=default,out:=fun r=>(Sh.enc D (.sO [.int .i64,.int .i64,.int .i64]) (r.1,(r.2.1,(r.2.2,()))),ja.encs D [] ())}
def FO:Cx K:=iZ [(171,.plain),(172,.lF)] [Zx M.Om,aek M.TM] [(4,TL)]
theorem TN:aJ FO:=ak aV _ (ai arW (ai auA aY))
theorem afS:bH FO (bD (bJ Tryz.f131) 0) TL:=bf (cx:=FO) (sh:=aAS) (run:=fun n x=>M.pJ x.2.1 n x.1.2.1) (cZ:=Qo) aV TN aG (af (by kernel_rfl)) (fun _=>rfl) (fun m x=>by kernel_rfl) (ai ⟨dH,fun _ _ _=>rfl⟩ (ai ⟨bg,fun _ _ _=>rfl⟩ aY)) false az
theorem aoW:dD (Xu (M.JC)):=fJ (cx:=FO) true TN Tryz.func131 (aS (aO 1 (by kernel_rfl) (bM (.mk (by kernel_rfl) afS)))) ⟨aHp,fun x=>(x.1.1.1,x.1.1.2.1,x.1.1.2.2.1)⟩ (fun x=>by kernel_rfl)
def Zy(m:M.aK->Option Bool):bG K:=cB 104 auz (fun x=>m x.1.1)
def ael:Cx K:=iZ [(131,.plain)] [Xu M.JC] []
theorem anm:aJ ael:=ak aV _ (ai aoW aY)
theorem arX:dD (Zy (M.V6)):=fJ (cx:=ael) true anm Tryz.func104 (aS (af (by kernel_rfl))) ⟨zs0,fun x=>x.1.1⟩ (fun x=>by kernel_rfl)
def Zz(m:M.aK->Option Bool):bG K:=cB 74 auz (fun x=>m x.1.1)
def aem:Cx K:=iZ [(104,.plain)] [Zy M.V6] []
theorem ann:aJ aem:=ak aV _ (ai arX aY)
theorem arY:dD (Zz (M.Oq)):=fJ (cx:=aem) true ann Tryz.func74 (aS (af (by kernel_rfl))) ⟨zs0,fun x=>x.1.1⟩ (fun x=>by kernel_rfl)
def TP(y:Int⊕Unit){R:Type}(k:KT R):R:=match y with|.inl a0=>kk k Ex.ret aIR ((a0,()),((),()))|.inr a1=>kk k (Ex.exit 0) zs3 (((),()),((),()))
def Xv:List (gB K ((Int)⊕Unit)):=[⟨Ex.ret,aIR,fun x=>.inl x.1.1⟩,⟨(Ex.exit 0),zs3,fun x=>.inr (())⟩]
def ZA:cO K:=df D false 22 1 [1,2,5] [4] aEk (fun x=>M.yS x.1.1 x.2.1 az x.1.2.2.1) TP
def aen(m:M.aK->(List UInt8)->Option Int):bG K:=cI 105 aEl (fun x=>m x.1.1 x.1.2.1)
def L9:Cx K:=iZ [] [] [(2,ZA)]
theorem ZB:aJ L9:=ak aV _ aY
theorem ake:bH L9 (bD (bJ Tryz.f105) 0) ZA:=bf (cx:=L9) (sh:=aEk) (run:=fun n x=>M.yS x.1.1 x.2.1 n x.1.2.2.1) (cZ:=Xv) aV ZB aG (af (by kernel_rfl)) (fun _=>rfl) (fun m x=>by kernel_rfl) (ai ⟨dH,fun _ _ _=>rfl⟩ (ai ⟨bg,fun _ _ _=>rfl⟩ aY)) false az
theorem auB:dD (aen (M.Tc)):=fJ (cx:=L9) true ZB Tryz.func105 (aS (aO 1 (by kernel_rfl) (bM (.mk (by kernel_rfl) ake)))) ⟨zs1,fun x=>x.1.1⟩ (fun x=>by kernel_rfl)
def vI(m:M.ae->Option (M.ae)):bG K:={f:=173,sh:=zs8,R:=M.ae,run:=fun x=>m x.1.1,dflt:=default,out:=fun r=>(Sh.enc D (.el U.Type) r,ja.encs D [] ())}
def ano(y:Int×(List UInt8)×Int×(List UInt8)×(List (List UInt8))×(List M.ae)×(List (List UInt8))×(List M.ae)){R:Type}(k:KT R):R:=match y with|a0=>kk k (Ex.exit 0) aFU (((),((),())),((),((a0.1,(a0.2.1,((),((),())))),((a0.2.2.1,(a0.2.2.2.1,((),((),())))),((),((),((),((),(a0.2.2.2.2.1,(a0.2.2.2.2.2.1,(a0.2.2.2.2.2.2.1,(a0.2.2.2.2.2.2.2,()))))))))))))
def aoX:List (gB K (Int×(List UInt8)×Int×(List UInt8)×(List (List UInt8))×(List M.ae)×(List (List UInt8))×(List M.ae))):=[⟨(Ex.exit 0),aFU,fun x=>(x.2.2.1.1,x.2.2.1.2.1,x.2.2.2.1.1,x.2.2.2.1.2.1,x.2.2.2.2.2.2.2.2.1,x.2.2.2.2.2.2.2.2.2.1,x.2.2.2.2.2.2.2.2.2.2.1,x.2.2.2.2.2.2.2.2.2.2.2.1)⟩]
def aeo(eH:M.ae->Option (M.ae)):cO K:=df D false 33 7 [1,2,3,4] [2,3] aFV (fun x=>M.yD eH x.2.2.1.1 x.2.2.1.2.1 x.2.2.2.1.1 x.2.2.2.1.2.1 x.2.2.2.2.2.2.2.2.1 x.2.2.2.2.2.2.2.2.2.1 x.2.2.2.2.2.2.2.2.2.2.1 az x.1.2.2.2.1 x.2.1 x.2.2.2.2.2.2.2.2.2.2.2.1) ano
def Qp(eH:M.ae->Option (M.ae)):Cx K:=iZ [(173,.lF)] [vI eH] [(3,aeo eH)]
theorem aep(eH:M.ae->Option (M.ae))(zW:dD (vI eH)):aJ (Qp eH):=ak aV _ (ai zW aY)
theorem anp(eH:M.ae->Option (M.ae))(zW:dD (vI eH)):bH (Qp eH) (bD (bJ Tryz.f173) 0) (aeo eH):=bf (cx:=Qp eH) (sh:=aFV) (run:=fun n x=>M.yD eH x.2.2.1.1 x.2.2.1.2.1 x.2.2.2.1.1 x.2.2.2.1.2.1 x.2.2.2.2.2.2.2.2.1 x.2.2.2.2.2.2.2.2.2.1 x.2.2.2.2.2.2.2.2.2.2.1 n x.1.2.2.2.1 x.2.1 x.2.2.2.2.2.2.2.2.2.2.2.1) (cZ:=aoX) aV (aep eH zW) aG (af (by kernel_rfl)) (fun _=>rfl) (fun m x=>by kernel_rfl) (ai ⟨bg,fun _ _ _=>rfl⟩ aY) false az
theorem arZ(eH:M.ae->Option (M.ae))(zW:dD (vI eH)):dD (vI (M.V7 eH)):=vg (cx:=Qp eH) (fz:=true) aV (aep eH zW) aG ⟨Tryz.func173,by kernel_rfl⟩ (aS (aO 1 (by kernel_rfl) (bM (.mk (by kernel_rfl) (anp eH zW))))) ⟨zs8,fun x=>x.1.1⟩ (fun x=>rfl) (fun x=>by kernel_rfl)
theorem aeq:∀n,dD (vI (M.Be n))|0=>qW fun _=>rfl|n+1=>arZ (M.Be n) (aeq n)
theorem av8:dD (vI (M.ahD)):=aeq az
def afT(y:(List M.ae)){R:Type}(k:KT R):R:=match y with|a0=>kk k (Ex.exit 0) ⟨[.own 2],[.dead,.dead,.arr U.Type]⟩ (((),()),((),((),(a0,()))))
def ahE:List (gB K ((List M.ae))):=[⟨(Ex.exit 0),⟨[.own 2],[.dead,.dead,.arr U.Type]⟩,fun x=>x.2.2.2.1⟩]
def TQ:cO K:=df D false 24 2 [1,3,4] [3] aFW (fun x=>M.pK az x.1.2.2.1 x.2.1 x.2.2.2.1) afT
def Xw(m:M.ah->Option ((List M.ae))):bG K:={f:=132,sh:=arJ,R:=(List M.ae),run:=fun x=>m x.1.1,dflt:=default,out:=fun r=>(Sh.enc D (.bY U.Type) r,ja.encs D [] ())}
def FP:Cx K:=iZ [(173,.lF)] [vI M.ahD] [(3,TQ)]
theorem TR:aJ FP:=ak aV _ (ai av8 aY)
theorem afU:bH FP (bD (bJ Tryz.f132) 0) TQ:=bf (cx:=FP) (sh:=aFW) (run:=fun n x=>M.pK n x.1.2.2.1 x.2.1 x.2.2.2.1) (cZ:=ahE) aV TR aG (af (by kernel_rfl)) (fun _=>rfl) (fun m x=>by kernel_rfl) (ai ⟨bg,fun _ _ _=>rfl⟩ aY) false az
theorem aoY:dD (Xw (M.JD)):=fJ (cx:=FP) true TR Tryz.func132 (aS (aO 1 (by kernel_rfl) (bM (.mk (by kernel_rfl) afU)))) ⟨zs9,fun x=>x.1.1⟩ (fun x=>by kernel_rfl)
def ahF(m:M.ae->Option Bool):bG K:=cB 213 zs8 (fun x=>m x.1.1)
def al1:Cx K:=iZ [(169,.plain)] [ZC M.Qq] []
theorem ar0:aJ al1:=ak aV _ (ai aoZ aY)
theorem av9:dD (ahF (M.ZE)):=fJ (cx:=al1) true ar0 Tryz.func213 (aS (af (by kernel_rfl))) ⟨zs0,fun x=>x.1.1⟩ (fun x=>by kernel_rfl)
def ao0(y:Bool⊕((List M.ae))){R:Type}(k:KT R):R:=match y with|.inl a0=>kk k Ex.ret aEm (((),(a0,())),())|.inr a1=>kk k (Ex.exit 0) ⟨[.bY U.Type,.any],[]⟩ ((a1,((),())),())
def ar1:List (gB K ((Bool)⊕((List M.ae)))):=[⟨Ex.ret,aEm,fun x=>.inl x.1.2.1⟩,⟨(Ex.exit 0),⟨[.bY U.Type,.any],[]⟩,fun x=>.inr (x.1.1)⟩]
def ahG:cO K:=df D false 23 0 [0,3] [0,2] aHq (fun x=>M.Eg x.1.1 az x.1.2.1) ao0
def al2(m:(List M.ae)->Option Bool):bG K:=cB 174 zs9 (fun x=>m x.1.1)
def V8:Cx K:=iZ [(213,.plain)] [ahF M.ZE] [(2,ahG)]
theorem ahH:aJ V8:=ak aV _ (ai av9 aY)
theorem ao1:bH V8 (bD (bJ Tryz.f174) 0) ahG:=bf (cx:=V8) (sh:=aHq) (run:=fun n x=>M.Eg x.1.1 n x.1.2.1) (cZ:=ar1) aV ahH aG (af (by kernel_rfl)) (fun _=>rfl) (fun m x=>by kernel_rfl) (ai ⟨dH,fun _ _ _=>rfl⟩ (ai ⟨bg,fun _ _ _=>rfl⟩ aY)) false az
theorem aye:dD (al2 (M.acS)):=fJ (cx:=V8) true ahH Tryz.func174 (aS (aO 1 (by kernel_rfl) (bM (.mk (by kernel_rfl) ao1)))) ⟨zs0,fun x=>x.1.1⟩ (fun x=>by kernel_rfl)
def kH(m:(List M.ae)->Option ((List Int))):bG K:={f:=175,sh:=zs9,R:=(List Int),run:=fun x=>m x.1.1,dflt:=default,out:=fun r=>(Sh.enc D (.bY U.i64) r,ja.encs D [] ())}
def ZF(m:M.ae->Option ((List M.ae))):bG K:={f:=255,sh:=zs8,R:=(List M.ae),run:=fun x=>m x.1.1,dflt:=default,out:=fun r=>(Sh.enc D (.bY U.Type) r,ja.encs D [] ())}
theorem ar2:dD (ZF (M.Ot)):=fJ (cx:=bZ) true bP Tryz.func255 (aS (af (by kernel_rfl))) ⟨zs9,fun x=>x.1.1⟩ (fun x=>by kernel_rfl)
def rC(m:M.ae->Option ((List Int))):bG K:={f:=214,sh:=zs8,R:=(List Int),run:=fun x=>m x.1.1,dflt:=default,out:=fun r=>(Sh.enc D (.bY U.i64) r,ja.encs D [] ())}
def BR(y:(List Int)){R:Type}(k:KT R):R:=match y with|a0=>kk k (Ex.exit 0) aEn (((),()),((),(a0,())))
def DV:List (gB K ((List Int))):=[⟨(Ex.exit 0),aEn,fun x=>x.2.2.1⟩]
def ZG:cO K:=df D false 57 1 [0,1,5,6] [5] aFX (fun x=>M.oK x.1.1 x.1.2.1 az x.1.2.2.2.1 x.2.2.1) BR
def aer(m:(List Int)->(List Int)->Option ((List Int))):bG K:={f:=256,sh:=⟨[.bY U.i64,.bY U.i64],[]⟩,R:=(List Int),run:=fun x=>m x.1.1 x.1.2.1,dflt:=default,out:=fun r=>(Sh.enc D (.own 0) (),ja.encs D [.arr U.i64] (r,()))}
def Mc:Cx K:={Js with mode:=iY .plain [(243,.plain)],rsl:=[[some U.i64]],call:=callOf D [V9 M.Bg],loop:=iO [(3,ZG)]}
theorem ZH:aJ Mc:=ak aV _ (ai al3 aY)
theorem akf:bH Mc (bD (bJ Tryz.f256) 0) ZG:=bf (cx:=Mc) (sh:=aFX) (run:=fun n x=>M.oK x.1.1 x.1.2.1 n x.1.2.2.2.1 x.2.2.1) (cZ:=DV) aV ZH aG (af (by kernel_rfl)) (fun _=>rfl) (fun m x=>by kernel_rfl) (ai ⟨bg,fun _ _ _=>rfl⟩ aY) false az
theorem auC:dD (aer (M.TS)):=fJ (cx:=Mc) false ZH Tryz.func256 (aS (aO 1 (by kernel_rfl) (bM (.mk (by kernel_rfl) akf)))) ⟨aHr,fun x=>x.2.1⟩ (fun x=>by kernel_rfl)
def TU(y:(List Int)){R:Type}(k:KT R):R:=match y with|a0=>kk k (Ex.exit 1) aEn (((),()),((),(a0,())))
def Xx:List (gB K ((List Int))):=[⟨(Ex.exit 1),aEn,fun x=>x.2.2.1⟩]
def ZI(dW:M.ae->Option ((List Int))):cO K:=df D false 47 1 [3,4,5] [4] aEo (fun x=>M.vJ dW x.1.1 az x.1.2.2.1 x.2.2.1) TU
def Md(bC:(List M.ae)->Option ((List Int)))(dW:M.ae->Option ((List Int))):Cx K:=iZ [(175,.lF),(255,.lF),(214,.lF),(256,.fresh)] [kH bC,ZF M.Ot,rC dW,aer M.TS] [(18,ZI dW)]
theorem ZJ(bC:(List M.ae)->Option ((List Int)))(gY:dD (kH bC))(dW:M.ae->Option ((List Int)))(xM:dD (rC dW)):aJ (Md bC dW):=ak aV _ (ai gY (ai ar2 (ai xM (ai auC aY))))
theorem akg(bC:(List M.ae)->Option ((List Int)))(gY:dD (kH bC))(dW:M.ae->Option ((List Int)))(xM:dD (rC dW)):bH (Md bC dW) (bD (bJ Tryz.f214) 0) (ZI dW):=bf (cx:=Md bC dW) (sh:=aEo) (run:=fun n x=>M.vJ dW x.1.1 n x.1.2.2.1 x.2.2.1) (cZ:=Xx) aV (ZJ bC gY dW xM) aG (af (by kernel_rfl)) (fun _=>rfl) (fun m x=>by kernel_rfl) (ai ⟨bg,fun _ _ _=>rfl⟩ aY) false az
theorem ao2(bC:(List M.ae)->Option ((List Int)))(gY:dD (kH bC))(dW:M.ae->Option ((List Int)))(xM:dD (rC dW)):dD (rC (M.Qr bC dW)):=vg (cx:=Md bC dW) (fz:=true) aV (ZJ bC gY dW xM) aG ⟨Tryz.func214,by kernel_rfl⟩ (aS (aO 1 (by kernel_rfl) (bM (.mk (by kernel_rfl) (akg bC gY dW xM))))) ⟨awc,fun x=>x.1.1⟩ (fun x=>rfl) (fun x=>by kernel_rfl)
theorem ZK(bC:(List M.ae)->Option ((List Int)))(gY:dD (kH bC)):∀n,dD (rC (M.yE bC n))|0=>qW fun _=>rfl|n+1=>ao2 bC gY (M.yE bC n) (ZK bC gY n)
theorem auD(bC:(List M.ae)->Option ((List Int)))(gY:dD (kH bC)):dD (rC (M.acT bC)):=ZK bC gY az
def aes(bC:(List M.ae)->Option ((List Int))):cO K:=df D false 20 1 [0,3,4] [3] aEo (fun x=>M.yF bC x.1.1 az x.1.2.2.1 x.2.2.1) BR
def Qs(bC:(List M.ae)->Option ((List Int))):Cx K:=iZ [(214,.lF)] [rC (M.acT bC)] [(3,aes bC)]
theorem aet(bC:(List M.ae)->Option ((List Int)))(gY:dD (kH bC)):aJ (Qs bC):=ak aV _ (ai (auD bC gY) aY)
theorem anq(bC:(List M.ae)->Option ((List Int)))(gY:dD (kH bC)):bH (Qs bC) (bD (bJ Tryz.f175) 0) (aes bC):=bf (cx:=Qs bC) (sh:=aEo) (run:=fun n x=>M.yF bC x.1.1 n x.1.2.2.1 x.2.2.1) (cZ:=DV) aV (aet bC gY) aG (af (by kernel_rfl)) (fun _=>rfl) (fun m x=>by kernel_rfl) (ai ⟨bg,fun _ _ _=>rfl⟩ aY) false az
theorem ar4(bC:(List M.ae)->Option ((List Int)))(gY:dD (kH bC)):dD (kH (M.We bC)):=vg (cx:=Qs bC) (fz:=true) aV (aet bC gY) aG ⟨Tryz.func175,by kernel_rfl⟩ (aS (aO 1 (by kernel_rfl) (bM (.mk (by kernel_rfl) (anq bC gY))))) ⟨awc,fun x=>x.1.1⟩ (fun x=>rfl) (fun x=>by kernel_rfl)
theorem aeu:∀n,dD (kH (M.zh n))|0=>qW fun _=>rfl|n+1=>ar4 (M.zh n) (aeu n)
theorem awd:dD (kH (M.ZL)):=aeu az
def Xy(m:(List M.ae)->Option ((List Int))):bG K:={f:=133,sh:=zs9,R:=(List Int),run:=fun x=>m x.1.1,dflt:=default,out:=fun r=>(Sh.enc D (.bY U.i64) r,ja.encs D [] ())}
def Ou:Cx K:=iZ [(174,.plain),(175,.lF)] [al2 M.acS,kH M.ZL] []
theorem TV:aJ Ou:=ak aV _ (ai aye (ai awd aY))
theorem ao3:dD (Xy (M.Qu)):=fJ (cx:=Ou) true TV Tryz.func133 (aS (af (by kernel_rfl))) ⟨awc,fun x=>x.1.1⟩ (fun x=>by kernel_rfl)
def Xz(m:(List M.ae)->Option Bool):bG K:=cB 134 zs9 (fun x=>m x.1.1)
theorem ao4:dD (Xz (M.Qv)):=fJ (cx:=Ou) true TV Tryz.func134 (aS (af (by kernel_rfl))) ⟨zs0,fun x=>x.1.1⟩ (fun x=>by kernel_rfl)
def Ov(m:M.ah->Option (Int×Bool)):bG K:={f:=106,sh:=arJ,R:=Int×Bool,run:=fun x=>m x.1.1,dflt:=default,out:=fun r=>(Sh.enc D (.sO [.int .i64,.bool]) (r.1,(r.2,())),ja.encs D [] ())}
def aev:Cx K:=iZ [(132,.lF),(133,.lF),(134,.plain)] [Xw M.JD,Xy M.Qu,Xz M.Qv] []
theorem anr:aJ aev:=ak aV _ (ai aoY (ai ao3 (ai ao4 aY)))
theorem aew:dD (Ov (M.Bh)):=fJ (cx:=aev) true anr Tryz.func106 (aS (af (by kernel_rfl))) ⟨aCa,fun x=>(x.1.1.1,x.1.1.2.1)⟩ (fun x=>by kernel_rfl)
def Ld(y:Bool⊕(M.aA×Int×Int)){R:Type}(k:KT R):R:=match y with|.inl a0=>kk k Ex.ret aIS (((),((),((),(a0,())))),())|.inr a1=>kk k (Ex.exit 2) aIT ((a1.1,(a1.2.1,(a1.2.2,((),())))),())
def Ox:List (gB K ((Bool)⊕(M.aA×Int×Int))):=[⟨Ex.ret,aIS,fun x=>.inl x.1.2.2.2.1⟩,⟨(Ex.exit 2),aIT,fun x=>.inr ((x.1.1,x.1.2.1,x.1.2.2.1))⟩]
def Qw:cO K:=df D false 138 0 [0,3,4,5] [0,3,4,2] awe (fun x=>M.kD x.1.1 x.1.2.2.1 az x.1.2.1 x.1.2.2.2.1) Ld
def Qx(y:Bool⊕(M.aA×Int)){R:Type}(k:KT R):R:=match y with|.inl a0=>kk k Ex.ret aAM (((),((),(a0,()))),())|.inr a1=>kk k (Ex.exit 0) aIU ((a1.1,(a1.2,((),()))),())
def TW:List (gB K ((Bool)⊕(M.aA×Int))):=[⟨Ex.ret,aAM,fun x=>.inl x.1.2.2.1⟩,⟨(Ex.exit 0),aIU,fun x=>.inr ((x.1.1,x.1.2.1))⟩]
def XA:cO K:=df D false 138 0 [0,3,4] [0,3,2] awf (fun x=>M.lW az x.1.1 x.1.2.1 x.1.2.2.1) Qx
def ZM(m:M.aA->Option Bool):bG K:=cB 75 aCd (fun x=>m x.1.1)
def zX:Cx K:=iZ [(48,.plain),(105,.plain),(106,.plain)] [zS M.jS,aen M.Tc,Ov M.Bh] [(6,Qw),(3,XA)]
theorem KH:aJ zX:=ak aV _ (ai Fv (ai auB (ai aew aY)))
theorem adq:bH zX (bD (bD (bJ Tryz.f75) 0) 0) Qw:=bf (cx:=zX) (sh:=awe) (run:=fun n x=>M.kD x.1.1 x.1.2.2.1 n x.1.2.1 x.1.2.2.2.1) (cZ:=Ox) aV KH aG (af (by kernel_rfl)) (fun _=>rfl) (fun m x=>by kernel_rfl) (ai ⟨dH,fun _ _ _=>rfl⟩ (ai ⟨bg,fun _ _ _=>rfl⟩ aY)) false az
theorem ahI:bH zX (bD (bJ Tryz.f75) 0) XA:=bf (cx:=zX) (sh:=awf) (run:=fun n x=>M.lW n x.1.1 x.1.2.1 x.1.2.2.1) (cZ:=TW) aV KH aG (aO 1 (by kernel_rfl) (bM (.mk (by kernel_rfl) adq))) (fun _=>rfl) (fun m x=>by kernel_rfl) (ai ⟨dH,fun _ _ _=>rfl⟩ (ai ⟨bg,fun _ _ _=>rfl⟩ aY)) false az
theorem ar5:dD (ZM (M.NU)):=fJ (cx:=zX) true KH Tryz.func75 (aS (aO 1 (by kernel_rfl) (bM (.mk (by kernel_rfl) ahI)))) ⟨zs0,fun x=>x.1.1⟩ (fun x=>by kernel_rfl)
def TY:cO K:=df D false 22 1 [1,2,5] [4] aEk (fun x=>M.sQ x.1.1 x.2.1 az x.1.2.2.1) TP
def KI(m:M.aK->(List UInt8)->Option Int):bG K:=cI 107 aEl (fun x=>m x.1.1 x.1.2.1)
def FQ:Cx K:=iZ [] [] [(2,TY)]
theorem TZ:aJ FQ:=ak aV _ aY
theorem afV:bH FQ (bD (bJ Tryz.f107) 0) TY:=bf (cx:=FQ) (sh:=aEk) (run:=fun n x=>M.sQ x.1.1 x.2.1 n x.1.2.2.1) (cZ:=Xv) aV TZ aG (af (by kernel_rfl)) (fun _=>rfl) (fun m x=>by kernel_rfl) (ai ⟨dH,fun _ _ _=>rfl⟩ (ai ⟨bg,fun _ _ _=>rfl⟩ aY)) false az
theorem ZN:dD (KI (M.AL)):=fJ (cx:=FQ) true TZ Tryz.func107 (aS (aO 1 (by kernel_rfl) (bM (.mk (by kernel_rfl) afV)))) ⟨zs1,fun x=>x.1.1⟩ (fun x=>by kernel_rfl)
def Oy:cO K:=df D false 138 0 [0,3,4,5] [0,3,4,2] awe (fun x=>M.jH x.1.1 x.1.2.2.1 az x.1.2.1 x.1.2.2.2.1) Ld
def Ua:cO K:=df D false 138 0 [0,3,4] [0,3,2] awf (fun x=>M.kT az x.1.1 x.1.2.1 x.1.2.2.1) Qx
def XB(m:M.aA->Option Bool):bG K:=cB 76 aCd (fun x=>m x.1.1)
def xN:Cx K:=iZ [(48,.plain),(107,.plain),(106,.plain)] [zS M.jS,KI M.AL,Ov M.Bh] [(6,Oy),(3,Ua)]
theorem H9:aJ xN:=ak aV _ (ai Fv (ai ZN (ai aew aY)))
theorem ZO:bH xN (bD (bD (bJ Tryz.f76) 0) 0) Oy:=bf (cx:=xN) (sh:=awe) (run:=fun n x=>M.jH x.1.1 x.1.2.2.1 n x.1.2.1 x.1.2.2.2.1) (cZ:=Ox) aV H9 aG (af (by kernel_rfl)) (fun _=>rfl) (fun m x=>by kernel_rfl) (ai ⟨dH,fun _ _ _=>rfl⟩ (ai ⟨bg,fun _ _ _=>rfl⟩ aY)) false az
theorem afW:bH xN (bD (bJ Tryz.f76) 0) Ua:=bf (cx:=xN) (sh:=awf) (run:=fun n x=>M.kT n x.1.1 x.1.2.1 x.1.2.2.1) (cZ:=TW) aV H9 aG (aO 1 (by kernel_rfl) (bM (.mk (by kernel_rfl) ZO))) (fun _=>rfl) (fun m x=>by kernel_rfl) (ai ⟨dH,fun _ _ _=>rfl⟩ (ai ⟨bg,fun _ _ _=>rfl⟩ aY)) false az
theorem ao5:dD (XB (M.Jk)):=fJ (cx:=xN) true H9 Tryz.func76 (aS (aO 1 (by kernel_rfl) (bM (.mk (by kernel_rfl) afW)))) ⟨zs0,fun x=>x.1.1⟩ (fun x=>by kernel_rfl)
def ZP:cO K:=df D false 20 0 [0,1,5] [4] ⟨[.bY U.dE,.str,.int .i64],[]⟩ (fun x=>M.yU x.1.1 x.1.2.1 az x.1.2.2.1) dL
def aex(m:(List M.aI)->(List UInt8)->Option Int):bG K:=cI 135 ⟨[.bY U.dE,.str],[]⟩ (fun x=>m x.1.1 x.1.2.1)
def Me:Cx K:=iZ [(48,.plain)] [zS M.jS] [(2,ZP)]
theorem ZQ:aJ Me:=ak aV _ (ai Fv aY)
theorem akh:bH Me (bD (bJ Tryz.f135) 0) ZP:=bf (cx:=Me) (sh:=⟨[.bY U.dE,.str,.int .i64],[]⟩) (run:=fun n x=>M.yU x.1.1 x.1.2.1 n x.1.2.2.1) (cZ:=dQ) aV ZQ aG (af (by kernel_rfl)) (fun _=>rfl) (fun m x=>by kernel_rfl) (ai ⟨dH,fun _ _ _=>rfl⟩ (ai ⟨bg,fun _ _ _=>rfl⟩ aY)) false az
theorem auE:dD (aex (M.Tj)):=fJ (cx:=Me) true ZQ Tryz.func135 (aS (aO 1 (by kernel_rfl) (bM (.mk (by kernel_rfl) akh)))) ⟨zs1,fun x=>x.1.1⟩ (fun x=>by kernel_rfl)
def ZR:cO K:=df D false 34 0 [0,2,7,8] [6] aFY (fun x=>M.yV x.1.1 x.1.2.1 x.1.2.2.1 az x.1.2.2.2.1) dU
def aey(m:(List M.aI)->(List UInt8)->(List UInt8)->Option Bool):bG K:=cB 108 ⟨[.bY U.dE,.str,.str],[]⟩ (fun x=>m x.1.1 x.1.2.1 x.1.2.2.1)
def MB:Cx K:=iZ [(135,.plain)] [aex M.Tj] [(5,ZR)]
theorem ZT:aJ MB:=ak aV _ (ai auE aY)
theorem aki:bH MB (bD (bJ Tryz.f108) 0) ZR:=bf (cx:=MB) (sh:=aFY) (run:=fun n x=>M.yV x.1.1 x.1.2.1 x.1.2.2.1 n x.1.2.2.2.1) (cZ:=dZ) aV ZT aG (af (by kernel_rfl)) (fun _=>rfl) (fun m x=>by kernel_rfl) (ai ⟨dH,fun _ _ _=>rfl⟩ (ai ⟨bg,fun _ _ _=>rfl⟩ aY)) false az
theorem auF:dD (aey (M.NF)):=fJ (cx:=MB) true ZT Tryz.func108 (aS (aO 1 (by kernel_rfl) (bM (.mk (by kernel_rfl) aki)))) ⟨zs0,fun x=>x.1.1⟩ (fun x=>by kernel_rfl)
def Oz:cO K:=df D false 99 0 [0,3] [2] aEp (fun x=>M.nU x.1.1 az x.1.2.1) dU
def Qy(m:M.aA->Option Bool):bG K:=cB 77 aCd (fun x=>m x.1.1)
def BU:Cx K:=iZ [(108,.plain),(107,.plain),(73,.plain)] [aey M.NF,KI M.AL,vH M.L6] [(4,Oz)]
theorem OA:aJ BU:=ak aV _ (ai auF (ai ZN (ai Bd aY)))
theorem ZU:bH BU (bD (bJ Tryz.f77) 0) Oz:=bf (cx:=BU) (sh:=aEp) (run:=fun n x=>M.nU x.1.1 n x.1.2.1) (cZ:=dZ) aV OA aG (af (by kernel_rfl)) (fun _=>rfl) (fun m x=>by kernel_rfl) (ai ⟨dH,fun _ _ _=>rfl⟩ (ai ⟨bg,fun _ _ _=>rfl⟩ aY)) false az
theorem akj:dD (Qy (M.CZ)):=fJ (cx:=BU) true OA Tryz.func77 (aS (aO 1 (by kernel_rfl) (bM (.mk (by kernel_rfl) ZU)))) ⟨zs0,fun x=>x.1.1⟩ (fun x=>by kernel_rfl)
def adr(y:M.aA×Int×Int){R:Type}(k:KT R):R:=match y with|a0=>kk k (Ex.exit 2) awf ((a0.1,(a0.2.1,(a0.2.2,()))),())
def afX:List (gB K (M.aA×Int×Int)):=[⟨(Ex.exit 2),awf,fun x=>(x.1.1,x.1.2.1,x.1.2.2.1)⟩]
def Qz:cO K:=df D false 77 0 [0,3,4,5] [0,3,4] awe (fun x=>M.jB x.1.1 x.1.2.1 az x.1.2.2.1 x.1.2.2.2.1) adr
def ads(y:M.aA×Int×Int){R:Type}(k:KT R):R:=match y with|a0=>kk k (Ex.exit 4) awf ((a0.1,(a0.2.1,(a0.2.2,()))),())
def afY:List (gB K (M.aA×Int×Int)):=[⟨(Ex.exit 4),awf,fun x=>(x.1.1,x.1.2.1,x.1.2.2.1)⟩]
def QA:cO K:=df D false 77 0 [0,3,4,6] [0,3,4] awe (fun x=>M.jC x.1.1 x.1.2.1 az x.1.2.2.1 x.1.2.2.2.1) ads
def XC:cO K:=df D false 77 0 [0,3] [2] aEp (fun x=>M.lY az x.1.1 x.1.2.1) dU
def ZV(m:M.aA->Option Bool):bG K:=cB 78 aCd (fun x=>m x.1.1)
def rD:Cx K:=iZ [] [] [(6,Qz),(11,QA),(2,XC)]
theorem DW:aJ rD:=ak aV _ aY
theorem adt:bH rD (bD (bD (bJ Tryz.f78) 0) 0) Qz:=bf (cx:=rD) (sh:=awe) (run:=fun n x=>M.jB x.1.1 x.1.2.1 n x.1.2.2.1 x.1.2.2.2.1) (cZ:=afX) aV DW aG (af (by kernel_rfl)) (fun _=>rfl) (fun m x=>by kernel_rfl) (ai ⟨bg,fun _ _ _=>rfl⟩ aY) false az
theorem adu:bH rD (bD (bD (bJ Tryz.f78) 0) 1) QA:=bf (cx:=rD) (sh:=awe) (run:=fun n x=>M.jC x.1.1 x.1.2.1 n x.1.2.2.1 x.1.2.2.2.1) (cZ:=afY) aV DW aG (af (by kernel_rfl)) (fun _=>rfl) (fun m x=>by kernel_rfl) (ai ⟨bg,fun _ _ _=>rfl⟩ aY) false az
theorem ahJ:bH rD (bD (bJ Tryz.f78) 0) XC:=bf (cx:=rD) (sh:=aEp) (run:=fun n x=>M.lY n x.1.1 x.1.2.1) (cZ:=dZ) aV DW aG (aO 2 (by kernel_rfl) (lt_succ (bM (.mk (by kernel_rfl) adt)) (.mk (by kernel_rfl) adu))) (fun _=>rfl) (fun m x=>by kernel_rfl) (ai ⟨dH,fun _ _ _=>rfl⟩ (ai ⟨bg,fun _ _ _=>rfl⟩ aY)) false az
theorem ar6:dD (ZV (M.NY)):=fJ (cx:=rD) true DW Tryz.func78 (aS (aO 1 (by kernel_rfl) (bM (.mk (by kernel_rfl) ahJ)))) ⟨zs0,fun x=>x.1.1⟩ (fun x=>by kernel_rfl)
def ZW(m:M.aA->Option ((List UInt8))):bG K:=cS 47 aCd (fun x=>m x.1.1)
def aez:Cx K:=iZ [(70,.plain),(71,.plain),(72,.plain),(73,.plain),(74,.plain),(75,.plain),(76,.plain),(77,.plain),(78,.plain)] [zY M.nH,KJ M.Bi,Y4 M.H5,vH M.L6,Zz M.Oq,ZM M.NU,XB M.Jk,Qy M.CZ,ZV M.NY] []
theorem ant:aJ aez:=ak aV _ (ai FT (ai ZX (ai arL (ai Bd (ai arY (ai ar5 (ai ao5 (ai akj (ai ar6 aY)))))))))
theorem ar7:dD (ZW (M.NZ)):=fJ (cx:=aez) true ant Tryz.func47 (aS (af (by kernel_rfl))) ⟨zs6,fun x=>x.1.1⟩ (fun x=>by kernel_rfl)
def Ub(m:Int->Option Bool):bG K:=cB 86 zs1 (fun x=>m x.1.1)
def XD:Cx K:=iZ [(88,.plain)] [mO M.AX] []
theorem ahK:aJ XD:=ak aV _ (ai rf aY)
theorem anu:dD (Ub (M.ahL)):=fJ (cx:=XD) true ahK Tryz.func86 (aS (af (by kernel_rfl))) ⟨zs0,fun x=>x.1.1⟩ (fun x=>by kernel_rfl)
def al4(m:M.bK->Option Bool):bG K:=cB 229 aCb (fun x=>m x.1.1)
def ao6:Cx K:=iZ [(273,.plain),(88,.plain)] [XE M.JE,mO M.AX] []
theorem auG:aJ ao6:=ak aV _ (ai ao7 (ai rf aY))
theorem ayf:dD (al4 (M.QB)):=fJ (cx:=ao6) true auG Tryz.func229 (aS (af (by kernel_rfl))) ⟨zs0,fun x=>x.1.1⟩ (fun x=>by kernel_rfl)
def XF(m:M.bK->Option Bool):bG K:=cB 228 aCb (fun x=>m x.1.1)
def ZY:Cx K:=iZ [(229,.plain)] [al4 M.QB] []
theorem akk:aJ ZY:=ak aV _ (ai ayf aY)
theorem ao8:dD (XF (M.JF)):=fJ (cx:=ZY) true akk Tryz.func228 (aS (af (by kernel_rfl))) ⟨zs0,fun x=>x.1.1⟩ (fun x=>by kernel_rfl)
def yG:cO K:=df D false 19 0 [0,1,7,8] [4] aFZ (fun x=>M.ig x.1.1 x.1.2.2.1 az x.1.2.2.2.1) dL
def zL(m:(List M.bK)->Option Int):bG K:=cI 272 ⟨[.bY U.Ins,.fn 228 []],[]⟩ (fun x=>m x.1.1)
def lT:Cx K:=iZ [(228,.plain)] [XF M.JF] [(2,yG)]
theorem yH:aJ lT:=ak aV _ (ai ao8 aY)
theorem Hl:bH lT (bD (bJ Tryz.f272) 0) yG:=bf (cx:=lT) (sh:=aFZ) (run:=fun n x=>M.ig x.1.1 x.1.2.2.1 n x.1.2.2.2.1) (cZ:=dQ) aV yH aG (af (by kernel_rfl)) (fun _=>rfl) (fun m x=>by kernel_rfl) (ai ⟨dH,fun _ _ _=>rfl⟩ (ai ⟨bg,fun _ _ _=>rfl⟩ aY)) false az
theorem MC:dD (zL (M.oL)):=fJ (cx:=lT) true yH Tryz.func272 (aS (aO 1 (by kernel_rfl) (bM (.mk (by kernel_rfl) Hl)))) ⟨zs1,fun x=>x.1.1⟩ (fun x=>by kernel_rfl)
def xk(m:(List M.bK)->Option Bool):bG K:=cB 227 ⟨[.bY U.Ins,.fn 228 []],[]⟩ (fun x=>m x.1.1)
def xO:Cx K:=iZ [(272,.plain)] [zL M.oL] []
theorem FU:aJ xO:=ak aV _ (ai MC aY)
theorem Ia:dD (xk (M.jM)):=fJ (cx:=xO) true FU Tryz.func227 (aS (af (by kernel_rfl))) ⟨zs0,fun x=>x.1.1⟩ (fun x=>by kernel_rfl)
def ahM(m:M.aH->Option Bool):bG K:=cB 189 aCc (fun x=>m x.1.1)
def al5:Cx K:=iZ [(88,.plain),(227,.plain)] [mO M.AX,xk M.jM] []
theorem ar8:aJ al5:=ak aV _ (ai rf (ai Ia aY))
theorem awg:dD (ahM (M.ZZ)):=fJ (cx:=al5) true ar8 Tryz.func189 (aS (af (by kernel_rfl))) ⟨zs0,fun x=>x.1.1⟩ (fun x=>by kernel_rfl)
def QC(m:M.aA->Option Bool):bG K:=cB 21 ao9 (fun x=>m x.1.1)
def Uc:Cx K:=iZ [(47,.plain)] [ZW M.NZ] []
theorem afZ:aJ Uc:=ak aV _ (ai ar7 aY)
theorem akl:dD (QC (M.C9)):=fJ (cx:=Uc) true afZ Tryz.func21 (aS (af (by kernel_rfl))) ⟨zs0,fun x=>x.1.1⟩ (fun x=>by kernel_rfl)
def ahN(m:M.dn->M.dn->Option Bool):bG K:=cB 60 ⟨[.el U.sW,.el U.sW],[]⟩ (fun x=>m x.1.1 x.1.2.1)
theorem awh:dD (ahN (M.Z4)):=fJ (cx:=bZ) true bP Tryz.func60 (aS (af (by kernel_rfl))) ⟨zs0,fun x=>x.1.1⟩ (fun x=>by kernel_rfl)
def Z5:cO K:=df D false 27 0 [0,1,5] [4] aF0 (fun x=>M.zi x.1.1 x.1.2.1 az x.1.2.2.1) dU
def aeA(m:(List M.dn)->(List M.dn)->Option Bool):bG K:=cB 32 ⟨[.bY U.sW,.bY U.sW],[]⟩ (fun x=>m x.1.1 x.1.2.1)
def MF:Cx K:=iZ [(60,.plain)] [ahN M.Z4] [(4,Z5)]
theorem Z7:aJ MF:=ak aV _ (ai awh aY)
theorem akm:bH MF (bD (bJ Tryz.f32) 0) Z5:=bf (cx:=MF) (sh:=aF0) (run:=fun n x=>M.zi x.1.1 x.1.2.1 n x.1.2.2.1) (cZ:=dZ) aV Z7 aG (af (by kernel_rfl)) (fun _=>rfl) (fun m x=>by kernel_rfl) (ai ⟨dH,fun _ _ _=>rfl⟩ (ai ⟨bg,fun _ _ _=>rfl⟩ aY)) false az
theorem auH:dD (aeA (M.Ud)):=fJ (cx:=MF) true Z7 Tryz.func32 (aS (aO 1 (by kernel_rfl) (bM (.mk (by kernel_rfl) akm)))) ⟨zs0,fun x=>x.1.1⟩ (fun x=>by kernel_rfl)
def aeB(m:M.bF->M.bF->Option Bool):bG K:=cB 61 ⟨[.el U.Lower,.el U.Lower],[]⟩ (fun x=>m x.1.1 x.1.2.1)
theorem auI:dD (aeB (M.Ue)):=fJ (cx:=bZ) true bP Tryz.func61 (aS (af (by kernel_rfl))) ⟨zs0,fun x=>x.1.1⟩ (fun x=>by kernel_rfl)
def XG:cO K:=df D false 27 0 [0,1,5] [4] aF1 (fun x=>M.wO x.1.1 x.1.2.1 az x.1.2.2.1) dU
def Z8(m:(List M.bF)->(List M.bF)->Option Bool):bG K:=cB 33 ⟨[.bY U.Lower,.bY U.Lower],[]⟩ (fun x=>m x.1.1 x.1.2.1)
def IP:Cx K:=iZ [(61,.plain)] [aeB M.Ue] [(4,XG)]
theorem XH:aJ IP:=ak aV _ (ai auI aY)
theorem ahO:bH IP (bD (bJ Tryz.f33) 0) XG:=bf (cx:=IP) (sh:=aF1) (run:=fun n x=>M.wO x.1.1 x.1.2.1 n x.1.2.2.1) (cZ:=dZ) aV XH aG (af (by kernel_rfl)) (fun _=>rfl) (fun m x=>by kernel_rfl) (ai ⟨dH,fun _ _ _=>rfl⟩ (ai ⟨bg,fun _ _ _=>rfl⟩ aY)) false az
theorem ar9:dD (Z8 (M.OB)):=fJ (cx:=IP) true XH Tryz.func33 (aS (aO 1 (by kernel_rfl) (bM (.mk (by kernel_rfl) ahO)))) ⟨zs0,fun x=>x.1.1⟩ (fun x=>by kernel_rfl)
def XI(m:M.aN->M.aN->Option Bool):bG K:=cB 62 ⟨[.el U.Builtin,.el U.Builtin],[]⟩ (fun x=>m x.1.1 x.1.2.1)
theorem apa:dD (XI (M.JG)):=fJ (cx:=bZ) true bP Tryz.func62 (aS (af (by kernel_rfl))) ⟨zs0,fun x=>x.1.1⟩ (fun x=>by kernel_rfl)
def QD:cO K:=df D false 27 0 [0,1,5] [4] aF2 (fun x=>M.qG x.1.1 x.1.2.1 az x.1.2.2.1) dU
def Uf(m:(List M.aN)->(List M.aN)->Option Bool):bG K:=cB 34 ⟨[.bY U.Builtin,.bY U.Builtin],[]⟩ (fun x=>m x.1.1 x.1.2.1)
def DX:Cx K:=iZ [(62,.plain)] [XI M.JG] [(4,QD)]
theorem QE:aJ DX:=ak aV _ (ai apa aY)
theorem adv:bH DX (bD (bJ Tryz.f34) 0) QD:=bf (cx:=DX) (sh:=aF2) (run:=fun n x=>M.qG x.1.1 x.1.2.1 n x.1.2.2.1) (cZ:=dZ) aV QE aG (af (by kernel_rfl)) (fun _=>rfl) (fun m x=>by kernel_rfl) (ai ⟨dH,fun _ _ _=>rfl⟩ (ai ⟨bg,fun _ _ _=>rfl⟩ aY)) false az
theorem anv:dD (Uf (M.FV)):=fJ (cx:=DX) true QE Tryz.func34 (aS (aO 1 (by kernel_rfl) (bM (.mk (by kernel_rfl) adv)))) ⟨zs0,fun x=>x.1.1⟩ (fun x=>by kernel_rfl)
def QF(m:M.aA->M.aA->Option Bool):bG K:=cB 10 ⟨[.el U.gX,.el U.gX],[]⟩ (fun x=>m x.1.1 x.1.2.1)
def Ug:Cx K:=iZ [(30,.plain),(31,.plain),(32,.plain),(33,.plain),(34,.plain)] [aed M.NH,Z9 M.OC,aeA M.Ud,Z8 M.OB,Uf M.FV] []
theorem af0:aJ Ug:=ak aV _ (ai aur (ai asa (ai auH (ai ar9 (ai anv aY)))))
theorem akn:dD (QF (M.Dl)):=fJ (cx:=Ug) true af0 Tryz.func10 (aS (af (by kernel_rfl))) ⟨zs0,fun x=>x.1.1⟩ (fun x=>by kernel_rfl)
def aab(y:Bool⊕(M.aK×(List (List UInt8))×(List (List UInt8)))){R:Type}(k:KT R):R:=match y with|.inl a0=>kk k Ex.ret aF3 (((),((),((),(a0,())))),((),((),((),((),((),()))))))|.inr a1=>kk k (Ex.exit 0) aF4 (((),((),((),((),())))),(a1.1,((),((),(a1.2.1,(a1.2.2,()))))))
def adw:List (gB K ((Bool)⊕(M.aK×(List (List UInt8))×(List (List UInt8))))):=[⟨Ex.ret,aF3,fun x=>.inl x.1.2.2.2.1⟩,⟨(Ex.exit 0),aF4,fun x=>.inr ((x.2.1,x.2.2.2.2.1,x.2.2.2.2.2.1))⟩]
def OD:cO K:=df D false 66 3 [1,3,4,28,29,30] [1,3,4,2] aF5 (fun x=>M.lK x.1.2.2.2.1 x.1.2.2.2.2.1 x.2.1 x.2.2.2.2.2.1 az x.1.2.2.2.2.2.1 x.2.2.2.2.1) aab
def aac(y:Bool⊕((List (List UInt8))×(List (List UInt8)))){R:Type}(k:KT R):R:=match y with|.inl a0=>kk k Ex.ret aF6 (((),((),(a0,()))),((),((),((),((),())))))|.inr a1=>kk k (Ex.exit 2) aF7 (((),((),((),()))),((),((),(a1.1,(a1.2,())))))
def adx:List (gB K ((Bool)⊕((List (List UInt8))×(List (List UInt8))))):=[⟨Ex.ret,aF6,fun x=>.inl x.1.2.2.1⟩,⟨(Ex.exit 2),aF7,fun x=>.inr ((x.2.2.2.1,x.2.2.2.2.1))⟩]
def OE:cO K:=df D false 66 2 [3,4,45,46,47] [3,4,2] aF8 (fun x=>M.lL x.1.2.2.1 x.1.2.2.2.1 x.2.2.2.1 az x.1.2.2.2.2.1 x.2.2.2.2.1) aac
def aeC:cO K:=df D false 32 0 [0,5,6] [0,2] aEq (fun x=>M.Bj x.1.1 x.1.2.1 az x.1.2.2.1) Ib
def ahP(m:(List UInt8)->Option Bool):bG K:=cB 231 zs6 (fun x=>m x.1.1)
def QG:Cx K:=iZ [(274,.plain),(275,.plain),(276,.plain),(277,.plain),(88,.plain)] [aad M.apb,aeD M.atf,Ah M.strings_IndexByte,ahQ M.awi,mO M.AX] [(2,aeC)]
theorem aeE:aJ QG:=ak aV _ (ai asb (ai auJ (ai aae (ai awj (ai rf aY)))))
theorem anw:bH QG (bD (bJ Tryz.f231) 0) aeC:=bf (cx:=QG) (sh:=aEq) (run:=fun n x=>M.Bj x.1.1 x.1.2.1 n x.1.2.2.1) (cZ:=KL) aV aeE aG (af (by kernel_rfl)) (fun _=>rfl) (fun m x=>by kernel_rfl) (ai ⟨dH,fun _ _ _=>rfl⟩ (ai ⟨bg,fun _ _ _=>rfl⟩ aY)) false az
theorem awk:dD (ahP (M.aaf)):=fJ (cx:=QG) true aeE Tryz.func231 (aS (aO 1 (by kernel_rfl) (bM (.mk (by kernel_rfl) anw)))) ⟨zs0,fun x=>x.1.1⟩ (fun x=>by kernel_rfl)
def Uh(m:(List UInt8)->Option Bool):bG K:=cB 230 zs6 (fun x=>m x.1.1)
def XJ:Cx K:=iZ [(231,.plain)] [ahP M.aaf] []
theorem ahR:aJ XJ:=ak aV _ (ai awk aY)
theorem anx:dD (Uh (M.FW)):=fJ (cx:=XJ) true ahR Tryz.func230 (aS (af (by kernel_rfl))) ⟨zs0,fun x=>x.1.1⟩ (fun x=>by kernel_rfl)
def qo:cO K:=df D false 19 0 [0,1,7,8] [4] aF9 (fun x=>M.fC x.1.1 x.1.2.2.1 az x.1.2.2.2.1) dL
def qQ(m:(List (List UInt8))->Option Int):bG K:=cI 181 ⟨[.bY U.str,.fn 230 []],[]⟩ (fun x=>m x.1.1)
def jl:Cx K:=iZ [(230,.plain)] [Uh M.FW] [(2,qo)]
theorem qp:aJ jl:=ak aV _ (ai anx aY)
theorem AA:bH jl (bD (bJ Tryz.f181) 0) qo:=bf (cx:=jl) (sh:=aF9) (run:=fun n x=>M.fC x.1.1 x.1.2.2.1 n x.1.2.2.2.1) (cZ:=dQ) aV qp aG (af (by kernel_rfl)) (fun _=>rfl) (fun m x=>by kernel_rfl) (ai ⟨dH,fun _ _ _=>rfl⟩ (ai ⟨bg,fun _ _ _=>rfl⟩ aY)) false az
theorem Dn:dD (qQ (M.jO)):=fJ (cx:=jl) true qp Tryz.func181 (aS (aO 1 (by kernel_rfl) (bM (.mk (by kernel_rfl) AA)))) ⟨zs1,fun x=>x.1.1⟩ (fun x=>by kernel_rfl)
def oz(m:(List (List UInt8))->Option Bool):bG K:=cB 140 ⟨[.bY U.str,.fn 230 []],[]⟩ (fun x=>m x.1.1)
def pM:Cx K:=iZ [(181,.plain)] [qQ M.jO] []
theorem Ai:aJ pM:=ak aV _ (ai Dn aY)
theorem Bl:dD (oz (M.iy)):=fJ (cx:=pM) true Ai Tryz.func140 (aS (af (by kernel_rfl))) ⟨zs0,fun x=>x.1.1⟩ (fun x=>by kernel_rfl)
def aeF(m:(List (List UInt8))->Option Bool):bG K:=cB 190 aoK (fun x=>m x.1.1)
def ahS:Cx K:=iZ [(123,.plain),(140,.plain)] [xI M.mP,oz M.iy] []
theorem apc:aJ ahS:=ak aV _ (ai IG (ai Bl aY))
theorem auK:dD (aeF (M.NJ)):=fJ (cx:=ahS) true apc Tryz.func190 (aS (af (by kernel_rfl))) ⟨zs0,fun x=>x.1.1⟩ (fun x=>by kernel_rfl)
def Am(m:M.aK->Option Bool):bG K:=cB 151 auz (fun x=>m x.1.1)
def sG:Cx K:=iZ [(88,.plain),(189,.plain),(190,.plain)] [mO M.AX,ahM M.ZZ,aeF M.NJ] [(5,OD),(12,OE)]
theorem Eh:aJ sG:=ak aV _ (ai rf (ai awg (ai auK aY)))
theorem aag:bH sG (bD (bJ Tryz.f151) 0) OD:=bf (cx:=sG) (sh:=aF5) (run:=fun n x=>M.lK x.1.2.2.2.1 x.1.2.2.2.2.1 x.2.1 x.2.2.2.2.2.1 n x.1.2.2.2.2.2.1 x.2.2.2.2.1) (cZ:=adw) aV Eh aG (af (by kernel_rfl)) (fun _=>rfl) (fun m x=>by kernel_rfl) (ai ⟨dH,fun _ _ _=>rfl⟩ (ai ⟨bg,fun _ _ _=>rfl⟩ aY)) false az
theorem aah:bH sG (bD (bJ Tryz.f151) 1) OE:=bf (cx:=sG) (sh:=aF8) (run:=fun n x=>M.lL x.1.2.2.1 x.1.2.2.2.1 x.2.2.2.1 n x.1.2.2.2.2.1 x.2.2.2.2.1) (cZ:=adx) aV Eh aG (af (by kernel_rfl)) (fun _=>rfl) (fun m x=>by kernel_rfl) (ai ⟨dH,fun _ _ _=>rfl⟩ (ai ⟨bg,fun _ _ _=>rfl⟩ aY)) false az
theorem Ic:dD (Am (M.oM)):=fJ (cx:=sG) true Eh Tryz.func151 (aS (aO 2 (by kernel_rfl) (lt_succ (bM (.mk (by kernel_rfl) aag)) (.mk (by kernel_rfl) aah)))) ⟨zs0,fun x=>x.1.1⟩ (fun x=>by kernel_rfl)
def OG:cO K:=df D false 30 1 [1,12,13] [2,3,4] aGa (fun x=>M.lM x.1.2.1 x.2.1 az x.1.2.2.1) Oo
def QH(m:M.aK->Option (Int×Int×Int)):bG K:={f:=152,sh:=auz,R:=Int×Int×Int,run:=fun x=>m x.1.1,dflt:=default,out:=fun r=>(Sh.enc D (.sO [.int .i64,.int .i64,.int .i64]) (r.1,(r.2.1,(r.2.2,()))),ja.encs D [] ())}
def BV:Cx K:=iZ [(191,.plain),(192,.fresh)] [KN M.aai,aeG M.Ui] [(2,OG)]
theorem OH:aJ BV:=ak aV _ (ai aaj (ai auL aY))
theorem aak:bH BV (bD (bJ Tryz.f152) 0) OG:=bf (cx:=BV) (sh:=aGa) (run:=fun n x=>M.lM x.1.2.1 x.2.1 n x.1.2.2.1) (cZ:=Qo) aV OH aG (af (by kernel_rfl)) (fun _=>rfl) (fun m x=>by kernel_rfl) (ai ⟨dH,fun _ _ _=>rfl⟩ (ai ⟨bg,fun _ _ _=>rfl⟩ aY)) false az
theorem ako:dD (QH (M.Dp)):=fJ (cx:=BV) true OH Tryz.func152 (aS (aO 1 (by kernel_rfl) (bM (.mk (by kernel_rfl) aak)))) ⟨aHp,fun x=>(x.1.1.1,x.1.1.2.1,x.1.1.2.2.1)⟩ (fun x=>by kernel_rfl)
def QI(m:M.aK->Option (Int×Int×Int)):bG K:={f:=117,sh:=auz,R:=Int×Int×Int,run:=fun x=>m x.1.1,dflt:=default,out:=fun r=>(Sh.enc D (.sO [.int .i64,.int .i64,.int .i64]) (r.1,(r.2.1,(r.2.2,()))),ja.encs D [] ())}
def Uj:Cx K:=iZ [(151,.plain),(152,.plain)] [Am M.oM,QH M.Dp] []
theorem af1:aJ Uj:=ak aV _ (ai Ic (ai ako aY))
theorem akp:dD (QI (M.Dq)):=fJ (cx:=Uj) true af1 Tryz.func117 (aS (af (by kernel_rfl))) ⟨aHp,fun x=>(x.1.1.1,x.1.1.2.1,x.1.1.2.2.1)⟩ (fun x=>by kernel_rfl)
def aal(m:M.aK->Option Bool):bG K:=cB 87 auz (fun x=>m x.1.1)
def aeH:Cx K:=iZ [(117,.plain)] [QI M.Dq] []
theorem anz:aJ aeH:=ak aV _ (ai akp aY)
theorem asc:dD (aal (M.OI)):=fJ (cx:=aeH) true anz Tryz.func87 (aS (af (by kernel_rfl))) ⟨zs0,fun x=>x.1.1⟩ (fun x=>by kernel_rfl)
def ady(y:(List M.aI)×Int×Int×(List M.fD)){R:Type}(k:KT R):R:=match y with|a0=>kk k (Ex.exit 2) aGb (((),(a0.1,(a0.2.1,(a0.2.2.1,())))),((),((),(a0.2.2.2,()))))
def af2:List (gB K ((List M.aI)×Int×Int×(List M.fD))):=[⟨(Ex.exit 2),aGb,fun x=>(x.1.2.1,x.1.2.2.1,x.1.2.2.2.1,x.2.2.2.1)⟩]
def QJ:cO K:=df D false 35 2 [3,5,9,10,11,16,17,18] [3,9,10,11] aGc (fun x=>M.nJ x.1.2.2.1 x.1.2.2.2.1 x.1.2.2.2.2.1 x.1.2.2.2.2.2.1 x.1.2.2.2.2.2.2.1 x.2.2.1 az x.1.2.2.2.2.2.2.2.1 x.2.2.2.1) ady
def ahT(y:(List M.fD)){R:Type}(k:KT R):R:=match y with|a0=>kk k (Ex.exit 0) ⟨[.own 1],[.dead,.arr U.bound]⟩ (((),()),((),(a0,())))
def akq:List (gB K ((List M.fD))):=[⟨(Ex.exit 0),⟨[.own 1],[.dead,.arr U.bound]⟩,fun x=>x.2.2.1⟩]
def XK:cO K:=df D false 35 1 [3,9,10,11] [3] aGd (fun x=>M.lX az x.1.2.1 x.1.2.2.1 x.1.2.2.2.1 x.2.2.1) ahT
def OJ(m:(List M.aI)->Option ((List M.fD))):bG K:={f:=118,sh:=aAN,R:=(List M.fD),run:=fun x=>m x.1.1,dflt:=default,out:=fun r=>(Sh.enc D (.bY U.bound) r,ja.encs D [] ())}
def zZ:Cx K:=iZ [(56,.plain)] [Bc M.lD] [(6,QJ),(3,XK)]
theorem KO:aJ zZ:=ak aV _ (ai IJ aY)
theorem adz:bH zZ (bD (bD (bJ Tryz.f118) 0) 0) QJ:=bf (cx:=zZ) (sh:=aGc) (run:=fun n x=>M.nJ x.1.2.2.1 x.1.2.2.2.1 x.1.2.2.2.2.1 x.1.2.2.2.2.2.1 x.1.2.2.2.2.2.2.1 x.2.2.1 n x.1.2.2.2.2.2.2.2.1 x.2.2.2.1) (cZ:=af2) aV KO aG (af (by kernel_rfl)) (fun _=>rfl) (fun m x=>by kernel_rfl) (ai ⟨bg,fun _ _ _=>rfl⟩ aY) false az
theorem ahU:bH zZ (bD (bJ Tryz.f118) 0) XK:=bf (cx:=zZ) (sh:=aGd) (run:=fun n x=>M.lX n x.1.2.1 x.1.2.2.1 x.1.2.2.2.1 x.2.2.1) (cZ:=akq) aV KO aG (aO 1 (by kernel_rfl) (bM (.mk (by kernel_rfl) adz))) (fun _=>rfl) (fun m x=>by kernel_rfl) (ai ⟨bg,fun _ _ _=>rfl⟩ aY) false az
theorem aeI:dD (OJ (M.Ec)):=fJ (cx:=zZ) true KO Tryz.func118 (aS (aO 1 (by kernel_rfl) (bM (.mk (by kernel_rfl) ahU)))) ⟨⟨[.bY U.bound],[]⟩,fun x=>x.1.1⟩ (fun x=>by kernel_rfl)
def XL(m:M.aH->(List UInt8)->Option Bool):bG K:=cB 154 ⟨[.el U.Core,.rp U.str 0],[]⟩ (fun x=>m x.1.1 x.1.2.1)
theorem apd:dD (XL (M.al6)):=fJ (cx:=bZ) true bP Tryz.func154 (aS (af (by kernel_rfl))) ⟨zs0,fun x=>x.1.1⟩ (fun x=>by kernel_rfl)
def xm:cO K:=df D false 19 0 [0,1,7,8] [4] aGe (fun x=>M.gI x.1.1 x.1.2.1.1 x.1.2.2.1 az x.1.2.2.2.1) dL
def xP(m:(List M.aH)->(List UInt8)->Option Int):bG K:=cI 153 ⟨[.bY U.Core,.fn 154 [.rp U.str 0]],[]⟩ (fun x=>m x.1.1 x.1.2.1.1)
def kR:Cx K:=iZ [(154,.plain)] [XL M.al6] [(2,xm)]
theorem xn:aJ kR:=ak aV _ (ai apd aY)
theorem Fa:bH kR (bD (bJ Tryz.f153) 0) xm:=bf (cx:=kR) (sh:=aGe) (run:=fun n x=>M.gI x.1.1 x.1.2.1.1 x.1.2.2.1 n x.1.2.2.2.1) (cZ:=dQ) aV xn aG (af (by kernel_rfl)) (fun _=>rfl) (fun m x=>by kernel_rfl) (ai ⟨dH,fun _ _ _=>rfl⟩ (ai ⟨bg,fun _ _ _=>rfl⟩ aY)) false az
theorem JH:dD (xP (M.mG)):=fJ (cx:=kR) true xn Tryz.func153 (aS (aO 1 (by kernel_rfl) (bM (.mk (by kernel_rfl) Fa)))) ⟨zs1,fun x=>x.1.1⟩ (fun x=>by kernel_rfl)
def ahV(m:M.aK->(List UInt8)->Option (Int×Bool)):bG K:={f:=119,sh:=aEl,R:=Int×Bool,run:=fun x=>m x.1.1 x.1.2.1,dflt:=default,out:=fun r=>(Sh.enc D (.sO [.int .i64,.bool]) (r.1,(r.2,())),ja.encs D [] ())}
def al7:Cx K:=iZ [(153,.plain),(151,.plain)] [xP M.mG,Am M.oM] []
theorem ase:aJ al7:=ak aV _ (ai JH (ai Ic aY))
theorem awl:dD (ahV (M.YX)):=fJ (cx:=al7) true ase Tryz.func119 (aS (af (by kernel_rfl))) ⟨aCa,fun x=>(x.1.1.1,x.1.1.2.1)⟩ (fun x=>by kernel_rfl)
def iD(m:(List M.ae)->Option ((List Int))):bG K:={f:=194,sh:=zs9,R:=(List Int),run:=fun x=>m x.1.1,dflt:=default,out:=fun r=>(Sh.enc D (.bY U.i64) r,ja.encs D [] ())}
def al8(m:M.ae->Option ((List M.ae))):bG K:={f:=285,sh:=zs8,R:=(List M.ae),run:=fun x=>m x.1.1,dflt:=default,out:=fun r=>(Sh.enc D (.bY U.Type) r,ja.encs D [] ())}
theorem ayg:dD (al8 (M.aoq)):=fJ (cx:=bZ) true bP Tryz.func285 (aS (af (by kernel_rfl))) ⟨zs9,fun x=>x.1.1⟩ (fun x=>by kernel_rfl)
def vK(m:M.ae->Option ((List Int))):bG K:={f:=237,sh:=zs8,R:=(List Int),run:=fun x=>m x.1.1,dflt:=default,out:=fun r=>(Sh.enc D (.bY U.i64) r,ja.encs D [] ())}
def aeJ:cO K:=df D false 47 1 [0,1,5,13,14] [5] aGf (fun x=>M.yI x.1.1 x.1.2.1 x.1.2.2.2.1 az x.1.2.2.2.2.1 x.2.2.1) BR
def ahW(m:(List Int)->(List Int)->Option ((List Int))):bG K:={f:=286,sh:=⟨[.bY U.i64,.bY U.i64],[]⟩,R:=(List Int),run:=fun x=>m x.1.1 x.1.2.1,dflt:=default,out:=fun r=>(Sh.enc D (.own 0) (),ja.encs D [.arr U.i64] (r,()))}
def QK:Cx K:={Js with mode:=iY .plain [],rsl:=[[some U.i64]],call:=callOf D [],loop:=iO [(3,aeJ)]}
theorem aeK:aJ QK:=ak aV _ aY
theorem anA:bH QK (bD (bJ Tryz.f286) 0) aeJ:=bf (cx:=QK) (sh:=aGf) (run:=fun n x=>M.yI x.1.1 x.1.2.1 x.1.2.2.2.1 n x.1.2.2.2.2.1 x.2.2.1) (cZ:=DV) aV aeK aG (af (by kernel_rfl)) (fun _=>rfl) (fun m x=>by kernel_rfl) (ai ⟨bg,fun _ _ _=>rfl⟩ aY) false az
theorem awm:dD (ahW (M.aam)):=fJ (cx:=QK) false aeK Tryz.func286 (aS (aO 1 (by kernel_rfl) (bM (.mk (by kernel_rfl) anA)))) ⟨aHr,fun x=>x.2.1⟩ (fun x=>by kernel_rfl)
def aeL(eP:M.ae->Option ((List Int))):cO K:=df D false 45 1 [3,30,31,32] [3] aEr (fun x=>M.yJ eP x.1.2.1 x.1.2.2.1 az x.1.2.2.2.1 x.2.2.1) TU
def QL(aU:(List M.ae)->Option ((List Int)))(eP:M.ae->Option ((List Int))):Cx K:=iZ [(194,.lF),(285,.lF),(237,.lF),(286,.fresh)] [iD aU,al8 M.aoq,vK eP,ahW M.aam] [(17,aeL eP)]
theorem aeM(aU:(List M.ae)->Option ((List Int)))(eX:dD (iD aU))(eP:M.ae->Option ((List Int)))(Aa:dD (vK eP)):aJ (QL aU eP):=ak aV _ (ai eX (ai ayg (ai Aa (ai awm aY))))
theorem anB(aU:(List M.ae)->Option ((List Int)))(eX:dD (iD aU))(eP:M.ae->Option ((List Int)))(Aa:dD (vK eP)):bH (QL aU eP) (bD (bJ Tryz.f237) 0) (aeL eP):=bf (cx:=QL aU eP) (sh:=aEr) (run:=fun n x=>M.yJ eP x.1.2.1 x.1.2.2.1 n x.1.2.2.2.1 x.2.2.1) (cZ:=Xx) aV (aeM aU eX eP Aa) aG (af (by kernel_rfl)) (fun _=>rfl) (fun m x=>by kernel_rfl) (ai ⟨bg,fun _ _ _=>rfl⟩ aY) false az
theorem asf(aU:(List M.ae)->Option ((List Int)))(eX:dD (iD aU))(eP:M.ae->Option ((List Int)))(Aa:dD (vK eP)):dD (vK (M.Wh aU eP)):=vg (cx:=QL aU eP) (fz:=true) aV (aeM aU eX eP Aa) aG ⟨Tryz.func237,by kernel_rfl⟩ (aS (aO 1 (by kernel_rfl) (bM (.mk (by kernel_rfl) (anB aU eX eP Aa))))) ⟨awc,fun x=>x.1.1⟩ (fun x=>rfl) (fun x=>by kernel_rfl)
theorem aeN(aU:(List M.ae)->Option ((List Int)))(eX:dD (iD aU)):∀n,dD (vK (M.Bo aU n))|0=>qW fun _=>rfl|n+1=>asf aU eX (M.Bo aU n) (aeN aU eX n)
theorem awn(aU:(List M.ae)->Option ((List Int)))(eX:dD (iD aU)):dD (vK (M.ahX aU)):=aeN aU eX az
def Uk(aU:(List M.ae)->Option ((List Int))):cO K:=df D false 19 1 [3,7,8,9] [3] aEr (fun x=>M.pO aU x.1.2.1 x.1.2.2.1 az x.1.2.2.2.1 x.2.2.1) BR
def FX(aU:(List M.ae)->Option ((List Int))):Cx K:=iZ [(237,.lF)] [vK (M.ahX aU)] [(3,Uk aU)]
theorem Ul(aU:(List M.ae)->Option ((List Int)))(eX:dD (iD aU)):aJ (FX aU):=ak aV _ (ai (awn aU eX) aY)
theorem af4(aU:(List M.ae)->Option ((List Int)))(eX:dD (iD aU)):bH (FX aU) (bD (bJ Tryz.f194) 0) (Uk aU):=bf (cx:=FX aU) (sh:=aEr) (run:=fun n x=>M.pO aU x.1.2.1 x.1.2.2.1 n x.1.2.2.2.1 x.2.2.1) (cZ:=DV) aV (Ul aU eX) aG (af (by kernel_rfl)) (fun _=>rfl) (fun m x=>by kernel_rfl) (ai ⟨bg,fun _ _ _=>rfl⟩ aY) false az
theorem akr(aU:(List M.ae)->Option ((List Int)))(eX:dD (iD aU)):dD (iD (M.IQ aU)):=vg (cx:=FX aU) (fz:=true) aV (Ul aU eX) aG ⟨Tryz.func194,by kernel_rfl⟩ (aS (aO 1 (by kernel_rfl) (bM (.mk (by kernel_rfl) (af4 aU eX))))) ⟨awc,fun x=>x.1.1⟩ (fun x=>rfl) (fun x=>by kernel_rfl)
theorem Um:∀n,dD (iD (M.oN n))|0=>qW fun _=>rfl|n+1=>akr (M.oN n) (Um n)
theorem aan:dD (iD (M.EC)):=Um az
def XM(m:(List M.ae)->Option Bool):bG K:=cB 193 zs9 (fun x=>m x.1.1)
def aao:Cx K:=iZ [(194,.lF)] [iD M.EC] []
theorem aks:aJ aao:=ak aV _ (ai aan aY)
theorem ape:dD (XM (M.QM)):=fJ (cx:=aao) true aks Tryz.func193 (aS (af (by kernel_rfl))) ⟨zs0,fun x=>x.1.1⟩ (fun x=>by kernel_rfl)
def Un(m:(List M.ae)->Option ((List Int))):bG K:={f:=156,sh:=zs9,R:=(List Int),run:=fun x=>m x.1.1,dflt:=default,out:=fun r=>(Sh.enc D (.bY U.i64) r,ja.encs D [] ())}
def XN:Cx K:=iZ [(193,.plain),(194,.lF)] [XM M.QM,iD M.EC] []
theorem ahY:aJ XN:=ak aV _ (ai ape (ai aan aY))
theorem anC:dD (Un (M.MG)):=fJ (cx:=XN) true ahY Tryz.func156 (aS (af (by kernel_rfl))) ⟨awc,fun x=>x.1.1⟩ (fun x=>by kernel_rfl)
def KP(m:M.ah->Option (Int×Bool)):bG K:={f:=120,sh:=arJ,R:=Int×Bool,run:=fun x=>m x.1.1,dflt:=default,out:=fun r=>(Sh.enc D (.sO [.int .i64,.bool]) (r.1,(r.2,())),ja.encs D [] ())}
def aap:Cx K:=iZ [(148,.plain),(156,.lF),(155,.plain),(157,.plain)] [bG.frz D (V5 M.FD),Un M.MG,BX M.MH,LU M.ahf] []
theorem akt:aJ aap:=ak aV _ (ai (bG.aHs aV alW rfl (fun _=>rfl)) (ai anC (ai KQ (ai Y8 aY))))
theorem aaq:dD (KP (M.qZ)):=fJ (cx:=aap) true akt Tryz.func120 (aS (af (by kernel_rfl))) ⟨aCa,fun x=>(x.1.1.1,x.1.1.2.1)⟩ (fun x=>by kernel_rfl)
def aar:cO K:=df D false 84 1 [1,3,21,22,23] [2] aGg (fun x=>M.yT x.1.2.1 x.1.2.2.1 x.1.2.2.2.1 x.2.1 az x.1.2.2.2.2.1) kN
def aeO(m:M.aA->Option Bool):bG K:=cB 89 ao9 (fun x=>m x.1.1)
def MI:Cx K:=iZ [(118,.lF),(119,.plain),(120,.plain)] [OJ M.Ec,ahV M.YX,KP M.qZ] [(5,aar)]
theorem aas:aJ MI:=ak aV _ (ai aeI (ai awl (ai aaq aY)))
theorem aku:bH MI (bD (bJ Tryz.f89) 0) aar:=bf (cx:=MI) (sh:=aGg) (run:=fun n x=>M.yT x.1.2.1 x.1.2.2.1 x.1.2.2.2.1 x.2.1 n x.1.2.2.2.2.1) (cZ:=lI) aV aas aG (af (by kernel_rfl)) (fun _=>rfl) (fun m x=>by kernel_rfl) (ai ⟨dH,fun _ _ _=>rfl⟩ (ai ⟨bg,fun _ _ _=>rfl⟩ aY)) false az
theorem auM:dD (aeO (M.Tf)):=fJ (cx:=MI) true aas Tryz.func89 (aS (aO 1 (by kernel_rfl) (bM (.mk (by kernel_rfl) aku)))) ⟨zs0,fun x=>x.1.1⟩ (fun x=>by kernel_rfl)
def QN(m:M.aB->(List UInt8)->Option Bool):bG K:=cB 159 ⟨[.el U.Import,.rp U.str 0],[]⟩ (fun x=>m x.1.1 x.1.2.1)
theorem akv:dD (QN (M.aeP)):=fJ (cx:=bZ) true bP Tryz.func159 (aS (af (by kernel_rfl))) ⟨zs0,fun x=>x.1.1⟩ (fun x=>by kernel_rfl)
def rE:cO K:=df D false 19 0 [0,1,7,8] [4] aGh (fun x=>M.fE x.1.1 x.1.2.1.1 x.1.2.2.1 az x.1.2.2.2.1) dL
def sZ(m:(List M.aB)->(List UInt8)->Option Int):bG K:=cI 158 ⟨[.bY U.Import,.fn 159 [.rp U.str 0]],[]⟩ (fun x=>m x.1.1 x.1.2.1.1)
def jF:Cx K:=iZ [(159,.plain)] [QN M.aeP] [(2,rE)]
theorem rF:aJ jF:=ak aV _ (ai akv aY)
theorem BZ:bH jF (bD (bJ Tryz.f158) 0) rE:=bf (cx:=jF) (sh:=aGh) (run:=fun n x=>M.fE x.1.1 x.1.2.1.1 x.1.2.2.1 n x.1.2.2.2.1) (cZ:=dQ) aV rF aG (af (by kernel_rfl)) (fun _=>rfl) (fun m x=>by kernel_rfl) (ai ⟨dH,fun _ _ _=>rfl⟩ (ai ⟨bg,fun _ _ _=>rfl⟩ aY)) false az
theorem Fb:dD (sZ (M.kG)):=fJ (cx:=jF) true rF Tryz.func158 (aS (aO 1 (by kernel_rfl) (bM (.mk (by kernel_rfl) BZ)))) ⟨zs1,fun x=>x.1.1⟩ (fun x=>by kernel_rfl)
def OL(m:M.aK->(List UInt8)->Option (Int×Bool)):bG K:={f:=121,sh:=aEl,R:=Int×Bool,run:=fun x=>m x.1.1 x.1.2.1,dflt:=default,out:=fun r=>(Sh.enc D (.sO [.int .i64,.bool]) (r.1,(r.2,())),ja.encs D [] ())}
def aeQ:Cx K:=iZ [(158,.plain),(151,.plain)] [sZ M.kG,Am M.oM] []
theorem anD:aJ aeQ:=ak aV _ (ai Fb (ai Ic aY))
theorem aeR:dD (OL (M.Eb)):=fJ (cx:=aeQ) true anD Tryz.func121 (aS (af (by kernel_rfl))) ⟨aCa,fun x=>(x.1.1.1,x.1.1.2.1)⟩ (fun x=>by kernel_rfl)
def XO:cO K:=df D false 84 1 [1,3,21,22,23] [2] aGi (fun x=>M.wI x.1.2.1 x.1.2.2.1 x.1.2.2.2.1 x.2.1 az x.1.2.2.2.2.1) kN
def aat(m:M.aA->Option Bool):bG K:=cB 90 ao9 (fun x=>m x.1.1)
def IU:Cx K:=iZ [(118,.lF),(121,.plain),(120,.plain)] [OJ M.Ec,OL M.Eb,KP M.qZ] [(5,XO)]
theorem XP:aJ IU:=ak aV _ (ai aeI (ai aeR (ai aaq aY)))
theorem ahZ:bH IU (bD (bJ Tryz.f90) 0) XO:=bf (cx:=IU) (sh:=aGi) (run:=fun n x=>M.wI x.1.2.1 x.1.2.2.1 x.1.2.2.2.1 x.2.1 n x.1.2.2.2.2.1) (cZ:=lI) aV XP aG (af (by kernel_rfl)) (fun _=>rfl) (fun m x=>by kernel_rfl) (ai ⟨dH,fun _ _ _=>rfl⟩ (ai ⟨bg,fun _ _ _=>rfl⟩ aY)) false az
theorem asg:dD (aat (M.NW)):=fJ (cx:=IU) true XP Tryz.func90 (aS (aO 1 (by kernel_rfl) (bM (.mk (by kernel_rfl) ahZ)))) ⟨zs0,fun x=>x.1.1⟩ (fun x=>by kernel_rfl)
def af5(y:(Bool×M.aI)⊕((List UInt8)×(List UInt8)×(List UInt8)×(List (List UInt8))×(List M.aQ))){R:Type}(k:KT R):R:=match y with|.inl a0=>kk k Ex.ret aGj (((),(a0.1,())),(a0.2,((),((),()))))|.inr a1=>kk k (Ex.exit 0) aGk (((),((),())),((a1.1,(a1.2.1,(a1.2.2.1,((),((),()))))),((),((),(a1.2.2.2.1,(a1.2.2.2.2,()))))))
def ah0:List (gB K ((Bool×M.aI)⊕((List UInt8)×(List UInt8)×(List UInt8)×(List (List UInt8))×(List M.aQ)))):=[⟨Ex.ret,aGj,fun x=>.inl (x.1.2.1,x.2.1)⟩,⟨(Ex.exit 0),aGk,fun x=>.inr ((x.2.1.1,x.2.1.2.1,x.2.1.2.2.1,x.2.2.2.2.1,x.2.2.2.2.2.1))⟩]
def Uo:cO K:=df D false 21 3 [1,4,8,9,10] [4,5] aGl (fun x=>M.sS x.1.1 x.1.2.2.1 x.1.2.2.2.1 x.2.1.1 x.2.1.2.1 x.2.1.2.2.1 x.2.2.2.2.1 x.2.2.2.2.2.1 az x.1.2.2.2.2.1) af5
def XQ(m:(List M.aI)->(List UInt8)->Option (M.aI×Bool)):bG K:={f:=160,sh:=⟨[.bY U.dE,.str],[]⟩,R:=M.aI×Bool,run:=fun x=>m x.1.1 x.1.2.1,dflt:=default,out:=fun r=>(Sh.enc D (.sO [.el U.dE,.bool]) (r.1,(r.2,())),ja.encs D [] ())}
def FY:Cx K:=iZ [(56,.plain)] [Bc M.lD] [(2,Uo)]
theorem Ur:aJ FY:=ak aV _ (ai IJ aY)
theorem af6:bH FY (bD (bJ Tryz.f160) 0) Uo:=bf (cx:=FY) (sh:=aGl) (run:=fun n x=>M.sS x.1.1 x.1.2.2.1 x.1.2.2.2.1 x.2.1.1 x.2.1.2.1 x.2.1.2.2.1 x.2.2.2.2.1 x.2.2.2.2.2.1 n x.1.2.2.2.2.1) (cZ:=ah0) aV Ur aG (af (by kernel_rfl)) (fun _=>rfl) (fun m x=>by kernel_rfl) (ai ⟨dH,fun _ _ _=>rfl⟩ (ai ⟨bg,fun _ _ _=>rfl⟩ aY)) false az
theorem apf:dD (XQ (M.Jl)):=fJ (cx:=FY) true Ur Tryz.func160 (aS (aO 1 (by kernel_rfl) (bM (.mk (by kernel_rfl) af6)))) ⟨⟨[.sO [.el U.dE,.bool]],[]⟩,fun x=>(x.1.1.1,x.1.1.2.1)⟩ (fun x=>by kernel_rfl)
def QO(m:(List M.aI)->(List UInt8)->(List UInt8)->Option Bool):bG K:=cB 122 ⟨[.bY U.dE,.str,.str],[]⟩ (fun x=>m x.1.1 x.1.2.1 x.1.2.2.1)
def Us:Cx K:=iZ [(160,.lF),(145,.plain)] [XQ M.Jl,lV M.fG] []
theorem af7:aJ Us:=ak aV _ (ai apf (ai vz aY))
theorem akw:dD (QO (M.zQ)):=fJ (cx:=Us) true af7 Tryz.func122 (aS (af (by kernel_rfl))) ⟨zs0,fun x=>x.1.1⟩ (fun x=>by kernel_rfl)
def adA(y:Bool⊕(M.aA)){R:Type}(k:KT R):R:=match y with|.inl a0=>kk k Ex.ret aAR (((),(a0,())),((),()))|.inr a1=>kk k (Ex.exit 0) ⟨[.ptr 0 0,.any],[.el U.gX]⟩ (((),((),())),(a1,()))
def af8:List (gB K ((Bool)⊕(M.aA))):=[⟨Ex.ret,aAR,fun x=>.inl x.1.2.1⟩,⟨(Ex.exit 0),⟨[.ptr 0 0,.any],[.el U.gX]⟩,fun x=>.inr (x.2.1)⟩]
def QP:cO K:=df D false 79 1 [1,11,12,13] [1,2] aGm (fun x=>M.qE x.1.2.1 x.1.2.2.1 x.2.1 az x.1.2.2.2.1) adA
def Ut(m:M.aA->Option Bool):bG K:=cB 91 ao9 (fun x=>m x.1.1)
def DY:Cx K:=iZ [(122,.plain),(121,.plain),(88,.plain)] [QO M.zQ,OL M.Eb,mO M.AX] [(2,QP)]
theorem QQ:aJ DY:=ak aV _ (ai akw (ai aeR (ai rf aY)))
theorem adB:bH DY (bD (bJ Tryz.f91) 0) QP:=bf (cx:=DY) (sh:=aGm) (run:=fun n x=>M.qE x.1.2.1 x.1.2.2.1 x.2.1 n x.1.2.2.2.1) (cZ:=af8) aV QQ aG (af (by kernel_rfl)) (fun _=>rfl) (fun m x=>by kernel_rfl) (ai ⟨dH,fun _ _ _=>rfl⟩ (ai ⟨bg,fun _ _ _=>rfl⟩ aY)) false az
theorem anE:dD (Ut (M.Fq)):=fJ (cx:=DY) true QQ Tryz.func91 (aS (aO 1 (by kernel_rfl) (bM (.mk (by kernel_rfl) adB)))) ⟨zs0,fun x=>x.1.1⟩ (fun x=>by kernel_rfl)
def YE(y:M.aA×(List (List UInt8))){R:Type}(k:KT R):R:=match y with|a0=>kk k (Ex.exit 0) aEs (((),((),())),(a0.1,((),(a0.2,()))))
def aau:List (gB K (M.aA×(List (List UInt8)))):=[⟨(Ex.exit 0),aEs,fun x=>(x.2.1,x.2.2.2.1)⟩]
def Le:cO K:=df D false 46 2 [1,3,10,11,12] [1,3] aGn (fun x=>M.mJ x.1.2.2.1 x.1.2.2.2.1 x.2.1 az x.1.2.2.2.2.1 x.2.2.2.1) YE
def YF(y:M.aA×(List (List UInt8))){R:Type}(k:KT R):R:=match y with|a0=>kk k (Ex.exit 2) aEs (((),((),())),(a0.1,((),(a0.2,()))))
def aav:List (gB K (M.aA×(List (List UInt8)))):=[⟨(Ex.exit 2),aEs,fun x=>(x.2.1,x.2.2.2.1)⟩]
def Lh:cO K:=df D false 46 2 [1,3,23,24,25] [1,3] aGo (fun x=>M.mM x.1.2.2.1 x.1.2.2.2.1 x.2.1 az x.1.2.2.2.2.1 x.2.2.2.1) YF
def OM(m:M.aA->Option Bool):bG K:=cB 92 ao9 (fun x=>m x.1.1)
def qw:Cx K:=iZ [(123,.plain)] [xI M.mP] [(3,Le),(8,Lh)]
theorem CS:aJ qw:=ak aV _ (ai IG aY)
theorem YG:bH qw (bD (bJ Tryz.f92) 0) Le:=bf (cx:=qw) (sh:=aGn) (run:=fun n x=>M.mJ x.1.2.2.1 x.1.2.2.2.1 x.2.1 n x.1.2.2.2.2.1 x.2.2.2.1) (cZ:=aau) aV CS aG (af (by kernel_rfl)) (fun _=>rfl) (fun m x=>by kernel_rfl) (ai ⟨bg,fun _ _ _=>rfl⟩ aY) false az
theorem YH:bH qw (bD (bJ Tryz.f92) 1) Lh:=bf (cx:=qw) (sh:=aGo) (run:=fun n x=>M.mM x.1.2.2.1 x.1.2.2.2.1 x.2.1 n x.1.2.2.2.2.1 x.2.2.2.1) (cZ:=aav) aV CS aG (af (by kernel_rfl)) (fun _=>rfl) (fun m x=>by kernel_rfl) (ai ⟨bg,fun _ _ _=>rfl⟩ aY) false az
theorem ah1:dD (OM (M.AU)):=fJ (cx:=qw) true CS Tryz.func92 (aS (aO 2 (by kernel_rfl) (lt_succ (bM (.mk (by kernel_rfl) YG)) (.mk (by kernel_rfl) YH)))) ⟨zs0,fun x=>x.1.1⟩ (fun x=>by kernel_rfl)
def JI(m:M.aA->Option ((List UInt8))):bG K:=cS 55 ao9 (fun x=>m x.1.1)
def Lj:Cx K:=iZ [(83,.plain),(84,.plain),(85,.plain),(86,.plain),(87,.plain),(88,.plain),(89,.plain),(90,.plain),(91,.plain),(92,.plain)] [BQ M.qO,KF M.AY,aea M.NG,Ub M.ahL,aal M.OI,mO M.AX,aeO M.Tf,aat M.NW,Ut M.Fq,OM M.AU] []
theorem YI:aJ Lj:=ak aV _ (ai Jr (ai Y6 (ai auo (ai anu (ai asc (ai rf (ai auM (ai asg (ai anE (ai ah1 aY))))))))))
theorem adC:dD (JI (M.xH)):=fJ (cx:=Lj) true YI Tryz.func55 (aS (af (by kernel_rfl))) ⟨zs6,fun x=>x.1.1⟩ (fun x=>by kernel_rfl)
def QR(m:M.aA->Option Bool):bG K:=cB 28 ao9 (fun x=>m x.1.1)
def Uu:Cx K:=iZ [(55,.plain)] [JI M.xH] []
theorem af9:aJ Uu:=ak aV _ (ai adC aY)
theorem akx:dD (QR (M.Dc)):=fJ (cx:=Uu) true af9 Tryz.func28 (aS (af (by kernel_rfl))) ⟨zs0,fun x=>x.1.1⟩ (fun x=>by kernel_rfl)
def Uw:cO K:=df D false 22 1 [0,3,4] [3] aGp (fun x=>M.pR x.1.1 az x.1.2.2.1 x.2.2.1) sU
def KR(m:(List (List UInt8))->Option ((List (List UInt8)))):bG K:={f:=79,sh:=aoK,R:=(List (List UInt8)),run:=fun x=>m x.1.1,dflt:=default,out:=fun r=>(Sh.enc D (.own 0) (),ja.encs D [.arr U.str] (r,()))}
def FZ:Cx K:={Js with mode:=iY .plain [],rsl:=[[some U.str]],deep:=fun c=>dK (D.cells c (K.zero c)),call:=callOf D [],loop:=iO [(3,Uw)]}
theorem Ux:aJ FZ:=ak aV _ aY
theorem aga:bH FZ (bD (bJ Tryz.f79) 0) Uw:=bf (cx:=FZ) (sh:=aGp) (run:=fun n x=>M.pR x.1.1 n x.1.2.2.1 x.2.2.1) (cZ:=ve) aV Ux aG (af (by kernel_rfl)) (fun _=>rfl) (fun m x=>by kernel_rfl) (ai ⟨bg,fun _ _ _=>rfl⟩ aY) false az
theorem aaw:dD (KR (M.Bq)):=fJ (cx:=FZ) false Ux Tryz.func79 (aS (aO 1 (by kernel_rfl) (bM (.mk (by kernel_rfl) aga)))) ⟨aEj,fun x=>x.2.1⟩ (fun x=>by kernel_rfl)
def mY(m:M.ae->Option (Int×(List UInt8)×(List (List UInt8))×(List M.ae))):bG K:={f:=177,sh:=zs8,R:=Int×(List UInt8)×(List (List UInt8))×(List M.ae),run:=fun x=>m x.1.1,dflt:=default,out:=fun r=>(Sh.enc D (.agg [.int .i64,.str,.own 0,.own 1]) (r.1,(r.2.1,((),((),())))),ja.encs D [.arr U.str,.tree U.Type] (r.2.2.1,(r.2.2.2,())))}
def aky(y:(List M.ae)){R:Type}(k:KT R):R:=match y with|a0=>kk k (Ex.exit 0) ⟨[.own 1],[.dead,.tree U.Type]⟩ (((),()),((),(a0,())))
def anF:List (gB K ((List M.ae))):=[⟨(Ex.exit 0),⟨[.own 1],[.dead,.tree U.Type]⟩,fun x=>x.2.2.1⟩]
def aax(dC:M.ae->Option (Int×(List UInt8)×(List (List UInt8))×(List M.ae))):cO K:=df D false 23 1 [0,3,4] [3] aGq (fun x=>M.vM dC x.1.1 az x.1.2.2.1 x.2.2.1) aky
def aeS(m:(List M.ae)->Option ((List M.ae))):bG K:={f:=216,sh:=zs9,R:=(List M.ae),run:=fun x=>m x.1.1,dflt:=default,out:=fun r=>(Sh.enc D (.own 0) (),ja.encs D [.tree U.Type] (r,()))}
def MJ(dC:M.ae->Option (Int×(List UInt8)×(List (List UInt8))×(List M.ae))):Cx K:={Js with mode:=iY .plain [(177,.fresh)],rsl:=[[some U.Type]],deep:=fun c=>dK (D.cells c (K.zero c)),call:=callOf D [mY dC],loop:=iO [(3,aax dC)]}
theorem aay(dC:M.ae->Option (Int×(List UInt8)×(List (List UInt8))×(List M.ae)))(l9:dD (mY dC)):aJ (MJ dC):=ak aV _ (ai l9 aY)
theorem akz(dC:M.ae->Option (Int×(List UInt8)×(List (List UInt8))×(List M.ae)))(l9:dD (mY dC)):bH (MJ dC) (bD (bJ Tryz.f216) 0) (aax dC):=bf (cx:=MJ dC) (sh:=aGq) (run:=fun n x=>M.vM dC x.1.1 n x.1.2.2.1 x.2.2.1) (cZ:=anF) aV (aay dC l9) aG (af (by kernel_rfl)) (fun _=>rfl) (fun m x=>by kernel_rfl) (ai ⟨bg,fun _ _ _=>rfl⟩ aY) false az
theorem auN(dC:M.ae->Option (Int×(List UInt8)×(List (List UInt8))×(List M.ae)))(l9:dD (mY dC)):dD (aeS (M.Uy dC)):=vg (cx:=MJ dC) (fz:=false) aV (aay dC l9) aG ⟨Tryz.func216,by kernel_rfl⟩ (aS (aO 1 (by kernel_rfl) (bM (.mk (by kernel_rfl) (akz dC l9))))) ⟨⟨[.own 0],[.tree U.Type]⟩,fun x=>x.2.1⟩ (fun x=>rfl) (fun x=>by kernel_rfl)
def al9(dC:M.ae->Option (Int×(List UInt8)×(List (List UInt8))×(List M.ae))):Cx K:={Js with mode:=iY .plain [(79,.fresh),(216,.fresh)],rsl:=[[none,none,some U.str,some U.Type]],deep:=fun c=>dK (D.cells c (K.zero c)),call:=callOf D [KR M.Bq,aeS (M.Uy dC)],loop:=iO []}
theorem ash(dC:M.ae->Option (Int×(List UInt8)×(List (List UInt8))×(List M.ae)))(l9:dD (mY dC)):aJ (al9 dC):=ak aV _ (ai aaw (ai (auN dC l9) aY))
theorem asi(dC:M.ae->Option (Int×(List UInt8)×(List (List UInt8))×(List M.ae)))(l9:dD (mY dC)):dD (mY (M.Wi dC)):=vg (cx:=al9 dC) (fz:=false) aV (ash dC l9) aG ⟨Tryz.func177,by kernel_rfl⟩ (aS (af (by kernel_rfl))) ⟨⟨[.agg [.int .i64,.str,.own 0,.own 1]],[.arr U.str,.tree U.Type]⟩,fun x=>(x.1.1.1,x.1.1.2.1,x.2.1,x.2.2.1)⟩ (fun x=>rfl) (fun x=>by kernel_rfl)
theorem aeT:∀n,dD (mY (M.Ei n))|0=>qW fun _=>rfl|n+1=>asi (M.Ei n) (aeT n)
theorem ama:dD (mY (M.Uz)):=aeT az
def aeU(m:M.ay->Option ((List UInt8)×Int×(List UInt8)×(List (List UInt8))×(List M.ae))):bG K:={f:=215,sh:=⟨[.el U.Param],[]⟩,R:=(List UInt8)×Int×(List UInt8)×(List (List UInt8))×(List M.ae),run:=fun x=>m x.1.1,dflt:=default,out:=fun r=>(Sh.enc D (.agg [.str,.int .i64,.str,.own 0,.own 1]) (r.1,(r.2.1,(r.2.2.1,((),((),()))))),ja.encs D [.arr U.str,.tree U.Type] (r.2.2.2.1,(r.2.2.2.2,())))}
def ah2:Cx K:={Js with mode:=iY .plain [(177,.fresh)],rsl:=[[none,none,none,some U.str,some U.Type]],deep:=fun c=>dK (D.cells c (K.zero c)),call:=callOf D [mY M.Uz],loop:=iO []}
theorem apg:aJ ah2:=ak aV _ (ai ama aY)
theorem auO:dD (aeU (M.UA)):=fJ (cx:=ah2) false apg Tryz.func215 (aS (af (by kernel_rfl))) ⟨⟨[.agg [.str,.int .i64,.str,.own 0,.own 1]],[.arr U.str,.tree U.Type]⟩,fun x=>(x.1.1.1,x.1.1.2.1,x.1.1.2.2.1,x.2.1,x.2.2.1)⟩ (fun x=>by kernel_rfl)
def ah3(y:(List M.ay)){R:Type}(k:KT R):R:=match y with|a0=>kk k (Ex.exit 0) ⟨[.own 1],[.dead,.tree U.Param]⟩ (((),()),((),(a0,())))
def akA:List (gB K ((List M.ay))):=[⟨(Ex.exit 0),⟨[.own 1],[.dead,.tree U.Param]⟩,fun x=>x.2.2.1⟩]
def XR:cO K:=df D false 23 1 [0,3,4] [3] aGr (fun x=>M.rG x.1.1 az x.1.2.2.1 x.2.2.1) ah3
def aaz(m:(List M.ay)->Option ((List M.ay))):bG K:={f:=176,sh:=⟨[.bY U.Param],[]⟩,R:=(List M.ay),run:=fun x=>m x.1.1,dflt:=default,out:=fun r=>(Sh.enc D (.own 0) (),ja.encs D [.tree U.Param] (r,()))}
def IV:Cx K:={Js with mode:=iY .plain [(215,.fresh)],rsl:=[[some U.Param]],deep:=fun c=>dK (D.cells c (K.zero c)),call:=callOf D [aeU M.UA],loop:=iO [(3,XR)]}
theorem XT:aJ IV:=ak aV _ (ai auO aY)
theorem ah4:bH IV (bD (bJ Tryz.f176) 0) XR:=bf (cx:=IV) (sh:=aGr) (run:=fun n x=>M.rG x.1.1 n x.1.2.2.1 x.2.2.1) (cZ:=akA) aV XT aG (af (by kernel_rfl)) (fun _=>rfl) (fun m x=>by kernel_rfl) (ai ⟨bg,fun _ _ _=>rfl⟩ aY) false az
theorem asj:dD (aaz (M.OO)):=fJ (cx:=IV) false XT Tryz.func176 (aS (aO 1 (by kernel_rfl) (bM (.mk (by kernel_rfl) ah4)))) ⟨⟨[.own 0],[.tree U.Param]⟩,fun x=>x.2.1⟩ (fun x=>by kernel_rfl)
def UB(m:M.ah->Option (Int×(List UInt8)×Bool×(List M.ay)×(List (List UInt8))×(List M.ae))):bG K:={f:=136,sh:=arJ,R:=Int×(List UInt8)×Bool×(List M.ay)×(List (List UInt8))×(List M.ae),run:=fun x=>m x.1.1,dflt:=default,out:=fun r=>(Sh.enc D (.agg [.own 0,.int .i64,.str,.own 1,.own 2,.bool]) ((),(r.1,(r.2.1,((),((),(r.2.2.1,())))))),ja.encs D [.tree U.Param,.arr U.str,.tree U.Type] (r.2.2.2.1,(r.2.2.2.2.1,(r.2.2.2.2.2,()))))}
def XU:Cx K:={Js with mode:=iY .plain [(176,.fresh),(177,.fresh)],rsl:=[[some U.Param,none,none,some U.str,some U.Type,none]],deep:=fun c=>dK (D.cells c (K.zero c)),call:=callOf D [aaz M.OO,mY M.Uz],loop:=iO []}
theorem ah5:aJ XU:=ak aV _ (ai asj (ai ama aY))
theorem anG:dD (UB (M.F5)):=fJ (cx:=XU) false ah5 Tryz.func136 (aS (af (by kernel_rfl))) ⟨⟨[.agg [.own 0,.int .i64,.str,.own 1,.own 2,.bool]],[.tree U.Param,.arr U.str,.tree U.Type]⟩,fun x=>(x.1.1.2.1,x.1.1.2.2.1,x.1.1.2.2.2.2.2.1,x.2.1,x.2.2.1,x.2.2.2.1)⟩ (fun x=>by kernel_rfl)
def ah6(m:M.aQ->Option ((List UInt8)×Int×(List UInt8)×Bool×(List M.ay)×(List (List UInt8))×(List M.ae))):bG K:={f:=109,sh:=⟨[.el U.Func],[]⟩,R:=(List UInt8)×Int×(List UInt8)×Bool×(List M.ay)×(List (List UInt8))×(List M.ae),run:=fun x=>m x.1.1,dflt:=default,out:=fun r=>(Sh.enc D (.agg [.str,.own 0,.int .i64,.str,.own 1,.own 2,.bool]) (r.1,((),(r.2.1,(r.2.2.1,((),((),(r.2.2.2.1,()))))))),ja.encs D [.tree U.Param,.arr U.str,.tree U.Type] (r.2.2.2.2.1,(r.2.2.2.2.2.1,(r.2.2.2.2.2.2,()))))}
def amb:Cx K:={Js with mode:=iY .plain [(136,.fresh)],rsl:=[[none,some U.Param,none,none,some U.str,some U.Type,none]],deep:=fun c=>dK (D.cells c (K.zero c)),call:=callOf D [UB M.F5],loop:=iO []}
theorem asl:aJ amb:=ak aV _ (ai anG aY)
theorem awo:dD (ah6 (M.aaA)):=fJ (cx:=amb) false asl Tryz.func109 (aS (af (by kernel_rfl))) ⟨⟨[.agg [.str,.own 0,.int .i64,.str,.own 1,.own 2,.bool]],[.tree U.Param,.arr U.str,.tree U.Type]⟩,fun x=>(x.1.1.1,x.1.1.2.2.1,x.1.1.2.2.2.1,x.1.1.2.2.2.2.2.2.1,x.2.1,x.2.2.1,x.2.2.2.1)⟩ (fun x=>by kernel_rfl)
def akB(y:(List M.aQ)){R:Type}(k:KT R):R:=match y with|a0=>kk k (Ex.exit 0) ⟨[.own 1],[.dead,.tree U.Func]⟩ (((),()),((),(a0,())))
def anH:List (gB K ((List M.aQ))):=[⟨(Ex.exit 0),⟨[.own 1],[.dead,.tree U.Func]⟩,fun x=>x.2.2.1⟩]
def aaB:cO K:=df D false 23 1 [0,3,4] [3] aGs (fun x=>M.vN x.1.1 az x.1.2.2.1 x.2.2.1) akB
def aeV(m:(List M.aQ)->Option ((List M.aQ))):bG K:={f:=80,sh:=⟨[.bY U.Func],[]⟩,R:=(List M.aQ),run:=fun x=>m x.1.1,dflt:=default,out:=fun r=>(Sh.enc D (.own 0) (),ja.encs D [.tree U.Func] (r,()))}
def MK:Cx K:={Js with mode:=iY .plain [(109,.fresh)],rsl:=[[some U.Func]],deep:=fun c=>dK (D.cells c (K.zero c)),call:=callOf D [ah6 M.aaA],loop:=iO [(3,aaB)]}
theorem aaC:aJ MK:=ak aV _ (ai awo aY)
theorem akC:bH MK (bD (bJ Tryz.f80) 0) aaB:=bf (cx:=MK) (sh:=aGs) (run:=fun n x=>M.vN x.1.1 n x.1.2.2.1 x.2.2.1) (cZ:=anH) aV aaC aG (af (by kernel_rfl)) (fun _=>rfl) (fun m x=>by kernel_rfl) (ai ⟨bg,fun _ _ _=>rfl⟩ aY) false az
theorem auP:dD (aeV (M.UC)):=fJ (cx:=MK) false aaC Tryz.func80 (aS (aO 1 (by kernel_rfl) (bM (.mk (by kernel_rfl) akC)))) ⟨⟨[.own 0],[.tree U.Func]⟩,fun x=>x.2.1⟩ (fun x=>by kernel_rfl)
def ah7(m:M.aI->Option ((List UInt8)×(List UInt8)×(List UInt8)×(List (List UInt8))×(List M.aQ))):bG K:={f:=49,sh:=aB9,R:=(List UInt8)×(List UInt8)×(List UInt8)×(List (List UInt8))×(List M.aQ),run:=fun x=>m x.1.1,dflt:=default,out:=fun r=>(Sh.enc D (.agg [.str,.str,.str,.own 0,.own 1]) (r.1,(r.2.1,(r.2.2.1,((),((),()))))),ja.encs D [.arr U.str,.tree U.Func] (r.2.2.2.1,(r.2.2.2.2,())))}
def amc:Cx K:={Js with mode:=iY .plain [(79,.fresh),(80,.fresh)],rsl:=[[none,none,none,some U.str,some U.Func]],deep:=fun c=>dK (D.cells c (K.zero c)),call:=callOf D [KR M.Bq,aeV M.UC],loop:=iO []}
theorem asn:aJ amc:=ak aV _ (ai aaw (ai auP aY))
theorem awp:dD (ah7 (M.aaD)):=fJ (cx:=amc) false asn Tryz.func49 (aS (af (by kernel_rfl))) ⟨⟨[.agg [.str,.str,.str,.own 0,.own 1]],[.arr U.str,.tree U.Func]⟩,fun x=>(x.1.1.1,x.1.1.2.1,x.1.1.2.2.1,x.2.1,x.2.2.1)⟩ (fun x=>by kernel_rfl)
def akD(y:(List M.aI)){R:Type}(k:KT R):R:=match y with|a0=>kk k (Ex.exit 0) ⟨[.own 1],[.dead,.tree U.dE]⟩ (((),()),((),(a0,())))
def anI:List (gB K ((List M.aI))):=[⟨(Ex.exit 0),⟨[.own 1],[.dead,.tree U.dE]⟩,fun x=>x.2.2.1⟩]
def aaE:cO K:=df D false 23 1 [0,3,4] [3] aGt (fun x=>M.vO x.1.1 az x.1.2.2.1 x.2.2.1) akD
def aeW(m:(List M.aI)->Option ((List M.aI))):bG K:={f:=23,sh:=aAN,R:=(List M.aI),run:=fun x=>m x.1.1,dflt:=default,out:=fun r=>(Sh.enc D (.own 0) (),ja.encs D [.tree U.dE] (r,()))}
def ML:Cx K:={Js with mode:=iY .plain [(49,.fresh)],rsl:=[[some U.dE]],deep:=fun c=>dK (D.cells c (K.zero c)),call:=callOf D [ah7 M.aaD],loop:=iO [(3,aaE)]}
theorem aaF:aJ ML:=ak aV _ (ai awp aY)
theorem akE:bH ML (bD (bJ Tryz.f23) 0) aaE:=bf (cx:=ML) (sh:=aGt) (run:=fun n x=>M.vO x.1.1 n x.1.2.2.1 x.2.2.1) (cZ:=anI) aV aaF aG (af (by kernel_rfl)) (fun _=>rfl) (fun m x=>by kernel_rfl) (ai ⟨bg,fun _ _ _=>rfl⟩ aY) false az
theorem auQ:dD (aeW (M.NK)):=fJ (cx:=ML) false aaF Tryz.func23 (aS (aO 1 (by kernel_rfl) (bM (.mk (by kernel_rfl) akE)))) ⟨⟨[.own 0],[.tree U.dE]⟩,fun x=>x.2.1⟩ (fun x=>by kernel_rfl)
def QS(m:M.aA->Option ((List UInt8)×(List UInt8)×Int×Int×Int×(List M.aI)×(List M.aI)×(List M.aB)×(List M.aH)×(List M.dn)×(List M.bF)×(List M.aN))):bG K:={f:=7,sh:=ao9,R:=(List UInt8)×(List UInt8)×Int×Int×Int×(List M.aI)×(List M.aI)×(List M.aB)×(List M.aH)×(List M.dn)×(List M.bF)×(List M.aN),run:=fun x=>m x.1.1,dflt:=default,out:=fun r=>(Sh.enc D (.agg [.str,.str,.own 0,.own 1,.int .i64,.int .i64,.int .i64,.own 2,.own 3,.own 4,.own 5,.own 6]) (r.1,(r.2.1,((),((),(r.2.2.1,(r.2.2.2.1,(r.2.2.2.2.1,((),((),((),((),((),())))))))))))),ja.encs D [.tree U.dE,.tree U.dE,.arr U.Import,.tree U.Core,.arr U.sW,.arr U.Lower,.arr U.Builtin] (r.2.2.2.2.2.1,(r.2.2.2.2.2.2.1,(r.2.2.2.2.2.2.2.1,(r.2.2.2.2.2.2.2.2.1,(r.2.2.2.2.2.2.2.2.2.1,(r.2.2.2.2.2.2.2.2.2.2.1,(r.2.2.2.2.2.2.2.2.2.2.2,()))))))))}
def UD:Cx K:={Js with mode:=iY .plain [(23,.fresh),(24,.fresh),(25,.fresh),(26,.fresh),(27,.fresh)],rsl:=[[none,none,some U.dE,some U.dE,none,none,none,some U.Import,some U.Core,some U.sW,some U.Lower,some U.Builtin]],deep:=fun c=>dK (D.cells c (K.zero c)),call:=callOf D [aeW M.NK,aaG M.OQ,aeh M.TG,Zu M.Ol,TI M.FN],loop:=iO []}
theorem agb:aJ UD:=ak aV _ (ai auQ (ai aso (ai auv (ai arU (ai anl aY)))))
theorem akF:dD (QS (M.Dt)):=fJ (cx:=UD) false agb Tryz.func7 (aS (af (by kernel_rfl))) ⟨⟨[.agg [.str,.str,.own 0,.own 1,.int .i64,.int .i64,.int .i64,.own 2,.own 3,.own 4,.own 5,.own 6]],[.tree U.dE,.tree U.dE,.arr U.Import,.tree U.Core,.arr U.sW,.arr U.Lower,.arr U.Builtin]⟩,fun x=>(x.1.1.1,x.1.1.2.1,x.1.1.2.2.2.2.1,x.1.1.2.2.2.2.2.1,x.1.1.2.2.2.2.2.2.1,x.2.1,x.2.2.1,x.2.2.2.1,x.2.2.2.2.1,x.2.2.2.2.2.1,x.2.2.2.2.2.2.1,x.2.2.2.2.2.2.2.1)⟩ (fun x=>by kernel_rfl)
def XV:cO K:=df D false 21 1 [0,3,4] [3] aGu (fun x=>M.wP x.1.1 az x.1.2.2.1 x.2.2.1) sU
def aaH(m:(List M.aI)->Option ((List (List UInt8)))):bG K:={f:=22,sh:=aAN,R:=(List (List UInt8)),run:=fun x=>m x.1.1,dflt:=default,out:=fun r=>(Sh.enc D (.bY U.str) r,ja.encs D [] ())}
def IW:Cx K:=iZ [(48,.plain)] [zS M.jS] [(3,XV)]
theorem XW:aJ IW:=ak aV _ (ai Fv aY)
theorem ah8:bH IW (bD (bJ Tryz.f22) 0) XV:=bf (cx:=IW) (sh:=aGu) (run:=fun n x=>M.wP x.1.1 n x.1.2.2.1 x.2.2.1) (cZ:=ve) aV XW aG (af (by kernel_rfl)) (fun _=>rfl) (fun m x=>by kernel_rfl) (ai ⟨bg,fun _ _ _=>rfl⟩ aY) false az
theorem asq:dD (aaH (M.OT)):=fJ (cx:=IW) true XW Tryz.func22 (aS (aO 1 (by kernel_rfl) (bM (.mk (by kernel_rfl) ah8)))) ⟨aoK,fun x=>x.1.1⟩ (fun x=>by kernel_rfl)
def UE:cO K:=df D false 20 1 [3,7,8,9] [3] aGv (fun x=>M.tq x.1.2.1 x.1.2.2.1 az x.1.2.2.2.1 x.2.2.1) sU
def XX(m:(List M.aI)->Option ((List (List UInt8)))):bG K:={f:=29,sh:=aAN,R:=(List (List UInt8)),run:=fun x=>m x.1.1,dflt:=default,out:=fun r=>(Sh.enc D (.own 0) (),ja.encs D [.arr U.str] (r,()))}
def F6:Cx K:={Js with mode:=iY .plain [(56,.plain)],rsl:=[[some U.str]],call:=callOf D [Bc M.lD],loop:=iO [(3,UE)]}
theorem UF:aJ F6:=ak aV _ (ai IJ aY)
theorem agc:bH F6 (bD (bJ Tryz.f29) 0) UE:=bf (cx:=F6) (sh:=aGv) (run:=fun n x=>M.tq x.1.2.1 x.1.2.2.1 n x.1.2.2.2.1 x.2.2.1) (cZ:=ve) aV UF aG (af (by kernel_rfl)) (fun _=>rfl) (fun m x=>by kernel_rfl) (ai ⟨bg,fun _ _ _=>rfl⟩ aY) false az
theorem aph:dD (XX (M.JK)):=fJ (cx:=F6) false UF Tryz.func29 (aS (aO 1 (by kernel_rfl) (bM (.mk (by kernel_rfl) agc)))) ⟨aEj,fun x=>x.2.1⟩ (fun x=>by kernel_rfl)
def ah9(y:(List UInt8)){R:Type}(k:KT R):R:=match y with|a0=>kk k (Ex.exit 0) zs6 ((a0,()),())
def akG:List (gB K ((List UInt8))):=[⟨(Ex.exit 0),zs6,fun x=>x.1.1⟩]
def XY:cO K:=df D false 20 0 [0,3] [3] ⟨[.int .i64,.str],[]⟩ (fun x=>M.wQ az x.1.1 x.1.2.1) ah9
def jD(m:Int->Option ((List UInt8))):bG K:=cS 40 zs1 (fun x=>m x.1.1)
def IX:Cx K:={Js with mode:=iY .plain [],deep:=fun c=>dK (D.cells c (K.zero c)),call:=callOf D [],loop:=iO [(4,XY)]}
theorem XZ:aJ IX:=ak aV _ aY
theorem aia:bH IX (bD (bJ Tryz.f40) 0) XY:=bf (cx:=IX) (sh:=⟨[.int .i64,.str],[]⟩) (run:=fun n x=>M.wQ n x.1.1 x.1.2.1) (cZ:=akG) aV XZ aG (af (by kernel_rfl)) (fun _=>rfl) (fun m x=>by kernel_rfl) (ai ⟨bg,fun _ _ _=>rfl⟩ aY) false az
theorem kU:dD (jD (M.dV)):=fJ (cx:=IX) true XZ Tryz.func40 (aS (aO 1 (by kernel_rfl) (bM (.mk (by kernel_rfl) aia)))) ⟨zs6,fun x=>x.1.1⟩ (fun x=>by kernel_rfl)
def aaI(y:Int×(List (List UInt8))){R:Type}(k:KT R):R:=match y with|a0=>kk k (Ex.exit 0) aHt ((a0.1,()),(a0.2,()))
def adF:List (gB K (Int×(List (List UInt8)))):=[⟨(Ex.exit 0),aHt,fun x=>(x.1.1,x.2.1)⟩]
def OU:cO K:=df D true 20 1 [0,1,5] [1] aGw (fun x=>M.sH az x.1.2.1 x.1.2.2.1 x.2.1) aaI
def qx(m:Int->(List (List UInt8))->Option (Int×(List (List UInt8)))):bG K:={f:=12,sh:=⟨[.own 0,.int .i64],[.arr U.str]⟩,R:=Int×(List (List UInt8)),run:=fun x=>m x.1.2.1 x.2.1,dflt:=default,out:=fun r=>(Sh.enc D (.int .i64) r.1,ja.encs D [.arr U.str] (r.2,()))}
def Cb:Cx K:={Js with mode:=iY .plain [(40,.plain)],deep:=fun c=>dK (D.cells c (K.zero c)),opn:=true,call:=callOf D [jD M.dV],loop:=iO [(2,OU)]}
theorem OV:aJ Cb:=ak aV _ (ai kU aY)
theorem aaJ:bH Cb (bD (bJ Tryz.f12) 0) OU:=bf (cx:=Cb) (sh:=aGw) (run:=fun n x=>M.sH n x.1.2.1 x.1.2.2.1 x.2.1) (cZ:=adF) aV OV aG (af (by kernel_rfl)) (fun _=>rfl) (fun m x=>by kernel_rfl) (ai ⟨bg,fun _ _ _=>rfl⟩ aY) true az
theorem xU:dD (qx (M.jm)):=fJ (cx:=Cb) true OV Tryz.func12 (aS (aO 1 (by kernel_rfl) (bM (.mk (by kernel_rfl) aaJ)))) ⟨aHt,fun x=>(x.1.1,x.2.1)⟩ (fun x=>by kernel_rfl)
def lg(m:Int->(List M.ae)->Option (Int×(List M.ae))):bG K:={f:=97,sh:=⟨[.own 0,.int .i64],[.tree U.Type]⟩,R:=Int×(List M.ae),run:=fun x=>m x.1.2.1 x.2.1,dflt:=default,out:=fun r=>(Sh.enc D (.int .i64) r.1,ja.encs D [.tree U.Type] (r.2,()))}
def agd(y:Int×(List M.ae)){R:Type}(k:KT R):R:=match y with|a0=>kk k (Ex.exit 0) aHu ((a0.1,()),(a0.2,()))
def aib:List (gB K (Int×(List M.ae))):=[⟨(Ex.exit 0),aHu,fun x=>(x.1.1,x.2.1)⟩]
def UG(dJ:Int->(List M.ae)->Option (Int×(List M.ae))):cO K:=df D true 42 1 [0,1,5] [1] aGx (fun x=>M.tu dJ az x.1.2.1 x.1.2.2.1 x.2.1) agd
def F7(dJ:Int->(List M.ae)->Option (Int×(List M.ae))):Cx K:={Js with mode:=iY .plain [(40,.plain),(12,.pass),(97,.pass)],deep:=fun c=>dK (D.cells c (K.zero c)),opn:=true,call:=callOf D [jD M.dV,qx M.jm,lg dJ],loop:=iO [(2,UG dJ)]}
theorem UH(dJ:Int->(List M.ae)->Option (Int×(List M.ae)))(sJ:dD (lg dJ)):aJ (F7 dJ):=ak aV _ (ai kU (ai xU (ai sJ aY)))
theorem age(dJ:Int->(List M.ae)->Option (Int×(List M.ae)))(sJ:dD (lg dJ)):bH (F7 dJ) (bD (bJ Tryz.f97) 0) (UG dJ):=bf (cx:=F7 dJ) (sh:=aGx) (run:=fun n x=>M.tu dJ n x.1.2.1 x.1.2.2.1 x.2.1) (cZ:=aib) aV (UH dJ sJ) aG (af (by kernel_rfl)) (fun _=>rfl) (fun m x=>by kernel_rfl) (ai ⟨bg,fun _ _ _=>rfl⟩ aY) true az
theorem akH(dJ:Int->(List M.ae)->Option (Int×(List M.ae)))(sJ:dD (lg dJ)):dD (lg (M.IY dJ)):=vg (cx:=F7 dJ) (fz:=true) aV (UH dJ sJ) aG ⟨Tryz.func97,by kernel_rfl⟩ (aS (aO 1 (by kernel_rfl) (bM (.mk (by kernel_rfl) (age dJ sJ))))) ⟨aHu,fun x=>(x.1.1,x.2.1)⟩ (fun x=>rfl) (fun x=>by kernel_rfl)
theorem UI:∀n,dD (lg (M.wR n))|0=>qW fun _=>rfl|n+1=>akH (M.wR n) (UI n)
theorem aaK:dD (lg (M.ED)):=UI az
def adG(y:Int×(List M.ay)){R:Type}(k:KT R):R:=match y with|a0=>kk k (Ex.exit 0) aHv ((a0.1,()),(a0.2,()))
def agf:List (gB K (Int×(List M.ay))):=[⟨(Ex.exit 0),aHv,fun x=>(x.1.1,x.2.1)⟩]
def QT:cO K:=df D true 54 1 [0,1,5] [1] aGy (fun x=>M.qH az x.1.2.1 x.1.2.2.1 x.2.1) adG
def UJ(m:Int->(List M.ay)->Option (Int×(List M.ay))):bG K:={f:=96,sh:=⟨[.own 0,.int .i64],[.tree U.Param]⟩,R:=Int×(List M.ay),run:=fun x=>m x.1.2.1 x.2.1,dflt:=default,out:=fun r=>(Sh.enc D (.int .i64) r.1,ja.encs D [.tree U.Param] (r.2,()))}
def DZ:Cx K:={Js with mode:=iY .plain [(40,.plain),(12,.pass),(97,.pass)],deep:=fun c=>dK (D.cells c (K.zero c)),opn:=true,call:=callOf D [jD M.dV,qx M.jm,lg M.ED],loop:=iO [(2,QT)]}
theorem QU:aJ DZ:=ak aV _ (ai kU (ai xU (ai aaK aY)))
theorem adH:bH DZ (bD (bJ Tryz.f96) 0) QT:=bf (cx:=DZ) (sh:=aGy) (run:=fun n x=>M.qH n x.1.2.1 x.1.2.2.1 x.2.1) (cZ:=agf) aV QU aG (af (by kernel_rfl)) (fun _=>rfl) (fun m x=>by kernel_rfl) (ai ⟨bg,fun _ _ _=>rfl⟩ aY) true az
theorem anJ:dD (UJ (M.F8)):=fJ (cx:=DZ) true QU Tryz.func96 (aS (aO 1 (by kernel_rfl) (bM (.mk (by kernel_rfl) adH)))) ⟨aHv,fun x=>(x.1.1,x.2.1)⟩ (fun x=>by kernel_rfl)
def agh(y:Int×(List M.aQ)){R:Type}(k:KT R):R:=match y with|a0=>kk k (Ex.exit 0) aHw ((a0.1,()),(a0.2,()))
def aic:List (gB K (Int×(List M.aQ))):=[⟨(Ex.exit 0),aHw,fun x=>(x.1.1,x.2.1)⟩]
def UK:cO K:=df D true 76 1 [0,1,5] [1] aGz (fun x=>M.tC az x.1.2.1 x.1.2.2.1 x.2.1) agh
def X0(m:Int->(List M.aQ)->Option (Int×(List M.aQ))):bG K:={f:=63,sh:=⟨[.own 0,.int .i64],[.tree U.Func]⟩,R:=Int×(List M.aQ),run:=fun x=>m x.1.2.1 x.2.1,dflt:=default,out:=fun r=>(Sh.enc D (.int .i64) r.1,ja.encs D [.tree U.Func] (r.2,()))}
def F9:Cx K:={Js with mode:=iY .plain [(40,.plain),(96,.pass),(12,.pass),(97,.pass)],deep:=fun c=>dK (D.cells c (K.zero c)),opn:=true,call:=callOf D [jD M.dV,UJ M.F8,qx M.jm,lg M.ED],loop:=iO [(2,UK)]}
theorem UL:aJ F9:=ak aV _ (ai kU (ai anJ (ai xU (ai aaK aY))))
theorem agi:bH F9 (bD (bJ Tryz.f63) 0) UK:=bf (cx:=F9) (sh:=aGz) (run:=fun n x=>M.tC n x.1.2.1 x.1.2.2.1 x.2.1) (cZ:=aic) aV UL aG (af (by kernel_rfl)) (fun _=>rfl) (fun m x=>by kernel_rfl) (ai ⟨bg,fun _ _ _=>rfl⟩ aY) true az
theorem api:dD (X0 (M.JM)):=fJ (cx:=F9) true UL Tryz.func63 (aS (aO 1 (by kernel_rfl) (bM (.mk (by kernel_rfl) agi)))) ⟨aHw,fun x=>(x.1.1,x.2.1)⟩ (fun x=>by kernel_rfl)
def agj(y:Int×(List M.aI)){R:Type}(k:KT R):R:=match y with|a0=>kk k (Ex.exit 0) aHx ((a0.1,()),(a0.2,()))
def aid:List (gB K (Int×(List M.aI))):=[⟨(Ex.exit 0),aHx,fun x=>(x.1.1,x.2.1)⟩]
def UM:cO K:=df D true 51 1 [0,1,5] [1] aGA (fun x=>M.tH az x.1.2.1 x.1.2.2.1 x.2.1) agj
def X3(m:Int->(List M.aI)->Option (Int×(List M.aI))):bG K:={f:=35,sh:=⟨[.own 0,.int .i64],[.tree U.dE]⟩,R:=Int×(List M.aI),run:=fun x=>m x.1.2.1 x.2.1,dflt:=default,out:=fun r=>(Sh.enc D (.int .i64) r.1,ja.encs D [.tree U.dE] (r.2,()))}
def Gf:Cx K:={Js with mode:=iY .plain [(40,.plain),(12,.pass),(63,.pass)],deep:=fun c=>dK (D.cells c (K.zero c)),opn:=true,call:=callOf D [jD M.dV,qx M.jm,X0 M.JM],loop:=iO [(2,UM)]}
theorem UN:aJ Gf:=ak aV _ (ai kU (ai xU (ai api aY)))
theorem agk:bH Gf (bD (bJ Tryz.f35) 0) UM:=bf (cx:=Gf) (sh:=aGA) (run:=fun n x=>M.tH n x.1.2.1 x.1.2.2.1 x.2.1) (cZ:=aid) aV UN aG (af (by kernel_rfl)) (fun _=>rfl) (fun m x=>by kernel_rfl) (ai ⟨bg,fun _ _ _=>rfl⟩ aY) true az
theorem apj:dD (X3 (M.EE)):=fJ (cx:=Gf) true UN Tryz.func35 (aS (aO 1 (by kernel_rfl) (bM (.mk (by kernel_rfl) agk)))) ⟨aHx,fun x=>(x.1.1,x.2.1)⟩ (fun x=>by kernel_rfl)
def aaL(y:Int×(List M.aB)){R:Type}(k:KT R):R:=match y with|a0=>kk k (Ex.exit 0) aHy ((a0.1,()),(a0.2,()))
def adI:List (gB K (Int×(List M.aB))):=[⟨(Ex.exit 0),aHy,fun x=>(x.1.1,x.2.1)⟩]
def OW:cO K:=df D true 37 1 [0,1,5] [1] aGB (fun x=>M.nX az x.1.2.1 x.1.2.2.1 x.2.1) aaL
def QV(m:Int->(List M.aB)->Option (Int×(List M.aB))):bG K:={f:=64,sh:=⟨[.own 0,.int .i64],[.arr U.Import]⟩,R:=Int×(List M.aB),run:=fun x=>m x.1.2.1 x.2.1,dflt:=default,out:=fun r=>(Sh.enc D (.int .i64) r.1,ja.encs D [.arr U.Import] (r.2,()))}
def Cc:Cx K:={Js with mode:=iY .plain [(40,.plain)],deep:=fun c=>dK (D.cells c (K.zero c)),opn:=true,call:=callOf D [jD M.dV],loop:=iO [(2,OW)]}
theorem OX:aJ Cc:=ak aV _ (ai kU aY)
theorem aaM:bH Cc (bD (bJ Tryz.f64) 0) OW:=bf (cx:=Cc) (sh:=aGB) (run:=fun n x=>M.nX n x.1.2.1 x.1.2.2.1 x.2.1) (cZ:=adI) aV OX aG (af (by kernel_rfl)) (fun _=>rfl) (fun m x=>by kernel_rfl) (ai ⟨bg,fun _ _ _=>rfl⟩ aY) true az
theorem akI:dD (QV (M.Du)):=fJ (cx:=Cc) true OX Tryz.func64 (aS (aO 1 (by kernel_rfl) (bM (.mk (by kernel_rfl) aaM)))) ⟨aHy,fun x=>(x.1.1,x.2.1)⟩ (fun x=>by kernel_rfl)
def aie(y:Int×(List M.bK)){R:Type}(k:KT R):R:=match y with|a0=>kk k (Ex.exit 0) aHz ((a0.1,()),(a0.2,()))
def akJ:List (gB K (Int×(List M.bK))):=[⟨(Ex.exit 0),aHz,fun x=>(x.1.1,x.2.1)⟩]
def X4:cO K:=df D true 27 1 [0,1,5] [1] aGC (fun x=>M.wS az x.1.2.1 x.1.2.2.1 x.2.1) aie
def aaN(m:Int->(List M.bK)->Option (Int×(List M.bK))):bG K:={f:=98,sh:=⟨[.own 0,.int .i64],[.arr U.Ins]⟩,R:=Int×(List M.bK),run:=fun x=>m x.1.2.1 x.2.1,dflt:=default,out:=fun r=>(Sh.enc D (.int .i64) r.1,ja.encs D [.arr U.Ins] (r.2,()))}
def IZ:Cx K:={Js with mode:=iY .plain [],deep:=fun c=>dK (D.cells c (K.zero c)),opn:=true,call:=callOf D [],loop:=iO [(2,X4)]}
theorem X5:aJ IZ:=ak aV _ aY
theorem aif:bH IZ (bD (bJ Tryz.f98) 0) X4:=bf (cx:=IZ) (sh:=aGC) (run:=fun n x=>M.wS n x.1.2.1 x.1.2.2.1 x.2.1) (cZ:=akJ) aV X5 aG (af (by kernel_rfl)) (fun _=>rfl) (fun m x=>by kernel_rfl) (ai ⟨bg,fun _ _ _=>rfl⟩ aY) true az
theorem asr:dD (aaN (M.OY)):=fJ (cx:=IZ) true X5 Tryz.func98 (aS (aO 1 (by kernel_rfl) (bM (.mk (by kernel_rfl) aif)))) ⟨aHz,fun x=>(x.1.1,x.2.1)⟩ (fun x=>by kernel_rfl)
def agl(y:Int×(List M.aH)){R:Type}(k:KT R):R:=match y with|a0=>kk k (Ex.exit 0) aHA ((a0.1,()),(a0.2,()))
def aih:List (gB K (Int×(List M.aH))):=[⟨(Ex.exit 0),aHA,fun x=>(x.1.1,x.2.1)⟩]
def UO:cO K:=df D true 51 1 [0,1,5] [1] aGD (fun x=>M.tJ az x.1.2.1 x.1.2.2.1 x.2.1) agl
def X6(m:Int->(List M.aH)->Option (Int×(List M.aH))):bG K:={f:=65,sh:=⟨[.own 0,.int .i64],[.tree U.Core]⟩,R:=Int×(List M.aH),run:=fun x=>m x.1.2.1 x.2.1,dflt:=default,out:=fun r=>(Sh.enc D (.int .i64) r.1,ja.encs D [.tree U.Core] (r.2,()))}
def Gg:Cx K:={Js with mode:=iY .plain [(40,.plain),(98,.pass)],deep:=fun c=>dK (D.cells c (K.zero c)),opn:=true,call:=callOf D [jD M.dV,aaN M.OY],loop:=iO [(2,UO)]}
theorem UQ:aJ Gg:=ak aV _ (ai kU (ai asr aY))
theorem agm:bH Gg (bD (bJ Tryz.f65) 0) UO:=bf (cx:=Gg) (sh:=aGD) (run:=fun n x=>M.tJ n x.1.2.1 x.1.2.2.1 x.2.1) (cZ:=aih) aV UQ aG (af (by kernel_rfl)) (fun _=>rfl) (fun m x=>by kernel_rfl) (ai ⟨bg,fun _ _ _=>rfl⟩ aY) true az
theorem apk:dD (X6 (M.JO)):=fJ (cx:=Gg) true UQ Tryz.func65 (aS (aO 1 (by kernel_rfl) (bM (.mk (by kernel_rfl) agm)))) ⟨aHA,fun x=>(x.1.1,x.2.1)⟩ (fun x=>by kernel_rfl)
def UR(m:Int->Int->(List M.aB)->(List M.aH)->Option (Int×(List M.aB)×(List M.aH))):bG K:={f:=36,sh:=⟨[.agg [.int .i64,.own 0,.own 1],.int .i64],[.arr U.Import,.tree U.Core]⟩,R:=Int×(List M.aB)×(List M.aH),run:=fun x=>m x.1.1.1 x.1.2.1 x.2.1 x.2.2.1,dflt:=default,out:=fun r=>(Sh.enc D (.int .i64) r.1,ja.encs D [.arr U.Import,.tree U.Core] (r.2.1,(r.2.2,())))}
def X7:Cx K:={Js with mode:=iY .plain [(64,.pass),(65,.pass)],deep:=fun c=>dK (D.cells c (K.zero c)),opn:=true,call:=callOf D [QV M.Du,X6 M.JO],loop:=iO []}
theorem aii:aJ X7:=ak aV _ (ai akI (ai apk aY))
theorem anK:dD (UR (M.MM)):=fJ (cx:=X7) true aii Tryz.func36 (aS (af (by kernel_rfl))) ⟨⟨[.int .i64],[.arr U.Import,.tree U.Core]⟩,fun x=>(x.1.1,x.2.1,x.2.2.1)⟩ (fun x=>by kernel_rfl)
def agn(y:Int×(List M.dn)){R:Type}(k:KT R):R:=match y with|a0=>kk k (Ex.exit 0) aHB ((a0.1,()),(a0.2,()))
def aij:List (gB K (Int×(List M.dn))):=[⟨(Ex.exit 0),aHB,fun x=>(x.1.1,x.2.1)⟩]
def UT:cO K:=df D true 37 1 [0,1,5] [1] aGE (fun x=>M.tK az x.1.2.1 x.1.2.2.1 x.2.1) agn
def X8(m:Int->(List M.dn)->Option (Int×(List M.dn))):bG K:={f:=37,sh:=⟨[.own 0,.int .i64],[.arr U.sW]⟩,R:=Int×(List M.dn),run:=fun x=>m x.1.2.1 x.2.1,dflt:=default,out:=fun r=>(Sh.enc D (.int .i64) r.1,ja.encs D [.arr U.sW] (r.2,()))}
def Gh:Cx K:={Js with mode:=iY .plain [(40,.plain)],deep:=fun c=>dK (D.cells c (K.zero c)),opn:=true,call:=callOf D [jD M.dV],loop:=iO [(2,UT)]}
theorem UU:aJ Gh:=ak aV _ (ai kU aY)
theorem agp:bH Gh (bD (bJ Tryz.f37) 0) UT:=bf (cx:=Gh) (sh:=aGE) (run:=fun n x=>M.tK n x.1.2.1 x.1.2.2.1 x.2.1) (cZ:=aij) aV UU aG (af (by kernel_rfl)) (fun _=>rfl) (fun m x=>by kernel_rfl) (ai ⟨bg,fun _ _ _=>rfl⟩ aY) true az
theorem apl:dD (X8 (M.JP)):=fJ (cx:=Gh) true UU Tryz.func37 (aS (aO 1 (by kernel_rfl) (bM (.mk (by kernel_rfl) agp)))) ⟨aHB,fun x=>(x.1.1,x.2.1)⟩ (fun x=>by kernel_rfl)
def adJ(y:Int×(List M.bF)){R:Type}(k:KT R):R:=match y with|a0=>kk k (Ex.exit 0) aHC ((a0.1,()),(a0.2,()))
def agq:List (gB K (Int×(List M.bF))):=[⟨(Ex.exit 0),aHC,fun x=>(x.1.1,x.2.1)⟩]
def QW:cO K:=df D true 37 1 [0,1,5] [1] aGF (fun x=>M.qI az x.1.2.1 x.1.2.2.1 x.2.1) adJ
def UW(m:Int->(List M.bF)->Option (Int×(List M.bF))):bG K:={f:=38,sh:=⟨[.own 0,.int .i64],[.arr U.Lower]⟩,R:=Int×(List M.bF),run:=fun x=>m x.1.2.1 x.2.1,dflt:=default,out:=fun r=>(Sh.enc D (.int .i64) r.1,ja.encs D [.arr U.Lower] (r.2,()))}
def D5:Cx K:={Js with mode:=iY .plain [(40,.plain)],deep:=fun c=>dK (D.cells c (K.zero c)),opn:=true,call:=callOf D [jD M.dV],loop:=iO [(2,QW)]}
theorem QX:aJ D5:=ak aV _ (ai kU aY)
theorem adK:bH D5 (bD (bJ Tryz.f38) 0) QW:=bf (cx:=D5) (sh:=aGF) (run:=fun n x=>M.qI n x.1.2.1 x.1.2.2.1 x.2.1) (cZ:=agq) aV QX aG (af (by kernel_rfl)) (fun _=>rfl) (fun m x=>by kernel_rfl) (ai ⟨bg,fun _ _ _=>rfl⟩ aY) true az
theorem anL:dD (UW (M.Gi)):=fJ (cx:=D5) true QX Tryz.func38 (aS (aO 1 (by kernel_rfl) (bM (.mk (by kernel_rfl) adK)))) ⟨aHC,fun x=>(x.1.1,x.2.1)⟩ (fun x=>by kernel_rfl)
def YL(y:Int×(List M.aN)){R:Type}(k:KT R):R:=match y with|a0=>kk k (Ex.exit 0) aHD ((a0.1,()),(a0.2,()))
def aaO:List (gB K (Int×(List M.aN))):=[⟨(Ex.exit 0),aHD,fun x=>(x.1.1,x.2.1)⟩]
def Lp:cO K:=df D true 44 1 [0,1,5] [1] aGG (fun x=>M.mZ az x.1.2.1 x.1.2.2.1 x.2.1) YL
def OZ(m:Int->(List M.aN)->Option (Int×(List M.aN))):bG K:={f:=39,sh:=⟨[.own 0,.int .i64],[.arr U.Builtin]⟩,R:=Int×(List M.aN),run:=fun x=>m x.1.2.1 x.2.1,dflt:=default,out:=fun r=>(Sh.enc D (.int .i64) r.1,ja.encs D [.arr U.Builtin] (r.2,()))}
def Ap:Cx K:={Js with mode:=iY .plain [(40,.plain)],deep:=fun c=>dK (D.cells c (K.zero c)),opn:=true,call:=callOf D [jD M.dV],loop:=iO [(2,Lp)]}
theorem Lr:aJ Ap:=ak aV _ (ai kU aY)
theorem YM:bH Ap (bD (bJ Tryz.f39) 0) Lp:=bf (cx:=Ap) (sh:=aGG) (run:=fun n x=>M.mZ n x.1.2.1 x.1.2.2.1 x.2.1) (cZ:=aaO) aV Lr aG (af (by kernel_rfl)) (fun _=>rfl) (fun m x=>by kernel_rfl) (ai ⟨bg,fun _ _ _=>rfl⟩ aY) true az
theorem aik:dD (OZ (M.Bv)):=fJ (cx:=Ap) true Lr Tryz.func39 (aS (aO 1 (by kernel_rfl) (bM (.mk (by kernel_rfl) YM)))) ⟨aHD,fun x=>(x.1.1,x.2.1)⟩ (fun x=>by kernel_rfl)
def Ls(m:(List UInt8)->(List UInt8)->Int->Int->Int->Int->(List M.aI)->(List M.aI)->(List M.aB)->(List M.aH)->(List M.dn)->(List M.bF)->(List M.aN)->Option (Int×(List M.aI)×(List M.aI)×(List M.aB)×(List M.aH)×(List M.dn)×(List M.bF)×(List M.aN))):bG K:={f:=11,sh:=⟨[.agg [.str,.str,.own 0,.own 1,.int .i64,.int .i64,.int .i64,.own 2,.own 3,.own 4,.own 5,.own 6],.int .i64],[.tree U.dE,.tree U.dE,.arr U.Import,.tree U.Core,.arr U.sW,.arr U.Lower,.arr U.Builtin]⟩,R:=Int×(List M.aI)×(List M.aI)×(List M.aB)×(List M.aH)×(List M.dn)×(List M.bF)×(List M.aN),run:=fun x=>m x.1.1.1 x.1.1.2.1 x.1.1.2.2.2.2.1 x.1.1.2.2.2.2.2.1 x.1.1.2.2.2.2.2.2.1 x.1.2.1 x.2.1 x.2.2.1 x.2.2.2.1 x.2.2.2.2.1 x.2.2.2.2.2.1 x.2.2.2.2.2.2.1 x.2.2.2.2.2.2.2.1,dflt:=default,out:=fun r=>(Sh.enc D (.int .i64) r.1,ja.encs D [.tree U.dE,.tree U.dE,.arr U.Import,.tree U.Core,.arr U.sW,.arr U.Lower,.arr U.Builtin] (r.2.1,(r.2.2.1,(r.2.2.2.1,(r.2.2.2.2.1,(r.2.2.2.2.2.1,(r.2.2.2.2.2.2.1,(r.2.2.2.2.2.2.2,()))))))))}
def O0:Cx K:={Js with mode:=iY .plain [(35,.pass),(36,.pass),(37,.pass),(38,.pass),(39,.pass)],deep:=fun c=>dK (D.cells c (K.zero c)),opn:=true,call:=callOf D [X3 M.EE,UR M.MM,X8 M.JP,UW M.Gi,OZ M.Bv],loop:=iO []}
theorem aaP:aJ O0:=ak aV _ (ai apj (ai anK (ai apl (ai anL (ai aik aY)))))
theorem agr:dD (Ls (M.zM)):=fJ (cx:=O0) true aaP Tryz.func11 (aS (af (by kernel_rfl))) ⟨⟨[.int .i64],[.tree U.dE,.tree U.dE,.arr U.Import,.tree U.Core,.arr U.sW,.arr U.Lower,.arr U.Builtin]⟩,fun x=>(x.1.1,x.2.1,x.2.2.1,x.2.2.2.1,x.2.2.2.2.1,x.2.2.2.2.2.1,x.2.2.2.2.2.2.1,x.2.2.2.2.2.2.2.1)⟩ (fun x=>by kernel_rfl)
def O1:cO K:=df D false 22 0 [0,1,5] [1,4] aAT (fun x=>M.sK x.1.1 az x.1.2.1 x.1.2.2.1) iG
def QY(m:(List (List UInt8))->Int->Option Int):bG K:=cI 13 aAO (fun x=>m x.1.1 x.1.2.1)
def Ce:Cx K:=iZ [(40,.plain)] [jD M.dV] [(2,O1)]
theorem O3:aJ Ce:=ak aV _ (ai kU aY)
theorem aaQ:bH Ce (bD (bJ Tryz.f13) 0) O1:=bf (cx:=Ce) (sh:=aAT) (run:=fun n x=>M.sK x.1.1 n x.1.2.1 x.1.2.2.1) (cZ:=iP) aV O3 aG (af (by kernel_rfl)) (fun _=>rfl) (fun m x=>by kernel_rfl) (ai ⟨dH,fun _ _ _=>rfl⟩ (ai ⟨bg,fun _ _ _=>rfl⟩ aY)) false az
theorem akK:dD (QY (M.Dv)):=fJ (cx:=Ce) true O3 Tryz.func13 (aS (aO 1 (by kernel_rfl) (bM (.mk (by kernel_rfl) aaQ)))) ⟨zs1,fun x=>x.1.1⟩ (fun x=>by kernel_rfl)
def aos(m:M.aA->Option ((List (List UInt8)))):bG K:={f:=14,sh:=ao9,R:=(List (List UInt8)),run:=fun x=>m x.1.1,dflt:=default,out:=fun r=>(Sh.enc D (.bY U.str) r,ja.encs D [] ())}
def ap2:Cx K:=iZ [(21,.plain),(22,.lF)] [QC M.C9,aaH M.OT] []
theorem arE:aJ ap2:=ak aV _ (ai akl (ai asq aY))
theorem aul:dD (aos (M.ajf)):=fJ (cx:=ap2) true arE Tryz.func14 (aS (af (by kernel_rfl))) ⟨aoK,fun x=>x.1.1⟩ (fun x=>by kernel_rfl)
def apV(m:M.aA->Option ((List (List UInt8)))):bG K:={f:=15,sh:=ao9,R:=(List (List UInt8)),run:=fun x=>m x.1.1,dflt:=default,out:=fun r=>(Sh.enc D (.own 0) (),ja.encs D [.arr U.str] (r,()))}
def aqf:Cx K:={Js with mode:=iY .plain [(28,.plain),(29,.fresh)],rsl:=[[some U.str]],call:=callOf D [QR M.Dc,XX M.JK],loop:=iO []}
theorem arF:aJ aqf:=ak aV _ (ai akx (ai aph aY))
theorem avb:dD (apV (M.amA)):=fJ (cx:=aqf) false arF Tryz.func15 (aS (af (by kernel_rfl))) ⟨aEj,fun x=>x.2.1⟩ (fun x=>by kernel_rfl)
def aoc(m:M.aA->Option Bool):bG K:=cB 4 ao9 (fun x=>m x.1.1)
def aof:Cx K:={Js with mode:=iY .plain [(5,.plain),(7,.fresh),(14,.lF),(15,.fresh),(9,.plain),(10,.plain),(11,.pass),(12,.pass),(13,.plain)],deep:=fun c=>dK (D.cells c (K.zero c)),call:=callOf D [Qj M.Dj,QS M.Dt,aos M.ajf,apV M.amA,DR M.pI,QF M.Dl,Ls M.zM,qx M.jm,QY M.Dv],loop:=iO []}
theorem ap1:aJ aof:=ak aV _ (ai aj7 (ai akF (ai aul (ai avb (ai Oh (ai akn (ai agr (ai xU (ai akK aY)))))))))
theorem aq3:dD (aoc (M.agL)):=fJ (cx:=aof) true ap1 Tryz.func4 (aS (af (by kernel_rfl))) ⟨zs0,fun x=>x.1.1⟩ (fun x=>by kernel_rfl)
