/-
  Part of the proof of the claim.
-/
import Derived.Test.YtadnfbiaknpllaaGreatDoorXZSCa
import Derived.Test.YtadnfbiaknpllaaGreatDoorXZSM
import Derived.Test.YtadnfbiaknpllaaGreatDoorXXHdA
import Derived.Test.YtadnfbiaknpllaaGreatDoorXXHdI
import Derived.Test.YtadnfbiaknpllaaGreatDoorXXHdJ2
import Derived.Test.YtadnfbiaknpllaaGreatDoorXXHdV
import Derived.Test.YtadnfbiaknpllaaGreatDoorXWgD
import Derived.Test.YtadnfbiaknpllaaGreatDoorProg
set_option linter.unusedVariables false
set_option maxRecDepth 100000
open Go Go.Proofs
open Go.V
noncomputable section
theorem U6:aA (Nc (M.jV)):=bm (cx:=gU) true ia Tryz.func48 hq ⟨C6,fun x=>x.1.1⟩ (fun x=>by kernel_rfl)
def akm(y:M.ay×(List UInt8)×(List UInt8)×M.aN×(List M.aN)×(List M.aN)){R:Type}(k:KT R):R:=match y with|a0=>kk k (Ex.exit 2) U7 (((),((),((),((),())))),(a0.1,((a0.2.1,((),())),((a0.2.2.1,((),())),(a0.2.2.2.1,((),((),(a0.2.2.2.2.1,(a0.2.2.2.2.2,())))))))))
def akn:List (cu K (M.ay×(List UInt8)×(List UInt8)×M.aN×(List M.aN)×(List M.aN))):=[⟨(Ex.exit 2),U7,fun x=>(x.2.1,x.2.2.1.1,x.2.2.2.1.1,x.2.2.2.2.1,x.2.2.2.2.2.2.2.1,x.2.2.2.2.2.2.2.2.1)⟩]
def U8:bM K:=bS D false 71 6 [0,2,3,4,5] [0,2,3,4] U9 (fun x=>M.kV x.2.2.1.1 x.2.2.2.1.1 x.2.2.2.2.2.2.2.1 x.2.2.2.2.2.2.2.2.1 ae x.1.2.2.2.2.1 x.2.1 x.2.2.2.2.1) akm
def ako(y:(List M.aj)×Int×Bool×(List UInt8)×(List UInt8)×(List M.aN)×(List M.aN)){R:Type}(k:KT R):R:=match y with|a0=>kk k (Ex.exit 0) Va (((),((),())),((a0.1,(a0.2.1,(a0.2.2.1,()))),((a0.2.2.2.1,((),())),((a0.2.2.2.2.1,((),())),((),((),(a0.2.2.2.2.2.1,(a0.2.2.2.2.2.2,()))))))))
def akp:List (cu K ((List M.aj)×Int×Bool×(List UInt8)×(List UInt8)×(List M.aN)×(List M.aN))):=[⟨(Ex.exit 0),Va,fun x=>(x.2.1.1,x.2.1.2.1,x.2.1.2.2.1,x.2.2.1.1,x.2.2.2.1.1,x.2.2.2.2.2.2.1,x.2.2.2.2.2.2.2.1)⟩]
def Vb:bM K:=bS D false 71 5 [0,2,3] [2,3] Vd (fun x=>M.rV ae x.2.1 x.2.2.1.1 x.2.2.2.1.1 x.2.2.2.2.2.2.1 x.2.2.2.2.2.2.2.1) ako
def Ve(m:M.ay->Option (M.aS×M.ay)):aK K:={f:=66,sh:=oh,R:=M.aS×M.ay,run:=fun x=>m x.2.1,dflt:=default,out:=fun r=>(Sh.enc D (.el U.dR) r.1,aQ.encs D [.el U.dr] (r.2,()))}
def zn:Cx K:=bD [(62,.aX),(61,.aX),(64,.aX),(48,.jI),(100,.aX)] [qJ M.fX,oi M.dH,m7 M.dN,Nc M.jV,Nh M.mh] [(7,U8),(3,Vb)]
theorem Ni:aY zn:=bw aO _ (af sE (af pA (af oj (af U6 (af Vf aB)))))
theorem akq:bP zn (bB (bB (bK Tryz.f66) 0) 0) U8:=lk (cx:=zn) (sh:=U9) (run:=fun n x=>M.kV x.2.2.1.1 x.2.2.2.1.1 x.2.2.2.2.2.2.2.1 x.2.2.2.2.2.2.2.2.1 n x.1.2.2.2.2.1 x.2.1 x.2.2.2.2.1) (bR:=akn) Ni (fun m x=>by kernel_rfl) (af ⟨bW,fun _ _ _=>rfl⟩ aB)
theorem akr:bP zn (bB (bK Tryz.f66) 0) Vb:=lk (cx:=zn) (sh:=Vd) (run:=fun n x=>M.rV n x.2.1 x.2.2.1.1 x.2.2.2.1.1 x.2.2.2.2.2.2.1 x.2.2.2.2.2.2.2.1) (bR:=akp) Ni (fun m x=>by kernel_rfl) (af ⟨bW,fun _ _ _=>rfl⟩ aB) (hl:=(iE 1 (by kernel_rfl) (iU (.mk (by kernel_rfl) akq))))
theorem aks:aA (Ve (M.vW)):=bm (cx:=zn) true Ni Tryz.func66 (hl1 akr) ⟨⟨[.el U.dR],[.el U.dr]⟩,fun x=>(x.1.1,x.2.1)⟩ (fun x=>by kernel_rfl)
def Vg:bM K:=bS D false 63 7 [0,2,3] [2,3] Vh (fun x=>M.kn x.2.2.1.1 x.2.2.1.2.1 x.2.2.2.1.1 x.2.2.2.1.2.1 x.2.2.2.2.2.2.2.2.1 x.2.2.2.2.2.2.2.2.2.1 ae x.2.1 x.2.2.2.2.2.2.2.2.2.2.1 x.2.2.2.2.2.2.2.2.2.2.2.1) Vi
def Vj(m:M.ay->Option (M.ah×M.ay)):aK K:={f:=44,sh:=oh,R:=M.ah×M.ay,run:=fun x=>m x.2.1,dflt:=default,out:=fun r=>(Sh.enc D (.el U.ba) r.1,aQ.encs D [.el U.dr] (r.2,()))}
def Gi:Cx K:=bD [(61,.aX),(62,.aX),(63,.aX),(45,.aX),(64,.aX),(65,.aX),(66,.aX)] [oi M.dH,qJ M.fX,Nj M.tO,wU M.lE,m7 M.dN,Vk M.yx,Ve M.vW] [(6,Vg)]
theorem Vl:aY Gi:=bw aO _ (af pA (af sE (af Vm (af zo (af oj (af akt (af aks aB)))))))
theorem aku:bP Gi (bB (bK Tryz.f44) 0) Vg:=lk (cx:=Gi) (sh:=Vh) (run:=fun n x=>M.kn x.2.2.1.1 x.2.2.1.2.1 x.2.2.2.1.1 x.2.2.2.1.2.1 x.2.2.2.2.2.2.2.2.1 x.2.2.2.2.2.2.2.2.2.1 n x.2.1 x.2.2.2.2.2.2.2.2.2.2.1 x.2.2.2.2.2.2.2.2.2.2.2.1) (bR:=Vn) Vl (fun m x=>by kernel_rfl) (af ⟨bW,fun _ _ _=>rfl⟩ aB)
theorem akv:aA (Vj (M.yy)):=bm (cx:=Gi) true Vl Tryz.func44 (hl1 aku) ⟨⟨[.el U.ba],[.el U.dr]⟩,fun x=>(x.1.1,x.2.1)⟩ (fun x=>by kernel_rfl)
def Nk(m:M.aW->Option ((List UInt8))):aK K:=cS 30 ⟨[.el U.eA],[]⟩ (fun x=>m x.1.1)
theorem Vo:aA (Nk (M.nL)):=bm (cx:=gU) true ia Tryz.func30 hq ⟨zs1,fun x=>x.1.1⟩ (fun x=>by kernel_rfl)
def akw(y:Int×M.aF×(List (List UInt8))×(List (List UInt8))){R:Type}(k:KT R):R:=match y with|a0=>kk k (Ex.exit 3) Vp (((),((),((),(a0.1,())))),(a0.2.1,((),((),((),(a0.2.2.1,(a0.2.2.2,())))))))
def akx:List (cu K (Int×M.aF×(List (List UInt8))×(List (List UInt8)))):=[⟨(Ex.exit 3),Vp,fun x=>(x.1.2.2.2.1,x.2.1,x.2.2.2.2.2.1,x.2.2.2.2.2.2.1)⟩]
def Vq:bM K:=bS D false 60 4 [1,4,5,6,7,8] [1,4,5,6] Vr (fun x=>M.yB x.1.2.2.2.1 x.2.1 x.2.2.2.2.2.2.1 ae x.1.2.2.2.2.2.1 x.2.2.2.2.1 x.2.2.2.2.2.1) akw
def aky(y:(List (List UInt8))×(List (List UInt8))){R:Type}(k:KT R):R:=match y with|a0=>kk k (Ex.exit 0) Gj (((),((),())),((),((),((),(a0.1,(a0.2,()))))))
def akz:List (cu K ((List (List UInt8))×(List (List UInt8)))):=[⟨(Ex.exit 0),Gj,fun x=>(x.2.2.2.2.1,x.2.2.2.2.2.1)⟩]
def Vs:bM K:=bS D false 60 3 [1,4,5,6] [4,5] Vt (fun x=>M.rX ae x.1.2.2.2.1 x.2.1 x.2.2.2.2.1 x.2.2.2.2.2.1) aky
def Vu(m:M.aF->Option ((List (List UInt8))×(List (List UInt8)))):aK K:={f:=67,sh:=⟨[.el U.dn],[]⟩,R:=(List (List UInt8))×(List (List UInt8)),run:=fun x=>m x.1.1,dflt:=default,out:=fun r=>(Sh.enc D (.bA [.ax U.str,.ax U.str]) (r.1,(r.2,())),aQ.encs D [] ())}
def zp:Cx K:=bD [(30,.plain)] [Nk M.nL] [(15,Vq),(4,Vs)]
theorem Nl:aY zp:=bw aO _ (af Vo aB)
theorem akA:bP zp (bB (bB (bK Tryz.f67) 0) 0) Vq:=lk (cx:=zp) (sh:=Vr) (run:=fun n x=>M.yB x.1.2.2.2.1 x.2.1 x.2.2.2.2.2.2.1 n x.1.2.2.2.2.2.1 x.2.2.2.2.1 x.2.2.2.2.2.1) (bR:=akx) Nl (fun m x=>by kernel_rfl) (af ⟨bW,fun _ _ _=>rfl⟩ aB)
theorem akB:bP zp (bB (bK Tryz.f67) 0) Vs:=lk (cx:=zp) (sh:=Vt) (run:=fun n x=>M.rX n x.1.2.2.2.1 x.2.1 x.2.2.2.2.1 x.2.2.2.2.2.1) (bR:=akz) Nl (fun m x=>by kernel_rfl) (af ⟨bW,fun _ _ _=>rfl⟩ aB) (hl:=(iE 1 (by kernel_rfl) (iU (.mk (by kernel_rfl) akA))))
theorem akC:aA (Vu (M.BC)):=bm (cx:=zp) true Nl Tryz.func67 (hl1 akB) ⟨⟨[.bA [.ax U.str,.ax U.str]],[]⟩,fun x=>(x.1.1.1,x.1.1.2.1)⟩ (fun x=>by kernel_rfl)
def akD(y:Bool⊕((List (List UInt8))×Int)){R:Type}(k:KT R):R:=match y with|.inl a0=>kk k Ex.ret ⟨[.any,.any,.bool],[]⟩ (((),((),(a0,()))),())|.inr a1=>kk k (Ex.exit 2) ⟨[.ax U.str,iq0,.any],[]⟩ ((a1.1,(a1.2,((),()))),())
def akE:List (cu K ((Bool)⊕((List (List UInt8))×Int))):=[⟨Ex.ret,⟨[.any,.any,.bool],[]⟩,fun x=>.inl x.1.2.2.1⟩,⟨(Ex.exit 2),⟨[.ax U.str,iq0,.any],[]⟩,fun x=>.inr ((x.1.1,x.1.2.1))⟩]
def Vv:bM K:=bS D false 25 0 [0,3,4] [0,3,2] Vw (fun x=>M.vY x.1.1 x.1.2.1 ae x.1.2.2.1) akD
def Vx:bM K:=bS D false 25 0 [0,3] [2] ⟨[.ax U.str,iq0],[]⟩ (fun x=>M.vZ ae x.1.1 x.1.2.1) pB
def Vy(m:(List (List UInt8))->Option Bool):aK K:=cB 68 C6 (fun x=>m x.1.1)
def zq:Cx K:=bD [] [] [(5,Vv),(2,Vx)]
theorem Nn:aY zq:=bw aO _ aB
theorem akF:bP zq (bB (bB (bK Tryz.f68) 0) 0) Vv:=lk (cx:=zq) (sh:=Vw) (run:=fun n x=>M.vY x.1.1 x.1.2.1 n x.1.2.2.1) (bR:=akE) Nn (fun m x=>by kernel_rfl) (af ⟨dK,fun _ _ _=>rfl⟩ (af ⟨bW,fun _ _ _=>rfl⟩ aB))
theorem akG:bP zq (bB (bK Tryz.f68) 0) Vx:=lk (cx:=zq) (sh:=⟨[.ax U.str,iq0],[]⟩) (run:=fun n x=>M.vZ n x.1.1 x.1.2.1) (bR:=pC) Nn (fun m x=>by kernel_rfl) (af ⟨dK,fun _ _ _=>rfl⟩ (af ⟨bW,fun _ _ _=>rfl⟩ aB)) (hl:=(iE 1 (by kernel_rfl) (iU (.mk (by kernel_rfl) akF))))
theorem akH:aA (Vy (M.ua)):=bm (cx:=zq) true Nn Tryz.func68 (hl1 akG) ⟨zs0,fun x=>x.1.1⟩ (fun x=>by kernel_rfl)
def Vz:bM K:=bS D false 66 3 [1,3,4,5] [1,3,4,2] Gk (fun x=>M.yF x.2.1 x.2.2.2.2.2.1 ae x.1.2.2.2.1 x.2.2.2.2.1) VA
def akI(y:(List (List UInt8))×(List (List UInt8))){R:Type}(k:KT R):R:=match y with|a0=>kk k (Ex.exit 2) Gj (((),((),())),((),((),((),(a0.1,(a0.2,()))))))
def akJ:List (cu K ((List (List UInt8))×(List (List UInt8)))):=[⟨(Ex.exit 2),Gj,fun x=>(x.2.2.2.2.1,x.2.2.2.2.2.1)⟩]
def VB:bM K:=bS D false 66 3 [1,3,4,8] [3,4] Gk (fun x=>M.yG x.2.1 x.2.2.2.2.1 ae x.1.2.2.2.1 x.2.2.2.2.2.1) akI
def VC(m:M.ah->Option Bool):aK K:=cB 46 uN (fun x=>m x.1.1)
def zr:Cx K:=bD [(67,.jI),(68,.plain)] [Vu M.BC,Vy M.ua] [(4,Vz),(11,VB)]
theorem Np:aY zr:=bw aO _ (af akC (af akH aB))
theorem akK:bP zr (bB (bK Tryz.f46) 0) Vz:=lk (cx:=zr) (sh:=Gk) (run:=fun n x=>M.yF x.2.1 x.2.2.2.2.2.1 n x.1.2.2.2.1 x.2.2.2.2.1) (bR:=VD) Np (fun m x=>by kernel_rfl) (af ⟨dK,fun _ _ _=>rfl⟩ (af ⟨bW,fun _ _ _=>rfl⟩ aB))
theorem akL:bP zr (bB (bK Tryz.f46) 1) VB:=lk (cx:=zr) (sh:=Gk) (run:=fun n x=>M.yG x.2.1 x.2.2.2.2.1 n x.1.2.2.2.1 x.2.2.2.2.2.1) (bR:=akJ) Np (fun m x=>by kernel_rfl) (af ⟨bW,fun _ _ _=>rfl⟩ aB)
theorem akM:aA (VC (M.yz)):=bm (cx:=zr) true Np Tryz.func46 (hl2 akK akL) ⟨zs0,fun x=>x.1.1⟩ (fun x=>by kernel_rfl)
def VE(m:(List UInt8)->Option (M.ah×Int×Int)):aK K:={f:=34,sh:=zs1,R:=M.ah×Int×Int,run:=fun x=>m x.1.1,dflt:=default,out:=fun r=>(Sh.enc D (.bA [.el U.ba,iq0,iq0]) (r.1,(r.2.1,(r.2.2,()))),aQ.encs D [] ())}
def VF:Cx K:=bD [(43,.jI),(44,.aX),(45,.aX),(46,.plain)] [VG M.AX,Vj M.yy,wU M.lE,VC M.yz] []
theorem akN:aY VF:=bw aO _ (af akO (af akv (af zo (af akM aB))))
theorem akP:aA (VE (M.tZ)):=bm (cx:=VF) true akN Tryz.func34 hq ⟨VH,fun x=>(x.1.1.1,x.1.1.2.1,x.1.1.2.2.1)⟩ (fun x=>by kernel_rfl)
def uO(m:M.aa->Int->Option Int):aK K:=cI 58 ⟨[.el U.Term,iq0],[]⟩ (fun x=>m x.1.1 x.1.2.1)
def akQ(y:Int⊕Int){R:Type}(k:KT R):R:=match y with|.inl a0=>kk k Ex.ret ⟨[.any,iq0],[.dead]⟩ (((),(a0,())),((),()))|.inr a1=>kk k (Ex.exit 1) ⟨[iq0,.any],[.dead]⟩ ((a1,((),())),((),()))
def akR:List (cu K ((Int)⊕Int)):=[⟨Ex.ret,⟨[.any,iq0],[.dead]⟩,fun x=>.inl x.1.2.1⟩,⟨(Ex.exit 1),⟨[iq0,.any],[.dead]⟩,fun x=>.inr (x.1.1)⟩]
def VI(fY:M.aa->Int->Option Int):bM K:=bS D false 114 1 [1,2,8,9] [8,4] VJ (fun x=>M.we fY x.1.1 ae x.1.2.2.1 x.1.2.2.2.1 x.2.1) akQ
def Gl(fY:M.aa->Int->Option Int):Cx K:=bD [(27,.plain),(58,.plain)] [C7 M.C9,uO fY] [(22,VI fY)]
theorem VK(fY:M.aa->Int->Option Int)(zt:aA (uO fY)):aY (Gl fY):=bw aO _ (af Gm (af zt aB))
theorem akS(fY:M.aa->Int->Option Int)(zt:aA (uO fY)):bP (Gl fY) (bB (bK Tryz.f58) 0) (VI fY):=lk (cx:=Gl fY) (sh:=VJ) (run:=fun n x=>M.we fY x.1.1 n x.1.2.2.1 x.1.2.2.2.1 x.2.1) (bR:=akR) (VK fY zt) (fun m x=>by kernel_rfl) (af ⟨dK,fun _ _ _=>rfl⟩ (af ⟨bW,fun _ _ _=>rfl⟩ aB))
theorem akT(fY:M.aa->Int->Option Int)(zt:aA (uO fY)):aA (uO (M.FD fY)):=gZ (cx:=Gl fY) (fz:=true) aO (VK fY zt) eP ⟨Tryz.func58,by kernel_rfl⟩ (hl1 (akS fY zt)) ⟨jl,fun x=>x.1.1⟩ (fun x=>rfl) (fun x=>by kernel_rfl)
theorem VL:∀n,aA (uO (M.wh n))|0=>pY fun _=>rfl|n+1=>akT (M.wh n) (VL n)
theorem akU:aA (uO (M.B8)):=VL ae
def ku(m:M.aa->Option ((List UInt8))):aK K:=cS 69 ⟨[.el U.Term],[]⟩ (fun x=>m x.1.1)
def akV(y:(List UInt8)){R:Type}(k:KT R):R:=match y with|a0=>kk k (Ex.exit 0) zs1 ((a0,()),())
def akW:List (cu K ((List UInt8))):=[⟨(Ex.exit 0),zs1,fun x=>x.1.1⟩]
def VM(cm:M.aa->Option ((List UInt8))):bM K:=bS D false 23 0 [0,3,4] [3] ⟨[.ax U.Term,.str,iq0],[]⟩ (fun x=>M.sf cm x.1.1 ae x.1.2.1 x.1.2.2.1) akV
def VN(m:(List M.aa)->Option ((List UInt8))):aK K:=cS 103 ⟨[.ax U.Term],[]⟩ (fun x=>m x.1.1)
def Gn(cm:M.aa->Option ((List UInt8))):Cx K:=bD [(69,.plain)] [ku cm] [(3,VM cm)]
theorem VO(cm:M.aa->Option ((List UInt8)))(iw:aA (ku cm)):aY (Gn cm):=bw aO _ (af iw aB)
theorem akX(cm:M.aa->Option ((List UInt8)))(iw:aA (ku cm)):bP (Gn cm) (bB (bK Tryz.f103) 0) (VM cm):=lk (cx:=Gn cm) (sh:=⟨[.ax U.Term,.str,iq0],[]⟩) (run:=fun n x=>M.sf cm x.1.1 n x.1.2.1 x.1.2.2.1) (bR:=akW) (VO cm iw) (fun m x=>by kernel_rfl) (af ⟨bW,fun _ _ _=>rfl⟩ aB)
theorem akY(cm:M.aa->Option ((List UInt8)))(iw:aA (ku cm)):aA (VN (M.B9 cm)):=gZ (cx:=Gn cm) (fz:=true) aO (VO cm iw) eP ⟨Tryz.func103,by kernel_rfl⟩ (hl1 (akX cm iw)) ⟨zs1,fun x=>x.1.1⟩ (fun x=>rfl) (fun x=>by kernel_rfl)
def VP(m:M.aa->M.aa->Option ((List UInt8))):aK K:=cS 104 ⟨[.el U.Term,.el U.Term],[]⟩ (fun x=>m x.1.1 x.1.2.1)
def VQ(cm:M.aa->Option ((List UInt8))):Cx K:=bD [(69,.plain)] [ku cm] []
theorem akZ(cm:M.aa->Option ((List UInt8)))(iw:aA (ku cm)):aY (VQ cm):=bw aO _ (af iw aB)
theorem ak0(cm:M.aa->Option ((List UInt8)))(iw:aA (ku cm)):aA (VP (M.Cc cm)):=gZ (cx:=VQ cm) (fz:=true) aO (akZ cm iw) eP ⟨Tryz.func104,by kernel_rfl⟩ hq ⟨zs1,fun x=>x.1.1⟩ (fun x=>rfl) (fun x=>by kernel_rfl)
def ak1(y:(List UInt8)){R:Type}(k:KT R):R:=match y with|a0=>kk k (Ex.exit 0) zu ((a0,()),((),()))
def ak2:List (cu K ((List UInt8))):=[⟨(Ex.exit 0),zu,fun x=>x.1.1⟩]
def VR(cm:M.aa->Option ((List UInt8))):bM K:=bS D false 62 1 [1,3,4] [3] VS (fun x=>M.sg cm ae x.1.2.1 x.1.2.2.1 x.2.1) ak1
def VT(m:M.aa->Option ((List UInt8))):aK K:=cS 105 ⟨[.el U.Term],[]⟩ (fun x=>m x.1.1)
def Gp(cm:M.aa->Option ((List UInt8))):Cx K:=bD [(69,.plain)] [ku cm] [(3,VR cm)]
theorem VU(cm:M.aa->Option ((List UInt8)))(iw:aA (ku cm)):aY (Gp cm):=bw aO _ (af iw aB)
theorem ak3(cm:M.aa->Option ((List UInt8)))(iw:aA (ku cm)):bP (Gp cm) (bB (bK Tryz.f105) 0) (VR cm):=lk (cx:=Gp cm) (sh:=VS) (run:=fun n x=>M.sg cm n x.1.2.1 x.1.2.2.1 x.2.1) (bR:=ak2) (VU cm iw) (fun m x=>by kernel_rfl) (af ⟨bW,fun _ _ _=>rfl⟩ aB)
theorem ak4(cm:M.aa->Option ((List UInt8)))(iw:aA (ku cm)):aA (VT (M.Cb cm)):=gZ (cx:=Gp cm) (fz:=true) aO (VU cm iw) eP ⟨Tryz.func105,by kernel_rfl⟩ (hl1 (ak3 cm iw)) ⟨zs1,fun x=>x.1.1⟩ (fun x=>rfl) (fun x=>by kernel_rfl)
def VV(cm:M.aa->Option ((List UInt8))):Cx K:=bD [(101,.fresh),(102,.jI),(103,.plain),(104,.plain),(105,.plain)] [Nq M.jP,Nr M.jQ,VN (M.B9 cm),VP (M.Cc cm),VT (M.Cb cm)] []
theorem ak5(cm:M.aa->Option ((List UInt8)))(iw:aA (ku cm)):aY (VV cm):=bw aO _ (af VW (af VX (af (akY cm iw) (af (ak0 cm iw) (af (ak4 cm iw) aB)))))
theorem ak6(cm:M.aa->Option ((List UInt8)))(iw:aA (ku cm)):aA (ku (M.FI cm)):=gZ (cx:=VV cm) (fz:=true) aO (ak5 cm iw) eP ⟨Tryz.func69,by kernel_rfl⟩ hq ⟨zs1,fun x=>x.1.1⟩ (fun x=>rfl) (fun x=>by kernel_rfl)
theorem VY:∀n,aA (ku (M.nQ n))|0=>pY fun _=>rfl|n+1=>ak6 (M.nQ n) (VY n)
theorem ak7:aA (ku (M.yT)):=VY ae
def ak8(y:Bool⊕(M.aa×M.aa)){R:Type}(k:KT R):R:=match y with|.inl a0=>kk k Ex.ret zw (((),((),(a0,()))),((),((),())))|.inr a1=>kk k (Ex.exit 0) VZ (((),((),((),()))),(a1.1,(a1.2,())))
def ak9:List (cu K ((Bool)⊕(M.aa×M.aa))):=[⟨Ex.ret,zw,fun x=>.inl x.1.2.2.1⟩,⟨(Ex.exit 0),VZ,fun x=>.inr ((x.2.1,x.2.2.1))⟩]
def V0:bM K:=bS D false 74 2 [2,3,5] [2,3,4] Gq (fun x=>M.uf ae x.1.2.2.1 x.2.1 x.2.2.1) ak8
def sF(m:M.aa->M.aa->Option Bool):aK K:=cB 70 ⟨[.el U.Term,.el U.Term],[]⟩ (fun x=>m x.1.1 x.1.2.1)
def V1(y:Bool⊕Unit){R:Type}(k:KT R):R:=match y with|.inl a0=>kk k Ex.ret Gs ((a0,()),((),((),())))|.inr a1=>kk k (Ex.exit 2) Gt (((),()),((),((),())))
def V2:List (cu K ((Bool)⊕Unit)):=[⟨Ex.ret,Gs,fun x=>.inl x.1.1⟩,⟨(Ex.exit 2),Gt,fun x=>.inr (())⟩]
def V3(fh:M.aa->M.aa->Option Bool):bM K:=bS D false 74 2 [2,3,6] [4] Gq (fun x=>M.ug fh ae x.1.2.2.1 x.2.1 x.2.2.1) V1
def zx(fh:M.aa->M.aa->Option Bool):Cx K:=bD [(70,.plain)] [sF fh] [(4,V0),(9,V3 fh)]
theorem Ns(fh:M.aa->M.aa->Option Bool)(sG:aA (sF fh)):aY (zx fh):=bw aO _ (af sG aB)
theorem ala(fh:M.aa->M.aa->Option Bool)(sG:aA (sF fh)):bP (zx fh) (bB (bK Tryz.f70) 0) V0:=lk (cx:=zx fh) (sh:=Gq) (run:=fun n x=>M.uf n x.1.2.2.1 x.2.1 x.2.2.1) (bR:=ak9) (Ns fh sG) (fun m x=>by kernel_rfl) (af ⟨dK,fun _ _ _=>rfl⟩ (af ⟨bW,fun _ _ _=>rfl⟩ aB))
theorem alb(fh:M.aa->M.aa->Option Bool)(sG:aA (sF fh)):bP (zx fh) (bB (bK Tryz.f70) 1) (V3 fh):=lk (cx:=zx fh) (sh:=Gq) (run:=fun n x=>M.ug fh n x.1.2.2.1 x.2.1 x.2.2.1) (bR:=V2) (Ns fh sG) (fun m x=>by kernel_rfl) (af ⟨dK,fun _ _ _=>rfl⟩ (af ⟨bW,fun _ _ _=>rfl⟩ aB))
theorem alc(fh:M.aa->M.aa->Option Bool)(sG:aA (sF fh)):aA (sF (M.Fj fh)):=gZ (cx:=zx fh) (fz:=true) aO (Ns fh sG) eP ⟨Tryz.func70,by kernel_rfl⟩ (hl2 (ala fh sG) (alb fh sG)) ⟨zs0,fun x=>x.1.1⟩ (fun x=>rfl) (fun x=>by kernel_rfl)
theorem V4:∀n,aA (sF (M.ue n))|0=>pY fun _=>rfl|n+1=>alc (M.ue n) (V4 n)
theorem ald:aA (sF (M.BV)):=V4 ae
def V5:bM K:=bS D false 26 0 [0,1,12,13] [4] V6 (fun x=>M.yH x.1.1 x.1.2.1 x.1.2.2.1 ae x.1.2.2.2.1) pB
def V7(m:(List (List UInt8))->(List (List UInt8))->Option Bool):aK K:=cB 148 ⟨[.ax U.str,.ax U.str],[]⟩ (fun x=>m x.1.1 x.1.2.1)
def Gu:Cx K:=bD [] [] [(4,V5)]
theorem V8:aY Gu:=bw aO _ aB
theorem ale:bP Gu (bB (bK Tryz.f148) 0) V5:=lk (cx:=Gu) (sh:=V6) (run:=fun n x=>M.yH x.1.1 x.1.2.1 x.1.2.2.1 n x.1.2.2.2.1) (bR:=pC) V8 (fun m x=>by kernel_rfl) (af ⟨dK,fun _ _ _=>rfl⟩ (af ⟨bW,fun _ _ _=>rfl⟩ aB))
theorem alf:aA (V7 (M.BH)):=bm (cx:=Gu) true V8 Tryz.func148 (hl1 ale) ⟨zs0,fun x=>x.1.1⟩ (fun x=>by kernel_rfl)
def m8(m:M.aa->M.aa->Int->Option Bool):aK K:=cB 118 ⟨[.el U.Term,.el U.Term,iq0],[]⟩ (fun x=>m x.1.1 x.1.2.1 x.1.2.2.1)
def V9(m:M.aa->M.aa->Int->Option Bool):aK K:=cB 150 ⟨[.el U.Term,.el U.Term,.rp U.i64 0],[]⟩ (fun x=>m x.1.1 x.1.2.1 x.1.2.2.1)
def Wa(dA:M.aa->M.aa->Int->Option Bool):Cx K:=bD [(118,.plain)] [m8 dA] []
theorem alg(dA:M.aa->M.aa->Int->Option Bool)(mC:aA (m8 dA)):aY (Wa dA):=bw aO _ (af mC aB)
theorem alh(dA:M.aa->M.aa->Int->Option Bool)(mC:aA (m8 dA)):aA (V9 (M.Fh dA)):=gZ (cx:=Wa dA) (fz:=true) aO (alg dA mC) eP ⟨Tryz.func150,by kernel_rfl⟩ hq ⟨zs0,fun x=>x.1.1⟩ (fun x=>rfl) (fun x=>by kernel_rfl)
def Wb(dA:M.aa->M.aa->Int->Option Bool):bM K:=bS D false 32 0 [1,2,15,16,17] [6] Wc (fun x=>M.yI dA x.1.1 x.1.2.1.1 x.1.2.2.1 x.1.2.2.2.1 ae x.1.2.2.2.2.1) pB
def We(m:(List M.aa)->(List M.aa)->Int->Option Bool):aK K:=cB 149 ⟨[.ax U.Term,.ax U.Term,.fn 150 [.rp U.i64 0]],[]⟩ (fun x=>m x.1.1 x.1.2.1 x.1.2.2.1.1)
def Gv(dA:M.aa->M.aa->Int->Option Bool):Cx K:=bD [(150,.plain)] [V9 (M.Fh dA)] [(4,Wb dA)]
theorem Wg(dA:M.aa->M.aa->Int->Option Bool)(mC:aA (m8 dA)):aY (Gv dA):=bw aO _ (af (alh dA mC) aB)
theorem ali(dA:M.aa->M.aa->Int->Option Bool)(mC:aA (m8 dA)):bP (Gv dA) (bB (bK Tryz.f149) 0) (Wb dA):=lk (cx:=Gv dA) (sh:=Wc) (run:=fun n x=>M.yI dA x.1.1 x.1.2.1.1 x.1.2.2.1 x.1.2.2.2.1 n x.1.2.2.2.2.1) (bR:=pC) (Wg dA mC) (fun m x=>by kernel_rfl) (af ⟨dK,fun _ _ _=>rfl⟩ (af ⟨bW,fun _ _ _=>rfl⟩ aB))
theorem alj(dA:M.aa->M.aa->Int->Option Bool)(mC:aA (m8 dA)):aA (We (M.BI dA)):=gZ (cx:=Gv dA) (fz:=true) aO (Wg dA mC) eP ⟨Tryz.func149,by kernel_rfl⟩ (hl1 (ali dA mC)) ⟨zs0,fun x=>x.1.1⟩ (fun x=>rfl) (fun x=>by kernel_rfl)
def Wh(dA:M.aa->M.aa->Int->Option Bool):Cx K:=bD [(148,.plain),(149,.plain)] [V7 M.BH,We (M.BI dA)] []
theorem alk(dA:M.aa->M.aa->Int->Option Bool)(mC:aA (m8 dA)):aY (Wh dA):=bw aO _ (af alf (af (alj dA mC) aB))
theorem alm(dA:M.aa->M.aa->Int->Option Bool)(mC:aA (m8 dA)):aA (m8 (M.Fg dA)):=gZ (cx:=Wh dA) (fz:=true) aO (alk dA mC) eP ⟨Tryz.func118,by kernel_rfl⟩ hq ⟨zs0,fun x=>x.1.1⟩ (fun x=>rfl) (fun x=>by kernel_rfl)
theorem Wi:∀n,aA (m8 (M.wa n))|0=>pY fun _=>rfl|n+1=>alm (M.wa n) (Wi n)
theorem Wj:aA (m8 (M.yL)):=Wi ae
def uP(m:M.aa->Int->Option ((List UInt8))):aK K:=cS 107 ⟨[.el U.Term,iq0],[]⟩ (fun x=>m x.1.1 x.1.2.1)
def aln(y:(List UInt8)×M.aa×(List (List UInt8))){R:Type}(k:KT R):R:=match y with|a0=>kk k (Ex.exit 0) Wl (((),(a0.1,((),()))),(a0.2.1,((),(a0.2.2,()))))
def alo:List (cu K ((List UInt8)×M.aa×(List (List UInt8)))):=[⟨(Ex.exit 0),Wl,fun x=>(x.1.2.1,x.2.1,x.2.2.2.1)⟩]
def Wm(gn:M.aa->Int->Option ((List UInt8))):bM K:=bS D false 83 2 [1,2,5,6,21,22,23] [2,5,6] Wn (fun x=>M.uy gn x.1.1 x.1.2.2.1 x.1.2.2.2.2.1 x.1.2.2.2.2.2.1 ae x.1.2.2.2.2.2.2.1 x.2.1 x.2.2.2.1) aln
def Wp(m:M.aa->(List (List UInt8))->Option ((List UInt8))):aK K:=cS 135 ⟨[.el U.Term,.ax U.str],[]⟩ (fun x=>m x.1.1 x.1.2.1)
theorem alp:aA (Wp (M.yQ)):=bm (cx:=gU) true ia Tryz.func135 hq ⟨zs1,fun x=>x.1.1⟩ (fun x=>by kernel_rfl)
def alq(y:(List (List UInt8))){R:Type}(k:KT R):R:=match y with|a0=>kk k (Ex.exit 0) ⟨[.own 2],[.dead,.dead,.arr U.str]⟩ (((),()),((),((),(a0,()))))
def alr:List (cu K ((List (List UInt8)))):=[⟨(Ex.exit 0),⟨[.own 2],[.dead,.dead,.arr U.str]⟩,fun x=>x.2.2.2.1⟩]
def Wq:bM K:=bS D false 60 2 [1,2,5,10,11,12] [5] Ws (fun x=>M.se x.1.1 x.1.2.2.2.1 x.1.2.2.2.2.1 ae x.1.2.2.2.2.2.1 x.2.1 x.2.2.2.1) alq
def Wu(m:M.aa->(List (List UInt8))->Option ((List (List UInt8)))):aK K:={f:=136,sh:=⟨[.el U.Term,.ax U.str],[]⟩,R:=(List (List UInt8)),run:=fun x=>m x.1.1 x.1.2.1,dflt:=default,out:=fun r=>(Sh.enc D (.ax U.str) r,aQ.encs D [] ())}
def Gw:Cx K:=bD [] [] [(3,Wq)]
theorem Wv:aY Gw:=bw aO _ aB
theorem als:bP Gw (bB (bK Tryz.f136) 0) Wq:=lk (cx:=Gw) (sh:=Ws) (run:=fun n x=>M.se x.1.1 x.1.2.2.2.1 x.1.2.2.2.2.1 n x.1.2.2.2.2.2.1 x.2.1 x.2.2.2.1) (bR:=alr) Wv (fun m x=>by kernel_rfl) (af ⟨bW,fun _ _ _=>rfl⟩ aB)
theorem alu:aA (Wu (M.yR)):=bm (cx:=Gw) true Wv Tryz.func136 (hl1 als) ⟨C6,fun x=>x.1.1⟩ (fun x=>by kernel_rfl)
def Gx(gn:M.aa->Int->Option ((List UInt8))):Cx K:=bD [(56,.plain),(134,.jI),(107,.plain),(108,.plain),(135,.plain),(136,.jI)] [Gy M.Gz,GF M.fR,uP gn,EK M.strings_Join,Wp M.yQ,Wu M.yR] [(7,Wm gn)]
theorem Ww(gn:M.aa->Int->Option ((List UInt8)))(zy:aA (uP gn)):aY (Gx gn):=bw aO _ (af Nu (af Nv (af zy (af RP (af alp (af alu aB))))))
theorem alv(gn:M.aa->Int->Option ((List UInt8)))(zy:aA (uP gn)):bP (Gx gn) (bB (bK Tryz.f107) 0) (Wm gn):=lk (cx:=Gx gn) (sh:=Wn) (run:=fun n x=>M.uy gn x.1.1 x.1.2.2.1 x.1.2.2.2.2.1 x.1.2.2.2.2.2.1 n x.1.2.2.2.2.2.2.1 x.2.1 x.2.2.2.1) (bR:=alo) (Ww gn zy) (fun m x=>by kernel_rfl) (af ⟨bW,fun _ _ _=>rfl⟩ aB)
theorem alx(gn:M.aa->Int->Option ((List UInt8)))(zy:aA (uP gn)):aA (uP (M.FC gn)):=gZ (cx:=Gx gn) (fz:=true) aO (Ww gn zy) eP ⟨Tryz.func107,by kernel_rfl⟩ (hl1 (alv gn zy)) ⟨zs1,fun x=>x.1.1⟩ (fun x=>rfl) (fun x=>by kernel_rfl)
theorem Wx:∀n,aA (uP (M.uC n))|0=>pY fun _=>rfl|n+1=>alx (M.uC n) (Wx n)
theorem aly:aA (uP (M.uD)):=Wx ae
def Wy(m:(List UInt8)->(List UInt8)->Option (Int×(List UInt8))):aK K:={f:=71,sh:=⟨[.ptr 0 0,.str],[.box [.np 0,.own 1],.arr U.u8]⟩,R:=Int×(List UInt8),run:=fun x=>m x.1.2.1 x.2.2.1,dflt:=default,out:=fun r=>(Sh.enc D (.bA [iq0,.any]) (r.1,((),())),aQ.encs D [.box [.np 0,.own 2],.dead,.arr U.u8] (((),((),())),((),(r.2,()))))}
def WA:Cx K:={jD with mode:=iF .plain [(106,.aX)],mv:=true,call:=callOf D [Ll M.Ln],loop:=gG []}
theorem alz:aY WA:=bw aO _ (af af2 aB)
theorem alA:aA (Wy (M.pq)):=bm (cx:=WA) true alz Tryz.func71 hq ⟨⟨[.bA [iq0,.any]],[.box [.np 0,.own 2],.dead,.arr U.u8]⟩,fun x=>(x.1.1.1,x.2.2.2.1)⟩ (fun x=>by kernel_rfl)
def alB(y:M.ai×(List (List UInt8))){R:Type}(k:KT R):R:=match y with|a0=>kk k (Ex.exit 1) WB (((),((),())),(a0.1,((),(a0.2,()))))
def alC:List (cu K (M.ai×(List (List UInt8)))):=[⟨(Ex.exit 1),WB,fun x=>(x.2.1,x.2.2.2.1)⟩]
def WC:bM K:=bS D false 105 2 [1,3,32,33,34] [1,3] WE (fun x=>M.qp x.1.2.2.1 x.1.2.2.2.1 ae x.1.2.2.2.2.1 x.2.1 x.2.2.2.1) alB
def Nw(m:M.aI->Option ((List UInt8))):aK K:=cS 73 ⟨[.el U.Path],[]⟩ (fun x=>m x.1.1)
theorem WG:aA (Nw (M.uw)):=bm (cx:=gU) true ia Tryz.func73 hq ⟨zs1,fun x=>x.1.1⟩ (fun x=>by kernel_rfl)
def alD(y:(List UInt8)×M.ai×(List (List UInt8))){R:Type}(k:KT R):R:=match y with|a0=>kk k (Ex.exit 3) WH (((),((),(a0.1,()))),(a0.2.1,((),(a0.2.2,()))))
def alE:List (cu K ((List UInt8)×M.ai×(List (List UInt8)))):=[⟨(Ex.exit 3),WH,fun x=>(x.1.2.2.1,x.2.1,x.2.2.2.1)⟩]
def WI:bM K:=bS D false 105 2 [1,7,8,67,68,69] [1,7,8] WJ (fun x=>M.qq x.1.2.2.1 x.1.2.2.2.1 x.1.2.2.2.2.1 ae x.1.2.2.2.2.2.1 x.2.1 x.2.2.2.1) alD
def WL(m:M.ai->Option ((List UInt8))):aK K:=cS 72 ⟨[.el U.Item],[]⟩ (fun x=>m x.1.1)
def zz:Cx K:=bD [(107,.plain),(73,.plain),(108,.plain)] [uP M.uD,Nw M.uw,EK M.strings_Join] [(9,WC),(19,WI)]
theorem Nx:aY zz:=bw aO _ (af aly (af WG (af RP aB)))
theorem alF:bP zz (bB (bK Tryz.f72) 0) WC:=lk (cx:=zz) (sh:=WE) (run:=fun n x=>M.qp x.1.2.2.1 x.1.2.2.2.1 n x.1.2.2.2.2.1 x.2.1 x.2.2.2.1) (bR:=alC) Nx (fun m x=>by kernel_rfl) (af ⟨bW,fun _ _ _=>rfl⟩ aB)
theorem alG:bP zz (bB (bK Tryz.f72) 1) WI:=lk (cx:=zz) (sh:=WJ) (run:=fun n x=>M.qq x.1.2.2.1 x.1.2.2.2.1 x.1.2.2.2.2.1 n x.1.2.2.2.2.2.1 x.2.1 x.2.2.2.1) (bR:=alE) Nx (fun m x=>by kernel_rfl) (af ⟨bW,fun _ _ _=>rfl⟩ aB)
theorem alH:aA (WL (M.Cf)):=bm (cx:=zz) true Nx Tryz.func72 (hl2 alF alG) ⟨zs1,fun x=>x.1.1⟩ (fun x=>by kernel_rfl)
def alI(y:(List M.aF)×Int×Int×M.ah×(List UInt8)){R:Type}(k:KT R):R:=match y with|a0=>kk k (Ex.exit 2) GG (((),((),(a0.1,(a0.2.1,(a0.2.2.1,()))))),(a0.2.2.2.1,(((),((),())),((),(a0.2.2.2.2,())))))
def alJ:List (cu K ((List M.aF)×Int×Int×M.ah×(List UInt8))):=[⟨(Ex.exit 2),GG,fun x=>(x.1.2.2.1,x.1.2.2.2.1,x.1.2.2.2.2.1,x.2.1,x.2.2.2.2.1)⟩]
def WM:bM K:=bS D false 91 3 [1,3,24,25,26,36,37,38] [1,3,24,25,26] WN (fun x=>M.qw x.1.2.2.1 x.1.2.2.2.1 x.1.2.2.2.2.1 x.1.2.2.2.2.2.1 x.1.2.2.2.2.2.2.1 x.2.1 ae x.1.2.2.2.2.2.2.2.1 x.2.2.2.2.1) alI
def alK(y:M.ah×(List UInt8)){R:Type}(k:KT R):R:=match y with|a0=>kk k (Ex.exit 0) WO (((),((),())),(a0.1,(((),((),())),((),(a0.2,())))))
def alL:List (cu K (M.ah×(List UInt8))):=[⟨(Ex.exit 0),WO,fun x=>(x.2.1,x.2.2.2.2.1)⟩]
def WQ:bM K:=bS D false 91 3 [1,3,24,25,26] [1,3] GG (fun x=>M.qx ae x.1.2.2.1 x.1.2.2.2.1 x.1.2.2.2.2.1 x.2.1 x.2.2.2.2.1) alK
def alM(y:(List M.aS)×Int×Int×(List (List UInt8))×(List UInt8)){R:Type}(k:KT R):R:=match y with|a0=>kk k (Ex.exit 6) GH (((),((),(a0.1,(a0.2.1,(a0.2.2.1,()))))),(((),((),())),((),((),(a0.2.2.2.1,(a0.2.2.2.2,()))))))
def alN:List (cu K ((List M.aS)×Int×Int×(List (List UInt8))×(List UInt8))):=[⟨(Ex.exit 6),GH,fun x=>(x.1.2.2.1,x.1.2.2.2.1,x.1.2.2.2.2.1,x.2.2.2.2.1,x.2.2.2.2.2.1)⟩]
def WR:bM K:=bS D false 91 3 [3,8,52,53,54,64,65,66] [3,8,52,53,54] WS (fun x=>M.qy x.1.2.2.1 x.1.2.2.2.1 x.1.2.2.2.2.1 x.1.2.2.2.2.2.1 x.1.2.2.2.2.2.2.1 x.2.2.2.2.1 ae x.1.2.2.2.2.2.2.2.1 x.2.2.2.2.2.1) alM
def alO(y:(List UInt8)){R:Type}(k:KT R):R:=match y with|a0=>kk k (Ex.exit 4) WT (((),()),(((),((),())),((),((),(a0,())))))
def alP:List (cu K ((List UInt8))):=[⟨(Ex.exit 4),WT,fun x=>x.2.2.2.2.1⟩]
def WU:bM K:=bS D false 91 3 [3,8,52,53,54] [3] GH (fun x=>M.qz ae x.1.2.2.1 x.1.2.2.2.1 x.1.2.2.2.2.1 x.2.2.2.2.1 x.2.2.2.2.2.1) alO
def WV(m:M.ah->Option ((List UInt8))):aK K:=cS 51 uN (fun x=>m x.1.1)
def qK:Cx K:=bD [(71,.aX),(72,.plain),(56,.plain),(73,.plain),(74,.aX)] [Wy M.pq,WL M.Cf,Gy M.Gz,Nw M.uw,Lm M.tD] [(8,WM),(4,WQ),(20,WR),(16,WU)]
theorem Da:aY qK:=bw aO _ (af alA (af alH (af Nu (af WG (af af4 aB)))))
theorem alQ:bP qK (bB (bB (bK Tryz.f51) 0) 0) WM:=lk (cx:=qK) (sh:=WN) (run:=fun n x=>M.qw x.1.2.2.1 x.1.2.2.2.1 x.1.2.2.2.2.1 x.1.2.2.2.2.2.1 x.1.2.2.2.2.2.2.1 x.2.1 n x.1.2.2.2.2.2.2.2.1 x.2.2.2.2.1) (bR:=alJ) Da (fun m x=>by kernel_rfl) (af ⟨bW,fun _ _ _=>rfl⟩ aB)
theorem alR:bP qK (bB (bB (bK Tryz.f51) 1) 0) WR:=lk (cx:=qK) (sh:=WS) (run:=fun n x=>M.qy x.1.2.2.1 x.1.2.2.2.1 x.1.2.2.2.2.1 x.1.2.2.2.2.2.1 x.1.2.2.2.2.2.2.1 x.2.2.2.2.1 n x.1.2.2.2.2.2.2.2.1 x.2.2.2.2.2.1) (bR:=alN) Da (fun m x=>by kernel_rfl) (af ⟨bW,fun _ _ _=>rfl⟩ aB)
theorem alS:bP qK (bB (bK Tryz.f51) 0) WQ:=lk (cx:=qK) (sh:=GG) (run:=fun n x=>M.qx n x.1.2.2.1 x.1.2.2.2.1 x.1.2.2.2.2.1 x.2.1 x.2.2.2.2.1) (bR:=alL) Da (fun m x=>by kernel_rfl) (af ⟨bW,fun _ _ _=>rfl⟩ aB) (hl:=(iE 1 (by kernel_rfl) (iU (.mk (by kernel_rfl) alQ))))
theorem alT:bP qK (bB (bK Tryz.f51) 1) WU:=lk (cx:=qK) (sh:=GH) (run:=fun n x=>M.qz n x.1.2.2.1 x.1.2.2.2.1 x.1.2.2.2.2.1 x.2.2.2.2.1 x.2.2.2.2.2.1) (bR:=alP) Da (fun m x=>by kernel_rfl) (af ⟨bW,fun _ _ _=>rfl⟩ aB) (hl:=(iE 1 (by kernel_rfl) (iU (.mk (by kernel_rfl) alR))))
theorem alU:aA (WV (M.uu)):=bm (cx:=qK) true Da Tryz.func51 (hl2 alS alT) ⟨zs1,fun x=>x.1.1⟩ (fun x=>by kernel_rfl)
def WW:bM K:=bS D false 26 0 [0,1,12,13] [4] WX (fun x=>M.yJ x.1.1 x.1.2.1 x.1.2.2.1 ae x.1.2.2.2.1) pB
def WY(m:(List M.aW)->(List M.aW)->Option Bool):aK K:=cB 119 ⟨[.ax U.eA,.ax U.eA],[]⟩ (fun x=>m x.1.1 x.1.2.1)
def GI:Cx K:=bD [] [] [(4,WW)]
theorem WZ:aY GI:=bw aO _ aB
theorem alV:bP GI (bB (bK Tryz.f119) 0) WW:=lk (cx:=GI) (sh:=WX) (run:=fun n x=>M.yJ x.1.1 x.1.2.1 x.1.2.2.1 n x.1.2.2.2.1) (bR:=pC) WZ (fun m x=>by kernel_rfl) (af ⟨dK,fun _ _ _=>rfl⟩ (af ⟨bW,fun _ _ _=>rfl⟩ aB))
theorem alW:aA (WY (M.BJ)):=bm (cx:=GI) true WZ Tryz.func119 (hl1 alV) ⟨zs0,fun x=>x.1.1⟩ (fun x=>by kernel_rfl)
def W0(m:M.aV->M.aV->Option Bool):aK K:=cB 121 ⟨[.el U.dV,.el U.dV],[]⟩ (fun x=>m x.1.1 x.1.2.1)
def W4:Cx K:=bD [(118,.plain)] [m8 M.yL] []
theorem alX:aY W4:=bw aO _ (af Wj aB)
theorem alY:aA (W0 (M.BL)):=bm (cx:=W4) true alX Tryz.func121 hq ⟨zs0,fun x=>x.1.1⟩ (fun x=>by kernel_rfl)
def W5:bM K:=bS D false 32 0 [1,2,15,16,17] [6] W6 (fun x=>M.yM x.1.1 x.1.2.2.1 x.1.2.2.2.1 ae x.1.2.2.2.2.1) pB
def W7(m:(List M.aV)->(List M.aV)->Option Bool):aK K:=cB 120 ⟨[.ax U.dV,.ax U.dV,.fn 121 []],[]⟩ (fun x=>m x.1.1 x.1.2.1)
def GK:Cx K:=bD [(121,.plain)] [W0 M.BL] [(4,W5)]
theorem W8:aY GK:=bw aO _ (af alY aB)
theorem alZ:bP GK (bB (bK Tryz.f120) 0) W5:=lk (cx:=GK) (sh:=W6) (run:=fun n x=>M.yM x.1.1 x.1.2.2.1 x.1.2.2.2.1 n x.1.2.2.2.2.1) (bR:=pC) W8 (fun m x=>by kernel_rfl) (af ⟨dK,fun _ _ _=>rfl⟩ (af ⟨bW,fun _ _ _=>rfl⟩ aB))
theorem al0:aA (W7 (M.BM)):=bm (cx:=GK) true W8 Tryz.func120 (hl1 alZ) ⟨zs0,fun x=>x.1.1⟩ (fun x=>by kernel_rfl)
def W9(m:M.ai->M.ai->Option Bool):aK K:=cB 82 ⟨[.el U.Item,.el U.Item],[]⟩ (fun x=>m x.1.1 x.1.2.1)
def Xa:Cx K:=bD [(118,.plain),(119,.plain),(120,.plain)] [m8 M.yL,WY M.BJ,W7 M.BM] []
theorem al1:aY Xa:=bw aO _ (af Wj (af alW (af al0 aB)))
theorem al2:aA (W9 (M.BN)):=bm (cx:=Xa) true al1 Tryz.func82 hq ⟨zs0,fun x=>x.1.1⟩ (fun x=>by kernel_rfl)
def Xb:bM K:=bS D false 32 0 [1,2,15,16,17] [6] Xc (fun x=>M.yN x.1.1 x.1.2.2.1 x.1.2.2.2.1 ae x.1.2.2.2.2.1) pB
def Xd(m:(List M.ai)->(List M.ai)->Option Bool):aK K:=cB 81 ⟨[.ax U.Item,.ax U.Item,.fn 82 []],[]⟩ (fun x=>m x.1.1 x.1.2.1)
def GL:Cx K:=bD [(82,.plain)] [W9 M.BN] [(4,Xb)]
theorem Xe:aY GL:=bw aO _ (af al2 aB)
theorem al3:bP GL (bB (bK Tryz.f81) 0) Xb:=lk (cx:=GL) (sh:=Xc) (run:=fun n x=>M.yN x.1.1 x.1.2.2.1 x.1.2.2.2.1 n x.1.2.2.2.2.1) (bR:=pC) Xe (fun m x=>by kernel_rfl) (af ⟨dK,fun _ _ _=>rfl⟩ (af ⟨bW,fun _ _ _=>rfl⟩ aB))
theorem al4:aA (Xd (M.BO)):=bm (cx:=GL) true Xe Tryz.func81 (hl1 al3) ⟨zs0,fun x=>x.1.1⟩ (fun x=>by kernel_rfl)
def Xf(m:M.aF->M.aF->Option Bool):aK K:=cB 80 ⟨[.el U.dn,.el U.dn],[]⟩ (fun x=>m x.1.1 x.1.2.1)
def Xg:Cx K:=bD [(81,.plain)] [Xd M.BO] []
theorem al5:aY Xg:=bw aO _ (af al4 aB)
theorem al6:aA (Xf (M.BP)):=bm (cx:=Xg) true al5 Tryz.func80 hq ⟨zs0,fun x=>x.1.1⟩ (fun x=>by kernel_rfl)
def Xh:bM K:=bS D false 32 0 [1,2,15,16,17] [6] Xi (fun x=>M.yO x.1.1 x.1.2.2.1 x.1.2.2.2.1 ae x.1.2.2.2.2.1) pB
def Xj(m:(List M.aF)->(List M.aF)->Option Bool):aK K:=cB 79 ⟨[.ax U.dn,.ax U.dn,.fn 80 []],[]⟩ (fun x=>m x.1.1 x.1.2.1)
def GM:Cx K:=bD [(80,.plain)] [Xf M.BP] [(4,Xh)]
theorem Xk:aY GM:=bw aO _ (af al6 aB)
theorem al7:bP GM (bB (bK Tryz.f79) 0) Xh:=lk (cx:=GM) (sh:=Xi) (run:=fun n x=>M.yO x.1.1 x.1.2.2.1 x.1.2.2.2.1 n x.1.2.2.2.2.1) (bR:=pC) Xk (fun m x=>by kernel_rfl) (af ⟨dK,fun _ _ _=>rfl⟩ (af ⟨bW,fun _ _ _=>rfl⟩ aB))
theorem al8:aA (Xj (M.BQ)):=bm (cx:=GM) true Xk Tryz.func79 (hl1 al7) ⟨zs0,fun x=>x.1.1⟩ (fun x=>by kernel_rfl)
def Xl:bM K:=bS D false 26 0 [0,1,12,13] [4] Xm (fun x=>M.yK x.1.1 x.1.2.1 x.1.2.2.1 ae x.1.2.2.2.1) pB
def Xn(m:(List M.aN)->(List M.aN)->Option Bool):aK K:=cB 85 ⟨[.ax U.fy,.ax U.fy],[]⟩ (fun x=>m x.1.1 x.1.2.1)
def GN:Cx K:=bD [] [] [(4,Xl)]
theorem Xo:aY GN:=bw aO _ aB
theorem al9:bP GN (bB (bK Tryz.f85) 0) Xl:=lk (cx:=GN) (sh:=Xm) (run:=fun n x=>M.yK x.1.1 x.1.2.1 x.1.2.2.1 n x.1.2.2.2.1) (bR:=pC) Xo (fun m x=>by kernel_rfl) (af ⟨dK,fun _ _ _=>rfl⟩ (af ⟨bW,fun _ _ _=>rfl⟩ aB))
theorem ama:aA (Xn (M.BK)):=bm (cx:=GN) true Xo Tryz.func85 (hl1 al9) ⟨zs0,fun x=>x.1.1⟩ (fun x=>by kernel_rfl)
def Xp(m:M.aS->M.aS->Option Bool):aK K:=cB 84 ⟨[.el U.dR,.el U.dR],[]⟩ (fun x=>m x.1.1 x.1.2.1)
def Xq:Cx K:=bD [(85,.plain)] [Xn M.BK] []
theorem amb:aY Xq:=bw aO _ (af ama aB)
theorem amc:aA (Xp (M.BR)):=bm (cx:=Xq) true amb Tryz.func84 hq ⟨zs0,fun x=>x.1.1⟩ (fun x=>by kernel_rfl)
def Xr:bM K:=bS D false 32 0 [1,2,15,16,17] [6] Xs (fun x=>M.yP x.1.1 x.1.2.2.1 x.1.2.2.2.1 ae x.1.2.2.2.2.1) pB
def Xt(m:(List M.aS)->(List M.aS)->Option Bool):aK K:=cB 83 ⟨[.ax U.dR,.ax U.dR,.fn 84 []],[]⟩ (fun x=>m x.1.1 x.1.2.1)
def GO:Cx K:=bD [(84,.plain)] [Xp M.BR] [(4,Xr)]
theorem Xu:aY GO:=bw aO _ (af amc aB)
theorem amd:bP GO (bB (bK Tryz.f83) 0) Xr:=lk (cx:=GO) (sh:=Xs) (run:=fun n x=>M.yP x.1.1 x.1.2.2.1 x.1.2.2.2.1 n x.1.2.2.2.2.1) (bR:=pC) Xu (fun m x=>by kernel_rfl) (af ⟨dK,fun _ _ _=>rfl⟩ (af ⟨bW,fun _ _ _=>rfl⟩ aB))
theorem ame:aA (Xt (M.BS)):=bm (cx:=GO) true Xu Tryz.func83 (hl1 amd) ⟨zs0,fun x=>x.1.1⟩ (fun x=>by kernel_rfl)
def Xv(m:M.ah->M.ah->Option Bool):aK K:=cB 53 ⟨[.el U.ba,.el U.ba],[]⟩ (fun x=>m x.1.1 x.1.2.1)
def Xw:Cx K:=bD [(79,.plain),(83,.plain)] [Xj M.BQ,Xt M.BS] []
theorem amf:aY Xw:=bw aO _ (af al8 (af ame aB))
theorem amg:aA (Xv (M.BU)):=bm (cx:=Xw) true amf Tryz.func53 hq ⟨zs0,fun x=>x.1.1⟩ (fun x=>by kernel_rfl)
def Xx(m:M.ah->Option ((List UInt8)×Bool)):aK K:={f:=37,sh:=uN,R:=(List UInt8)×Bool,run:=fun x=>m x.1.1,dflt:=default,out:=fun r=>(Sh.enc D (.bA [.str,.bool]) (r.1,(r.2,())),aQ.encs D [] ())}
def Xy:Cx K:=bD [(51,.plain),(52,.jI),(53,.plain)] [WV M.uu,Xz M.BF,Xv M.BU] []
theorem amh:aY Xy:=bw aO _ (af alU (af ami (af amg aB)))
theorem amj:aA (Xx (M.BY)):=bm (cx:=Xy) true amh Tryz.func37 hq ⟨⟨[.bA [.str,.bool]],[]⟩,fun x=>(x.1.1.1,x.1.1.2.1)⟩ (fun x=>by kernel_rfl)
def XA(m:M.ah->Option Bool):aK K:=cB 21 uN (fun x=>m x.1.1)
def XB:Cx K:=bD [(37,.plain)] [Xx M.BY] []
theorem amk:aY XB:=bw aO _ (af amj aB)
theorem aml:aA (XA (M.wd)):=bm (cx:=XB) true amk Tryz.func21 hq ⟨zs0,fun x=>x.1.1⟩ (fun x=>by kernel_rfl)
def amm(y:Bool⊕(M.ai)){R:Type}(k:KT R):R:=match y with|.inl a0=>kk k Ex.ret GQ (((),(a0,())),((),()))|.inr a1=>kk k (Ex.exit 0) ⟨[.ptr 0 0,.any],[.el U.Item]⟩ (((),((),())),(a1,()))
def amn:List (cu K ((Bool)⊕(M.ai))):=[⟨Ex.ret,GQ,fun x=>.inl x.1.2.1⟩,⟨(Ex.exit 0),⟨[.ptr 0 0,.any],[.el U.Item]⟩,fun x=>.inr (x.2.1)⟩]
def XC:bM K:=bS D false 48 1 [1,3] [1,2] ⟨[.ptr 0 0,iq0],[.el U.Item]⟩ (fun x=>M.yU ae x.1.2.1 x.2.1) amm
def XD(m:M.ai->Option Bool):aK K:=cB 42 ⟨[.el U.Item],[]⟩ (fun x=>m x.1.1)
def GR:Cx K:=bD [(58,.plain),(27,.plain)] [uO M.B8,C7 M.C9] [(4,XC)]
theorem XE:aY GR:=bw aO _ (af akU (af Gm aB))
theorem amo:bP GR (bB (bK Tryz.f42) 0) XC:=lk (cx:=GR) (sh:=⟨[.ptr 0 0,iq0],[.el U.Item]⟩) (run:=fun n x=>M.yU n x.1.2.1 x.2.1) (bR:=amn) XE (fun m x=>by kernel_rfl) (af ⟨dK,fun _ _ _=>rfl⟩ (af ⟨bW,fun _ _ _=>rfl⟩ aB))
theorem amq:aA (XD (M.Ci)):=bm (cx:=GR) true XE Tryz.func42 (hl1 amo) ⟨zs0,fun x=>x.1.1⟩ (fun x=>by kernel_rfl)
def amr(y:Bool⊕(Int×M.ah)){R:Type}(k:KT R):R:=match y with|.inl a0=>kk k Ex.ret GU (((),((),(a0,()))),((),()))|.inr a1=>kk k (Ex.exit 2) GV (((),(a1.1,((),()))),(a1.2,()))
def ams:List (cu K ((Bool)⊕(Int×M.ah))):=[⟨Ex.ret,GU,fun x=>.inl x.1.2.2.1⟩,⟨(Ex.exit 2),GV,fun x=>.inr ((x.1.2.1,x.2.1))⟩]
def XF:bM K:=bS D false 92 1 [1,3,4] [1,3,2] GX (fun x=>M.yX x.1.2.1 x.2.1 ae x.1.2.2.1) amr
def amu(y:Bool⊕(M.ah)){R:Type}(k:KT R):R:=match y with|.inl a0=>kk k Ex.ret GQ (((),(a0,())),((),()))|.inr a1=>kk k (Ex.exit 0) ⟨[.ptr 0 0,.any],[.el U.ba]⟩ (((),((),())),(a1,()))
def amv:List (cu K ((Bool)⊕(M.ah))):=[⟨Ex.ret,GQ,fun x=>.inl x.1.2.1⟩,⟨(Ex.exit 0),⟨[.ptr 0 0,.any],[.el U.ba]⟩,fun x=>.inr (x.2.1)⟩]
def XG:bM K:=bS D false 92 1 [1,3] [1,2] GY (fun x=>M.yY ae x.1.2.1 x.2.1) amu
def amw(y:Bool⊕(Int×M.ah)){R:Type}(k:KT R):R:=match y with|.inl a0=>kk k Ex.ret GU (((),((),(a0,()))),((),()))|.inr a1=>kk k (Ex.exit 6) GV (((),(a1.1,((),()))),(a1.2,()))
def amx:List (cu K ((Bool)⊕(Int×M.ah))):=[⟨Ex.ret,GU,fun x=>.inl x.1.2.2.1⟩,⟨(Ex.exit 6),GV,fun x=>.inr ((x.1.2.1,x.2.1))⟩]
def XH:bM K:=bS D false 92 1 [1,5,6] [1,5,2] GX (fun x=>M.yZ x.1.2.1 x.2.1 ae x.1.2.2.1) amw
def amy(y:Bool⊕Unit){R:Type}(k:KT R):R:=match y with|.inl a0=>kk k Ex.ret ⟨[.bool],[.dead]⟩ ((a0,()),((),()))|.inr a1=>kk k (Ex.exit 4) GZ (((),()),((),()))
def amz:List (cu K ((Bool)⊕Unit)):=[⟨Ex.ret,⟨[.bool],[.dead]⟩,fun x=>.inl x.1.1⟩,⟨(Ex.exit 4),GZ,fun x=>.inr (())⟩]
def XI:bM K:=bS D false 92 1 [1,5] [2] GY (fun x=>M.y6 ae x.1.2.1 x.2.1) amy
def XJ(m:M.ah->Option Bool):aK K:=cB 33 uN (fun x=>m x.1.1)
def qL:Cx K:=bD [(42,.plain),(27,.plain)] [XD M.Ci,C7 M.C9] [(9,XF),(4,XG),(19,XH),(14,XI)]
theorem Db:aY qL:=bw aO _ (af amq (af Gm aB))
theorem amA:bP qL (bB (bB (bK Tryz.f33) 0) 0) XF:=lk (cx:=qL) (sh:=GX) (run:=fun n x=>M.yX x.1.2.1 x.2.1 n x.1.2.2.1) (bR:=ams) Db (fun m x=>by kernel_rfl) (af ⟨dK,fun _ _ _=>rfl⟩ (af ⟨bW,fun _ _ _=>rfl⟩ aB))
theorem amB:bP qL (bB (bB (bK Tryz.f33) 1) 0) XH:=lk (cx:=qL) (sh:=GX) (run:=fun n x=>M.yZ x.1.2.1 x.2.1 n x.1.2.2.1) (bR:=amx) Db (fun m x=>by kernel_rfl) (af ⟨dK,fun _ _ _=>rfl⟩ (af ⟨bW,fun _ _ _=>rfl⟩ aB))
theorem amC:bP qL (bB (bK Tryz.f33) 0) XG:=lk (cx:=qL) (sh:=GY) (run:=fun n x=>M.yY n x.1.2.1 x.2.1) (bR:=amv) Db (fun m x=>by kernel_rfl) (af ⟨dK,fun _ _ _=>rfl⟩ (af ⟨bW,fun _ _ _=>rfl⟩ aB)) (hl:=(iE 1 (by kernel_rfl) (iU (.mk (by kernel_rfl) amA))))
theorem amD:bP qL (bB (bK Tryz.f33) 1) XI:=lk (cx:=qL) (sh:=GY) (run:=fun n x=>M.y6 n x.1.2.1 x.2.1) (bR:=amz) Db (fun m x=>by kernel_rfl) (af ⟨dK,fun _ _ _=>rfl⟩ (af ⟨bW,fun _ _ _=>rfl⟩ aB)) (hl:=(iE 1 (by kernel_rfl) (iU (.mk (by kernel_rfl) amB))))
theorem amE:aA (XJ (M.uv)):=bm (cx:=qL) true Db Tryz.func33 (hl2 amC amD) ⟨zs0,fun x=>x.1.1⟩ (fun x=>by kernel_rfl)
def Ny(m:M.aI->Option ((List UInt8))):aK K:=cS 49 ⟨[.el U.Path],[]⟩ (fun x=>m x.1.1)
theorem XK:aA (Ny (M.ux)):=bm (cx:=gU) true ia Tryz.func49 hq ⟨zs1,fun x=>x.1.1⟩ (fun x=>by kernel_rfl)
def amF(y:(List UInt8)){R:Type}(k:KT R):R:=match y with|a0=>kk k (Ex.exit 1) zu ((a0,()),((),()))
def amG:List (cu K ((List UInt8))):=[⟨(Ex.exit 1),zu,fun x=>x.1.1⟩]
def XL:bM K:=bS D false 118 1 [1,3,4] [3] G0 (fun x=>M.qt ae x.1.2.1 x.1.2.2.1 x.2.1) amF
def amH(y:(List UInt8)×M.ai){R:Type}(k:KT R):R:=match y with|a0=>kk k (Ex.exit 3) ⟨[.ptr 0 0,.str],[.el U.Item]⟩ (((),(a0.1,())),(a0.2,()))
def amI:List (cu K ((List UInt8)×M.ai)):=[⟨(Ex.exit 3),⟨[.ptr 0 0,.str],[.el U.Item]⟩,fun x=>(x.1.2.1,x.2.1)⟩]
def XM:bM K:=bS D false 118 1 [1,5,6] [1,5] G0 (fun x=>M.qu ae x.1.2.1 x.1.2.2.1 x.2.1) amH
def XN(m:M.ai->Option ((List UInt8))):aK K:=cS 47 ⟨[.el U.Item],[]⟩ (fun x=>m x.1.1)
def zA:Cx K:=bD [(69,.plain),(49,.plain)] [ku M.yT,Ny M.ux] [(9,XL),(22,XM)]
theorem Nz:aY zA:=bw aO _ (af ak7 (af XK aB))
theorem amJ:bP zA (bB (bK Tryz.f47) 0) XL:=lk (cx:=zA) (sh:=G0) (run:=fun n x=>M.qt n x.1.2.1 x.1.2.2.1 x.2.1) (bR:=amG) Nz (fun m x=>by kernel_rfl) (af ⟨bW,fun _ _ _=>rfl⟩ aB)
theorem amK:bP zA (bB (bK Tryz.f47) 1) XM:=lk (cx:=zA) (sh:=G0) (run:=fun n x=>M.qu n x.1.2.1 x.1.2.2.1 x.2.1) (bR:=amI) Nz (fun m x=>by kernel_rfl) (af ⟨bW,fun _ _ _=>rfl⟩ aB)
theorem amL:aA (XN (M.Cj)):=bm (cx:=zA) true Nz Tryz.func47 (hl2 amJ amK) ⟨zs1,fun x=>x.1.1⟩ (fun x=>by kernel_rfl)
def amM(y:(List UInt8)×Int×M.ah){R:Type}(k:KT R):R:=match y with|a0=>kk k (Ex.exit 2) uQ (((),(a0.1,(a0.2.1,()))),(a0.2.2,()))
def amN:List (cu K ((List UInt8)×Int×M.ah)):=[⟨(Ex.exit 2),uQ,fun x=>(x.1.2.1,x.1.2.2.1,x.2.1)⟩]
def XO:bM K:=bS D false 116 1 [1,3,4,5] [1,3,4] G5 (fun x=>M.qA x.1.2.2.1 x.2.1 ae x.1.2.1 x.1.2.2.2.1) amM
def amO(y:(List UInt8)×M.ah){R:Type}(k:KT R):R:=match y with|a0=>kk k (Ex.exit 0) ⟨[.ptr 0 0,.str],[.el U.ba]⟩ (((),(a0.1,())),(a0.2,()))
def amP:List (cu K ((List UInt8)×M.ah)):=[⟨(Ex.exit 0),⟨[.ptr 0 0,.str],[.el U.ba]⟩,fun x=>(x.1.2.1,x.2.1)⟩]
def XP:bM K:=bS D false 116 1 [1,3,4] [1,3] uQ (fun x=>M.qB ae x.1.2.1 x.1.2.2.1 x.2.1) amO
def amQ(y:(List UInt8)×Int×M.ah){R:Type}(k:KT R):R:=match y with|a0=>kk k (Ex.exit 6) uQ (((),(a0.1,(a0.2.1,()))),(a0.2.2,()))
def amR:List (cu K ((List UInt8)×Int×M.ah)):=[⟨(Ex.exit 6),uQ,fun x=>(x.1.2.1,x.1.2.2.1,x.2.1)⟩]
def XQ:bM K:=bS D false 116 1 [1,3,6,7] [1,3,6] G5 (fun x=>M.qC x.1.2.2.1 x.2.1 ae x.1.2.1 x.1.2.2.2.1) amQ
def amS(y:(List UInt8)){R:Type}(k:KT R):R:=match y with|a0=>kk k (Ex.exit 4) zu ((a0,()),((),()))
def amT:List (cu K ((List UInt8))):=[⟨(Ex.exit 4),zu,fun x=>x.1.1⟩]
def XR:bM K:=bS D false 116 1 [1,3,6] [3] uQ (fun x=>M.qD ae x.1.2.1 x.1.2.2.1 x.2.1) amS
def XS(m:M.ah->Option ((List UInt8))):aK K:=cS 35 uN (fun x=>m x.1.1)
def qM:Cx K:=bD [(47,.plain),(48,.jI),(49,.plain)] [XN M.Cj,Nc M.jV,Ny M.ux] [(7,XO),(3,XP),(16,XQ),(12,XR)]
theorem Dc:aY qM:=bw aO _ (af amL (af U6 (af XK aB)))
theorem amU:bP qM (bB (bB (bK Tryz.f35) 0) 0) XO:=lk (cx:=qM) (sh:=G5) (run:=fun n x=>M.qA x.1.2.2.1 x.2.1 n x.1.2.1 x.1.2.2.2.1) (bR:=amN) Dc (fun m x=>by kernel_rfl) (af ⟨bW,fun _ _ _=>rfl⟩ aB)
theorem amV:bP qM (bB (bB (bK Tryz.f35) 1) 0) XQ:=lk (cx:=qM) (sh:=G5) (run:=fun n x=>M.qC x.1.2.2.1 x.2.1 n x.1.2.1 x.1.2.2.2.1) (bR:=amR) Dc (fun m x=>by kernel_rfl) (af ⟨bW,fun _ _ _=>rfl⟩ aB)
theorem amW:bP qM (bB (bK Tryz.f35) 0) XP:=lk (cx:=qM) (sh:=uQ) (run:=fun n x=>M.qB n x.1.2.1 x.1.2.2.1 x.2.1) (bR:=amP) Dc (fun m x=>by kernel_rfl) (af ⟨bW,fun _ _ _=>rfl⟩ aB) (hl:=(iE 1 (by kernel_rfl) (iU (.mk (by kernel_rfl) amU))))
theorem amX:bP qM (bB (bK Tryz.f35) 1) XR:=lk (cx:=qM) (sh:=uQ) (run:=fun n x=>M.qD n x.1.2.1 x.1.2.2.1 x.2.1) (bR:=amT) Dc (fun m x=>by kernel_rfl) (af ⟨bW,fun _ _ _=>rfl⟩ aB) (hl:=(iE 1 (by kernel_rfl) (iU (.mk (by kernel_rfl) amV))))
theorem amY:aA (XS (M.qn)):=bm (cx:=qM) true Dc Tryz.func35 (hl2 amW amX) ⟨zs1,fun x=>x.1.1⟩ (fun x=>by kernel_rfl)
def amZ(y:Bool⊕(M.ai×M.ai)){R:Type}(k:KT R):R:=match y with|.inl a0=>kk k Ex.ret zw (((),((),(a0,()))),((),((),())))|.inr a1=>kk k (Ex.exit 0) XT (((),((),((),()))),(a1.1,(a1.2,())))
def am0:List (cu K ((Bool)⊕(M.ai×M.ai))):=[⟨Ex.ret,zw,fun x=>.inl x.1.2.2.1⟩,⟨(Ex.exit 0),XT,fun x=>.inr ((x.2.1,x.2.2.1))⟩]
def XU:bM K:=bS D false 113 2 [2,3,5] [2,3,4] G6 (fun x=>M.uh ae x.1.2.2.1 x.2.1 x.2.2.1) amZ
def XV:bM K:=bS D false 113 2 [2,3,6] [4] G6 (fun x=>M.ui ae x.1.2.2.1 x.2.1 x.2.2.1) V1
def XW(m:M.ai->M.ai->Option Bool):aK K:=cB 50 ⟨[.el U.Item,.el U.Item],[]⟩ (fun x=>m x.1.1 x.1.2.1)
def zB:Cx K:=bD [(70,.plain)] [sF M.BV] [(4,XU),(9,XV)]
theorem NA:aY zB:=bw aO _ (af ald aB)
theorem am1:bP zB (bB (bK Tryz.f50) 0) XU:=lk (cx:=zB) (sh:=G6) (run:=fun n x=>M.uh n x.1.2.2.1 x.2.1 x.2.2.1) (bR:=am0) NA (fun m x=>by kernel_rfl) (af ⟨dK,fun _ _ _=>rfl⟩ (af ⟨bW,fun _ _ _=>rfl⟩ aB))
theorem am2:bP zB (bB (bK Tryz.f50) 1) XV:=lk (cx:=zB) (sh:=G6) (run:=fun n x=>M.ui n x.1.2.2.1 x.2.1 x.2.2.1) (bR:=V2) NA (fun m x=>by kernel_rfl) (af ⟨dK,fun _ _ _=>rfl⟩ (af ⟨bW,fun _ _ _=>rfl⟩ aB))
theorem am3:aA (XW (M.BW)):=bm (cx:=zB) true NA Tryz.func50 (hl2 am1 am2) ⟨zs0,fun x=>x.1.1⟩ (fun x=>by kernel_rfl)
def am4(y:Bool⊕(Int×M.ah×M.ah)){R:Type}(k:KT R):R:=match y with|.inl a0=>kk k Ex.ret G7 (((),((),((),(a0,())))),((),((),())))|.inr a1=>kk k (Ex.exit 2) G8 (((),((),(a1.1,((),())))),(a1.2.1,(a1.2.2,())))
def am5:List (cu K ((Bool)⊕(Int×M.ah×M.ah))):=[⟨Ex.ret,G7,fun x=>.inl x.1.2.2.2.1⟩,⟨(Ex.exit 2),G8,fun x=>.inr ((x.1.2.2.1,x.2.1,x.2.2.1))⟩]
def XX:bM K:=bS D false 174 2 [2,3,5,6] [2,3,5,4] G9 (fun x=>M.uk x.1.2.2.1 x.2.1 x.2.2.1 ae x.1.2.2.2.1) am4
def am6(y:Bool⊕(M.ah×M.ah)){R:Type}(k:KT R):R:=match y with|.inl a0=>kk k Ex.ret zw (((),((),(a0,()))),((),((),())))|.inr a1=>kk k (Ex.exit 0) XY (((),((),((),()))),(a1.1,(a1.2,())))
def am7:List (cu K ((Bool)⊕(M.ah×M.ah))):=[⟨Ex.ret,zw,fun x=>.inl x.1.2.2.1⟩,⟨(Ex.exit 0),XY,fun x=>.inr ((x.2.1,x.2.2.1))⟩]
def XZ:bM K:=bS D false 174 2 [2,3,5] [2,3,4] Ha (fun x=>M.uj ae x.1.2.2.1 x.2.1 x.2.2.1) am6
def am8(y:Bool⊕(Int×M.ah×M.ah)){R:Type}(k:KT R):R:=match y with|.inl a0=>kk k Ex.ret G7 (((),((),((),(a0,())))),((),((),())))|.inr a1=>kk k (Ex.exit 6) G8 (((),((),(a1.1,((),())))),(a1.2.1,(a1.2.2,())))
def am9:List (cu K ((Bool)⊕(Int×M.ah×M.ah))):=[⟨Ex.ret,G7,fun x=>.inl x.1.2.2.2.1⟩,⟨(Ex.exit 6),G8,fun x=>.inr ((x.1.2.2.1,x.2.1,x.2.2.1))⟩]
def X0:bM K:=bS D false 174 2 [2,3,7,8] [2,3,7,4] G9 (fun x=>M.uo x.1.2.2.1 x.2.1 x.2.2.1 ae x.1.2.2.2.1) am8
def ana(y:Bool⊕Unit){R:Type}(k:KT R):R:=match y with|.inl a0=>kk k Ex.ret Gs ((a0,()),((),((),())))|.inr a1=>kk k (Ex.exit 4) Gt (((),()),((),((),())))
def anb:List (cu K ((Bool)⊕Unit)):=[⟨Ex.ret,Gs,fun x=>.inl x.1.1⟩,⟨(Ex.exit 4),Gt,fun x=>.inr (())⟩]
def X1:bM K:=bS D false 174 2 [2,3,7] [4] Ha (fun x=>M.um ae x.1.2.2.1 x.2.1 x.2.2.1) ana
def X2(m:M.ah->M.ah->Option Bool):aK K:=cB 36 ⟨[.el U.ba,.el U.ba],[]⟩ (fun x=>m x.1.1 x.1.2.1)
def qN:Cx K:=bD [(50,.plain)] [XW M.BW] [(9,XX),(4,XZ),(19,X0),(14,X1)]
theorem Df:aY qN:=bw aO _ (af am3 aB)
theorem anc:bP qN (bB (bB (bK Tryz.f36) 0) 0) XX:=lk (cx:=qN) (sh:=G9) (run:=fun n x=>M.uk x.1.2.2.1 x.2.1 x.2.2.1 n x.1.2.2.2.1) (bR:=am5) Df (fun m x=>by kernel_rfl) (af ⟨dK,fun _ _ _=>rfl⟩ (af ⟨bW,fun _ _ _=>rfl⟩ aB))
theorem ane:bP qN (bB (bB (bK Tryz.f36) 1) 0) X0:=lk (cx:=qN) (sh:=G9) (run:=fun n x=>M.uo x.1.2.2.1 x.2.1 x.2.2.1 n x.1.2.2.2.1) (bR:=am9) Df (fun m x=>by kernel_rfl) (af ⟨dK,fun _ _ _=>rfl⟩ (af ⟨bW,fun _ _ _=>rfl⟩ aB))
theorem anf:bP qN (bB (bK Tryz.f36) 0) XZ:=lk (cx:=qN) (sh:=Ha) (run:=fun n x=>M.uj n x.1.2.2.1 x.2.1 x.2.2.1) (bR:=am7) Df (fun m x=>by kernel_rfl) (af ⟨dK,fun _ _ _=>rfl⟩ (af ⟨bW,fun _ _ _=>rfl⟩ aB)) (hl:=(iE 1 (by kernel_rfl) (iU (.mk (by kernel_rfl) anc))))
theorem ang:bP qN (bB (bK Tryz.f36) 1) X1:=lk (cx:=qN) (sh:=Ha) (run:=fun n x=>M.um n x.1.2.2.1 x.2.1 x.2.2.1) (bR:=anb) Df (fun m x=>by kernel_rfl) (af ⟨dK,fun _ _ _=>rfl⟩ (af ⟨bW,fun _ _ _=>rfl⟩ aB)) (hl:=(iE 1 (by kernel_rfl) (iU (.mk (by kernel_rfl) ane))))
theorem anh:aA (X2 (M.BX)):=bm (cx:=qN) true Df Tryz.func36 (hl2 anf ang) ⟨zs0,fun x=>x.1.1⟩ (fun x=>by kernel_rfl)
def X3(m:M.ah->Option Bool):aK K:=cB 20 uN (fun x=>m x.1.1)
def X4:Cx K:=bD [(33,.plain),(35,.plain),(34,.jI),(36,.plain)] [XJ M.uv,XS M.qn,VE M.tZ,X2 M.BX] []
theorem ani:aY X4:=bw aO _ (af amE (af amY (af akP (af anh aB))))
theorem anj:aA (X3 (M.sd)):=bm (cx:=X4) true ani Tryz.func20 hq ⟨zs0,fun x=>x.1.1⟩ (fun x=>by kernel_rfl)
def X5(m:M.aT->Option (Int×M.aT)):aK K:={f:=29,sh:=⟨[.ptr 0 0],[.el U.dS]⟩,R:=Int×M.aT,run:=fun x=>m x.2.1,dflt:=default,out:=fun r=>(Sh.enc D (.int .i64) r.1,aQ.encs D [.el U.dS] (r.2,()))}
theorem ank:aA (X5 (M.wm)):=bm (cx:=gU) true ia Tryz.func29 hq ⟨NB,fun x=>(x.1.1,x.2.1)⟩ (fun x=>by kernel_rfl)
def Dh(m:Int->M.aT->Option (Int×M.aT)):aK K:={f:=15,sh:=⟨[.ptr 0 0,iq0],[.el U.dS]⟩,R:=Int×M.aT,run:=fun x=>m x.1.2.1 x.2.1,dflt:=default,out:=fun r=>(Sh.enc D (.int .i64) r.1,aQ.encs D [.el U.dS] (r.2,()))}
def X6:Cx K:=bD [(29,.aX)] [X5 M.wm] []
theorem anl:aY X6:=bw aO _ (af ank aB)
theorem He:aA (Dh (M.dm)):=bm (cx:=X6) true anl Tryz.func15 hq ⟨NB,fun x=>(x.1.1,x.2.1)⟩ (fun x=>by kernel_rfl)
def Hg(m:Int->M.aT->Option (Bool×M.aT)):aK K:={f:=18,sh:=⟨[.ptr 0 0,iq0],[.el U.dS]⟩,R:=Bool×M.aT,run:=fun x=>m x.1.2.1 x.2.1,dflt:=default,out:=fun r=>(Sh.enc D (.bool) r.1,aQ.encs D [.el U.dS] (r.2,()))}
def Di:Cx K:=bD [(15,.aX)] [Dh M.dm] []
theorem Hh:aY Di:=bw aO _ (af He aB)
theorem NC:aA (Hg (M.ja)):=bm (cx:=Di) true Hh Tryz.func18 hq ⟨⟨[.bool],[.el U.dS]⟩,fun x=>(x.1.1,x.2.1)⟩ (fun x=>by kernel_rfl)
def ND(m:M.aT->(List (List UInt8))->Option ((List UInt8)×M.aT×(List (List UInt8)))):aK K:={f:=16,sh:=⟨[.ptr 0 0,.own 1],[.el U.dS,.arr U.str]⟩,R:=(List UInt8)×M.aT×(List (List UInt8)),run:=fun x=>m x.2.1 x.2.2.1,dflt:=default,out:=fun r=>(Sh.enc D (.str) r.1,aQ.encs D [.el U.dS,.arr U.str] (r.2.1,(r.2.2,())))}
theorem X7:aA (ND (M.sn)):=bm (cx:=Di) true Hh Tryz.func16 hq ⟨⟨[.str],[.el U.dS,.arr U.str]⟩,fun x=>(x.1.1,x.2.1,x.2.2.1)⟩ (fun x=>by kernel_rfl)
def wV(m:Int->Option ((List UInt8))):aK K:=cS 31 jl (fun x=>m x.1.1)
def X8(mD:Int->Option ((List UInt8))):Cx K:=bD [(31,.plain)] [wV mD] []
theorem anm(mD:Int->Option ((List UInt8)))(NF:aA (wV mD)):aY (X8 mD):=bw aO _ (af NF aB)
theorem ann(mD:Int->Option ((List UInt8)))(NF:aA (wV mD)):aA (wV (M.X9 mD)):=gZ (cx:=X8 mD) (fz:=true) aO (anm mD NF) eP ⟨Tryz.func31,by kernel_rfl⟩ hq ⟨zs1,fun x=>x.1.1⟩ (fun x=>rfl) (fun x=>by kernel_rfl)
theorem Ya:∀n,aA (wV (M.Hj n))|0=>pY fun _=>rfl|n+1=>ann (M.Hj n) (Ya n)
theorem ano:aA (wV (M.wu)):=Ya ae
def NG(m:(List Int)->M.aT->Option (Int×M.aT)):aK K:={f:=19,sh:=⟨[.ptr 0 0,.ax U.i64],[.el U.dS]⟩,R:=Int×M.aT,run:=fun x=>m x.1.2.1 x.2.1,dflt:=default,out:=fun r=>(Sh.enc D (.int .i64) r.1,aQ.encs D [.el U.dS] (r.2,()))}
theorem Yb:aA (NG (M.wo)):=bm (cx:=Di) true Hh Tryz.func19 hq ⟨NB,fun x=>(x.1.1,x.2.1)⟩ (fun x=>by kernel_rfl)
def qO(m:Int->M.aT->(List (List UInt8))->Option (Int×(List UInt8)×M.aT×(List (List UInt8))×(List (List UInt8))×(List M.aa))):aK K:={f:=32,sh:=⟨[.ptr 0 0,.own 1,iq0],[.el U.dS,.arr U.str]⟩,R:=Int×(List UInt8)×M.aT×(List (List UInt8))×(List (List UInt8))×(List M.aa),run:=fun x=>m x.1.2.2.1 x.2.1 x.2.2.1,dflt:=default,out:=fun r=>(Sh.enc D (.agg [iq0,.str,.own 2,.own 3]) (r.1,(r.2.1,((),((),())))),aQ.encs D [.el U.dS,.arr U.str,.arr U.str,.arr U.Term] (r.2.2.1,(r.2.2.2.1,(r.2.2.2.2.1,(r.2.2.2.2.2,())))))}
def anp(y:(List UInt8)×Int×Int×(List (List UInt8))×Int×(List UInt8)×Int×(List UInt8)×(List (List UInt8))×(List M.aa)×(List (List UInt8))×(List M.aa)){R:Type}(k:KT R):R:=match y with|a0=>kk k (Ex.exit 1) zC (((),((),())),((a0.1,(a0.2.1,(a0.2.2.1,()))),(a0.2.2.2.1,((a0.2.2.2.2.1,(a0.2.2.2.2.2.1,((),((),())))),((a0.2.2.2.2.2.2.1,(a0.2.2.2.2.2.2.2.1,((),((),())))),((),((),((),((),(a0.2.2.2.2.2.2.2.2.1,(a0.2.2.2.2.2.2.2.2.2.1,(a0.2.2.2.2.2.2.2.2.2.2.1,(a0.2.2.2.2.2.2.2.2.2.2.2,())))))))))))))
def anq:List (cu K ((List UInt8)×Int×Int×(List (List UInt8))×Int×(List UInt8)×Int×(List UInt8)×(List (List UInt8))×(List M.aa)×(List (List UInt8))×(List M.aa))):=[⟨(Ex.exit 1),zC,fun x=>(x.2.1.1,x.2.1.2.1,x.2.1.2.2.1,x.2.2.1,x.2.2.2.1.1,x.2.2.2.1.2.1,x.2.2.2.2.1.1,x.2.2.2.2.1.2.1,x.2.2.2.2.2.2.2.2.2.1,x.2.2.2.2.2.2.2.2.2.2.1,x.2.2.2.2.2.2.2.2.2.2.2.1,x.2.2.2.2.2.2.2.2.2.2.2.2.1)⟩]
def Yc(cV:Int->M.aT->(List (List UInt8))->Option (Int×(List UInt8)×M.aT×(List (List UInt8))×(List (List UInt8))×(List M.aa))):bM K:=bS D 4 134 8 [0,1,2,6,7,10] [6,7] Yd (fun x=>M.sq cV x.1.2.2.1 x.2.2.2.1.1 x.2.2.2.1.2.1 x.2.2.2.2.1.1 x.2.2.2.2.1.2.1 x.2.2.2.2.2.2.2.2.2.1 x.2.2.2.2.2.2.2.2.2.2.1 x.2.2.2.2.2.2.2.2.2.2.2.1 ae x.1.2.2.2.2.2.1 x.2.1 x.2.2.1 x.2.2.2.2.2.2.2.2.2.2.2.2.1) anp
def anr(y:(List UInt8)×Int×Int×(List (List UInt8))×Int×(List UInt8)×Int×(List UInt8)×(List (List UInt8))×(List M.aa)×(List (List UInt8))×(List M.aa)){R:Type}(k:KT R):R:=match y with|a0=>kk k (Ex.exit 3) zC (((),((),())),((a0.1,(a0.2.1,(a0.2.2.1,()))),(a0.2.2.2.1,((a0.2.2.2.2.1,(a0.2.2.2.2.2.1,((),((),())))),((a0.2.2.2.2.2.2.1,(a0.2.2.2.2.2.2.2.1,((),((),())))),((),((),((),((),(a0.2.2.2.2.2.2.2.2.1,(a0.2.2.2.2.2.2.2.2.2.1,(a0.2.2.2.2.2.2.2.2.2.2.1,(a0.2.2.2.2.2.2.2.2.2.2.2,())))))))))))))
def ant:List (cu K ((List UInt8)×Int×Int×(List (List UInt8))×Int×(List UInt8)×Int×(List UInt8)×(List (List UInt8))×(List M.aa)×(List (List UInt8))×(List M.aa))):=[⟨(Ex.exit 3),zC,fun x=>(x.2.1.1,x.2.1.2.1,x.2.1.2.2.1,x.2.2.1,x.2.2.2.1.1,x.2.2.2.1.2.1,x.2.2.2.2.1.1,x.2.2.2.2.1.2.1,x.2.2.2.2.2.2.2.2.2.1,x.2.2.2.2.2.2.2.2.2.2.1,x.2.2.2.2.2.2.2.2.2.2.2.1,x.2.2.2.2.2.2.2.2.2.2.2.2.1)⟩]
def Ye(cV:Int->M.aT->(List (List UInt8))->Option (Int×(List UInt8)×M.aT×(List (List UInt8))×(List (List UInt8))×(List M.aa))):bM K:=bS D 4 134 8 [0,1,2,6,7,8,11] [6,7] Hk (fun x=>M.uJ cV x.1.2.2.1 x.1.2.2.2.2.2.1 x.2.2.2.1.1 x.2.2.2.1.2.1 x.2.2.2.2.1.1 x.2.2.2.2.1.2.1 x.2.2.2.2.2.2.2.2.2.1 x.2.2.2.2.2.2.2.2.2.2.1 x.2.2.2.2.2.2.2.2.2.2.2.1 ae x.1.2.2.2.2.2.2.1 x.2.1 x.2.2.1 x.2.2.2.2.2.2.2.2.2.2.2.2.1) anr
def anu(y:(List UInt8)×Int×Int×(List (List UInt8))×Int×(List UInt8)×Int×(List UInt8)×(List (List UInt8))×(List M.aa)×(List (List UInt8))×(List M.aa)){R:Type}(k:KT R):R:=match y with|a0=>kk k (Ex.exit 5) zC (((),((),())),((a0.1,(a0.2.1,(a0.2.2.1,()))),(a0.2.2.2.1,((a0.2.2.2.2.1,(a0.2.2.2.2.2.1,((),((),())))),((a0.2.2.2.2.2.2.1,(a0.2.2.2.2.2.2.2.1,((),((),())))),((),((),((),((),(a0.2.2.2.2.2.2.2.2.1,(a0.2.2.2.2.2.2.2.2.2.1,(a0.2.2.2.2.2.2.2.2.2.2.1,(a0.2.2.2.2.2.2.2.2.2.2.2,())))))))))))))
def anv:List (cu K ((List UInt8)×Int×Int×(List (List UInt8))×Int×(List UInt8)×Int×(List UInt8)×(List (List UInt8))×(List M.aa)×(List (List UInt8))×(List M.aa))):=[⟨(Ex.exit 5),zC,fun x=>(x.2.1.1,x.2.1.2.1,x.2.1.2.2.1,x.2.2.1,x.2.2.2.1.1,x.2.2.2.1.2.1,x.2.2.2.2.1.1,x.2.2.2.2.1.2.1,x.2.2.2.2.2.2.2.2.2.1,x.2.2.2.2.2.2.2.2.2.2.1,x.2.2.2.2.2.2.2.2.2.2.2.1,x.2.2.2.2.2.2.2.2.2.2.2.2.1)⟩]
def Yf(cV:Int->M.aT->(List (List UInt8))->Option (Int×(List UInt8)×M.aT×(List (List UInt8))×(List (List UInt8))×(List M.aa))):bM K:=bS D 4 134 8 [0,1,2,6,7,8,12] [6,7] Hk (fun x=>M.pw cV x.1.2.2.1 x.1.2.2.2.2.2.1 x.2.2.2.1.1 x.2.2.2.1.2.1 x.2.2.2.2.1.1 x.2.2.2.2.1.2.1 x.2.2.2.2.2.2.2.2.2.1 x.2.2.2.2.2.2.2.2.2.2.1 x.2.2.2.2.2.2.2.2.2.2.2.1 ae x.1.2.2.2.2.2.2.1 x.2.1 x.2.2.1 x.2.2.2.2.2.2.2.2.2.2.2.2.1) anu
def uR(cV:Int->M.aT->(List (List UInt8))->Option (Int×(List UInt8)×M.aT×(List (List UInt8))×(List (List UInt8))×(List M.aa))):Cx K:={jD with mode:=iF .plain [(18,.aX),(16,.pass),(15,.aX),(19,.aX),(32,.pass)],xk:=[[none,none,some U.str,some U.Term]],call:=callOf D [Hg M.ja,ND M.sn,Dh M.dm,NG M.wo,qO cV],loop:=gG [(13,Yc cV),(19,Ye cV),(26,Yf cV)]}
theorem Hl(cV:Int->M.aT->(List (List UInt8))->Option (Int×(List UInt8)×M.aT×(List (List UInt8))×(List (List UInt8))×(List M.aa)))(om:aA (qO cV)):aY (uR cV):=bw aO _ (af NC (af X7 (af He (af Yb (af om aB)))))
theorem anw(cV:Int->M.aT->(List (List UInt8))->Option (Int×(List UInt8)×M.aT×(List (List UInt8))×(List (List UInt8))×(List M.aa)))(om:aA (qO cV)):bP (uR cV) (bB (bK Tryz.f32) 0) (Yc cV):=ny (cx:=uR cV) (sh:=Yd) (run:=fun n x=>M.sq cV x.1.2.2.1 x.2.2.2.1.1 x.2.2.2.1.2.1 x.2.2.2.2.1.1 x.2.2.2.2.1.2.1 x.2.2.2.2.2.2.2.2.2.1 x.2.2.2.2.2.2.2.2.2.2.1 x.2.2.2.2.2.2.2.2.2.2.2.1 n x.1.2.2.2.2.2.1 x.2.1 x.2.2.1 x.2.2.2.2.2.2.2.2.2.2.2.2.1) (bR:=anq) aO (Hl cV om) eP (oQ (by kernel_rfl)) (fun _=>rfl) (fun m x=>by kernel_rfl) (af ⟨bW,fun _ _ _=>rfl⟩ aB) 4 ae
theorem anx(cV:Int->M.aT->(List (List UInt8))->Option (Int×(List UInt8)×M.aT×(List (List UInt8))×(List (List UInt8))×(List M.aa)))(om:aA (qO cV)):bP (uR cV) (bB (bK Tryz.f32) 1) (Ye cV):=ny (cx:=uR cV) (sh:=Hk) (run:=fun n x=>M.uJ cV x.1.2.2.1 x.1.2.2.2.2.2.1 x.2.2.2.1.1 x.2.2.2.1.2.1 x.2.2.2.2.1.1 x.2.2.2.2.1.2.1 x.2.2.2.2.2.2.2.2.2.1 x.2.2.2.2.2.2.2.2.2.2.1 x.2.2.2.2.2.2.2.2.2.2.2.1 n x.1.2.2.2.2.2.2.1 x.2.1 x.2.2.1 x.2.2.2.2.2.2.2.2.2.2.2.2.1) (bR:=ant) aO (Hl cV om) eP (oQ (by kernel_rfl)) (fun _=>rfl) (fun m x=>by kernel_rfl) (af ⟨bW,fun _ _ _=>rfl⟩ aB) 4 ae
theorem anz(cV:Int->M.aT->(List (List UInt8))->Option (Int×(List UInt8)×M.aT×(List (List UInt8))×(List (List UInt8))×(List M.aa)))(om:aA (qO cV)):bP (uR cV) (bB (bK Tryz.f32) 2) (Yf cV):=ny (cx:=uR cV) (sh:=Hk) (run:=fun n x=>M.pw cV x.1.2.2.1 x.1.2.2.2.2.2.1 x.2.2.2.1.1 x.2.2.2.1.2.1 x.2.2.2.2.1.1 x.2.2.2.2.1.2.1 x.2.2.2.2.2.2.2.2.2.1 x.2.2.2.2.2.2.2.2.2.2.1 x.2.2.2.2.2.2.2.2.2.2.2.1 n x.1.2.2.2.2.2.2.1 x.2.1 x.2.2.1 x.2.2.2.2.2.2.2.2.2.2.2.2.1) (bR:=anv) aO (Hl cV om) eP (oQ (by kernel_rfl)) (fun _=>rfl) (fun m x=>by kernel_rfl) (af ⟨bW,fun _ _ _=>rfl⟩ aB) 4 ae
theorem anA(cV:Int->M.aT->(List (List UInt8))->Option (Int×(List UInt8)×M.aT×(List (List UInt8))×(List (List UInt8))×(List M.aa)))(om:aA (qO cV)):aA (qO (M.zc cV)):=gZ (cx:=uR cV) (fz:=false) aO (Hl cV om) eP ⟨Tryz.func32,by kernel_rfl⟩ (EJ (iE 3 (by kernel_rfl) (lt_succ (lt_succ (iU (.mk (by kernel_rfl) (anw cV om))) (.mk (by kernel_rfl) (anx cV om))) (.mk (by kernel_rfl) (anz cV om))))) ⟨⟨[.agg [iq0,.str,.own 2,.own 3]],[.el U.dS,.arr U.str,.arr U.str,.arr U.Term]⟩,fun x=>(x.1.1.1,x.1.1.2.1,x.2.1,x.2.2.1,x.2.2.2.1,x.2.2.2.2.1)⟩ (fun x=>rfl) (fun x=>by kernel_rfl)
theorem Yg:∀n,aA (qO (M.CH n))|0=>pY fun _=>rfl|n+1=>anA (M.CH n) (Yg n)
theorem anB:aA (qO (M.wq)):=Yg ae
def anC(y:M.aT×(List UInt8)×(List UInt8)×(List (List UInt8))×(List M.ai)×(List M.ai)){R:Type}(k:KT R):R:=match y with|a0=>kk k (Ex.exit 0) Yh (((),((),((),((),())))),(a0.1,((a0.2.1,((),())),((a0.2.2.1,((),())),((),((),((),(a0.2.2.2.1,(a0.2.2.2.2.1,(a0.2.2.2.2.2,()))))))))))
def anD:List (cu K (M.aT×(List UInt8)×(List UInt8)×(List (List UInt8))×(List M.ai)×(List M.ai))):=[⟨(Ex.exit 0),Yh,fun x=>(x.2.1,x.2.2.1.1,x.2.2.2.1.1,x.2.2.2.2.2.2.2.1,x.2.2.2.2.2.2.2.2.1,x.2.2.2.2.2.2.2.2.2.1)⟩]
def Yi:bM K:=bS D 0 140 6 [0,8,9,10,12] [0,8,9,10] Hm (fun x=>M.kq x.2.2.1.1 x.2.2.2.1.1 x.2.2.2.2.2.2.2.2.1 ae x.1.2.2.2.2.1 x.2.1 x.2.2.2.2.2.2.2.1 x.2.2.2.2.2.2.2.2.2.1) anC
def anE(y:Int×M.aT×(List UInt8)×(List UInt8)×Int×(List UInt8)×Int×(List UInt8)×Bool×(List UInt8)×(List UInt8)×(List UInt8)×(List (List UInt8))×(List M.ai)×(List M.ai)×(List (List UInt8))×(List M.aa)×(List M.aV)×(List M.aW)){R:Type}(k:KT R):R:=match y with|a0=>kk k (Ex.exit 4) Yj (((),((),((),((),(a0.1,((),())))))),(a0.2.1,((a0.2.2.1,((),())),((a0.2.2.2.1,((),())),((),((a0.2.2.2.2.1,(a0.2.2.2.2.2.1,(a0.2.2.2.2.2.2.1,(a0.2.2.2.2.2.2.2.1,((),((),((),(a0.2.2.2.2.2.2.2.2.1,(a0.2.2.2.2.2.2.2.2.2.1,(a0.2.2.2.2.2.2.2.2.2.2.1,(a0.2.2.2.2.2.2.2.2.2.2.2.1,((),())))))))))))),((),((),((),((),((),((),(a0.2.2.2.2.2.2.2.2.2.2.2.2.1,(a0.2.2.2.2.2.2.2.2.2.2.2.2.2.1,(a0.2.2.2.2.2.2.2.2.2.2.2.2.2.2.1,(a0.2.2.2.2.2.2.2.2.2.2.2.2.2.2.2.1,(a0.2.2.2.2.2.2.2.2.2.2.2.2.2.2.2.2.1,(a0.2.2.2.2.2.2.2.2.2.2.2.2.2.2.2.2.2.1,(a0.2.2.2.2.2.2.2.2.2.2.2.2.2.2.2.2.2.2,())))))))))))))))))))
def anF:List (cu K (Int×M.aT×(List UInt8)×(List UInt8)×Int×(List UInt8)×Int×(List UInt8)×Bool×(List UInt8)×(List UInt8)×(List UInt8)×(List (List UInt8))×(List M.ai)×(List M.ai)×(List (List UInt8))×(List M.aa)×(List M.aV)×(List M.aW))):=[⟨(Ex.exit 4),Yj,fun x=>(x.1.2.2.2.2.1,x.2.1,x.2.2.1.1,x.2.2.2.1.1,x.2.2.2.2.2.1.1,x.2.2.2.2.2.1.2.1,x.2.2.2.2.2.1.2.2.1,x.2.2.2.2.2.1.2.2.2.1,x.2.2.2.2.2.1.2.2.2.2.2.2.2.1,x.2.2.2.2.2.1.2.2.2.2.2.2.2.2.1,x.2.2.2.2.2.1.2.2.2.2.2.2.2.2.2.1,x.2.2.2.2.2.1.2.2.2.2.2.2.2.2.2.2.1,x.2.2.2.2.2.2.2.2.2.2.2.2.1,x.2.2.2.2.2.2.2.2.2.2.2.2.2.1,x.2.2.2.2.2.2.2.2.2.2.2.2.2.2.1,x.2.2.2.2.2.2.2.2.2.2.2.2.2.2.2.1,x.2.2.2.2.2.2.2.2.2.2.2.2.2.2.2.2.1,x.2.2.2.2.2.2.2.2.2.2.2.2.2.2.2.2.2.1,x.2.2.2.2.2.2.2.2.2.2.2.2.2.2.2.2.2.2.1)⟩]
def Yk:bM K:=bS D 0 140 11 [0,8,9,10,14,15,16] [0,8,9,10,14,15] Yl (fun x=>M.wv x.1.2.2.2.2.1 x.2.2.1.1 x.2.2.2.1.1 x.2.2.2.2.2.1.1 x.2.2.2.2.2.1.2.1 x.2.2.2.2.2.1.2.2.1 x.2.2.2.2.2.1.2.2.2.1 x.2.2.2.2.2.1.2.2.2.2.2.2.2.1 x.2.2.2.2.2.1.2.2.2.2.2.2.2.2.1 x.2.2.2.2.2.1.2.2.2.2.2.2.2.2.2.1 x.2.2.2.2.2.1.2.2.2.2.2.2.2.2.2.2.1 x.2.2.2.2.2.2.2.2.2.2.2.2.2.1 x.2.2.2.2.2.2.2.2.2.2.2.2.2.2.1 x.2.2.2.2.2.2.2.2.2.2.2.2.2.2.2.1 x.2.2.2.2.2.2.2.2.2.2.2.2.2.2.2.2.1 x.2.2.2.2.2.2.2.2.2.2.2.2.2.2.2.2.2.2.1 ae x.1.2.2.2.2.2.2.1 x.2.1 x.2.2.2.2.2.2.2.2.2.2.2.2.1 x.2.2.2.2.2.2.2.2.2.2.2.2.2.2.2.2.2.1) anE
def anG(y:(List UInt8)×Int×Int×(List UInt8)×(List UInt8)×(List M.ai)×(List M.ai)){R:Type}(k:KT R):R:=match y with|a0=>kk k (Ex.exit 2) Ym (((),((),())),((a0.1,(a0.2.1,(a0.2.2.1,()))),((a0.2.2.2.1,((),())),((a0.2.2.2.2.1,((),())),((),((),((),(a0.2.2.2.2.2.1,(a0.2.2.2.2.2.2,())))))))))
def anH:List (cu K ((List UInt8)×Int×Int×(List UInt8)×(List UInt8)×(List M.ai)×(List M.ai))):=[⟨(Ex.exit 2),Ym,fun x=>(x.2.1.1,x.2.1.2.1,x.2.1.2.2.1,x.2.2.1.1,x.2.2.2.1.1,x.2.2.2.2.2.2.2.1,x.2.2.2.2.2.2.2.2.1)⟩]
def Yn:bM K:=bS D 0 140 6 [0,8,9,10,14] [8,9] Hm (fun x=>M.jC ae x.1.2.2.2.2.1 x.2.1 x.2.2.1.1 x.2.2.2.1.1 x.2.2.2.2.2.2.2.1 x.2.2.2.2.2.2.2.2.1 x.2.2.2.2.2.2.2.2.2.1) anG
def Yo(m:(List UInt8)->M.aT->(List M.aI)->(List (List UInt8))->Option (M.aF×M.aT×(List M.aI)×(List (List UInt8)))):aK K:={f:=17,sh:=⟨[.ptr 0 0,.str,.own 1,.own 2],[.el U.dS,.arr U.Path,.arr U.str]⟩,R:=M.aF×M.aT×(List M.aI)×(List (List UInt8)),run:=fun x=>m x.1.2.1 x.2.1 x.2.2.1 x.2.2.2.1,dflt:=default,out:=fun r=>(Sh.enc D (.el U.dn) r.1,aQ.encs D [.el U.dS,.arr U.Path,.arr U.str] (r.2.1,(r.2.2.1,(r.2.2.2,()))))}
def uS:Cx K:=bD [(18,.aX),(16,.pass),(30,.plain),(15,.aX),(31,.plain),(32,.pass)] [Hg M.ja,ND M.sn,Nk M.nL,Dh M.dm,wV M.wu,qO M.wq] [(14,Yi),(24,Yk),(20,Yn)]
theorem Hq:aY uS:=bw aO _ (af NC (af X7 (af Vo (af He (af ano (af anB aB))))))
theorem anI:bP uS (bB (bB (bK Tryz.f17) 1) 0) Yk:=ny (cx:=uS) (sh:=Yl) (run:=fun n x=>M.wv x.1.2.2.2.2.1 x.2.2.1.1 x.2.2.2.1.1 x.2.2.2.2.2.1.1 x.2.2.2.2.2.1.2.1 x.2.2.2.2.2.1.2.2.1 x.2.2.2.2.2.1.2.2.2.1 x.2.2.2.2.2.1.2.2.2.2.2.2.2.1 x.2.2.2.2.2.1.2.2.2.2.2.2.2.2.1 x.2.2.2.2.2.1.2.2.2.2.2.2.2.2.2.1 x.2.2.2.2.2.1.2.2.2.2.2.2.2.2.2.2.1 x.2.2.2.2.2.2.2.2.2.2.2.2.2.1 x.2.2.2.2.2.2.2.2.2.2.2.2.2.2.1 x.2.2.2.2.2.2.2.2.2.2.2.2.2.2.2.1 x.2.2.2.2.2.2.2.2.2.2.2.2.2.2.2.2.1 x.2.2.2.2.2.2.2.2.2.2.2.2.2.2.2.2.2.2.1 n x.1.2.2.2.2.2.2.1 x.2.1 x.2.2.2.2.2.2.2.2.2.2.2.2.1 x.2.2.2.2.2.2.2.2.2.2.2.2.2.2.2.2.2.1) (bR:=anF) aO Hq eP (oQ (by kernel_rfl)) (fun _=>rfl) (fun m x=>by kernel_rfl) (af ⟨bW,fun _ _ _=>rfl⟩ aB) 0 ae
theorem anJ:bP uS (bB (bK Tryz.f17) 0) Yi:=ny (cx:=uS) (sh:=Hm) (run:=fun n x=>M.kq x.2.2.1.1 x.2.2.2.1.1 x.2.2.2.2.2.2.2.2.1 n x.1.2.2.2.2.1 x.2.1 x.2.2.2.2.2.2.2.1 x.2.2.2.2.2.2.2.2.2.1) (bR:=anD) aO Hq eP (oQ (by kernel_rfl)) (fun _=>rfl) (fun m x=>by kernel_rfl) (af ⟨bW,fun _ _ _=>rfl⟩ aB) 0 ae
theorem anK:bP uS (bB (bK Tryz.f17) 1) Yn:=ny (cx:=uS) (sh:=Hm) (run:=fun n x=>M.jC n x.1.2.2.2.2.1 x.2.1 x.2.2.1.1 x.2.2.2.1.1 x.2.2.2.2.2.2.2.1 x.2.2.2.2.2.2.2.2.1 x.2.2.2.2.2.2.2.2.2.1) (bR:=anH) aO Hq eP (iE 1 (by kernel_rfl) (iU (.mk (by kernel_rfl) anI))) (fun _=>rfl) (fun m x=>by kernel_rfl) (af ⟨bW,fun _ _ _=>rfl⟩ aB) 0 ae
theorem anL:aA (Yo (M.zd)):=bm (cx:=uS) true Hq Tryz.func17 (hl2 anJ anK) ⟨⟨[.el U.dn],[.el U.dS,.arr U.Path,.arr U.str]⟩,fun x=>(x.1.1,x.2.1,x.2.2.1,x.2.2.2.1)⟩ (fun x=>by kernel_rfl)
def Yp(m:(List UInt8)->Option ((List UInt8)×Int×Int)):aK K:={f:=10,sh:=⟨[.ax U.u8],[]⟩,R:=(List UInt8)×Int×Int,run:=fun x=>m x.1.1,dflt:=default,out:=fun r=>(Sh.enc D (.ptr 0 0) (),aQ.encs D [.box [.ax U.u8,iq0,.int .u64]] ((r.1,(r.2.1,(r.2.2,()))),()))}
theorem anM:aA (Yp (M.Yq)):=bm (cx:=gU) true ia Tryz.func10 hq ⟨⟨[.ptr 0 0],[.box [.ax U.u8,iq0,.int .u64]]⟩,fun x=>(x.2.1.1,x.2.1.2.1,x.2.1.2.2.1)⟩ (fun x=>by kernel_rfl)
def Yr(m:(List (List UInt8))->M.aT->Option ((List UInt8)×M.aT)):aK K:={f:=16,sh:=⟨[.ptr 0 0,.ax U.str],[.el U.dS]⟩,R:=(List UInt8)×M.aT,run:=fun x=>m x.1.2.1 x.2.1,dflt:=default,out:=fun r=>(Sh.enc D (.str) r.1,aQ.encs D [.el U.dS] (r.2,()))}
theorem anN:aA (Yr (M.m5)):=bm (cx:=Di) true Hh Tryz.func16 hq ⟨⟨[.str],[.el U.dS]⟩,fun x=>(x.1.1,x.2.1)⟩ (fun x=>by kernel_rfl)
def anO(y:Int×M.aT×(List UInt8)×(List UInt8)×(List M.ah)×(List M.aI)×(List M.aF)×(List M.aS)){R:Type}(k:KT R):R:=match y with|a0=>kk k (Ex.exit 2) Ys (((),((),(a0.1,((),((),()))))),(a0.2.1,((),((a0.2.2.1,(a0.2.2.2.1,((),((),())))),((),((),((),(a0.2.2.2.2.1,(a0.2.2.2.2.2.1,(a0.2.2.2.2.2.2.1,(a0.2.2.2.2.2.2.2,())))))))))))
def anP:List (cu K (Int×M.aT×(List UInt8)×(List UInt8)×(List M.ah)×(List M.aI)×(List M.aF)×(List M.aS))):=[⟨(Ex.exit 2),Ys,fun x=>(x.1.2.2.1,x.2.1,x.2.2.2.1.1,x.2.2.2.1.2.1,x.2.2.2.2.2.2.2.1,x.2.2.2.2.2.2.2.2.1,x.2.2.2.2.2.2.2.2.2.1,x.2.2.2.2.2.2.2.2.2.2.1)⟩]
def Yt:bM K:=bS D 0 134 6 [0,3,4,5,6,7] [0,3,4,5,6] Yu (fun x=>M.uK x.1.2.2.1 x.2.2.2.1.1 x.2.2.2.1.2.1 x.2.2.2.2.2.2.2.1 x.2.2.2.2.2.2.2.2.2.1 x.2.2.2.2.2.2.2.2.2.2.1 ae x.1.2.2.2.2.2.1 x.2.1 x.2.2.2.2.2.2.2.2.1) anO
def anQ(y:Int×M.aT×(List UInt8)×(List UInt8)×(List UInt8)×(List M.ah)×(List M.aF)×(List M.aS)×(List M.aN)){R:Type}(k:KT R):R:=match y with|a0=>kk k (Ex.exit 4) Yv (((),((),(a0.1,((),((),()))))),(a0.2.1,((),((a0.2.2.1,(a0.2.2.2.1,((),((),())))),((a0.2.2.2.2.1,((),())),((),((),((),(a0.2.2.2.2.2.1,(a0.2.2.2.2.2.2.1,(a0.2.2.2.2.2.2.2.1,(a0.2.2.2.2.2.2.2.2,()))))))))))))
def anR:List (cu K (Int×M.aT×(List UInt8)×(List UInt8)×(List UInt8)×(List M.ah)×(List M.aF)×(List M.aS)×(List M.aN))):=[⟨(Ex.exit 4),Yv,fun x=>(x.1.2.2.1,x.2.1,x.2.2.2.1.1,x.2.2.2.1.2.1,x.2.2.2.2.1.1,x.2.2.2.2.2.2.2.2.1,x.2.2.2.2.2.2.2.2.2.1,x.2.2.2.2.2.2.2.2.2.2.1,x.2.2.2.2.2.2.2.2.2.2.2.1)⟩]
def Yw:bM K:=bS D 0 134 7 [0,3,4,5,8,9] [0,3,4,5,8] Yx (fun x=>M.kt x.1.2.2.1 x.2.2.2.1.1 x.2.2.2.1.2.1 x.2.2.2.2.1.1 x.2.2.2.2.2.2.2.2.1 x.2.2.2.2.2.2.2.2.2.1 x.2.2.2.2.2.2.2.2.2.2.1 ae x.1.2.2.2.2.2.1 x.2.1 x.2.2.2.2.2.2.2.2.2.2.2.1) anQ
def anS(y:(List UInt8)×Int×Int×(List M.ah)){R:Type}(k:KT R):R:=match y with|a0=>kk k (Ex.exit 0) Yy (((),()),((a0.1,(a0.2.1,(a0.2.2.1,()))),((),(a0.2.2.2,()))))
def anT:List (cu K ((List UInt8)×Int×Int×(List M.ah))):=[⟨(Ex.exit 0),Yy,fun x=>(x.2.1.1,x.2.1.2.1,x.2.1.2.2.1,x.2.2.2.1)⟩]
def Yz:bM K:=bS D 0 134 2 [0,3,4] [3] YA (fun x=>M.sr ae x.1.2.2.1 x.2.1 x.2.2.2.1) anS
def YB(m:M.aT->Option ((List M.ah)×M.aT)):aK K:={f:=9,sh:=⟨[.ptr 0 0],[.el U.dS]⟩,R:=(List M.ah)×M.aT,run:=fun x=>m x.2.1,dflt:=default,out:=fun r=>(Sh.enc D (.ax U.ba) r.1,aQ.encs D [.el U.dS] (r.2,()))}
def uT:Cx K:=bD [(15,.aX),(16,.aX),(17,.pass),(18,.aX),(19,.aX)] [Dh M.dm,Yr M.m5,Yo M.zd,Hg M.ja,NG M.wo] [(8,Yt),(17,Yw),(3,Yz)]
theorem Hr:aY uT:=bw aO _ (af He (af anN (af anL (af NC (af Yb aB)))))
theorem anU:bP uT (bB (bB (bK Tryz.f9) 0) 0) Yt:=ny (cx:=uT) (sh:=Yu) (run:=fun n x=>M.uK x.1.2.2.1 x.2.2.2.1.1 x.2.2.2.1.2.1 x.2.2.2.2.2.2.2.1 x.2.2.2.2.2.2.2.2.2.1 x.2.2.2.2.2.2.2.2.2.2.1 n x.1.2.2.2.2.2.1 x.2.1 x.2.2.2.2.2.2.2.2.1) (bR:=anP) aO Hr eP (oQ (by kernel_rfl)) (fun _=>rfl) (fun m x=>by kernel_rfl) (af ⟨bW,fun _ _ _=>rfl⟩ aB) 0 ae
theorem anV:bP uT (bB (bB (bK Tryz.f9) 0) 1) Yw:=ny (cx:=uT) (sh:=Yx) (run:=fun n x=>M.kt x.1.2.2.1 x.2.2.2.1.1 x.2.2.2.1.2.1 x.2.2.2.2.1.1 x.2.2.2.2.2.2.2.2.1 x.2.2.2.2.2.2.2.2.2.1 x.2.2.2.2.2.2.2.2.2.2.1 n x.1.2.2.2.2.2.1 x.2.1 x.2.2.2.2.2.2.2.2.2.2.2.1) (bR:=anR) aO Hr eP (oQ (by kernel_rfl)) (fun _=>rfl) (fun m x=>by kernel_rfl) (af ⟨bW,fun _ _ _=>rfl⟩ aB) 0 ae
theorem anW:bP uT (bB (bK Tryz.f9) 0) Yz:=ny (cx:=uT) (sh:=YA) (run:=fun n x=>M.sr n x.1.2.2.1 x.2.1 x.2.2.2.1) (bR:=anT) aO Hr eP (iE 2 (by kernel_rfl) (lt_succ (iU (.mk (by kernel_rfl) anU)) (.mk (by kernel_rfl) anV))) (fun _=>rfl) (fun m x=>by kernel_rfl) (af ⟨bW,fun _ _ _=>rfl⟩ aB) 0 ae
theorem anX:aA (YB (M.CO)):=bm (cx:=uT) true Hr Tryz.func9 (hl1 anW) ⟨⟨[.ax U.ba],[.el U.dS]⟩,fun x=>(x.1.1,x.2.1)⟩ (fun x=>by kernel_rfl)
def anY(y:Int⊕((List M.ah)×Int)){R:Type}(k:KT R):R:=match y with|.inl a0=>kk k Ex.ret ⟨[.any,.any,iq0],[]⟩ (((),((),(a0,()))),())|.inr a1=>kk k (Ex.exit 2) ⟨[.ax U.ba,iq0,.any],[]⟩ ((a1.1,(a1.2,((),()))),())
def anZ:List (cu K ((Int)⊕((List M.ah)×Int))):=[⟨Ex.ret,⟨[.any,.any,iq0],[]⟩,fun x=>.inl x.1.2.2.1⟩,⟨(Ex.exit 2),⟨[.ax U.ba,iq0,.any],[]⟩,fun x=>.inr ((x.1.1,x.1.2.1))⟩]
def YC:bM K:=bS D false 49 0 [0,3,4] [0,3,2] YD (fun x=>M.wy x.1.1 x.1.2.1 ae x.1.2.2.1) anY
def YE:bM K:=bS D false 49 0 [0,3] [2] ⟨[.ax U.ba,iq0],[]⟩ (fun x=>M.wz ae x.1.1 x.1.2.1) Ht
def YF(m:(List M.ah)->Option Int):aK K:=cI 11 NH (fun x=>m x.1.1)
def zD:Cx K:=bD [(20,.plain)] [X3 M.sd] [(9,YC),(4,YE)]
theorem NI:aY zD:=bw aO _ (af anj aB)
theorem an0:bP zD (bB (bB (bK Tryz.f11) 0) 0) YC:=lk (cx:=zD) (sh:=YD) (run:=fun n x=>M.wy x.1.1 x.1.2.1 n x.1.2.2.1) (bR:=anZ) NI (fun m x=>by kernel_rfl) (af ⟨dK,fun _ _ _=>rfl⟩ (af ⟨bW,fun _ _ _=>rfl⟩ aB))
theorem an1:bP zD (bB (bK Tryz.f11) 0) YE:=lk (cx:=zD) (sh:=⟨[.ax U.ba,iq0],[]⟩) (run:=fun n x=>M.wz n x.1.1 x.1.2.1) (bR:=Hu) NI (fun m x=>by kernel_rfl) (af ⟨dK,fun _ _ _=>rfl⟩ (af ⟨bW,fun _ _ _=>rfl⟩ aB)) (hl:=(iE 1 (by kernel_rfl) (iU (.mk (by kernel_rfl) an0))))
theorem an2:aA (YF (M.CS)):=bm (cx:=zD) true NI Tryz.func11 (hl1 an1) ⟨jl,fun x=>x.1.1⟩ (fun x=>by kernel_rfl)
def YG(m:M.ah->M.ah->Option Bool):aK K:=cB 23 ⟨[.el U.ba,.rp U.ba 0],[]⟩ (fun x=>m x.1.1 x.1.2.1)
theorem an3:aA (YG (M.YH)):=bm (cx:=gU) true ia Tryz.func23 hq ⟨zs0,fun x=>x.1.1⟩ (fun x=>by kernel_rfl)
def YI:bM K:=bS D false 19 0 [0,1,7,8] [4] YJ (fun x=>M.ze x.1.1 x.1.2.1.1 x.1.2.2.1 ae x.1.2.2.2.1) Ht
def YK(m:(List M.ah)->M.ah->Option Int):aK K:=cI 38 YL (fun x=>m x.1.1 x.1.2.1.1)
def Hw:Cx K:=bD [(23,.plain)] [YG M.YH] [(2,YI)]
theorem YM:aY Hw:=bw aO _ (af an3 aB)
theorem an4:bP Hw (bB (bK Tryz.f38) 0) YI:=lk (cx:=Hw) (sh:=YJ) (run:=fun n x=>M.ze x.1.1 x.1.2.1.1 x.1.2.2.1 n x.1.2.2.2.1) (bR:=Hu) YM (fun m x=>by kernel_rfl) (af ⟨dK,fun _ _ _=>rfl⟩ (af ⟨bW,fun _ _ _=>rfl⟩ aB))
theorem an5:aA (YK (M.FX)):=bm (cx:=Hw) true YM Tryz.func38 (hl1 an4) ⟨jl,fun x=>x.1.1⟩ (fun x=>by kernel_rfl)
def YN(m:(List M.ah)->M.ah->Option Bool):aK K:=cB 22 YL (fun x=>m x.1.1 x.1.2.1.1)
def YO:Cx K:=bD [(38,.plain)] [YK M.FX] []
theorem an6:aY YO:=bw aO _ (af an5 aB)
theorem an7:aA (YN (M.CP)):=bm (cx:=YO) true an6 Tryz.func22 hq ⟨zs0,fun x=>x.1.1⟩ (fun x=>by kernel_rfl)
def YP:bM K:=bS D false 26 0 [0,8,9,10] [2] YQ (fun x=>M.wx x.1.1 x.1.2.1 x.1.2.2.1 ae x.1.2.2.2.1) Ht
def YR(m:(List M.ah)->Option Int):aK K:=cI 12 NH (fun x=>m x.1.1)
def Hy:Cx K:=bD [(21,.plain),(22,.plain)] [XA M.wd,YN M.CP] [(4,YP)]
theorem YS:aY Hy:=bw aO _ (af aml (af an7 aB))
theorem an8:bP Hy (bB (bK Tryz.f12) 0) YP:=lk (cx:=Hy) (sh:=YQ) (run:=fun n x=>M.wx x.1.1 x.1.2.1 x.1.2.2.1 n x.1.2.2.2.1) (bR:=Hu) YS (fun m x=>by kernel_rfl) (af ⟨dK,fun _ _ _=>rfl⟩ (af ⟨bW,fun _ _ _=>rfl⟩ aB))
theorem an9:aA (YR (M.CQ)):=bm (cx:=Hy) true YS Tryz.func12 (hl1 an8) ⟨jl,fun x=>x.1.1⟩ (fun x=>by kernel_rfl)
def YT(m:(List UInt8)->(List UInt8)->Option Bool):aK K:=cB 7 wW (fun x=>m x.1.1 x.1.2.1)
theorem aoa:aA (YT (M.CV)):=bm (cx:=Hz) true NJ Tryz.func7 hq ⟨zs0,fun x=>x.1.1⟩ (fun x=>by kernel_rfl)
def YU(m:(List UInt8)->(List UInt8)->Option (Int×Int)):aK K:={f:=8,sh:=wW,R:=Int×Int,run:=fun x=>m x.1.1 x.1.2.1,dflt:=default,out:=fun r=>(Sh.enc D (.bA [iq0,iq0]) (r.1,(r.2,())),aQ.encs D [] ())}
theorem aob:aA (YU (M.zg)):=bm (cx:=Hz) true NJ Tryz.func8 hq ⟨HA,fun x=>(x.1.1.1,x.1.1.2.1)⟩ (fun x=>by kernel_rfl)
def YV(m:(List UInt8)->(List UInt8)->Option Bool):aK K:=cB 25 wW (fun x=>m x.1.1 x.1.2.1)
theorem aoc:aA (YV (M.CU)):=bm (cx:=NK) true YW Tryz.func25 hq ⟨zs0,fun x=>x.1.1⟩ (fun x=>by kernel_rfl)
def YX(m:Int->Option Bool):aK K:=cB 89 jl (fun x=>m x.1.1)
theorem aod:aA (YX (M.YY)):=bm (cx:=gU) true ia Tryz.func89 hq ⟨zs0,fun x=>x.1.1⟩ (fun x=>by kernel_rfl)
def YZ(m:Int->Int->Option Int):aK K:=cI 57 ⟨[iq0,iq0],[]⟩ (fun x=>m x.1.1 x.1.2.1)
def Y0:Cx K:=bD [(89,.plain)] [YX M.YY] []
theorem aoe:aY Y0:=bw aO _ (af aod aB)
theorem aof:aA (YZ (M.F9)):=bm (cx:=Y0) true aoe Tryz.func57 hq ⟨jl,fun x=>x.1.1⟩ (fun x=>by kernel_rfl)
def Y1(m:(List UInt8)->(List UInt8)->Option (Int×Int)):aK K:={f:=40,sh:=wW,R:=Int×Int,run:=fun x=>m x.1.1 x.1.2.1,dflt:=default,out:=fun r=>(Sh.enc D (.bA [iq0,iq0]) (r.1,(r.2,())),aQ.encs D [] ())}
def Y2:Cx K:=bD [(39,.plain),(57,.plain)] [NL M.nZ,YZ M.F9] []
theorem aog:aY Y2:=bw aO _ (af Y3 (af aof aB))
theorem aoh:aA (Y1 (M.F8)):=bm (cx:=Y2) true aog Tryz.func40 hq ⟨HA,fun x=>(x.1.1.1,x.1.1.2.1)⟩ (fun x=>by kernel_rfl)
def Y4(m:(List UInt8)->(List UInt8)->Option Bool):aK K:=cB 26 wW (fun x=>m x.1.1 x.1.2.1)
def Y5:Cx K:=bD [(40,.plain)] [Y1 M.F8] []
theorem aoi:aY Y5:=bw aO _ (af aoh aB)
theorem aoj:aA (Y4 (M.CW)):=bm (cx:=Y5) true aoi Tryz.func26 hq ⟨zs0,fun x=>x.1.1⟩ (fun x=>by kernel_rfl)
def aok(y:(List M.ah)×(List UInt8)×Int×Bool){R:Type}(k:KT R):R:=match y with|a0=>kk k (Ex.exit 0) Y6 ((a0.1,(a0.2.1,(a0.2.2.1,(a0.2.2.2,())))),())
def aol:List (cu K ((List M.ah)×(List UInt8)×Int×Bool)):=[⟨(Ex.exit 0),Y6,fun x=>(x.1.1,x.1.2.1,x.1.2.2.1,x.1.2.2.2.1)⟩]
def Y7:bM K:=bS D false 74 0 [0,1,2,9,10,20,21,22] [0,2,9,10] Y8 (fun x=>M.sx x.1.1 x.1.2.1 x.1.2.2.1 x.1.2.2.2.2.2.1 x.1.2.2.2.2.2.2.1 ae x.1.2.2.2.1 x.1.2.2.2.2.1 x.1.2.2.2.2.2.2.2.1) aok
def Y9(m:(List M.ah)->(List UInt8)->(List UInt8)->Option (Int×Int×Int)):aK K:={f:=13,sh:=⟨[.ax U.ba,.str,.str],[]⟩,R:=Int×Int×Int,run:=fun x=>m x.1.1 x.1.2.1 x.1.2.2.1,dflt:=default,out:=fun r=>(Sh.enc D (.bA [iq0,iq0,iq0]) (r.1,(r.2.1,(r.2.2,()))),aQ.encs D [] ())}
def HD:Cx K:=bD [(24,.plain),(25,.plain),(26,.plain)] [NM M.wE,YV M.CU,Y4 M.CW] [(5,Y7)]
theorem Za:aY HD:=bw aO _ (af Zb (af aoc (af aoj aB)))
theorem aom:bP HD (bB (bK Tryz.f13) 0) Y7:=lk (cx:=HD) (sh:=Y8) (run:=fun n x=>M.sx x.1.1 x.1.2.1 x.1.2.2.1 x.1.2.2.2.2.2.1 x.1.2.2.2.2.2.2.1 n x.1.2.2.2.1 x.1.2.2.2.2.1 x.1.2.2.2.2.2.2.2.1) (bR:=aol) Za (fun m x=>by kernel_rfl) (af ⟨bW,fun _ _ _=>rfl⟩ aB)
theorem aon:aA (Y9 (M.CX)):=bm (cx:=HD) true Za Tryz.func13 (hl1 aom) ⟨Zc,fun x=>(x.1.1.1,x.1.1.2.1,x.1.1.2.2.1)⟩ (fun x=>by kernel_rfl)
def Zd(m:(List M.ah)->(List UInt8)->(List UInt8)->Option (Int×Int×Int)):aK K:={f:=6,sh:=⟨[.ax U.ba,.str,.str],[]⟩,R:=Int×Int×Int,run:=fun x=>m x.1.1 x.1.2.1 x.1.2.2.1,dflt:=default,out:=fun r=>(Sh.enc D (.bA [iq0,iq0,iq0]) (r.1,(r.2.1,(r.2.2,()))),aQ.encs D [] ())}
def Ze:Cx K:=bD [(12,.plain),(13,.plain)] [YR M.CQ,Y9 M.CX] []
theorem aoo:aY Ze:=bw aO _ (af an9 (af aon aB))
theorem aop:aA (Zd (M.zh)):=bm (cx:=Ze) true aoo Tryz.func6 hq ⟨Zc,fun x=>(x.1.1.1,x.1.1.2.1,x.1.1.2.2.1)⟩ (fun x=>by kernel_rfl)
def aoq(y:(List M.ah)){R:Type}(k:KT R):R:=match y with|a0=>kk k (Ex.exit 0) ⟨[.own 1],[.dead,.arr U.ba]⟩ (((),()),((),(a0,())))
def aor:List (cu K ((List M.ah))):=[⟨(Ex.exit 0),⟨[.own 1],[.dead,.arr U.ba]⟩,fun x=>x.2.2.1⟩]
def Zf:bM K:=bS D 0 40 1 [3,4,5] [4] Zg (fun x=>M.sy x.1.1 ae x.1.2.2.1 x.2.2.1) aoq
def Zh(m:(List UInt8)->Option ((List M.ah))):aK K:={f:=4,sh:=⟨[.ax U.u8],[]⟩,R:=(List M.ah),run:=fun x=>m x.1.1,dflt:=default,out:=fun r=>(Sh.enc D (.ax U.ba) r,aQ.encs D [] ())}
def HE:Cx K:=bD [(10,.jo),(9,.aX),(11,.plain)] [Yp M.Yq,YB M.CO,YF M.CS] [(4,Zf)]
theorem Zi:aY HE:=bw aO _ (af anM (af anX (af an2 aB)))
theorem aos:bP HE (bB (bK Tryz.f4) 0) Zf:=ny (cx:=HE) (sh:=Zg) (run:=fun n x=>M.sy x.1.1 n x.1.2.2.1 x.2.2.1) (bR:=aor) aO Zi eP (oQ (by kernel_rfl)) (fun _=>rfl) (fun m x=>by kernel_rfl) (af ⟨bW,fun _ _ _=>rfl⟩ aB) 0 ae
theorem aot:aA (Zh (M.CY)):=bm (cx:=HE) true Zi Tryz.func4 (hl1 aos) ⟨NH,fun x=>x.1.1⟩ (fun x=>by kernel_rfl)
def Zj(m:(List UInt8)->Int->Int->Option Int):aK K:=cI 5 ⟨[.ax U.u8,iq0,iq0],[]⟩ (fun x=>m x.1.1 x.1.2.1 x.1.2.2.1)
theorem aou:aA (Zj (M.zi)):=bm (cx:=gU) true ia Tryz.func5 hq ⟨jl,fun x=>x.1.1⟩ (fun x=>by kernel_rfl)
def aov(y:(List M.ah)×(List UInt8)×(List UInt8)×Int×Int×Int×Bool×(List UInt8)){R:Type}(k:KT R):R:=match y with|a0=>kk k (Ex.exit 0) Zk ((a0.1,(a0.2.1,(a0.2.2.1,(a0.2.2.2.1,(a0.2.2.2.2.1,(a0.2.2.2.2.2.1,(a0.2.2.2.2.2.2.1,(a0.2.2.2.2.2.2.2,())))))))),())
def aow:List (cu K ((List M.ah)×(List UInt8)×(List UInt8)×Int×Int×Int×Bool×(List UInt8))):=[⟨(Ex.exit 0),Zk,fun x=>(x.1.1,x.1.2.1,x.1.2.2.1,x.1.2.2.2.1,x.1.2.2.2.2.1,x.1.2.2.2.2.2.1,x.1.2.2.2.2.2.2.1,x.1.2.2.2.2.2.2.2.1)⟩]
def Zl:bM K:=bS D 0 168 0 [3,4,5,6,7,8,9,10,11] [3,4,5,6,7,8,9,10] Zm (fun x=>M.qH x.1.1 x.1.2.1 x.1.2.2.1 x.1.2.2.2.1 x.1.2.2.2.2.1 x.1.2.2.2.2.2.1 ae x.1.2.2.2.2.2.2.1 x.1.2.2.2.2.2.2.2.1 x.1.2.2.2.2.2.2.2.2.1) aov
def Zn(m:(List UInt8)->Option Bool):aK K:=cB 3 ⟨[.ax U.u8],[]⟩ (fun x=>m x.1.1)
def HG:Cx K:=bD [(4,.jI),(5,.plain),(6,.plain),(7,.plain),(8,.plain)] [Zh M.CY,Zj M.zi,Zd M.zh,YT M.CV,YU M.zg] [(10,Zl)]
theorem Zo:aY HG:=bw aO _ (af aot (af aou (af aop (af aoa (af aob aB)))))
theorem aox:bP HG (bB (bK Tryz.f3) 0) Zl:=ny (cx:=HG) (sh:=Zm) (run:=fun n x=>M.qH x.1.1 x.1.2.1 x.1.2.2.1 x.1.2.2.2.1 x.1.2.2.2.2.1 x.1.2.2.2.2.2.1 n x.1.2.2.2.2.2.2.1 x.1.2.2.2.2.2.2.2.1 x.1.2.2.2.2.2.2.2.2.1) (bR:=aow) aO Zo eP (oQ (by kernel_rfl)) (fun _=>rfl) (fun m x=>by kernel_rfl) (af ⟨bW,fun _ _ _=>rfl⟩ aB) 0 ae
theorem aoy:aA (Zn (M.CZ)):=bm (cx:=HG) true Zo Tryz.func3 (hl1 aox) ⟨zs0,fun x=>x.1.1⟩ (fun x=>by kernel_rfl)
