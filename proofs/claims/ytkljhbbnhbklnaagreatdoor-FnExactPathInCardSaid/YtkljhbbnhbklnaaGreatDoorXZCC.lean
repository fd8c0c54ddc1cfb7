/-
  Part of the proof of the claim.
-/
import Derived.Test.YtkljhbbnhbklnaaGreatDoorXZCCa
import Derived.Test.YtkljhbbnhbklnaaGreatDoorXZCM
import Derived.Test.YtkljhbbnhbklnaaGreatDoorXXHdA
import Derived.Test.YtkljhbbnhbklnaaGreatDoorXXHdI
import Derived.Test.YtkljhbbnhbklnaaGreatDoorXXHdJ2
import Derived.Test.YtkljhbbnhbklnaaGreatDoorXXHdV
import Derived.Test.YtkljhbbnhbklnaaGreatDoorXWgD
import Derived.Test.YtkljhbbnhbklnaaGreatDoorProg
set_option linter.unusedVariables false
set_option maxRecDepth 100000
open Go Go.Proofs
open Go.V
noncomputable section
def Vq:bE K:=bH D false 25 0 [0,3] [2] NY (fun x=>M.vj ah x.1.1 x.1.2.1) iU
def Vr(m:(List (List UInt8))->Option Bool):aE K:=cB 113 yn (fun x=>m x.1.1)
def yo:Cx K:=bg [] [] [(5,Vs),(2,Vq)]
theorem NZ:aN yo:=aV aL _ ay
theorem amF:bF yo (bp (bp (bD Tryz.f113) 0) 0) Vs:=lk (cx:=yo) (sh:=Gq) (run:=fun n x=>M.vi x.1.1 x.1.2.1 n x.1.2.2.1) (bG:=amG) NZ (fun m x=>by kernel_rfl) (ae ⟨cO,fun _ _ _=>rfl⟩ (ae ⟨bJ,fun _ _ _=>rfl⟩ ay))
theorem amH:bF yo (bp (bD Tryz.f113) 0) Vq:=lk (cx:=yo) (sh:=NY) (run:=fun n x=>M.vj n x.1.1 x.1.2.1) (bG:=iV) NZ (fun m x=>by kernel_rfl) (ae ⟨cO,fun _ _ _=>rfl⟩ (ae ⟨bJ,fun _ _ _=>rfl⟩ ay)) (hl:=(afH 1 (by kernel_rfl) (ju (.mk (by kernel_rfl) amF))))
theorem amI:au (Vr (M.sL)):=aS (cx:=yo) true NZ Tryz.func113 (hl1 amH) ⟨zs0,fun x=>x.1.1⟩ (fun x=>by kernel_rfl)
def Vt:bE K:=bH D false 66 3 [1,3,4,5] [1,3,4,2] Gs (fun x=>M.xM x.2.1 x.2.2.2.2.2.1 ah x.1.2.2.2.1 x.2.2.2.2.1) Vu
def amJ(y:(List (List UInt8))×(List (List UInt8))){R:Type}(k:KT R):R:=match y with|a0=>kk k (Ex.exit 2) Gt (((),((),())),((),((),((),(a0.1,(a0.2,()))))))
def amK:List (cn K ((List (List UInt8))×(List (List UInt8)))):=[⟨(Ex.exit 2),Gt,fun x=>(x.2.2.2.2.1,x.2.2.2.2.2.1)⟩]
def Vv:bE K:=bH D false 66 3 [1,3,4,8] [3,4] Gs (fun x=>M.xN x.2.1 x.2.2.2.2.1 ah x.1.2.2.2.1 x.2.2.2.2.2.1) amJ
def Vw(m:M.ai->Option Bool):aE K:=cB 84 rq (fun x=>m x.1.1)
def yp:Cx K:=bg [(112,.jG),(113,.plain)] [Vx M.AE,Vr M.sL] [(4,Vt),(11,Vv)]
theorem N1:aN yp:=aV aL _ (ae amL (ae amI ay))
theorem amM:bF yp (bp (bD Tryz.f84) 0) Vt:=lk (cx:=yp) (sh:=Gs) (run:=fun n x=>M.xM x.2.1 x.2.2.2.2.2.1 n x.1.2.2.2.1 x.2.2.2.2.1) (bG:=Vy) N1 (fun m x=>by kernel_rfl) (ae ⟨cO,fun _ _ _=>rfl⟩ (ae ⟨bJ,fun _ _ _=>rfl⟩ ay))
theorem amN:bF yp (bp (bD Tryz.f84) 1) Vv:=lk (cx:=yp) (sh:=Gs) (run:=fun n x=>M.xN x.2.1 x.2.2.2.2.1 n x.1.2.2.2.1 x.2.2.2.2.2.1) (bG:=amK) N1 (fun m x=>by kernel_rfl) (ae ⟨bJ,fun _ _ _=>rfl⟩ ay)
theorem amO:au (Vw (M.xF)):=aS (cx:=yp) true N1 Tryz.func84 (hl2 amM amN) ⟨zs0,fun x=>x.1.1⟩ (fun x=>by kernel_rfl)
def Vz(m:(List UInt8)->Option (M.ai×Int×Int)):aE K:={f:=65,sh:=eZ,R:=M.ai×Int×Int,run:=fun x=>m x.1.1,dflt:=default,out:=fun r=>(Sh.enc D (.bz [.el U.aJ,iq0,iq0]) (r.1,(r.2.1,(r.2.2,()))),aY.encs D [] ())}
def VA:Cx K:=bg [(81,.jG),(82,.bh),(83,.bh),(84,.plain)] [VB M.zV,VC M.xE,vG M.kS,Vw M.xF] []
theorem amP:aN VA:=aV aL _ (ae amQ (ae amR (ae yq (ae amO ay))))
theorem amS:au (Vz (M.sK)):=aS (cx:=VA) true amP Tryz.func65 hq ⟨VD,fun x=>(x.1.1.1,x.1.1.2.1,x.1.1.2.2.1)⟩ (fun x=>by kernel_rfl)
def tJ(m:M.aa->Int->Option Int):aE K:=cI 103 N2 (fun x=>m x.1.1 x.1.2.1)
def amT(y:Int⊕Int){R:Type}(k:KT R):R:=match y with|.inl a0=>kk k Ex.ret ⟨[.any,iq0],[.dead]⟩ (((),(a0,())),((),()))|.inr a1=>kk k (Ex.exit 1) ⟨[iq0,.any],[.dead]⟩ ((a1,((),())),((),()))
def amU:List (cn K ((Int)⊕Int)):=[⟨Ex.ret,⟨[.any,iq0],[.dead]⟩,fun x=>.inl x.1.2.1⟩,⟨(Ex.exit 1),⟨[iq0,.any],[.dead]⟩,fun x=>.inr (x.1.1)⟩]
def VE(fV:M.aa->Int->Option Int):bE K:=bH D false 114 1 [1,2,8,9] [8,4] VF (fun x=>M.vq fV x.1.1 ah x.1.2.2.1 x.1.2.2.2.1 x.2.1) amT
def Gu(fV:M.aa->Int->Option Int):Cx K:=bg [(29,.plain),(103,.plain)] [yt M.yu,tJ fV] [(22,VE fV)]
theorem VG(fV:M.aa->Int->Option Int)(yv:au (tJ fV)):aN (Gu fV):=aV aL _ (ae BU (ae yv ay))
theorem amV(fV:M.aa->Int->Option Int)(yv:au (tJ fV)):bF (Gu fV) (bp (bD Tryz.f103) 0) (VE fV):=lk (cx:=Gu fV) (sh:=VF) (run:=fun n x=>M.vq fV x.1.1 n x.1.2.2.1 x.1.2.2.2.1 x.2.1) (bG:=amU) (VG fV yv) (fun m x=>by kernel_rfl) (ae ⟨cO,fun _ _ _=>rfl⟩ (ae ⟨bJ,fun _ _ _=>rfl⟩ ay))
theorem amW(fV:M.aa->Int->Option Int)(yv:au (tJ fV)):au (tJ (M.FU fV)):=fR (cx:=Gu fV) (fz:=true) aL (VG fV yv) fP ⟨Tryz.func103,by kernel_rfl⟩ (hl1 (amV fV yv)) ⟨zs2,fun x=>x.1.1⟩ (fun x=>rfl) (fun x=>by kernel_rfl)
theorem VH:∀n,au (tJ (M.vr n))|0=>nE fun _=>rfl|n+1=>amW (M.vr n) (VH n)
theorem amX:au (tJ (M.A8)):=VH ah
def jP(m:M.aa->Option ((List UInt8))):aE K:=cS 114 ⟨[.el U.Term],[]⟩ (fun x=>m x.1.1)
def amY(y:(List UInt8)){R:Type}(k:KT R):R:=match y with|a0=>kk k (Ex.exit 0) eZ ((a0,()),())
def amZ:List (cn K ((List UInt8))):=[⟨(Ex.exit 0),eZ,fun x=>x.1.1⟩]
def VI(b9:M.aa->Option ((List UInt8))):bE K:=bH D false 23 0 [0,3,4] [3] ⟨[.an U.Term,.str,iq0],[]⟩ (fun x=>M.qY b9 x.1.1 ah x.1.2.1 x.1.2.2.1) amY
def VJ(m:(List M.aa)->Option ((List UInt8))):aE K:=cS 159 ⟨[.an U.Term],[]⟩ (fun x=>m x.1.1)
def Gv(b9:M.aa->Option ((List UInt8))):Cx K:=bg [(114,.plain)] [jP b9] [(3,VI b9)]
theorem VK(b9:M.aa->Option ((List UInt8)))(ie:au (jP b9)):aN (Gv b9):=aV aL _ (ae ie ay)
theorem am0(b9:M.aa->Option ((List UInt8)))(ie:au (jP b9)):bF (Gv b9) (bp (bD Tryz.f159) 0) (VI b9):=lk (cx:=Gv b9) (sh:=⟨[.an U.Term,.str,iq0],[]⟩) (run:=fun n x=>M.qY b9 x.1.1 n x.1.2.1 x.1.2.2.1) (bG:=amZ) (VK b9 ie) (fun m x=>by kernel_rfl) (ae ⟨bJ,fun _ _ _=>rfl⟩ ay)
theorem am1(b9:M.aa->Option ((List UInt8)))(ie:au (jP b9)):au (VJ (M.A9 b9)):=fR (cx:=Gv b9) (fz:=true) aL (VK b9 ie) fP ⟨Tryz.func159,by kernel_rfl⟩ (hl1 (am0 b9 ie)) ⟨eZ,fun x=>x.1.1⟩ (fun x=>rfl) (fun x=>by kernel_rfl)
def VL(m:M.aa->M.aa->Option ((List UInt8))):aE K:=cS 160 N3 (fun x=>m x.1.1 x.1.2.1)
def VM(b9:M.aa->Option ((List UInt8))):Cx K:=bg [(114,.plain)] [jP b9] []
theorem am2(b9:M.aa->Option ((List UInt8)))(ie:au (jP b9)):aN (VM b9):=aV aL _ (ae ie ay)
theorem am3(b9:M.aa->Option ((List UInt8)))(ie:au (jP b9)):au (VL (M.Bc b9)):=fR (cx:=VM b9) (fz:=true) aL (am2 b9 ie) fP ⟨Tryz.func160,by kernel_rfl⟩ hq ⟨eZ,fun x=>x.1.1⟩ (fun x=>rfl) (fun x=>by kernel_rfl)
def am4(y:(List UInt8)){R:Type}(k:KT R):R:=match y with|a0=>kk k (Ex.exit 0) yw ((a0,()),((),()))
def am5:List (cn K ((List UInt8))):=[⟨(Ex.exit 0),yw,fun x=>x.1.1⟩]
def VN(b9:M.aa->Option ((List UInt8))):bE K:=bH D false 62 1 [1,3,4] [3] VO (fun x=>M.qZ b9 ah x.1.2.1 x.1.2.2.1 x.2.1) am4
def VP(m:M.aa->Option ((List UInt8))):aE K:=cS 161 ⟨[.el U.Term],[]⟩ (fun x=>m x.1.1)
def Gw(b9:M.aa->Option ((List UInt8))):Cx K:=bg [(114,.plain)] [jP b9] [(3,VN b9)]
theorem VQ(b9:M.aa->Option ((List UInt8)))(ie:au (jP b9)):aN (Gw b9):=aV aL _ (ae ie ay)
theorem am6(b9:M.aa->Option ((List UInt8)))(ie:au (jP b9)):bF (Gw b9) (bp (bD Tryz.f161) 0) (VN b9):=lk (cx:=Gw b9) (sh:=VO) (run:=fun n x=>M.qZ b9 n x.1.2.1 x.1.2.2.1 x.2.1) (bG:=am5) (VQ b9 ie) (fun m x=>by kernel_rfl) (ae ⟨bJ,fun _ _ _=>rfl⟩ ay)
theorem am7(b9:M.aa->Option ((List UInt8)))(ie:au (jP b9)):au (VP (M.Ba b9)):=fR (cx:=Gw b9) (fz:=true) aL (VQ b9 ie) fP ⟨Tryz.func161,by kernel_rfl⟩ (hl1 (am6 b9 ie)) ⟨eZ,fun x=>x.1.1⟩ (fun x=>rfl) (fun x=>by kernel_rfl)
def VR(b9:M.aa->Option ((List UInt8))):Cx K:=bg [(157,.fresh),(158,.jG),(159,.plain),(160,.plain),(161,.plain)] [N4 M.jw,N5 M.jx,VJ (M.A9 b9),VL (M.Bc b9),VP (M.Ba b9)] []
theorem am8(b9:M.aa->Option ((List UInt8)))(ie:au (jP b9)):aN (VR b9):=aV aL _ (ae VS (ae VT (ae (am1 b9 ie) (ae (am3 b9 ie) (ae (am7 b9 ie) ay)))))
theorem am9(b9:M.aa->Option ((List UInt8)))(ie:au (jP b9)):au (jP (M.FX b9)):=fR (cx:=VR b9) (fz:=true) aL (am8 b9 ie) fP ⟨Tryz.func114,by kernel_rfl⟩ hq ⟨eZ,fun x=>x.1.1⟩ (fun x=>rfl) (fun x=>by kernel_rfl)
theorem VU:∀n,au (jP (M.mY n))|0=>nE fun _=>rfl|n+1=>am9 (M.mY n) (VU n)
theorem ana:au (jP (M.x8)):=VU ah
def anb(y:Bool⊕(M.aa×M.aa)){R:Type}(k:KT R):R:=match y with|.inl a0=>kk k Ex.ret yx (((),((),(a0,()))),((),((),())))|.inr a1=>kk k (Ex.exit 0) VV (((),((),((),()))),(a1.1,(a1.2,())))
def anc:List (cn K ((Bool)⊕(M.aa×M.aa))):=[⟨Ex.ret,yx,fun x=>.inl x.1.2.2.1⟩,⟨(Ex.exit 0),VV,fun x=>.inr ((x.2.1,x.2.2.1))⟩]
def VW:bE K:=bH D false 74 2 [2,3,5] [2,3,4] Gx (fun x=>M.sQ ah x.1.2.2.1 x.2.1 x.2.2.1) anb
def ru(m:M.aa->M.aa->Option Bool):aE K:=cB 115 N3 (fun x=>m x.1.1 x.1.2.1)
def VX(y:Bool⊕Unit){R:Type}(k:KT R):R:=match y with|.inl a0=>kk k Ex.ret Gy ((a0,()),((),((),())))|.inr a1=>kk k (Ex.exit 2) Gz (((),()),((),((),())))
def VY:List (cn K ((Bool)⊕Unit)):=[⟨Ex.ret,Gy,fun x=>.inl x.1.1⟩,⟨(Ex.exit 2),Gz,fun x=>.inr (())⟩]
def VZ(fa:M.aa->M.aa->Option Bool):bE K:=bH D false 74 2 [2,3,6] [4] Gx (fun x=>M.sR fa ah x.1.2.2.1 x.2.1 x.2.2.1) VX
def yy(fa:M.aa->M.aa->Option Bool):Cx K:=bg [(115,.plain)] [ru fa] [(4,VW),(9,VZ fa)]
theorem N6(fa:M.aa->M.aa->Option Bool)(rx:au (ru fa)):aN (yy fa):=aV aL _ (ae rx ay)
theorem ane(fa:M.aa->M.aa->Option Bool)(rx:au (ru fa)):bF (yy fa) (bp (bD Tryz.f115) 0) VW:=lk (cx:=yy fa) (sh:=Gx) (run:=fun n x=>M.sQ n x.1.2.2.1 x.2.1 x.2.2.1) (bG:=anc) (N6 fa rx) (fun m x=>by kernel_rfl) (ae ⟨cO,fun _ _ _=>rfl⟩ (ae ⟨bJ,fun _ _ _=>rfl⟩ ay))
theorem anf(fa:M.aa->M.aa->Option Bool)(rx:au (ru fa)):bF (yy fa) (bp (bD Tryz.f115) 1) (VZ fa):=lk (cx:=yy fa) (sh:=Gx) (run:=fun n x=>M.sR fa n x.1.2.2.1 x.2.1 x.2.2.1) (bG:=VY) (N6 fa rx) (fun m x=>by kernel_rfl) (ae ⟨cO,fun _ _ _=>rfl⟩ (ae ⟨bJ,fun _ _ _=>rfl⟩ ay))
theorem ang(fa:M.aa->M.aa->Option Bool)(rx:au (ru fa)):au (ru (M.FD fa)):=fR (cx:=yy fa) (fz:=true) aL (N6 fa rx) fP ⟨Tryz.func115,by kernel_rfl⟩ (hl2 (ane fa rx) (anf fa rx)) ⟨zs0,fun x=>x.1.1⟩ (fun x=>rfl) (fun x=>by kernel_rfl)
theorem V0:∀n,au (ru (M.sP n))|0=>nE fun _=>rfl|n+1=>ang (M.sP n) (V0 n)
theorem anh:au (ru (M.A2)):=V0 ah
def V1:bE K:=bH D false 26 0 [0,1,12,13] [4] V2 (fun x=>M.xO x.1.1 x.1.2.1 x.1.2.2.1 ah x.1.2.2.2.1) iU
def V3(m:(List (List UInt8))->(List (List UInt8))->Option Bool):aE K:=cB 214 ⟨[.an U.str,.an U.str],[]⟩ (fun x=>m x.1.1 x.1.2.1)
def GF:Cx K:=bg [] [] [(4,V1)]
theorem V4:aN GF:=aV aL _ ay
theorem ani:bF GF (bp (bD Tryz.f214) 0) V1:=lk (cx:=GF) (sh:=V2) (run:=fun n x=>M.xO x.1.1 x.1.2.1 x.1.2.2.1 n x.1.2.2.2.1) (bG:=iV) V4 (fun m x=>by kernel_rfl) (ae ⟨cO,fun _ _ _=>rfl⟩ (ae ⟨bJ,fun _ _ _=>rfl⟩ ay))
theorem anj:au (V3 (M.AL)):=aS (cx:=GF) true V4 Tryz.func214 (hl1 ani) ⟨zs0,fun x=>x.1.1⟩ (fun x=>by kernel_rfl)
def mh(m:M.aa->M.aa->Int->Option Bool):aE K:=cB 178 ⟨[.el U.Term,.el U.Term,iq0],[]⟩ (fun x=>m x.1.1 x.1.2.1 x.1.2.2.1)
def V5(m:M.aa->M.aa->Int->Option Bool):aE K:=cB 216 ⟨[.el U.Term,.el U.Term,.rp U.i64 0],[]⟩ (fun x=>m x.1.1 x.1.2.1 x.1.2.2.1)
def V6(dw:M.aa->M.aa->Int->Option Bool):Cx K:=bg [(178,.plain)] [mh dw] []
theorem ank(dw:M.aa->M.aa->Int->Option Bool)(lU:au (mh dw)):aN (V6 dw):=aV aL _ (ae lU ay)
theorem anl(dw:M.aa->M.aa->Int->Option Bool)(lU:au (mh dw)):au (V5 (M.FC dw)):=fR (cx:=V6 dw) (fz:=true) aL (ank dw lU) fP ⟨Tryz.func216,by kernel_rfl⟩ hq ⟨zs0,fun x=>x.1.1⟩ (fun x=>rfl) (fun x=>by kernel_rfl)
def V7(dw:M.aa->M.aa->Int->Option Bool):bE K:=bH D false 32 0 [1,2,15,16,17] [6] V8 (fun x=>M.xP dw x.1.1 x.1.2.1.1 x.1.2.2.1 x.1.2.2.2.1 ah x.1.2.2.2.2.1) iU
def V9(m:(List M.aa)->(List M.aa)->Int->Option Bool):aE K:=cB 215 ⟨[.an U.Term,.an U.Term,.fn 216 [.rp U.i64 0]],[]⟩ (fun x=>m x.1.1 x.1.2.1 x.1.2.2.1.1)
def GG(dw:M.aa->M.aa->Int->Option Bool):Cx K:=bg [(216,.plain)] [V5 (M.FC dw)] [(4,V7 dw)]
theorem Wa(dw:M.aa->M.aa->Int->Option Bool)(lU:au (mh dw)):aN (GG dw):=aV aL _ (ae (anl dw lU) ay)
theorem anm(dw:M.aa->M.aa->Int->Option Bool)(lU:au (mh dw)):bF (GG dw) (bp (bD Tryz.f215) 0) (V7 dw):=lk (cx:=GG dw) (sh:=V8) (run:=fun n x=>M.xP dw x.1.1 x.1.2.1.1 x.1.2.2.1 x.1.2.2.2.1 n x.1.2.2.2.2.1) (bG:=iV) (Wa dw lU) (fun m x=>by kernel_rfl) (ae ⟨cO,fun _ _ _=>rfl⟩ (ae ⟨bJ,fun _ _ _=>rfl⟩ ay))
theorem ann(dw:M.aa->M.aa->Int->Option Bool)(lU:au (mh dw)):au (V9 (M.AM dw)):=fR (cx:=GG dw) (fz:=true) aL (Wa dw lU) fP ⟨Tryz.func215,by kernel_rfl⟩ (hl1 (anm dw lU)) ⟨zs0,fun x=>x.1.1⟩ (fun x=>rfl) (fun x=>by kernel_rfl)
def Wb(dw:M.aa->M.aa->Int->Option Bool):Cx K:=bg [(214,.plain),(215,.plain)] [V3 M.AL,V9 (M.AM dw)] []
theorem ano(dw:M.aa->M.aa->Int->Option Bool)(lU:au (mh dw)):aN (Wb dw):=aV aL _ (ae anj (ae (ann dw lU) ay))
theorem anp(dw:M.aa->M.aa->Int->Option Bool)(lU:au (mh dw)):au (mh (M.FB dw)):=fR (cx:=Wb dw) (fz:=true) aL (ano dw lU) fP ⟨Tryz.func178,by kernel_rfl⟩ hq ⟨zs0,fun x=>x.1.1⟩ (fun x=>rfl) (fun x=>by kernel_rfl)
theorem Wc:∀n,au (mh (M.vm n))|0=>nE fun _=>rfl|n+1=>anp (M.vm n) (Wc n)
theorem We:au (mh (M.xU)):=Wc ah
def tK(m:M.aa->Int->Option ((List UInt8))):aE K:=cS 167 N2 (fun x=>m x.1.1 x.1.2.1)
def anq(y:(List UInt8)×M.aa×(List (List UInt8))){R:Type}(k:KT R):R:=match y with|a0=>kk k (Ex.exit 0) Wg (((),(a0.1,((),()))),(a0.2.1,((),(a0.2.2,()))))
def anr:List (cn K ((List UInt8)×M.aa×(List (List UInt8)))):=[⟨(Ex.exit 0),Wg,fun x=>(x.1.2.1,x.2.1,x.2.2.2.1)⟩]
def Wh(ga:M.aa->Int->Option ((List UInt8))):bE K:=bH D false 83 2 [1,2,5,6,21,22,23] [2,5,6] Wi (fun x=>M.s7 ga x.1.1 x.1.2.2.1 x.1.2.2.2.2.1 x.1.2.2.2.2.2.1 ah x.1.2.2.2.2.2.2.1 x.2.1 x.2.2.2.1) anq
def Wj(m:M.aa->(List (List UInt8))->Option ((List UInt8))):aE K:=cS 202 ⟨[.el U.Term,.an U.str],[]⟩ (fun x=>m x.1.1 x.1.2.1)
theorem ant:au (Wj (M.x5)):=aS (cx:=fy) true fG Tryz.func202 hq ⟨eZ,fun x=>x.1.1⟩ (fun x=>by kernel_rfl)
def anu(y:(List (List UInt8))){R:Type}(k:KT R):R:=match y with|a0=>kk k (Ex.exit 0) ⟨[.own 2],[.dead,.dead,.arr U.str]⟩ (((),()),((),((),(a0,()))))
def anv:List (cn K ((List (List UInt8)))):=[⟨(Ex.exit 0),⟨[.own 2],[.dead,.dead,.arr U.str]⟩,fun x=>x.2.2.2.1⟩]
def Wl:bE K:=bH D false 60 2 [1,2,5,10,11,12] [5] Wm (fun x=>M.qX x.1.1 x.1.2.2.2.1 x.1.2.2.2.2.1 ah x.1.2.2.2.2.2.1 x.2.1 x.2.2.2.1) anu
def Wn(m:M.aa->(List (List UInt8))->Option ((List (List UInt8)))):aE K:={f:=203,sh:=⟨[.el U.Term,.an U.str],[]⟩,R:=(List (List UInt8)),run:=fun x=>m x.1.1 x.1.2.1,dflt:=default,out:=fun r=>(Sh.enc D (.an U.str) r,aY.encs D [] ())}
def GH:Cx K:=bg [] [] [(3,Wl)]
theorem Wp:aN GH:=aV aL _ ay
theorem anw:bF GH (bp (bD Tryz.f203) 0) Wl:=lk (cx:=GH) (sh:=Wm) (run:=fun n x=>M.qX x.1.1 x.1.2.2.2.1 x.1.2.2.2.2.1 n x.1.2.2.2.2.2.1 x.2.1 x.2.2.2.1) (bG:=anv) Wp (fun m x=>by kernel_rfl) (ae ⟨bJ,fun _ _ _=>rfl⟩ ay)
theorem anx:au (Wn (M.x6)):=aS (cx:=GH) true Wp Tryz.func203 (hl1 anw) ⟨yn,fun x=>x.1.1⟩ (fun x=>by kernel_rfl)
def GI(ga:M.aa->Int->Option ((List UInt8))):Cx K:=bg [(37,.plain),(201,.jG),(167,.plain),(168,.plain),(202,.plain),(203,.jG)] [BV M.BW,GK M.fN,tK ga,EU M.strings_Join,Wj M.x5,Wn M.x6] [(7,Wh ga)]
theorem Wq(ga:M.aa->Int->Option ((List UInt8)))(yz:au (tK ga)):aN (GI ga):=aV aL _ (ae GL (ae N7 (ae yz (ae S8 (ae ant (ae anx ay))))))
theorem anz(ga:M.aa->Int->Option ((List UInt8)))(yz:au (tK ga)):bF (GI ga) (bp (bD Tryz.f167) 0) (Wh ga):=lk (cx:=GI ga) (sh:=Wi) (run:=fun n x=>M.s7 ga x.1.1 x.1.2.2.1 x.1.2.2.2.2.1 x.1.2.2.2.2.2.1 n x.1.2.2.2.2.2.2.1 x.2.1 x.2.2.2.1) (bG:=anr) (Wq ga yz) (fun m x=>by kernel_rfl) (ae ⟨bJ,fun _ _ _=>rfl⟩ ay)
theorem anA(ga:M.aa->Int->Option ((List UInt8)))(yz:au (tK ga)):au (tK (M.FT ga)):=fR (cx:=GI ga) (fz:=true) aL (Wq ga yz) fP ⟨Tryz.func167,by kernel_rfl⟩ (hl1 (anz ga yz)) ⟨eZ,fun x=>x.1.1⟩ (fun x=>rfl) (fun x=>by kernel_rfl)
theorem Ws:∀n,au (tK (M.ta n))|0=>nE fun _=>rfl|n+1=>anA (M.ta n) (Ws n)
theorem anB:au (tK (M.tc)):=Ws ah
def Wu(m:(List UInt8)->(List UInt8)->Option (Int×(List UInt8))):aE K:={f:=119,sh:=⟨[.ptr 0 0,.str],[.box [.np 0,.own 1],.arr U.u8]⟩,R:=Int×(List UInt8),run:=fun x=>m x.1.2.1 x.2.2.1,dflt:=default,out:=fun r=>(Sh.enc D (.bz [iq0,.any]) (r.1,((),())),aY.encs D [.box [.np 0,.own 2],.dead,.arr U.u8] (((),((),())),((),(r.2,()))))}
def Wv:Cx K:={eM with mode:=ef .plain [(166,.bh)],mv:=true,call:=callOf D [L9 M.Md],loop:=dR []}
theorem anC:aN Wv:=aV aL _ (ae aiz ay)
theorem anD:au (Wu (M.nV)):=aS (cx:=Wv) true anC Tryz.func119 hq ⟨⟨[.bz [iq0,.any]],[.box [.np 0,.own 2],.dead,.arr U.u8]⟩,fun x=>(x.1.1.1,x.2.2.2.1)⟩ (fun x=>by kernel_rfl)
def anE(y:M.af×(List (List UInt8))){R:Type}(k:KT R):R:=match y with|a0=>kk k (Ex.exit 1) Ww (((),((),())),(a0.1,((),(a0.2,()))))
def anF:List (cn K (M.af×(List (List UInt8)))):=[⟨(Ex.exit 1),Ww,fun x=>(x.2.1,x.2.2.2.1)⟩]
def Wx:bE K:=bH D false 105 2 [1,3,32,33,34] [1,3] Wy (fun x=>M.pv x.1.2.2.1 x.1.2.2.2.1 ah x.1.2.2.2.2.1 x.2.1 x.2.2.2.1) anE
def GM(m:M.aQ->Option ((List UInt8))):aE K:=cS 42 yA (fun x=>m x.1.1)
theorem N8:au (GM (M.pj)):=aS (cx:=fy) true fG Tryz.func42 hq ⟨eZ,fun x=>x.1.1⟩ (fun x=>by kernel_rfl)
def anG(y:(List UInt8)×M.af×(List (List UInt8))){R:Type}(k:KT R):R:=match y with|a0=>kk k (Ex.exit 3) WA (((),((),(a0.1,()))),(a0.2.1,((),(a0.2.2,()))))
def anH:List (cn K ((List UInt8)×M.af×(List (List UInt8)))):=[⟨(Ex.exit 3),WA,fun x=>(x.1.2.2.1,x.2.1,x.2.2.2.1)⟩]
def WB:bE K:=bH D false 105 2 [1,7,8,67,68,69] [1,7,8] WC (fun x=>M.pw x.1.2.2.1 x.1.2.2.2.1 x.1.2.2.2.2.1 ah x.1.2.2.2.2.2.1 x.2.1 x.2.2.2.1) anG
def WE(m:M.af->Option ((List UInt8))):aE K:=cS 120 GN (fun x=>m x.1.1)
def yB:Cx K:=bg [(167,.plain),(42,.plain),(168,.plain)] [tK M.tc,GM M.pj,EU M.strings_Join] [(9,Wx),(19,WB)]
theorem N9:aN yB:=aV aL _ (ae anB (ae N8 (ae S8 ay)))
theorem anI:bF yB (bp (bD Tryz.f120) 0) Wx:=lk (cx:=yB) (sh:=Wy) (run:=fun n x=>M.pv x.1.2.2.1 x.1.2.2.2.1 n x.1.2.2.2.2.1 x.2.1 x.2.2.2.1) (bG:=anF) N9 (fun m x=>by kernel_rfl) (ae ⟨bJ,fun _ _ _=>rfl⟩ ay)
theorem anJ:bF yB (bp (bD Tryz.f120) 1) WB:=lk (cx:=yB) (sh:=WC) (run:=fun n x=>M.pw x.1.2.2.1 x.1.2.2.2.1 x.1.2.2.2.2.1 n x.1.2.2.2.2.2.1 x.2.1 x.2.2.2.1) (bG:=anH) N9 (fun m x=>by kernel_rfl) (ae ⟨bJ,fun _ _ _=>rfl⟩ ay)
theorem anK:au (WE (M.Bf)):=aS (cx:=yB) true N9 Tryz.func120 (hl2 anI anJ) ⟨eZ,fun x=>x.1.1⟩ (fun x=>by kernel_rfl)
def anL(y:(List M.aD)×Int×Int×M.ai×(List UInt8)){R:Type}(k:KT R):R:=match y with|a0=>kk k (Ex.exit 2) GO (((),((),(a0.1,(a0.2.1,(a0.2.2.1,()))))),(a0.2.2.2.1,(((),((),())),((),(a0.2.2.2.2,())))))
def anM:List (cn K ((List M.aD)×Int×Int×M.ai×(List UInt8))):=[⟨(Ex.exit 2),GO,fun x=>(x.1.2.2.1,x.1.2.2.2.1,x.1.2.2.2.2.1,x.2.1,x.2.2.2.2.1)⟩]
def WG:bE K:=bH D false 91 3 [1,3,24,25,26,36,37,38] [1,3,24,25,26] WH (fun x=>M.pz x.1.2.2.1 x.1.2.2.2.1 x.1.2.2.2.2.1 x.1.2.2.2.2.2.1 x.1.2.2.2.2.2.2.1 x.2.1 ah x.1.2.2.2.2.2.2.2.1 x.2.2.2.2.1) anL
def anN(y:M.ai×(List UInt8)){R:Type}(k:KT R):R:=match y with|a0=>kk k (Ex.exit 0) WI (((),((),())),(a0.1,(((),((),())),((),(a0.2,())))))
def anO:List (cn K (M.ai×(List UInt8))):=[⟨(Ex.exit 0),WI,fun x=>(x.2.1,x.2.2.2.2.1)⟩]
def WJ:bE K:=bH D false 91 3 [1,3,24,25,26] [1,3] GO (fun x=>M.pA ah x.1.2.2.1 x.1.2.2.2.1 x.1.2.2.2.2.1 x.2.1 x.2.2.2.2.1) anN
def anP(y:(List M.aM)×Int×Int×(List (List UInt8))×(List UInt8)){R:Type}(k:KT R):R:=match y with|a0=>kk k (Ex.exit 6) GQ (((),((),(a0.1,(a0.2.1,(a0.2.2.1,()))))),(((),((),())),((),((),(a0.2.2.2.1,(a0.2.2.2.2,()))))))
def anQ:List (cn K ((List M.aM)×Int×Int×(List (List UInt8))×(List UInt8))):=[⟨(Ex.exit 6),GQ,fun x=>(x.1.2.2.1,x.1.2.2.2.1,x.1.2.2.2.2.1,x.2.2.2.2.1,x.2.2.2.2.2.1)⟩]
def WL:bE K:=bH D false 91 3 [3,8,52,53,54,64,65,66] [3,8,52,53,54] WM (fun x=>M.pB x.1.2.2.1 x.1.2.2.2.1 x.1.2.2.2.2.1 x.1.2.2.2.2.2.1 x.1.2.2.2.2.2.2.1 x.2.2.2.2.1 ah x.1.2.2.2.2.2.2.2.1 x.2.2.2.2.2.1) anP
def anR(y:(List UInt8)){R:Type}(k:KT R):R:=match y with|a0=>kk k (Ex.exit 4) WN (((),()),(((),((),())),((),((),(a0,())))))
def anS:List (cn K ((List UInt8))):=[⟨(Ex.exit 4),WN,fun x=>x.2.2.2.2.1⟩]
def WO:bE K:=bH D false 91 3 [3,8,52,53,54] [3] GQ (fun x=>M.pC ah x.1.2.2.1 x.1.2.2.2.1 x.1.2.2.2.2.1 x.2.2.2.2.1 x.2.2.2.2.2.1) anR
def WQ(m:M.ai->Option ((List UInt8))):aE K:=cS 91 rq (fun x=>m x.1.1)
def pM:Cx K:=bg [(119,.bh),(120,.plain),(37,.plain),(42,.plain),(121,.bh)] [Wu M.nV,WE M.Bf,BV M.BW,GM M.pj,Mc M.sj] [(8,WG),(4,WJ),(20,WL),(16,WO)]
theorem BX:aN pM:=aV aL _ (ae anD (ae anK (ae GL (ae N8 (ae aiA ay)))))
theorem anT:bF pM (bp (bp (bD Tryz.f91) 0) 0) WG:=lk (cx:=pM) (sh:=WH) (run:=fun n x=>M.pz x.1.2.2.1 x.1.2.2.2.1 x.1.2.2.2.2.1 x.1.2.2.2.2.2.1 x.1.2.2.2.2.2.2.1 x.2.1 n x.1.2.2.2.2.2.2.2.1 x.2.2.2.2.1) (bG:=anM) BX (fun m x=>by kernel_rfl) (ae ⟨bJ,fun _ _ _=>rfl⟩ ay)
theorem anU:bF pM (bp (bp (bD Tryz.f91) 1) 0) WL:=lk (cx:=pM) (sh:=WM) (run:=fun n x=>M.pB x.1.2.2.1 x.1.2.2.2.1 x.1.2.2.2.2.1 x.1.2.2.2.2.2.1 x.1.2.2.2.2.2.2.1 x.2.2.2.2.1 n x.1.2.2.2.2.2.2.2.1 x.2.2.2.2.2.1) (bG:=anQ) BX (fun m x=>by kernel_rfl) (ae ⟨bJ,fun _ _ _=>rfl⟩ ay)
theorem anV:bF pM (bp (bD Tryz.f91) 0) WJ:=lk (cx:=pM) (sh:=GO) (run:=fun n x=>M.pA n x.1.2.2.1 x.1.2.2.2.1 x.1.2.2.2.2.1 x.2.1 x.2.2.2.2.1) (bG:=anO) BX (fun m x=>by kernel_rfl) (ae ⟨bJ,fun _ _ _=>rfl⟩ ay) (hl:=(afH 1 (by kernel_rfl) (ju (.mk (by kernel_rfl) anT))))
theorem anW:bF pM (bp (bD Tryz.f91) 1) WO:=lk (cx:=pM) (sh:=GQ) (run:=fun n x=>M.pC n x.1.2.2.1 x.1.2.2.2.1 x.1.2.2.2.2.1 x.2.2.2.2.1 x.2.2.2.2.2.1) (bG:=anS) BX (fun m x=>by kernel_rfl) (ae ⟨bJ,fun _ _ _=>rfl⟩ ay) (hl:=(afH 1 (by kernel_rfl) (ju (.mk (by kernel_rfl) anU))))
theorem anX:au (WQ (M.sZ)):=aS (cx:=pM) true BX Tryz.func91 (hl2 anV anW) ⟨eZ,fun x=>x.1.1⟩ (fun x=>by kernel_rfl)
def WR:bE K:=bH D false 26 0 [0,1,12,13] [4] WS (fun x=>M.xQ x.1.1 x.1.2.1 x.1.2.2.1 ah x.1.2.2.2.1) iU
def WT(m:(List M.aO)->(List M.aO)->Option Bool):aE K:=cB 179 ⟨[.an U.de,.an U.de],[]⟩ (fun x=>m x.1.1 x.1.2.1)
def GR:Cx K:=bg [] [] [(4,WR)]
theorem WU:aN GR:=aV aL _ ay
theorem anY:bF GR (bp (bD Tryz.f179) 0) WR:=lk (cx:=GR) (sh:=WS) (run:=fun n x=>M.xQ x.1.1 x.1.2.1 x.1.2.2.1 n x.1.2.2.2.1) (bG:=iV) WU (fun m x=>by kernel_rfl) (ae ⟨cO,fun _ _ _=>rfl⟩ (ae ⟨bJ,fun _ _ _=>rfl⟩ ay))
theorem anZ:au (WT (M.AN)):=aS (cx:=GR) true WU Tryz.func179 (hl1 anY) ⟨zs0,fun x=>x.1.1⟩ (fun x=>by kernel_rfl)
def WV(m:M.aA->M.aA->Option Bool):aE K:=cB 181 WW (fun x=>m x.1.1 x.1.2.1)
def WX:Cx K:=bg [(178,.plain)] [mh M.xU] []
theorem an0:aN WX:=aV aL _ (ae We ay)
theorem an1:au (WV (M.AP)):=aS (cx:=WX) true an0 Tryz.func181 hq ⟨zs0,fun x=>x.1.1⟩ (fun x=>by kernel_rfl)
def WY:bE K:=bH D false 32 0 [1,2,15,16,17] [6] WZ (fun x=>M.xW x.1.1 x.1.2.2.1 x.1.2.2.2.1 ah x.1.2.2.2.2.1) iU
def W0(m:(List M.aA)->(List M.aA)->Option Bool):aE K:=cB 180 ⟨[.an U.cY,.an U.cY,.fn 181 []],[]⟩ (fun x=>m x.1.1 x.1.2.1)
def GU:Cx K:=bg [(181,.plain)] [WV M.AP] [(4,WY)]
theorem W4:aN GU:=aV aL _ (ae an1 ay)
theorem an2:bF GU (bp (bD Tryz.f180) 0) WY:=lk (cx:=GU) (sh:=WZ) (run:=fun n x=>M.xW x.1.1 x.1.2.2.1 x.1.2.2.2.1 n x.1.2.2.2.2.1) (bG:=iV) W4 (fun m x=>by kernel_rfl) (ae ⟨cO,fun _ _ _=>rfl⟩ (ae ⟨bJ,fun _ _ _=>rfl⟩ ay))
theorem an3:au (W0 (M.AQ)):=aS (cx:=GU) true W4 Tryz.func180 (hl1 an2) ⟨zs0,fun x=>x.1.1⟩ (fun x=>by kernel_rfl)
def W5(m:M.af->M.af->Option Bool):aE K:=cB 129 Oa (fun x=>m x.1.1 x.1.2.1)
def W6:Cx K:=bg [(178,.plain),(179,.plain),(180,.plain)] [mh M.xU,WT M.AN,W0 M.AQ] []
theorem an4:aN W6:=aV aL _ (ae We (ae anZ (ae an3 ay)))
theorem an5:au (W5 (M.AS)):=aS (cx:=W6) true an4 Tryz.func129 hq ⟨zs0,fun x=>x.1.1⟩ (fun x=>by kernel_rfl)
def W7:bE K:=bH D false 32 0 [1,2,15,16,17] [6] W8 (fun x=>M.xX x.1.1 x.1.2.2.1 x.1.2.2.2.1 ah x.1.2.2.2.2.1) iU
def W9(m:(List M.af)->(List M.af)->Option Bool):aE K:=cB 128 ⟨[.an U.Item,.an U.Item,.fn 129 []],[]⟩ (fun x=>m x.1.1 x.1.2.1)
def GV:Cx K:=bg [(129,.plain)] [W5 M.AS] [(4,W7)]
theorem Xa:aN GV:=aV aL _ (ae an5 ay)
theorem an6:bF GV (bp (bD Tryz.f128) 0) W7:=lk (cx:=GV) (sh:=W8) (run:=fun n x=>M.xX x.1.1 x.1.2.2.1 x.1.2.2.2.1 n x.1.2.2.2.2.1) (bG:=iV) Xa (fun m x=>by kernel_rfl) (ae ⟨cO,fun _ _ _=>rfl⟩ (ae ⟨bJ,fun _ _ _=>rfl⟩ ay))
theorem an7:au (W9 (M.AT)):=aS (cx:=GV) true Xa Tryz.func128 (hl1 an6) ⟨zs0,fun x=>x.1.1⟩ (fun x=>by kernel_rfl)
def Xb(m:M.aD->M.aD->Option Bool):aE K:=cB 127 ⟨[.el U.cz,.el U.cz],[]⟩ (fun x=>m x.1.1 x.1.2.1)
def Xc:Cx K:=bg [(128,.plain)] [W9 M.AT] []
theorem an8:aN Xc:=aV aL _ (ae an7 ay)
theorem an9:au (Xb (M.AU)):=aS (cx:=Xc) true an8 Tryz.func127 hq ⟨zs0,fun x=>x.1.1⟩ (fun x=>by kernel_rfl)
def Xd:bE K:=bH D false 32 0 [1,2,15,16,17] [6] Xe (fun x=>M.xY x.1.1 x.1.2.2.1 x.1.2.2.2.1 ah x.1.2.2.2.2.1) iU
def Xf(m:(List M.aD)->(List M.aD)->Option Bool):aE K:=cB 126 ⟨[.an U.cz,.an U.cz,.fn 127 []],[]⟩ (fun x=>m x.1.1 x.1.2.1)
def GX:Cx K:=bg [(127,.plain)] [Xb M.AU] [(4,Xd)]
theorem Xg:aN GX:=aV aL _ (ae an9 ay)
theorem aoa:bF GX (bp (bD Tryz.f126) 0) Xd:=lk (cx:=GX) (sh:=Xe) (run:=fun n x=>M.xY x.1.1 x.1.2.2.1 x.1.2.2.2.1 n x.1.2.2.2.2.1) (bG:=iV) Xg (fun m x=>by kernel_rfl) (ae ⟨cO,fun _ _ _=>rfl⟩ (ae ⟨bJ,fun _ _ _=>rfl⟩ ay))
theorem aob:au (Xf (M.AW)):=aS (cx:=GX) true Xg Tryz.func126 (hl1 aoa) ⟨zs0,fun x=>x.1.1⟩ (fun x=>by kernel_rfl)
def Xh:bE K:=bH D false 26 0 [0,1,12,13] [4] Xi (fun x=>M.xR x.1.1 x.1.2.1 x.1.2.2.1 ah x.1.2.2.2.1) iU
def Xj(m:(List M.aG)->(List M.aG)->Option Bool):aE K:=cB 132 Xk (fun x=>m x.1.1 x.1.2.1)
def GY:Cx K:=bg [] [] [(4,Xh)]
theorem Xl:aN GY:=aV aL _ ay
theorem aoc:bF GY (bp (bD Tryz.f132) 0) Xh:=lk (cx:=GY) (sh:=Xi) (run:=fun n x=>M.xR x.1.1 x.1.2.1 x.1.2.2.1 n x.1.2.2.2.1) (bG:=iV) Xl (fun m x=>by kernel_rfl) (ae ⟨cO,fun _ _ _=>rfl⟩ (ae ⟨bJ,fun _ _ _=>rfl⟩ ay))
theorem aod:au (Xj (M.AO)):=aS (cx:=GY) true Xl Tryz.func132 (hl1 aoc) ⟨zs0,fun x=>x.1.1⟩ (fun x=>by kernel_rfl)
def Xm(m:M.aM->M.aM->Option Bool):aE K:=cB 131 Xn (fun x=>m x.1.1 x.1.2.1)
def Xo:Cx K:=bg [(132,.plain)] [Xj M.AO] []
theorem aoe:aN Xo:=aV aL _ (ae aod ay)
theorem aof:au (Xm (M.AX)):=aS (cx:=Xo) true aoe Tryz.func131 hq ⟨zs0,fun x=>x.1.1⟩ (fun x=>by kernel_rfl)
def Xp:bE K:=bH D false 32 0 [1,2,15,16,17] [6] Xq (fun x=>M.xZ x.1.1 x.1.2.2.1 x.1.2.2.2.1 ah x.1.2.2.2.2.1) iU
def Xr(m:(List M.aM)->(List M.aM)->Option Bool):aE K:=cB 130 ⟨[.an U.cX,.an U.cX,.fn 131 []],[]⟩ (fun x=>m x.1.1 x.1.2.1)
def GZ:Cx K:=bg [(131,.plain)] [Xm M.AX] [(4,Xp)]
theorem Xs:aN GZ:=aV aL _ (ae aof ay)
theorem aog:bF GZ (bp (bD Tryz.f130) 0) Xp:=lk (cx:=GZ) (sh:=Xq) (run:=fun n x=>M.xZ x.1.1 x.1.2.2.1 x.1.2.2.2.1 n x.1.2.2.2.2.1) (bG:=iV) Xs (fun m x=>by kernel_rfl) (ae ⟨cO,fun _ _ _=>rfl⟩ (ae ⟨bJ,fun _ _ _=>rfl⟩ ay))
theorem aoh:au (Xr (M.AY)):=aS (cx:=GZ) true Xs Tryz.func130 (hl1 aog) ⟨zs0,fun x=>x.1.1⟩ (fun x=>by kernel_rfl)
def Xt(m:M.ai->M.ai->Option Bool):aE K:=cB 93 Oc (fun x=>m x.1.1 x.1.2.1)
def Xu:Cx K:=bg [(126,.plain),(130,.plain)] [Xf M.AW,Xr M.AY] []
theorem aoi:aN Xu:=aV aL _ (ae aob (ae aoh ay))
theorem aoj:au (Xt (M.AZ)):=aS (cx:=Xu) true aoi Tryz.func93 hq ⟨zs0,fun x=>x.1.1⟩ (fun x=>by kernel_rfl)
def Xv(m:M.ai->Option ((List UInt8)×Bool)):aE K:={f:=71,sh:=rq,R:=(List UInt8)×Bool,run:=fun x=>m x.1.1,dflt:=default,out:=fun r=>(Sh.enc D (.bz [.str,.bool]) (r.1,(r.2,())),aY.encs D [] ())}
def Xw:Cx K:=bg [(91,.plain),(92,.jG),(93,.plain)] [WQ M.sZ,Xx M.AI,Xt M.AZ] []
theorem aok:aN Xw:=aV aL _ (ae anX (ae aol (ae aoj ay)))
theorem aom:au (Xv (M.A5)):=aS (cx:=Xw) true aok Tryz.func71 hq ⟨⟨[.bz [.str,.bool]],[]⟩,fun x=>(x.1.1.1,x.1.1.2.1)⟩ (fun x=>by kernel_rfl)
def Xy(m:M.ai->Option Bool):aE K:=cB 54 rq (fun x=>m x.1.1)
def Xz:Cx K:=bg [(71,.plain)] [Xv M.A5] []
theorem aon:aN Xz:=aV aL _ (ae aom ay)
theorem aoo:au (Xy (M.vo)):=aS (cx:=Xz) true aon Tryz.func54 hq ⟨zs0,fun x=>x.1.1⟩ (fun x=>by kernel_rfl)
def aop(y:Bool⊕(M.af)){R:Type}(k:KT R):R:=match y with|.inl a0=>kk k Ex.ret G0 (((),(a0,())),((),()))|.inr a1=>kk k (Ex.exit 0) ⟨[.ptr 0 0,.any],[.el U.Item]⟩ (((),((),())),(a1,()))
def aoq:List (cn K ((Bool)⊕(M.af))):=[⟨Ex.ret,G0,fun x=>.inl x.1.2.1⟩,⟨(Ex.exit 0),⟨[.ptr 0 0,.any],[.el U.Item]⟩,fun x=>.inr (x.2.1)⟩]
def XA:bE K:=bH D false 48 1 [1,3] [1,2] ⟨[.ptr 0 0,iq0],[.el U.Item]⟩ (fun x=>M.x9 ah x.1.2.1 x.2.1) aop
def XB(m:M.af->Option Bool):aE K:=cB 80 GN (fun x=>m x.1.1)
def G5:Cx K:=bg [(103,.plain),(29,.plain)] [tJ M.A8,yt M.yu] [(4,XA)]
theorem XC:aN G5:=aV aL _ (ae amX (ae BU ay))
theorem aor:bF G5 (bp (bD Tryz.f80) 0) XA:=lk (cx:=G5) (sh:=⟨[.ptr 0 0,iq0],[.el U.Item]⟩) (run:=fun n x=>M.x9 n x.1.2.1 x.2.1) (bG:=aoq) XC (fun m x=>by kernel_rfl) (ae ⟨cO,fun _ _ _=>rfl⟩ (ae ⟨bJ,fun _ _ _=>rfl⟩ ay))
theorem aos:au (XB (M.Bg)):=aS (cx:=G5) true XC Tryz.func80 (hl1 aor) ⟨zs0,fun x=>x.1.1⟩ (fun x=>by kernel_rfl)
def aot(y:Bool⊕(Int×M.ai)){R:Type}(k:KT R):R:=match y with|.inl a0=>kk k Ex.ret G6 (((),((),(a0,()))),((),()))|.inr a1=>kk k (Ex.exit 2) G7 (((),(a1.1,((),()))),(a1.2,()))
def aou:List (cn K ((Bool)⊕(Int×M.ai))):=[⟨Ex.ret,G6,fun x=>.inl x.1.2.2.1⟩,⟨(Ex.exit 2),G7,fun x=>.inr ((x.1.2.1,x.2.1))⟩]
def XD:bE K:=bH D false 92 1 [1,3,4] [1,3,2] G8 (fun x=>M.yc x.1.2.1 x.2.1 ah x.1.2.2.1) aot
def aov(y:Bool⊕(M.ai)){R:Type}(k:KT R):R:=match y with|.inl a0=>kk k Ex.ret G0 (((),(a0,())),((),()))|.inr a1=>kk k (Ex.exit 0) ⟨[.ptr 0 0,.any],[.el U.aJ]⟩ (((),((),())),(a1,()))
def aow:List (cn K ((Bool)⊕(M.ai))):=[⟨Ex.ret,G0,fun x=>.inl x.1.2.1⟩,⟨(Ex.exit 0),⟨[.ptr 0 0,.any],[.el U.aJ]⟩,fun x=>.inr (x.2.1)⟩]
def XE:bE K:=bH D false 92 1 [1,3] [1,2] G9 (fun x=>M.yd ah x.1.2.1 x.2.1) aov
def aox(y:Bool⊕(Int×M.ai)){R:Type}(k:KT R):R:=match y with|.inl a0=>kk k Ex.ret G6 (((),((),(a0,()))),((),()))|.inr a1=>kk k (Ex.exit 6) G7 (((),(a1.1,((),()))),(a1.2,()))
def aoy:List (cn K ((Bool)⊕(Int×M.ai))):=[⟨Ex.ret,G6,fun x=>.inl x.1.2.2.1⟩,⟨(Ex.exit 6),G7,fun x=>.inr ((x.1.2.1,x.2.1))⟩]
def XF:bE K:=bH D false 92 1 [1,5,6] [1,5,2] G8 (fun x=>M.ye x.1.2.1 x.2.1 ah x.1.2.2.1) aox
def aoz(y:Bool⊕Unit){R:Type}(k:KT R):R:=match y with|.inl a0=>kk k Ex.ret ⟨[.bool],[.dead]⟩ ((a0,()),((),()))|.inr a1=>kk k (Ex.exit 4) Ha (((),()),((),()))
def aoA:List (cn K ((Bool)⊕Unit)):=[⟨Ex.ret,⟨[.bool],[.dead]⟩,fun x=>.inl x.1.1⟩,⟨(Ex.exit 4),Ha,fun x=>.inr (())⟩]
def XG:bE K:=bH D false 92 1 [1,5] [2] G9 (fun x=>M.yf ah x.1.2.1 x.2.1) aoz
def XH(m:M.ai->Option Bool):aE K:=cB 64 rq (fun x=>m x.1.1)
def pN:Cx K:=bg [(80,.plain),(29,.plain)] [XB M.Bg,yt M.yu] [(9,XD),(4,XE),(19,XF),(14,XG)]
theorem BY:aN pN:=aV aL _ (ae aos (ae BU ay))
theorem aoB:bF pN (bp (bp (bD Tryz.f64) 0) 0) XD:=lk (cx:=pN) (sh:=G8) (run:=fun n x=>M.yc x.1.2.1 x.2.1 n x.1.2.2.1) (bG:=aou) BY (fun m x=>by kernel_rfl) (ae ⟨cO,fun _ _ _=>rfl⟩ (ae ⟨bJ,fun _ _ _=>rfl⟩ ay))
theorem aoC:bF pN (bp (bp (bD Tryz.f64) 1) 0) XF:=lk (cx:=pN) (sh:=G8) (run:=fun n x=>M.ye x.1.2.1 x.2.1 n x.1.2.2.1) (bG:=aoy) BY (fun m x=>by kernel_rfl) (ae ⟨cO,fun _ _ _=>rfl⟩ (ae ⟨bJ,fun _ _ _=>rfl⟩ ay))
theorem aoD:bF pN (bp (bD Tryz.f64) 0) XE:=lk (cx:=pN) (sh:=G9) (run:=fun n x=>M.yd n x.1.2.1 x.2.1) (bG:=aow) BY (fun m x=>by kernel_rfl) (ae ⟨cO,fun _ _ _=>rfl⟩ (ae ⟨bJ,fun _ _ _=>rfl⟩ ay)) (hl:=(afH 1 (by kernel_rfl) (ju (.mk (by kernel_rfl) aoB))))
theorem aoE:bF pN (bp (bD Tryz.f64) 1) XG:=lk (cx:=pN) (sh:=G9) (run:=fun n x=>M.yf n x.1.2.1 x.2.1) (bG:=aoA) BY (fun m x=>by kernel_rfl) (ae ⟨cO,fun _ _ _=>rfl⟩ (ae ⟨bJ,fun _ _ _=>rfl⟩ ay)) (hl:=(afH 1 (by kernel_rfl) (ju (.mk (by kernel_rfl) aoC))))
theorem aoF:au (XH (M.s6)):=aS (cx:=pN) true BY Tryz.func64 (hl2 aoD aoE) ⟨zs0,fun x=>x.1.1⟩ (fun x=>by kernel_rfl)
def He(m:M.aQ->Option ((List UInt8))):aE K:=cS 33 yA (fun x=>m x.1.1)
theorem Oe:au (He (M.pn)):=aS (cx:=fy) true fG Tryz.func33 hq ⟨eZ,fun x=>x.1.1⟩ (fun x=>by kernel_rfl)
def aoG(y:(List UInt8)){R:Type}(k:KT R):R:=match y with|a0=>kk k (Ex.exit 1) yw ((a0,()),((),()))
def aoH:List (cn K ((List UInt8))):=[⟨(Ex.exit 1),yw,fun x=>x.1.1⟩]
def XI:bE K:=bH D false 118 1 [1,3,4] [3] Hg (fun x=>M.px ah x.1.2.1 x.1.2.2.1 x.2.1) aoG
def aoI(y:(List UInt8)×M.af){R:Type}(k:KT R):R:=match y with|a0=>kk k (Ex.exit 3) ⟨[.ptr 0 0,.str],[.el U.Item]⟩ (((),(a0.1,())),(a0.2,()))
def aoJ:List (cn K ((List UInt8)×M.af)):=[⟨(Ex.exit 3),⟨[.ptr 0 0,.str],[.el U.Item]⟩,fun x=>(x.1.2.1,x.2.1)⟩]
def XJ:bE K:=bH D false 118 1 [1,5,6] [1,5] Hg (fun x=>M.py ah x.1.2.1 x.1.2.2.1 x.2.1) aoI
def XK(m:M.af->Option ((List UInt8))):aE K:=cS 85 GN (fun x=>m x.1.1)
def yC:Cx K:=bg [(114,.plain),(33,.plain)] [jP M.x8,He M.pn] [(9,XI),(22,XJ)]
theorem Of:aN yC:=aV aL _ (ae ana (ae Oe ay))
theorem aoK:bF yC (bp (bD Tryz.f85) 0) XI:=lk (cx:=yC) (sh:=Hg) (run:=fun n x=>M.px n x.1.2.1 x.1.2.2.1 x.2.1) (bG:=aoH) Of (fun m x=>by kernel_rfl) (ae ⟨bJ,fun _ _ _=>rfl⟩ ay)
theorem aoL:bF yC (bp (bD Tryz.f85) 1) XJ:=lk (cx:=yC) (sh:=Hg) (run:=fun n x=>M.py n x.1.2.1 x.1.2.2.1 x.2.1) (bG:=aoJ) Of (fun m x=>by kernel_rfl) (ae ⟨bJ,fun _ _ _=>rfl⟩ ay)
theorem aoM:au (XK (M.Bh)):=aS (cx:=yC) true Of Tryz.func85 (hl2 aoK aoL) ⟨eZ,fun x=>x.1.1⟩ (fun x=>by kernel_rfl)
def aoN(y:(List UInt8)×Int×M.ai){R:Type}(k:KT R):R:=match y with|a0=>kk k (Ex.exit 2) tL (((),(a0.1,(a0.2.1,()))),(a0.2.2,()))
def aoO:List (cn K ((List UInt8)×Int×M.ai)):=[⟨(Ex.exit 2),tL,fun x=>(x.1.2.1,x.1.2.2.1,x.2.1)⟩]
def XL:bE K:=bH D false 116 1 [1,3,4,5] [1,3,4] Hh (fun x=>M.pD x.1.2.2.1 x.2.1 ah x.1.2.1 x.1.2.2.2.1) aoN
def aoP(y:(List UInt8)×M.ai){R:Type}(k:KT R):R:=match y with|a0=>kk k (Ex.exit 0) ⟨[.ptr 0 0,.str],[.el U.aJ]⟩ (((),(a0.1,())),(a0.2,()))
def aoQ:List (cn K ((List UInt8)×M.ai)):=[⟨(Ex.exit 0),⟨[.ptr 0 0,.str],[.el U.aJ]⟩,fun x=>(x.1.2.1,x.2.1)⟩]
def XM:bE K:=bH D false 116 1 [1,3,4] [1,3] tL (fun x=>M.pE ah x.1.2.1 x.1.2.2.1 x.2.1) aoP
def aoR(y:(List UInt8)×Int×M.ai){R:Type}(k:KT R):R:=match y with|a0=>kk k (Ex.exit 6) tL (((),(a0.1,(a0.2.1,()))),(a0.2.2,()))
def aoS:List (cn K ((List UInt8)×Int×M.ai)):=[⟨(Ex.exit 6),tL,fun x=>(x.1.2.1,x.1.2.2.1,x.2.1)⟩]
def XN:bE K:=bH D false 116 1 [1,3,6,7] [1,3,6] Hh (fun x=>M.pF x.1.2.2.1 x.2.1 ah x.1.2.1 x.1.2.2.2.1) aoR
def aoT(y:(List UInt8)){R:Type}(k:KT R):R:=match y with|a0=>kk k (Ex.exit 4) yw ((a0,()),((),()))
def aoU:List (cn K ((List UInt8))):=[⟨(Ex.exit 4),yw,fun x=>x.1.1⟩]
def XO:bE K:=bH D false 116 1 [1,3,6] [3] tL (fun x=>M.pG ah x.1.2.1 x.1.2.2.1 x.2.1) aoT
def XP(m:M.ai->Option ((List UInt8))):aE K:=cS 66 rq (fun x=>m x.1.1)
def pO:Cx K:=bg [(85,.plain),(86,.jG),(33,.plain)] [XK M.Bh,Og M.jC,He M.pn] [(7,XL),(3,XM),(16,XN),(12,XO)]
theorem BZ:aN pO:=aV aL _ (ae aoM (ae XQ (ae Oe ay)))
theorem aoV:bF pO (bp (bp (bD Tryz.f66) 0) 0) XL:=lk (cx:=pO) (sh:=Hh) (run:=fun n x=>M.pD x.1.2.2.1 x.2.1 n x.1.2.1 x.1.2.2.2.1) (bG:=aoO) BZ (fun m x=>by kernel_rfl) (ae ⟨bJ,fun _ _ _=>rfl⟩ ay)
theorem aoW:bF pO (bp (bp (bD Tryz.f66) 1) 0) XN:=lk (cx:=pO) (sh:=Hh) (run:=fun n x=>M.pF x.1.2.2.1 x.2.1 n x.1.2.1 x.1.2.2.2.1) (bG:=aoS) BZ (fun m x=>by kernel_rfl) (ae ⟨bJ,fun _ _ _=>rfl⟩ ay)
theorem aoX:bF pO (bp (bD Tryz.f66) 0) XM:=lk (cx:=pO) (sh:=tL) (run:=fun n x=>M.pE n x.1.2.1 x.1.2.2.1 x.2.1) (bG:=aoQ) BZ (fun m x=>by kernel_rfl) (ae ⟨bJ,fun _ _ _=>rfl⟩ ay) (hl:=(afH 1 (by kernel_rfl) (ju (.mk (by kernel_rfl) aoV))))
theorem aoY:bF pO (bp (bD Tryz.f66) 1) XO:=lk (cx:=pO) (sh:=tL) (run:=fun n x=>M.pG n x.1.2.1 x.1.2.2.1 x.2.1) (bG:=aoU) BZ (fun m x=>by kernel_rfl) (ae ⟨bJ,fun _ _ _=>rfl⟩ ay) (hl:=(afH 1 (by kernel_rfl) (ju (.mk (by kernel_rfl) aoW))))
theorem aoZ:au (XP (M.pg)):=aS (cx:=pO) true BZ Tryz.func66 (hl2 aoX aoY) ⟨eZ,fun x=>x.1.1⟩ (fun x=>by kernel_rfl)
def ao0(y:Bool⊕(M.af×M.af)){R:Type}(k:KT R):R:=match y with|.inl a0=>kk k Ex.ret yx (((),((),(a0,()))),((),((),())))|.inr a1=>kk k (Ex.exit 0) XR (((),((),((),()))),(a1.1,(a1.2,())))
def ao1:List (cn K ((Bool)⊕(M.af×M.af))):=[⟨Ex.ret,yx,fun x=>.inl x.1.2.2.1⟩,⟨(Ex.exit 0),XR,fun x=>.inr ((x.2.1,x.2.2.1))⟩]
def XS:bE K:=bH D false 113 2 [2,3,5] [2,3,4] Hj (fun x=>M.sS ah x.1.2.2.1 x.2.1 x.2.2.1) ao0
def XT:bE K:=bH D false 113 2 [2,3,6] [4] Hj (fun x=>M.sU ah x.1.2.2.1 x.2.1 x.2.2.1) VX
def XU(m:M.af->M.af->Option Bool):aE K:=cB 87 Oa (fun x=>m x.1.1 x.1.2.1)
def yD:Cx K:=bg [(115,.plain)] [ru M.A2] [(4,XS),(9,XT)]
theorem Oh:aN yD:=aV aL _ (ae anh ay)
theorem ao2:bF yD (bp (bD Tryz.f87) 0) XS:=lk (cx:=yD) (sh:=Hj) (run:=fun n x=>M.sS n x.1.2.2.1 x.2.1 x.2.2.1) (bG:=ao1) Oh (fun m x=>by kernel_rfl) (ae ⟨cO,fun _ _ _=>rfl⟩ (ae ⟨bJ,fun _ _ _=>rfl⟩ ay))
theorem ao3:bF yD (bp (bD Tryz.f87) 1) XT:=lk (cx:=yD) (sh:=Hj) (run:=fun n x=>M.sU n x.1.2.2.1 x.2.1 x.2.2.1) (bG:=VY) Oh (fun m x=>by kernel_rfl) (ae ⟨cO,fun _ _ _=>rfl⟩ (ae ⟨bJ,fun _ _ _=>rfl⟩ ay))
theorem ao4:au (XU (M.A3)):=aS (cx:=yD) true Oh Tryz.func87 (hl2 ao2 ao3) ⟨zs0,fun x=>x.1.1⟩ (fun x=>by kernel_rfl)
def ao5(y:Bool⊕(Int×M.ai×M.ai)){R:Type}(k:KT R):R:=match y with|.inl a0=>kk k Ex.ret Hk (((),((),((),(a0,())))),((),((),())))|.inr a1=>kk k (Ex.exit 2) Hl (((),((),(a1.1,((),())))),(a1.2.1,(a1.2.2,())))
def ao6:List (cn K ((Bool)⊕(Int×M.ai×M.ai))):=[⟨Ex.ret,Hk,fun x=>.inl x.1.2.2.2.1⟩,⟨(Ex.exit 2),Hl,fun x=>.inr ((x.1.2.2.1,x.2.1,x.2.2.1))⟩]
def XV:bE K:=bH D false 174 2 [2,3,5,6] [2,3,5,4] Hm (fun x=>M.sW x.1.2.2.1 x.2.1 x.2.2.1 ah x.1.2.2.2.1) ao5
def ao7(y:Bool⊕(M.ai×M.ai)){R:Type}(k:KT R):R:=match y with|.inl a0=>kk k Ex.ret yx (((),((),(a0,()))),((),((),())))|.inr a1=>kk k (Ex.exit 0) XW (((),((),((),()))),(a1.1,(a1.2,())))
def ao8:List (cn K ((Bool)⊕(M.ai×M.ai))):=[⟨Ex.ret,yx,fun x=>.inl x.1.2.2.1⟩,⟨(Ex.exit 0),XW,fun x=>.inr ((x.2.1,x.2.2.1))⟩]
def XX:bE K:=bH D false 174 2 [2,3,5] [2,3,4] Hq (fun x=>M.sV ah x.1.2.2.1 x.2.1 x.2.2.1) ao7
def ao9(y:Bool⊕(Int×M.ai×M.ai)){R:Type}(k:KT R):R:=match y with|.inl a0=>kk k Ex.ret Hk (((),((),((),(a0,())))),((),((),())))|.inr a1=>kk k (Ex.exit 6) Hl (((),((),(a1.1,((),())))),(a1.2.1,(a1.2.2,())))
def apa:List (cn K ((Bool)⊕(Int×M.ai×M.ai))):=[⟨Ex.ret,Hk,fun x=>.inl x.1.2.2.2.1⟩,⟨(Ex.exit 6),Hl,fun x=>.inr ((x.1.2.2.1,x.2.1,x.2.2.1))⟩]
def XY:bE K:=bH D false 174 2 [2,3,7,8] [2,3,7,4] Hm (fun x=>M.sY x.1.2.2.1 x.2.1 x.2.2.1 ah x.1.2.2.2.1) ao9
def apb(y:Bool⊕Unit){R:Type}(k:KT R):R:=match y with|.inl a0=>kk k Ex.ret Gy ((a0,()),((),((),())))|.inr a1=>kk k (Ex.exit 4) Gz (((),()),((),((),())))
def apc:List (cn K ((Bool)⊕Unit)):=[⟨Ex.ret,Gy,fun x=>.inl x.1.1⟩,⟨(Ex.exit 4),Gz,fun x=>.inr (())⟩]
def XZ:bE K:=bH D false 174 2 [2,3,7] [4] Hq (fun x=>M.sX ah x.1.2.2.1 x.2.1 x.2.2.1) apb
def X0(m:M.ai->M.ai->Option Bool):aE K:=cB 67 Oc (fun x=>m x.1.1 x.1.2.1)
def pP:Cx K:=bg [(87,.plain)] [XU M.A3] [(9,XV),(4,XX),(19,XY),(14,XZ)]
theorem B0:aN pP:=aV aL _ (ae ao4 ay)
theorem apd:bF pP (bp (bp (bD Tryz.f67) 0) 0) XV:=lk (cx:=pP) (sh:=Hm) (run:=fun n x=>M.sW x.1.2.2.1 x.2.1 x.2.2.1 n x.1.2.2.2.1) (bG:=ao6) B0 (fun m x=>by kernel_rfl) (ae ⟨cO,fun _ _ _=>rfl⟩ (ae ⟨bJ,fun _ _ _=>rfl⟩ ay))
theorem ape:bF pP (bp (bp (bD Tryz.f67) 1) 0) XY:=lk (cx:=pP) (sh:=Hm) (run:=fun n x=>M.sY x.1.2.2.1 x.2.1 x.2.2.1 n x.1.2.2.2.1) (bG:=apa) B0 (fun m x=>by kernel_rfl) (ae ⟨cO,fun _ _ _=>rfl⟩ (ae ⟨bJ,fun _ _ _=>rfl⟩ ay))
theorem apf:bF pP (bp (bD Tryz.f67) 0) XX:=lk (cx:=pP) (sh:=Hq) (run:=fun n x=>M.sV n x.1.2.2.1 x.2.1 x.2.2.1) (bG:=ao8) B0 (fun m x=>by kernel_rfl) (ae ⟨cO,fun _ _ _=>rfl⟩ (ae ⟨bJ,fun _ _ _=>rfl⟩ ay)) (hl:=(afH 1 (by kernel_rfl) (ju (.mk (by kernel_rfl) apd))))
theorem apg:bF pP (bp (bD Tryz.f67) 1) XZ:=lk (cx:=pP) (sh:=Hq) (run:=fun n x=>M.sX n x.1.2.2.1 x.2.1 x.2.2.1) (bG:=apc) B0 (fun m x=>by kernel_rfl) (ae ⟨cO,fun _ _ _=>rfl⟩ (ae ⟨bJ,fun _ _ _=>rfl⟩ ay)) (hl:=(afH 1 (by kernel_rfl) (ju (.mk (by kernel_rfl) ape))))
theorem aph:au (X0 (M.A4)):=aS (cx:=pP) true B0 Tryz.func67 (hl2 apf apg) ⟨zs0,fun x=>x.1.1⟩ (fun x=>by kernel_rfl)
def X1(m:M.ai->Option Bool):aE K:=cB 47 rq (fun x=>m x.1.1)
def X2:Cx K:=bg [(64,.plain),(66,.plain),(65,.jG),(67,.plain)] [XH M.s6,XP M.pg,Vz M.sK,X0 M.A4] []
theorem api:aN X2:=aV aL _ (ae aoF (ae aoZ (ae amS (ae aph ay))))
theorem apj:au (X1 (M.qW)):=aS (cx:=X2) true api Tryz.func47 hq ⟨zs0,fun x=>x.1.1⟩ (fun x=>by kernel_rfl)
def oe(m:M.aa->Int->Option Int):aE K:=cI 100 N2 (fun x=>m x.1.1 x.1.2.1)
def X3(d4:M.aa->Int->Option Int):bE K:=bH D false 27 0 [0,1,5] [1,4] X4 (fun x=>M.vH d4 x.1.1 ah x.1.2.1 x.1.2.2.1) oh
def X5(m:(List M.aa)->Int->Option Int):aE K:=cI 144 ⟨[.an U.Term,iq0],[]⟩ (fun x=>m x.1.1 x.1.2.1)
def Hr(d4:M.aa->Int->Option Int):Cx K:=bg [(100,.plain)] [oe d4] [(5,X3 d4)]
theorem X6(d4:M.aa->Int->Option Int)(pQ:au (oe d4)):aN (Hr d4):=aV aL _ (ae pQ ay)
theorem apk(d4:M.aa->Int->Option Int)(pQ:au (oe d4)):bF (Hr d4) (bp (bD Tryz.f144) 0) (X3 d4):=lk (cx:=Hr d4) (sh:=X4) (run:=fun n x=>M.vH d4 x.1.1 n x.1.2.1 x.1.2.2.1) (bG:=oi) (X6 d4 pQ) (fun m x=>by kernel_rfl) (ae ⟨cO,fun _ _ _=>rfl⟩ (ae ⟨bJ,fun _ _ _=>rfl⟩ ay))
theorem apl(d4:M.aa->Int->Option Int)(pQ:au (oe d4)):au (X5 (M.B6 d4)):=fR (cx:=Hr d4) (fz:=true) aL (X6 d4 pQ) fP ⟨Tryz.func144,by kernel_rfl⟩ (hl1 (apk d4 pQ)) ⟨zs2,fun x=>x.1.1⟩ (fun x=>rfl) (fun x=>by kernel_rfl)
def X7(d4:M.aa->Int->Option Int):Cx K:=bg [(143,.plain),(144,.plain)] [X8 M.B7,X5 (M.B6 d4)] []
theorem apm(d4:M.aa->Int->Option Int)(pQ:au (oe d4)):aN (X7 d4):=aV aL _ (ae apn (ae (apl d4 pQ) ay))
theorem apo(d4:M.aa->Int->Option Int)(pQ:au (oe d4)):au (oe (M.Ht d4)):=fR (cx:=X7 d4) (fz:=true) aL (apm d4 pQ) fP ⟨Tryz.func100,by kernel_rfl⟩ hq ⟨zs2,fun x=>x.1.1⟩ (fun x=>rfl) (fun x=>by kernel_rfl)
theorem X9:∀n,au (oe (M.vI n))|0=>nE fun _=>rfl|n+1=>apo (M.vI n) (X9 n)
theorem Ya:au (oe (M.yE)):=X9 ah
def Yb(m:M.aA->Int->Option Int):aE K:=cI 145 ⟨[.el U.cY,iq0],[]⟩ (fun x=>m x.1.1 x.1.2.1)
def Yc:Cx K:=bg [(100,.plain)] [oe M.yE] []
theorem apq:aN Yc:=aV aL _ (ae Ya ay)
theorem apr:au (Yb (M.B8)):=aS (cx:=Yc) true apq Tryz.func145 hq ⟨zs2,fun x=>x.1.1⟩ (fun x=>by kernel_rfl)
def Yd:bE K:=bH D false 27 0 [0,1,5] [1,4] Ye (fun x=>M.vJ x.1.1 ah x.1.2.1 x.1.2.2.1) oh
def Yf(m:(List M.aA)->Int->Option Int):aE K:=cI 101 ⟨[.an U.cY,iq0],[]⟩ (fun x=>m x.1.1 x.1.2.1)
def Hu:Cx K:=bg [(145,.plain)] [Yb M.B8] [(5,Yd)]
theorem Yg:aN Hu:=aV aL _ (ae apr ay)
theorem aps:bF Hu (bp (bD Tryz.f101) 0) Yd:=lk (cx:=Hu) (sh:=Ye) (run:=fun n x=>M.vJ x.1.1 n x.1.2.1 x.1.2.2.1) (bG:=oi) Yg (fun m x=>by kernel_rfl) (ae ⟨cO,fun _ _ _=>rfl⟩ (ae ⟨bJ,fun _ _ _=>rfl⟩ ay))
theorem apt:au (Yf (M.B9)):=aS (cx:=Hu) true Yg Tryz.func101 (hl1 aps) ⟨zs2,fun x=>x.1.1⟩ (fun x=>by kernel_rfl)
def Hw(m:M.aQ->Int->Option Int):aE K:=cI 5 ⟨[.el U.Path,iq0],[]⟩ (fun x=>m x.1.1 x.1.2.1)
theorem Oi:au (Hw (M.ry)):=aS (cx:=fy) true fG Tryz.func5 hq ⟨zs2,fun x=>x.1.1⟩ (fun x=>by kernel_rfl)
def Yh(m:M.aO->Int->Option Int):aE K:=cI 146 ⟨[.el U.de,iq0],[]⟩ (fun x=>m x.1.1 x.1.2.1)
theorem apu:au (Yh (M.Cb)):=aS (cx:=fy) true fG Tryz.func146 hq ⟨zs2,fun x=>x.1.1⟩ (fun x=>by kernel_rfl)
def Yi:bE K:=bH D false 27 0 [0,1,5] [1,4] Yj (fun x=>M.vK x.1.1 ah x.1.2.1 x.1.2.2.1) oh
def Yk(m:(List M.aO)->Int->Option Int):aE K:=cI 102 ⟨[.an U.de,iq0],[]⟩ (fun x=>m x.1.1 x.1.2.1)
def Hy:Cx K:=bg [(146,.plain)] [Yh M.Cb] [(5,Yi)]
theorem Yl:aN Hy:=aV aL _ (ae apu ay)
theorem apv:bF Hy (bp (bD Tryz.f102) 0) Yi:=lk (cx:=Hy) (sh:=Yj) (run:=fun n x=>M.vK x.1.1 n x.1.2.1 x.1.2.2.1) (bG:=oi) Yl (fun m x=>by kernel_rfl) (ae ⟨cO,fun _ _ _=>rfl⟩ (ae ⟨bJ,fun _ _ _=>rfl⟩ ay))
theorem apw:au (Yk (M.Cc)):=aS (cx:=Hy) true Yl Tryz.func102 (hl1 apv) ⟨zs2,fun x=>x.1.1⟩ (fun x=>by kernel_rfl)
def Ym(m:M.af->Int->Option Int):aE K:=cI 78 ⟨[.el U.Item,iq0],[]⟩ (fun x=>m x.1.1 x.1.2.1)
def Yn:Cx K:=bg [(100,.plain),(101,.plain),(5,.plain),(102,.plain)] [oe M.yE,Yf M.B9,Hw M.ry,Yk M.Cc] []
theorem apx:aN Yn:=aV aL _ (ae Ya (ae apt (ae Oi (ae apw ay))))
theorem apy:au (Ym (M.Cd)):=aS (cx:=Yn) true apx Tryz.func78 hq ⟨zs2,fun x=>x.1.1⟩ (fun x=>by kernel_rfl)
def Yo:bE K:=bH D false 27 0 [0,1,5] [1,4] Yp (fun x=>M.vL x.1.1 ah x.1.2.1 x.1.2.2.1) oh
def Yq(m:(List M.af)->Int->Option Int):aE K:=cI 62 ⟨[.an U.Item,iq0],[]⟩ (fun x=>m x.1.1 x.1.2.1)
def Hz:Cx K:=bg [(78,.plain)] [Ym M.Cd] [(5,Yo)]
theorem Yr:aN Hz:=aV aL _ (ae apy ay)
theorem apz:bF Hz (bp (bD Tryz.f62) 0) Yo:=lk (cx:=Hz) (sh:=Yp) (run:=fun n x=>M.vL x.1.1 n x.1.2.1 x.1.2.2.1) (bG:=oi) Yr (fun m x=>by kernel_rfl) (ae ⟨cO,fun _ _ _=>rfl⟩ (ae ⟨bJ,fun _ _ _=>rfl⟩ ay))
theorem apA:au (Yq (M.Ce)):=aS (cx:=Hz) true Yr Tryz.func62 (hl1 apz) ⟨zs2,fun x=>x.1.1⟩ (fun x=>by kernel_rfl)
def Ys(m:M.aD->Int->Option Int):aE K:=cI 45 ⟨[.el U.cz,iq0],[]⟩ (fun x=>m x.1.1 x.1.2.1)
def Yt:Cx K:=bg [(62,.plain)] [Yq M.Ce] []
theorem apB:aN Yt:=aV aL _ (ae apA ay)
theorem apC:au (Ys (M.Cf)):=aS (cx:=Yt) true apB Tryz.func45 hq ⟨zs2,fun x=>x.1.1⟩ (fun x=>by kernel_rfl)
def Yu:bE K:=bH D false 27 0 [0,1,5] [1,4] Yv (fun x=>M.vM x.1.1 ah x.1.2.1 x.1.2.2.1) oh
def Yw(m:(List M.aD)->Int->Option Int):aE K:=cI 26 ⟨[.an U.cz,iq0],[]⟩ (fun x=>m x.1.1 x.1.2.1)
def HA:Cx K:=bg [(45,.plain)] [Ys M.Cf] [(5,Yu)]
theorem Yx:aN HA:=aV aL _ (ae apC ay)
theorem apD:bF HA (bp (bD Tryz.f26) 0) Yu:=lk (cx:=HA) (sh:=Yv) (run:=fun n x=>M.vM x.1.1 n x.1.2.1 x.1.2.2.1) (bG:=oi) Yx (fun m x=>by kernel_rfl) (ae ⟨cO,fun _ _ _=>rfl⟩ (ae ⟨bJ,fun _ _ _=>rfl⟩ ay))
theorem apE:au (Yw (M.Ci)):=aS (cx:=HA) true Yx Tryz.func26 (hl1 apD) ⟨zs2,fun x=>x.1.1⟩ (fun x=>by kernel_rfl)
def Yy(m:M.aG->Int->Option Int):aE K:=cI 79 ⟨[.el U.dt,iq0],[]⟩ (fun x=>m x.1.1 x.1.2.1)
def Yz:Cx K:=bg [(5,.plain)] [Hw M.ry] []
theorem apF:aN Yz:=aV aL _ (ae Oi ay)
theorem apG:au (Yy (M.Cj)):=aS (cx:=Yz) true apF Tryz.func79 hq ⟨zs2,fun x=>x.1.1⟩ (fun x=>by kernel_rfl)
def YA:bE K:=bH D false 27 0 [0,1,5] [1,4] YB (fun x=>M.vN x.1.1 ah x.1.2.1 x.1.2.2.1) oh
def YC(m:(List M.aG)->Int->Option Int):aE K:=cI 63 ⟨[.an U.dt,iq0],[]⟩ (fun x=>m x.1.1 x.1.2.1)
def HD:Cx K:=bg [(79,.plain)] [Yy M.Cj] [(5,YA)]
theorem YD:aN HD:=aV aL _ (ae apG ay)
theorem apH:bF HD (bp (bD Tryz.f63) 0) YA:=lk (cx:=HD) (sh:=YB) (run:=fun n x=>M.vN x.1.1 n x.1.2.1 x.1.2.2.1) (bG:=oi) YD (fun m x=>by kernel_rfl) (ae ⟨cO,fun _ _ _=>rfl⟩ (ae ⟨bJ,fun _ _ _=>rfl⟩ ay))
theorem apI:au (YC (M.Cm)):=aS (cx:=HD) true YD Tryz.func63 (hl1 apH) ⟨zs2,fun x=>x.1.1⟩ (fun x=>by kernel_rfl)
def YE(m:M.aM->Int->Option Int):aE K:=cI 46 ⟨[.el U.cX,iq0],[]⟩ (fun x=>m x.1.1 x.1.2.1)
def YF:Cx K:=bg [(63,.plain)] [YC M.Cm] []
theorem apJ:aN YF:=aV aL _ (ae apI ay)
theorem apK:au (YE (M.CB)):=aS (cx:=YF) true apJ Tryz.func46 hq ⟨zs2,fun x=>x.1.1⟩ (fun x=>by kernel_rfl)
def YG:bE K:=bH D false 27 0 [0,1,5] [1,4] YH (fun x=>M.vO x.1.1 ah x.1.2.1 x.1.2.2.1) oh
def YI(m:(List M.aM)->Int->Option Int):aE K:=cI 27 ⟨[.an U.cX,iq0],[]⟩ (fun x=>m x.1.1 x.1.2.1)
def HE:Cx K:=bg [(46,.plain)] [YE M.CB] [(5,YG)]
theorem YJ:aN HE:=aV aL _ (ae apK ay)
theorem apL:bF HE (bp (bD Tryz.f27) 0) YG:=lk (cx:=HE) (sh:=YH) (run:=fun n x=>M.vO x.1.1 n x.1.2.1 x.1.2.2.1) (bG:=oi) YJ (fun m x=>by kernel_rfl) (ae ⟨cO,fun _ _ _=>rfl⟩ (ae ⟨bJ,fun _ _ _=>rfl⟩ ay))
theorem apM:au (YI (M.CC)):=aS (cx:=HE) true YJ Tryz.func27 (hl1 apL) ⟨zs2,fun x=>x.1.1⟩ (fun x=>by kernel_rfl)
def YK(m:M.ai->Int->Option Int):aE K:=cI 13 ⟨[.el U.aJ,iq0],[]⟩ (fun x=>m x.1.1 x.1.2.1)
def YL:Cx K:=bg [(26,.plain),(27,.plain)] [Yw M.Ci,YI M.CC] []
theorem apN:aN YL:=aV aL _ (ae apE (ae apM ay))
theorem apO:au (YK (M.CE)):=aS (cx:=YL) true apN Tryz.func13 hq ⟨zs2,fun x=>x.1.1⟩ (fun x=>by kernel_rfl)
def oj(m:M.aa->Option (Int×(List UInt8)×(List (List UInt8))×(List M.aa))):aE K:={f:=116,sh:=⟨[.el U.Term],[]⟩,R:=Int×(List UInt8)×(List (List UInt8))×(List M.aa),run:=fun x=>m x.1.1,dflt:=default,out:=fun r=>(Sh.enc D (.agg [iq0,.str,.own 0,.own 1]) (r.1,(r.2.1,((),((),())))),aY.encs D [.arr U.str,.tree U.Term] (r.2.2.1,(r.2.2.2,())))}
def apP(y:(List M.aa)){R:Type}(k:KT R):R:=match y with|a0=>kk k (Ex.exit 0) ⟨[.own 1],[.dead,.tree U.Term]⟩ (((),()),((),(a0,())))
def apQ:List (cn K ((List M.aa))):=[⟨(Ex.exit 0),⟨[.own 1],[.dead,.tree U.Term]⟩,fun x=>x.2.2.1⟩]
def YM(ej:M.aa->Option (Int×(List UInt8)×(List (List UInt8))×(List M.aa))):bE K:=bH D false 23 1 [0,3,4] [3] YN (fun x=>M.tM ej x.1.1 ah x.1.2.2.1 x.2.2.1) apP
def YO(m:(List M.aa)->Option ((List M.aa))):aE K:={f:=163,sh:=⟨[.an U.Term],[]⟩,R:=(List M.aa),run:=fun x=>m x.1.1,dflt:=default,out:=fun r=>(Sh.enc D (.own 0) (),aY.encs D [.tree U.Term] (r,()))}
def HG(ej:M.aa->Option (Int×(List UInt8)×(List (List UInt8))×(List M.aa))):Cx K:={eM with mode:=ef .plain [(116,.fresh)],ik:=[[some U.Term]],deep:=fun c=>eI (D.cells c (K.zero c)),call:=callOf D [oj ej],loop:=dR [(3,YM ej)]}
theorem YP(ej:M.aa->Option (Int×(List UInt8)×(List (List UInt8))×(List M.aa)))(pR:au (oj ej)):aN (HG ej):=aV aL _ (ae pR ay)
theorem apR(ej:M.aa->Option (Int×(List UInt8)×(List (List UInt8))×(List M.aa)))(pR:au (oj ej)):bF (HG ej) (bp (bD Tryz.f163) 0) (YM ej):=lk (cx:=HG ej) (sh:=YN) (run:=fun n x=>M.tM ej x.1.1 n x.1.2.2.1 x.2.2.1) (bG:=apQ) (YP ej pR) (fun m x=>by kernel_rfl) (ae ⟨bJ,fun _ _ _=>rfl⟩ ay)
theorem apS(ej:M.aa->Option (Int×(List UInt8)×(List (List UInt8))×(List M.aa)))(pR:au (oj ej)):au (YO (M.CG ej)):=fR (cx:=HG ej) (fz:=false) aL (YP ej pR) fP ⟨Tryz.func163,by kernel_rfl⟩ (hl1 (apR ej pR)) ⟨⟨[.own 0],[.tree U.Term]⟩,fun x=>x.2.1⟩ (fun x=>rfl) (fun x=>by kernel_rfl)
def YQ(ej:M.aa->Option (Int×(List UInt8)×(List (List UInt8))×(List M.aa))):Cx K:={eM with mode:=ef .plain [(162,.fresh),(163,.fresh)],ik:=[[none,none,some U.str,some U.Term]],deep:=fun c=>eI (D.cells c (K.zero c)),call:=callOf D [YR M.CH,YO (M.CG ej)],loop:=dR []}
theorem apT(ej:M.aa->Option (Int×(List UInt8)×(List (List UInt8))×(List M.aa)))(pR:au (oj ej)):aN (YQ ej):=aV aL _ (ae apU (ae (apS ej pR) ay))
theorem apV(ej:M.aa->Option (Int×(List UInt8)×(List (List UInt8))×(List M.aa)))(pR:au (oj ej)):au (oj (M.HH ej)):=fR (cx:=YQ ej) (fz:=false) aL (apT ej pR) fP ⟨Tryz.func116,by kernel_rfl⟩ hq ⟨⟨[.agg [iq0,.str,.own 0,.own 1]],[.arr U.str,.tree U.Term]⟩,fun x=>(x.1.1.1,x.1.1.2.1,x.2.1,x.2.2.1)⟩ (fun x=>rfl) (fun x=>by kernel_rfl)
theorem YS:∀n,au (oj (M.vP n))|0=>nE fun _=>rfl|n+1=>apV (M.vP n) (YS n)
theorem YT:au (oj (M.yF)):=YS ah
def YU(m:M.aA->Option ((List UInt8)×Int×(List UInt8)×(List (List UInt8))×(List M.aa))):aE K:={f:=164,sh:=⟨[.el U.cY],[]⟩,R:=(List UInt8)×Int×(List UInt8)×(List (List UInt8))×(List M.aa),run:=fun x=>m x.1.1,dflt:=default,out:=fun r=>(Sh.enc D (.agg [.str,iq0,.str,.own 0,.own 1]) (r.1,(r.2.1,(r.2.2.1,((),((),()))))),aY.encs D [.arr U.str,.tree U.Term] (r.2.2.2.1,(r.2.2.2.2,())))}
def YV:Cx K:={eM with mode:=ef .plain [(116,.fresh)],ik:=[[none,none,none,some U.str,some U.Term]],deep:=fun c=>eI (D.cells c (K.zero c)),call:=callOf D [oj M.yF],loop:=dR []}
theorem apW:aN YV:=aV aL _ (ae YT ay)
theorem apX:au (YU (M.CJ)):=aS (cx:=YV) false apW Tryz.func164 hq ⟨⟨[.agg [.str,iq0,.str,.own 0,.own 1]],[.arr U.str,.tree U.Term]⟩,fun x=>(x.1.1.1,x.1.1.2.1,x.1.1.2.2.1,x.2.1,x.2.2.1)⟩ (fun x=>by kernel_rfl)
def apY(y:(List M.aA)){R:Type}(k:KT R):R:=match y with|a0=>kk k (Ex.exit 0) ⟨[.own 1],[.dead,.tree U.cY]⟩ (((),()),((),(a0,())))
def apZ:List (cn K ((List M.aA))):=[⟨(Ex.exit 0),⟨[.own 1],[.dead,.tree U.cY]⟩,fun x=>x.2.2.1⟩]
def YW:bE K:=bH D false 23 1 [0,3,4] [3] YX (fun x=>M.tN x.1.1 ah x.1.2.2.1 x.2.2.1) apY
def YY(m:(List M.aA)->Option ((List M.aA))):aE K:={f:=117,sh:=⟨[.an U.cY],[]⟩,R:=(List M.aA),run:=fun x=>m x.1.1,dflt:=default,out:=fun r=>(Sh.enc D (.own 0) (),aY.encs D [.tree U.cY] (r,()))}
def HJ:Cx K:={eM with mode:=ef .plain [(164,.fresh)],ik:=[[some U.cY]],deep:=fun c=>eI (D.cells c (K.zero c)),call:=callOf D [YU M.CJ],loop:=dR [(3,YW)]}
theorem YZ:aN HJ:=aV aL _ (ae apX ay)
theorem ap0:bF HJ (bp (bD Tryz.f117) 0) YW:=lk (cx:=HJ) (sh:=YX) (run:=fun n x=>M.tN x.1.1 n x.1.2.2.1 x.2.2.1) (bG:=apZ) YZ (fun m x=>by kernel_rfl) (ae ⟨bJ,fun _ _ _=>rfl⟩ ay)
theorem ap1:au (YY (M.CL)):=aS (cx:=HJ) false YZ Tryz.func117 (hl1 ap0) ⟨⟨[.own 0],[.tree U.cY]⟩,fun x=>x.2.1⟩ (fun x=>by kernel_rfl)
def HK(m:M.aQ->Option (M.aQ)):aE K:={f:=8,sh:=yA,R:=M.aQ,run:=fun x=>m x.1.1,dflt:=default,out:=fun r=>(Sh.enc D (.el U.Path) r,aY.encs D [] ())}
def Oj:Cx K:={eM with mode:=ef .plain [],ik:=[[]],deep:=fun c=>eI (D.cells c (K.zero c)),call:=callOf D [],loop:=dR []}
theorem Y0:aN Oj:=aV aL _ ay
theorem Ol:au (HK (M.yG)):=aS (cx:=Oj) false Y0 Tryz.func8 hq ⟨yA,fun x=>x.1.1⟩ (fun x=>by kernel_rfl)
def Y1(m:M.aO->Option (M.aO)):aE K:={f:=165,sh:=HM,R:=M.aO,run:=fun x=>m x.1.1,dflt:=default,out:=fun r=>(Sh.enc D (.el U.de) r,aY.encs D [] ())}
theorem ap2:au (Y1 (M.HO)):=aS (cx:=Oj) false Y0 Tryz.func165 hq ⟨HM,fun x=>x.1.1⟩ (fun x=>by kernel_rfl)
def ap3(y:(List M.aO)){R:Type}(k:KT R):R:=match y with|a0=>kk k (Ex.exit 0) ⟨[.own 1],[.dead,.arr U.de]⟩ (((),()),((),(a0,())))
def ap4:List (cn K ((List M.aO))):=[⟨(Ex.exit 0),⟨[.own 1],[.dead,.arr U.de]⟩,fun x=>x.2.2.1⟩]
def Y2:bE K:=bH D false 23 1 [0,3,4] [3] Y3 (fun x=>M.tO x.1.1 ah x.1.2.2.1 x.2.2.1) ap3
def Y4(m:(List M.aO)->Option ((List M.aO))):aE K:={f:=118,sh:=⟨[.an U.de],[]⟩,R:=(List M.aO),run:=fun x=>m x.1.1,dflt:=default,out:=fun r=>(Sh.enc D (.own 0) (),aY.encs D [.arr U.de] (r,()))}
def HQ:Cx K:={eM with mode:=ef .plain [(165,.fresh)],ik:=[[some U.de]],deep:=fun c=>eI (D.cells c (K.zero c)),call:=callOf D [Y1 M.HO],loop:=dR [(3,Y2)]}
theorem Y5:aN HQ:=aV aL _ (ae ap2 ay)
theorem ap5:bF HQ (bp (bD Tryz.f118) 0) Y2:=lk (cx:=HQ) (sh:=Y3) (run:=fun n x=>M.tO x.1.1 n x.1.2.2.1 x.2.2.1) (bG:=ap4) Y5 (fun m x=>by kernel_rfl) (ae ⟨bJ,fun _ _ _=>rfl⟩ ay)
theorem ap6:au (Y4 (M.CM)):=aS (cx:=HQ) false Y5 Tryz.func118 (hl1 ap5) ⟨⟨[.own 0],[.arr U.de]⟩,fun x=>x.2.1⟩ (fun x=>by kernel_rfl)
def Y6(m:M.af->Option (Int×(List UInt8)×Int×(List UInt8)×Bool×(List UInt8)×(List UInt8)×(List UInt8)×(List (List UInt8))×(List M.aa)×(List M.aA)×(List M.aO))):aE K:={f:=89,sh:=GN,R:=Int×(List UInt8)×Int×(List UInt8)×Bool×(List UInt8)×(List UInt8)×(List UInt8)×(List (List UInt8))×(List M.aa)×(List M.aA)×(List M.aO),run:=fun x=>m x.1.1,dflt:=default,out:=fun r=>(Sh.enc D (.agg [iq0,.str,iq0,.str,.own 0,.own 1,.own 2,.bool,.str,.str,.str,.own 3]) (r.1,(r.2.1,(r.2.2.1,(r.2.2.2.1,((),((),((),(r.2.2.2.2.1,(r.2.2.2.2.2.1,(r.2.2.2.2.2.2.1,(r.2.2.2.2.2.2.2.1,((),())))))))))))),aY.encs D [.arr U.str,.tree U.Term,.tree U.cY,.arr U.de] (r.2.2.2.2.2.2.2.2.1,(r.2.2.2.2.2.2.2.2.2.1,(r.2.2.2.2.2.2.2.2.2.2.1,(r.2.2.2.2.2.2.2.2.2.2.2,())))))}
def Y7:Cx K:={eM with mode:=ef .plain [(116,.fresh),(117,.fresh),(8,.fresh),(118,.fresh)],ik:=[[none,none,none,none,some U.str,some U.Term,some U.cY,none,none,none,none,some U.de]],deep:=fun c=>eI (D.cells c (K.zero c)),call:=callOf D [oj M.yF,YY M.CL,HK M.yG,Y4 M.CM],loop:=dR []}
theorem ap7:aN Y7:=aV aL _ (ae YT (ae ap1 (ae Ol (ae ap6 ay))))
theorem ap8:au (Y6 (M.CN)):=aS (cx:=Y7) false ap7 Tryz.func89 hq ⟨⟨[.agg [iq0,.str,iq0,.str,.own 0,.own 1,.own 2,.bool,.str,.str,.str,.own 3]],[.arr U.str,.tree U.Term,.tree U.cY,.arr U.de]⟩,fun x=>(x.1.1.1,x.1.1.2.1,x.1.1.2.2.1,x.1.1.2.2.2.1,x.1.1.2.2.2.2.2.2.2.1,x.1.1.2.2.2.2.2.2.2.2.1,x.1.1.2.2.2.2.2.2.2.2.2.1,x.1.1.2.2.2.2.2.2.2.2.2.2.1,x.2.1,x.2.2.1,x.2.2.2.1,x.2.2.2.2.1)⟩ (fun x=>by kernel_rfl)
def ap9(y:(List M.af)){R:Type}(k:KT R):R:=match y with|a0=>kk k (Ex.exit 0) ⟨[.own 1],[.dead,.tree U.Item]⟩ (((),()),((),(a0,())))
def aqa:List (cn K ((List M.af))):=[⟨(Ex.exit 0),⟨[.own 1],[.dead,.tree U.Item]⟩,fun x=>x.2.2.1⟩]
def Y8:bE K:=bH D false 23 1 [0,3,4] [3] Y9 (fun x=>M.tP x.1.1 ah x.1.2.2.1 x.2.2.1) ap9
def Za(m:(List M.af)->Option ((List M.af))):aE K:={f:=69,sh:=⟨[.an U.Item],[]⟩,R:=(List M.af),run:=fun x=>m x.1.1,dflt:=default,out:=fun r=>(Sh.enc D (.own 0) (),aY.encs D [.tree U.Item] (r,()))}
def HS:Cx K:={eM with mode:=ef .plain [(89,.fresh)],ik:=[[some U.Item]],deep:=fun c=>eI (D.cells c (K.zero c)),call:=callOf D [Y6 M.CN],loop:=dR [(3,Y8)]}
theorem Zb:aN HS:=aV aL _ (ae ap8 ay)
theorem aqb:bF HS (bp (bD Tryz.f69) 0) Y8:=lk (cx:=HS) (sh:=Y9) (run:=fun n x=>M.tP x.1.1 n x.1.2.2.1 x.2.2.1) (bG:=aqa) Zb (fun m x=>by kernel_rfl) (ae ⟨bJ,fun _ _ _=>rfl⟩ ay)
theorem aqc:au (Za (M.CO)):=aS (cx:=HS) false Zb Tryz.func69 (hl1 aqb) ⟨⟨[.own 0],[.tree U.Item]⟩,fun x=>x.2.1⟩ (fun x=>by kernel_rfl)
def Zc(m:M.aD->Option ((List UInt8)×(List M.af))):aE K:={f:=52,sh:=⟨[.el U.cz],[]⟩,R:=(List UInt8)×(List M.af),run:=fun x=>m x.1.1,dflt:=default,out:=fun r=>(Sh.enc D (.agg [.str,.own 0]) (r.1,((),())),aY.encs D [.tree U.Item] (r.2,()))}
def Zd:Cx K:={eM with mode:=ef .plain [(69,.fresh)],ik:=[[none,some U.Item]],deep:=fun c=>eI (D.cells c (K.zero c)),call:=callOf D [Za M.CO],loop:=dR []}
theorem aqd:aN Zd:=aV aL _ (ae aqc ay)
theorem aqe:au (Zc (M.CP)):=aS (cx:=Zd) false aqd Tryz.func52 hq ⟨⟨[.agg [.str,.own 0]],[.tree U.Item]⟩,fun x=>(x.1.1.1,x.2.1)⟩ (fun x=>by kernel_rfl)
def aqf(y:(List M.aD)){R:Type}(k:KT R):R:=match y with|a0=>kk k (Ex.exit 0) ⟨[.own 1],[.dead,.tree U.cz]⟩ (((),()),((),(a0,())))
def aqg:List (cn K ((List M.aD))):=[⟨(Ex.exit 0),⟨[.own 1],[.dead,.tree U.cz]⟩,fun x=>x.2.2.1⟩]
def Ze:bE K:=bH D false 23 1 [0,3,4] [3] Zf (fun x=>M.tQ x.1.1 ah x.1.2.2.1 x.2.2.1) aqf
def Zg(m:(List M.aD)->Option ((List M.aD))):aE K:={f:=34,sh:=⟨[.an U.cz],[]⟩,R:=(List M.aD),run:=fun x=>m x.1.1,dflt:=default,out:=fun r=>(Sh.enc D (.own 0) (),aY.encs D [.tree U.cz] (r,()))}
def HU:Cx K:={eM with mode:=ef .plain [(52,.fresh)],ik:=[[some U.cz]],deep:=fun c=>eI (D.cells c (K.zero c)),call:=callOf D [Zc M.CP],loop:=dR [(3,Ze)]}
theorem Zh:aN HU:=aV aL _ (ae aqe ay)
theorem aqh:bF HU (bp (bD Tryz.f34) 0) Ze:=lk (cx:=HU) (sh:=Zf) (run:=fun n x=>M.tQ x.1.1 n x.1.2.2.1 x.2.2.1) (bG:=aqg) Zh (fun m x=>by kernel_rfl) (ae ⟨bJ,fun _ _ _=>rfl⟩ ay)
theorem aqi:au (Zg (M.CQ)):=aS (cx:=HU) false Zh Tryz.func34 (hl1 aqh) ⟨⟨[.own 0],[.tree U.cz]⟩,fun x=>x.2.1⟩ (fun x=>by kernel_rfl)
def Zi(m:M.aG->Option (M.aG)):aE K:={f:=90,sh:=⟨[.el U.dt],[]⟩,R:=M.aG,run:=fun x=>m x.1.1,dflt:=default,out:=fun r=>(Sh.enc D (.el U.dt) r,aY.encs D [] ())}
def Zj:Cx K:={eM with mode:=ef .plain [(8,.fresh)],ik:=[[]],deep:=fun c=>eI (D.cells c (K.zero c)),call:=callOf D [HK M.yG],loop:=dR []}
theorem aqj:aN Zj:=aV aL _ (ae Ol ay)
theorem aqk:au (Zi (M.HV)):=aS (cx:=Zj) false aqj Tryz.func90 hq ⟨⟨[.el U.dt],[]⟩,fun x=>x.1.1⟩ (fun x=>by kernel_rfl)
def aql(y:(List M.aG)){R:Type}(k:KT R):R:=match y with|a0=>kk k (Ex.exit 0) ⟨[.own 1],[.dead,.arr U.dt]⟩ (((),()),((),(a0,())))
def aqm:List (cn K ((List M.aG))):=[⟨(Ex.exit 0),⟨[.own 1],[.dead,.arr U.dt]⟩,fun x=>x.2.2.1⟩]
def Zk:bE K:=bH D false 23 1 [0,3,4] [3] Zl (fun x=>M.tR x.1.1 ah x.1.2.2.1 x.2.2.1) aql
def Zm(m:(List M.aG)->Option ((List M.aG))):aE K:={f:=70,sh:=⟨[.an U.dt],[]⟩,R:=(List M.aG),run:=fun x=>m x.1.1,dflt:=default,out:=fun r=>(Sh.enc D (.own 0) (),aY.encs D [.arr U.dt] (r,()))}
def HY:Cx K:={eM with mode:=ef .plain [(90,.fresh)],ik:=[[some U.dt]],deep:=fun c=>eI (D.cells c (K.zero c)),call:=callOf D [Zi M.HV],loop:=dR [(3,Zk)]}
theorem Zn:aN HY:=aV aL _ (ae aqk ay)
theorem aqn:bF HY (bp (bD Tryz.f70) 0) Zk:=lk (cx:=HY) (sh:=Zl) (run:=fun n x=>M.tR x.1.1 n x.1.2.2.1 x.2.2.1) (bG:=aqm) Zn (fun m x=>by kernel_rfl) (ae ⟨bJ,fun _ _ _=>rfl⟩ ay)
theorem aqo:au (Zm (M.CS)):=aS (cx:=HY) false Zn Tryz.func70 (hl1 aqn) ⟨⟨[.own 0],[.arr U.dt]⟩,fun x=>x.2.1⟩ (fun x=>by kernel_rfl)
def Zo(m:M.aM->Option ((List UInt8)×(List M.aG))):aE K:={f:=53,sh:=⟨[.el U.cX],[]⟩,R:=(List UInt8)×(List M.aG),run:=fun x=>m x.1.1,dflt:=default,out:=fun r=>(Sh.enc D (.agg [.str,.own 0]) (r.1,((),())),aY.encs D [.arr U.dt] (r.2,()))}
def Zp:Cx K:={eM with mode:=ef .plain [(70,.fresh)],ik:=[[none,some U.dt]],deep:=fun c=>eI (D.cells c (K.zero c)),call:=callOf D [Zm M.CS],loop:=dR []}
theorem aqp:aN Zp:=aV aL _ (ae aqo ay)
theorem aqr:au (Zo (M.CU)):=aS (cx:=Zp) false aqp Tryz.func53 hq ⟨⟨[.agg [.str,.own 0]],[.arr U.dt]⟩,fun x=>(x.1.1.1,x.2.1)⟩ (fun x=>by kernel_rfl)
def aqs(y:(List M.aM)){R:Type}(k:KT R):R:=match y with|a0=>kk k (Ex.exit 0) ⟨[.own 1],[.dead,.tree U.cX]⟩ (((),()),((),(a0,())))
def aqt:List (cn K ((List M.aM))):=[⟨(Ex.exit 0),⟨[.own 1],[.dead,.tree U.cX]⟩,fun x=>x.2.2.1⟩]
def Zq:bE K:=bH D false 23 1 [0,3,4] [3] Zr (fun x=>M.tU x.1.1 ah x.1.2.2.1 x.2.2.1) aqs
def Zs(m:(List M.aM)->Option ((List M.aM))):aE K:={f:=35,sh:=⟨[.an U.cX],[]⟩,R:=(List M.aM),run:=fun x=>m x.1.1,dflt:=default,out:=fun r=>(Sh.enc D (.own 0) (),aY.encs D [.tree U.cX] (r,()))}
def HZ:Cx K:={eM with mode:=ef .plain [(53,.fresh)],ik:=[[some U.cX]],deep:=fun c=>eI (D.cells c (K.zero c)),call:=callOf D [Zo M.CU],loop:=dR [(3,Zq)]}
theorem Zt:aN HZ:=aV aL _ (ae aqr ay)
theorem aqu:bF HZ (bp (bD Tryz.f35) 0) Zq:=lk (cx:=HZ) (sh:=Zr) (run:=fun n x=>M.tU x.1.1 n x.1.2.2.1 x.2.2.1) (bG:=aqt) Zt (fun m x=>by kernel_rfl) (ae ⟨bJ,fun _ _ _=>rfl⟩ ay)
theorem aqv:au (Zs (M.CV)):=aS (cx:=HZ) false Zt Tryz.func35 (hl1 aqu) ⟨⟨[.own 0],[.tree U.cX]⟩,fun x=>x.2.1⟩ (fun x=>by kernel_rfl)
def Zu(m:M.ai->Option ((List UInt8)×(List UInt8)×(List M.aD)×(List M.aM))):aE K:={f:=17,sh:=rq,R:=(List UInt8)×(List UInt8)×(List M.aD)×(List M.aM),run:=fun x=>m x.1.1,dflt:=default,out:=fun r=>(Sh.enc D (.agg [.str,.str,.own 0,.own 1]) (r.1,(r.2.1,((),((),())))),aY.encs D [.tree U.cz,.tree U.cX] (r.2.2.1,(r.2.2.2,())))}
def Zv:Cx K:={eM with mode:=ef .plain [(34,.fresh),(35,.fresh)],ik:=[[none,none,some U.cz,some U.cX]],deep:=fun c=>eI (D.cells c (K.zero c)),call:=callOf D [Zg M.CQ,Zs M.CV],loop:=dR []}
theorem aqw:aN Zv:=aV aL _ (ae aqi (ae aqv ay))
theorem aqx:au (Zu (M.CW)):=aS (cx:=Zv) false aqw Tryz.func17 hq ⟨⟨[.agg [.str,.str,.own 0,.own 1]],[.tree U.cz,.tree U.cX]⟩,fun x=>(x.1.1.1,x.1.1.2.1,x.2.1,x.2.2.1)⟩ (fun x=>by kernel_rfl)
def om(m:M.aa->M.aa->Option Bool):aE K:=cB 140 N3 (fun x=>m x.1.1 x.1.2.1)
def Zw(d5:M.aa->M.aa->Option Bool):bE K:=bH D false 27 0 [0,1,5] [4] Zx (fun x=>M.vQ d5 x.1.1 x.1.2.1 ah x.1.2.2.1) iU
def Zy(m:(List M.aa)->(List M.aa)->Option Bool):aE K:=cB 193 ⟨[.an U.Term,.an U.Term],[]⟩ (fun x=>m x.1.1 x.1.2.1)
def H3(d5:M.aa->M.aa->Option Bool):Cx K:=bg [(140,.plain)] [om d5] [(4,Zw d5)]
theorem Zz(d5:M.aa->M.aa->Option Bool)(pS:au (om d5)):aN (H3 d5):=aV aL _ (ae pS ay)
theorem aqy(d5:M.aa->M.aa->Option Bool)(pS:au (om d5)):bF (H3 d5) (bp (bD Tryz.f193) 0) (Zw d5):=lk (cx:=H3 d5) (sh:=Zx) (run:=fun n x=>M.vQ d5 x.1.1 x.1.2.1 n x.1.2.2.1) (bG:=iV) (Zz d5 pS) (fun m x=>by kernel_rfl) (ae ⟨cO,fun _ _ _=>rfl⟩ (ae ⟨bJ,fun _ _ _=>rfl⟩ ay))
theorem aqz(d5:M.aa->M.aa->Option Bool)(pS:au (om d5)):au (Zy (M.CX d5)):=fR (cx:=H3 d5) (fz:=true) aL (Zz d5 pS) fP ⟨Tryz.func193,by kernel_rfl⟩ (hl1 (aqy d5 pS)) ⟨zs0,fun x=>x.1.1⟩ (fun x=>rfl) (fun x=>by kernel_rfl)
def ZA(d5:M.aa->M.aa->Option Bool):Cx K:=bg [(192,.plain),(193,.plain)] [ZB M.CY,Zy (M.CX d5)] []
theorem aqA(d5:M.aa->M.aa->Option Bool)(pS:au (om d5)):aN (ZA d5):=aV aL _ (ae aqB (ae (aqz d5 pS) ay))
theorem aqC(d5:M.aa->M.aa->Option Bool)(pS:au (om d5)):au (om (M.H4 d5)):=fR (cx:=ZA d5) (fz:=true) aL (aqA d5 pS) fP ⟨Tryz.func140,by kernel_rfl⟩ hq ⟨zs0,fun x=>x.1.1⟩ (fun x=>rfl) (fun x=>by kernel_rfl)
theorem ZC:∀n,au (om (M.vR n))|0=>nE fun _=>rfl|n+1=>aqC (M.vR n) (ZC n)
theorem ZD:au (om (M.yH)):=ZC ah
def ZE(m:M.aA->M.aA->Option Bool):aE K:=cB 194 WW (fun x=>m x.1.1 x.1.2.1)
def ZF:Cx K:=bg [(140,.plain)] [om M.yH] []
theorem aqD:aN ZF:=aV aL _ (ae ZD ay)
theorem aqE:au (ZE (M.CZ)):=aS (cx:=ZF) true aqD Tryz.func194 hq ⟨zs0,fun x=>x.1.1⟩ (fun x=>by kernel_rfl)
def ZG:bE K:=bH D false 27 0 [0,1,5] [4] ZH (fun x=>M.vS x.1.1 x.1.2.1 ah x.1.2.2.1) iU
def ZI(m:(List M.aA)->(List M.aA)->Option Bool):aE K:=cB 141 ⟨[.an U.cY,.an U.cY],[]⟩ (fun x=>m x.1.1 x.1.2.1)
def H5:Cx K:=bg [(194,.plain)] [ZE M.CZ] [(4,ZG)]
theorem ZJ:aN H5:=aV aL _ (ae aqE ay)
theorem aqF:bF H5 (bp (bD Tryz.f141) 0) ZG:=lk (cx:=H5) (sh:=ZH) (run:=fun n x=>M.vS x.1.1 x.1.2.1 n x.1.2.2.1) (bG:=iV) ZJ (fun m x=>by kernel_rfl) (ae ⟨cO,fun _ _ _=>rfl⟩ (ae ⟨bJ,fun _ _ _=>rfl⟩ ay))
theorem aqG:au (ZI (M.C0)):=aS (cx:=H5) true ZJ Tryz.func141 (hl1 aqF) ⟨zs0,fun x=>x.1.1⟩ (fun x=>by kernel_rfl)
def Om(m:M.aQ->M.aQ->Option Bool):aE K:=cB 24 ⟨[.el U.Path,.el U.Path],[]⟩ (fun x=>m x.1.1 x.1.2.1)
theorem ZK:au (Om (M.tV)):=aS (cx:=fy) true fG Tryz.func24 hq ⟨zs0,fun x=>x.1.1⟩ (fun x=>by kernel_rfl)
def ZL(m:M.aO->M.aO->Option Bool):aE K:=cB 195 ⟨[.el U.de,.el U.de],[]⟩ (fun x=>m x.1.1 x.1.2.1)
theorem aqH:au (ZL (M.C2)):=aS (cx:=fy) true fG Tryz.func195 hq ⟨zs0,fun x=>x.1.1⟩ (fun x=>by kernel_rfl)
def ZM:bE K:=bH D false 27 0 [0,1,5] [4] ZN (fun x=>M.vT x.1.1 x.1.2.1 ah x.1.2.2.1) iU
def ZO(m:(List M.aO)->(List M.aO)->Option Bool):aE K:=cB 142 ⟨[.an U.de,.an U.de],[]⟩ (fun x=>m x.1.1 x.1.2.1)
def H6:Cx K:=bg [(195,.plain)] [ZL M.C2] [(4,ZM)]
theorem ZP:aN H6:=aV aL _ (ae aqH ay)
theorem aqI:bF H6 (bp (bD Tryz.f142) 0) ZM:=lk (cx:=H6) (sh:=ZN) (run:=fun n x=>M.vT x.1.1 x.1.2.1 n x.1.2.2.1) (bG:=iV) ZP (fun m x=>by kernel_rfl) (ae ⟨cO,fun _ _ _=>rfl⟩ (ae ⟨bJ,fun _ _ _=>rfl⟩ ay))
theorem aqJ:au (ZO (M.C3)):=aS (cx:=H6) true ZP Tryz.func142 (hl1 aqI) ⟨zs0,fun x=>x.1.1⟩ (fun x=>by kernel_rfl)
def ZQ(m:M.af->M.af->Option Bool):aE K:=cB 98 Oa (fun x=>m x.1.1 x.1.2.1)
def ZR:Cx K:=bg [(140,.plain),(141,.plain),(24,.plain),(142,.plain)] [om M.yH,ZI M.C0,Om M.tV,ZO M.C3] []
theorem aqK:aN ZR:=aV aL _ (ae ZD (ae aqG (ae ZK (ae aqJ ay))))
theorem aqL:au (ZQ (M.C4)):=aS (cx:=ZR) true aqK Tryz.func98 hq ⟨zs0,fun x=>x.1.1⟩ (fun x=>by kernel_rfl)
def ZS:bE K:=bH D false 27 0 [0,1,5] [4] ZT (fun x=>M.vU x.1.1 x.1.2.1 ah x.1.2.2.1) iU
def ZU(m:(List M.af)->(List M.af)->Option Bool):aE K:=cB 76 ⟨[.an U.Item,.an U.Item],[]⟩ (fun x=>m x.1.1 x.1.2.1)
def H7:Cx K:=bg [(98,.plain)] [ZQ M.C4] [(4,ZS)]
theorem ZV:aN H7:=aV aL _ (ae aqL ay)
theorem aqM:bF H7 (bp (bD Tryz.f76) 0) ZS:=lk (cx:=H7) (sh:=ZT) (run:=fun n x=>M.vU x.1.1 x.1.2.1 n x.1.2.2.1) (bG:=iV) ZV (fun m x=>by kernel_rfl) (ae ⟨cO,fun _ _ _=>rfl⟩ (ae ⟨bJ,fun _ _ _=>rfl⟩ ay))
theorem aqN:au (ZU (M.C5)):=aS (cx:=H7) true ZV Tryz.func76 (hl1 aqM) ⟨zs0,fun x=>x.1.1⟩ (fun x=>by kernel_rfl)
def ZW(m:M.aD->M.aD->Option Bool):aE K:=cB 60 ⟨[.el U.cz,.el U.cz],[]⟩ (fun x=>m x.1.1 x.1.2.1)
def ZX:Cx K:=bg [(76,.plain)] [ZU M.C5] []
theorem aqO:aN ZX:=aV aL _ (ae aqN ay)
theorem aqP:au (ZW (M.C6)):=aS (cx:=ZX) true aqO Tryz.func60 hq ⟨zs0,fun x=>x.1.1⟩ (fun x=>by kernel_rfl)
def ZY:bE K:=bH D false 27 0 [0,1,5] [4] ZZ (fun x=>M.vV x.1.1 x.1.2.1 ah x.1.2.2.1) iU
def Z0(m:(List M.aD)->(List M.aD)->Option Bool):aE K:=cB 43 ⟨[.an U.cz,.an U.cz],[]⟩ (fun x=>m x.1.1 x.1.2.1)
def H8:Cx K:=bg [(60,.plain)] [ZW M.C6] [(4,ZY)]
theorem Z1:aN H8:=aV aL _ (ae aqP ay)
theorem aqQ:bF H8 (bp (bD Tryz.f43) 0) ZY:=lk (cx:=H8) (sh:=ZZ) (run:=fun n x=>M.vV x.1.1 x.1.2.1 n x.1.2.2.1) (bG:=iV) Z1 (fun m x=>by kernel_rfl) (ae ⟨cO,fun _ _ _=>rfl⟩ (ae ⟨bJ,fun _ _ _=>rfl⟩ ay))
theorem aqR:au (Z0 (M.C7)):=aS (cx:=H8) true Z1 Tryz.func43 (hl1 aqQ) ⟨zs0,fun x=>x.1.1⟩ (fun x=>by kernel_rfl)
def Z2(m:M.aG->M.aG->Option Bool):aE K:=cB 99 ⟨[.el U.dt,.el U.dt],[]⟩ (fun x=>m x.1.1 x.1.2.1)
def On:Cx K:=bg [(24,.plain)] [Om M.tV] []
theorem Z3:aN On:=aV aL _ (ae ZK ay)
theorem aqS:au (Z2 (M.C9)):=aS (cx:=On) true Z3 Tryz.func99 hq ⟨zs0,fun x=>x.1.1⟩ (fun x=>by kernel_rfl)
def Z4:bE K:=bH D false 27 0 [0,1,5] [4] Z5 (fun x=>M.vW x.1.1 x.1.2.1 ah x.1.2.2.1) iU
def Z6(m:(List M.aG)->(List M.aG)->Option Bool):aE K:=cB 77 Xk (fun x=>m x.1.1 x.1.2.1)
def H9:Cx K:=bg [(99,.plain)] [Z2 M.C9] [(4,Z4)]
theorem Z7:aN H9:=aV aL _ (ae aqS ay)
theorem aqT:bF H9 (bp (bD Tryz.f77) 0) Z4:=lk (cx:=H9) (sh:=Z5) (run:=fun n x=>M.vW x.1.1 x.1.2.1 n x.1.2.2.1) (bG:=iV) Z7 (fun m x=>by kernel_rfl) (ae ⟨cO,fun _ _ _=>rfl⟩ (ae ⟨bJ,fun _ _ _=>rfl⟩ ay))
theorem aqU:au (Z6 (M.Da)):=aS (cx:=H9) true Z7 Tryz.func77 (hl1 aqT) ⟨zs0,fun x=>x.1.1⟩ (fun x=>by kernel_rfl)
def Z8(m:M.aM->M.aM->Option Bool):aE K:=cB 61 Xn (fun x=>m x.1.1 x.1.2.1)
def Z9:Cx K:=bg [(77,.plain)] [Z6 M.Da] []
theorem aqV:aN Z9:=aV aL _ (ae aqU ay)
theorem aqW:au (Z8 (M.Db)):=aS (cx:=Z9) true aqV Tryz.func61 hq ⟨zs0,fun x=>x.1.1⟩ (fun x=>by kernel_rfl)
def aab:bE K:=bH D false 27 0 [0,1,5] [4] aac (fun x=>M.vX x.1.1 x.1.2.1 ah x.1.2.2.1) iU
def aad(m:(List M.aM)->(List M.aM)->Option Bool):aE K:=cB 44 ⟨[.an U.cX,.an U.cX],[]⟩ (fun x=>m x.1.1 x.1.2.1)
def Ia:Cx K:=bg [(61,.plain)] [Z8 M.Db] [(4,aab)]
theorem aae:aN Ia:=aV aL _ (ae aqW ay)
theorem aqX:bF Ia (bp (bD Tryz.f44) 0) aab:=lk (cx:=Ia) (sh:=aac) (run:=fun n x=>M.vX x.1.1 x.1.2.1 n x.1.2.2.1) (bG:=iV) aae (fun m x=>by kernel_rfl) (ae ⟨cO,fun _ _ _=>rfl⟩ (ae ⟨bJ,fun _ _ _=>rfl⟩ ay))
theorem aqY:au (aad (M.Dc)):=aS (cx:=Ia) true aae Tryz.func44 (hl1 aqX) ⟨zs0,fun x=>x.1.1⟩ (fun x=>by kernel_rfl)
def aaf(m:M.ai->M.ai->Option Bool):aE K:=cB 25 Oc (fun x=>m x.1.1 x.1.2.1)
def aag:Cx K:=bg [(43,.plain),(44,.plain)] [Z0 M.C7,aad M.Dc] []
theorem aqZ:aN aag:=aV aL _ (ae aqR (ae aqY ay))
theorem aq0:au (aaf (M.Df)):=aS (cx:=aag) true aqZ Tryz.func25 hq ⟨zs0,fun x=>x.1.1⟩ (fun x=>by kernel_rfl)
def aq1(y:Int⊕((List M.ai)×Int)){R:Type}(k:KT R):R:=match y with|.inl a0=>kk k Ex.ret ⟨[.any,.any,iq0],[]⟩ (((),((),(a0,()))),())|.inr a1=>kk k (Ex.exit 2) ⟨[.an U.aJ,iq0,.any],[]⟩ ((a1.1,(a1.2,((),()))),())
def aq2:List (cn K ((Int)⊕((List M.ai)×Int))):=[⟨Ex.ret,⟨[.any,.any,iq0],[]⟩,fun x=>.inl x.1.2.2.1⟩,⟨(Ex.exit 2),⟨[.an U.aJ,iq0,.any],[]⟩,fun x=>.inr ((x.1.1,x.1.2.1))⟩]
def aah:bE K:=bH D false 49 0 [0,3,4] [0,3,2] Ib (fun x=>M.vx x.1.1 x.1.2.1 ah x.1.2.2.1) aq1
def aai:bE K:=bH D false 49 0 [0,3] [2] Dh (fun x=>M.vy ah x.1.1 x.1.2.1) Ic
def aaj(m:(List M.ai)->Option Int):aE K:=cI 28 Di (fun x=>m x.1.1)
def yI:Cx K:=bg [(47,.plain)] [X1 M.qW] [(9,aah),(4,aai)]
theorem Oo:aN yI:=aV aL _ (ae apj ay)
theorem aq3:bF yI (bp (bp (bD Tryz.f28) 0) 0) aah:=lk (cx:=yI) (sh:=Ib) (run:=fun n x=>M.vx x.1.1 x.1.2.1 n x.1.2.2.1) (bG:=aq2) Oo (fun m x=>by kernel_rfl) (ae ⟨cO,fun _ _ _=>rfl⟩ (ae ⟨bJ,fun _ _ _=>rfl⟩ ay))
theorem aq4:bF yI (bp (bD Tryz.f28) 0) aai:=lk (cx:=yI) (sh:=Dh) (run:=fun n x=>M.vy n x.1.1 x.1.2.1) (bG:=Ie) Oo (fun m x=>by kernel_rfl) (ae ⟨cO,fun _ _ _=>rfl⟩ (ae ⟨bJ,fun _ _ _=>rfl⟩ ay)) (hl:=(afH 1 (by kernel_rfl) (ju (.mk (by kernel_rfl) aq3))))
theorem aq5:au (aaj (M.Bq)):=aS (cx:=yI) true Oo Tryz.func28 (hl1 aq4) ⟨zs2,fun x=>x.1.1⟩ (fun x=>by kernel_rfl)
def aak(m:M.ai->M.ai->Option Bool):aE K:=cB 56 ⟨[.el U.aJ,.rp U.aJ 0],[]⟩ (fun x=>m x.1.1 x.1.2.1)
theorem aq6:au (aak (M.aal)):=aS (cx:=fy) true fG Tryz.func56 hq ⟨zs0,fun x=>x.1.1⟩ (fun x=>by kernel_rfl)
def aam:bE K:=bH D false 19 0 [0,1,7,8] [4] aan (fun x=>M.yg x.1.1 x.1.2.1.1 x.1.2.2.1 ah x.1.2.2.2.1) Ic
def aao(m:(List M.ai)->M.ai->Option Int):aE K:=cI 72 aap (fun x=>m x.1.1 x.1.2.1.1)
def Ig:Cx K:=bg [(56,.plain)] [aak M.aal] [(2,aam)]
theorem aaq:aN Ig:=aV aL _ (ae aq6 ay)
theorem aq7:bF Ig (bp (bD Tryz.f72) 0) aam:=lk (cx:=Ig) (sh:=aan) (run:=fun n x=>M.yg x.1.1 x.1.2.1.1 x.1.2.2.1 n x.1.2.2.2.1) (bG:=Ie) aaq (fun m x=>by kernel_rfl) (ae ⟨cO,fun _ _ _=>rfl⟩ (ae ⟨bJ,fun _ _ _=>rfl⟩ ay))
theorem aq8:au (aao (M.F6)):=aS (cx:=Ig) true aaq Tryz.func72 (hl1 aq7) ⟨zs2,fun x=>x.1.1⟩ (fun x=>by kernel_rfl)
def aar(m:(List M.ai)->M.ai->Option Bool):aE K:=cB 55 aap (fun x=>m x.1.1 x.1.2.1.1)
def aas:Cx K:=bg [(72,.plain)] [aao M.F6] []
theorem aq9:aN aas:=aV aL _ (ae aq8 ay)
theorem ara:au (aar (M.Bn)):=aS (cx:=aas) true aq9 Tryz.func55 hq ⟨zs0,fun x=>x.1.1⟩ (fun x=>by kernel_rfl)
def aat:bE K:=bH D false 26 0 [0,8,9,10] [2] aau (fun x=>M.vv x.1.1 x.1.2.1 x.1.2.2.1 ah x.1.2.2.2.1) Ic
def aav(m:(List M.ai)->Option Int):aE K:=cI 36 Di (fun x=>m x.1.1)
def Ih:Cx K:=bg [(54,.plain),(55,.plain)] [Xy M.vo,aar M.Bn] [(4,aat)]
theorem aaw:aN Ih:=aV aL _ (ae aoo (ae ara ay))
theorem arb:bF Ih (bp (bD Tryz.f36) 0) aat:=lk (cx:=Ih) (sh:=aau) (run:=fun n x=>M.vv x.1.1 x.1.2.1 x.1.2.2.1 n x.1.2.2.2.1) (bG:=Ie) aaw (fun m x=>by kernel_rfl) (ae ⟨cO,fun _ _ _=>rfl⟩ (ae ⟨bJ,fun _ _ _=>rfl⟩ ay))
theorem arc:au (aav (M.Bo)):=aS (cx:=Ih) true aaw Tryz.func36 (hl1 arb) ⟨zs2,fun x=>x.1.1⟩ (fun x=>by kernel_rfl)
def aax(m:(List UInt8)->(List UInt8)->Option Bool):aE K:=cB 50 vY (fun x=>m x.1.1 x.1.2.1)
theorem ard:au (aax (M.Bt)):=aS (cx:=Ii) true Oq Tryz.func50 hq ⟨zs0,fun x=>x.1.1⟩ (fun x=>by kernel_rfl)
def aay(m:(List UInt8)->(List UInt8)->Option (Int×Int)):aE K:={f:=51,sh:=vY,R:=Int×Int,run:=fun x=>m x.1.1 x.1.2.1,dflt:=default,out:=fun r=>(Sh.enc D (.bz [iq0,iq0]) (r.1,(r.2,())),aY.encs D [] ())}
theorem arf:au (aay (M.By)):=aS (cx:=Ii) true Oq Tryz.func51 hq ⟨Ij,fun x=>(x.1.1.1,x.1.1.2.1)⟩ (fun x=>by kernel_rfl)
def aaz(y:(List M.ai)×(List UInt8)×Int×Bool){R:Type}(k:KT R):R:=match y with|a0=>kk k (Ex.exit 0) aaA ((a0.1,(a0.2.1,(a0.2.2.1,(a0.2.2.2,())))),())
def aaB:List (cn K ((List M.ai)×(List UInt8)×Int×Bool)):=[⟨(Ex.exit 0),aaA,fun x=>(x.1.1,x.1.2.1,x.1.2.2.1,x.1.2.2.2.1)⟩]
def aaC:bE K:=bH D false 78 0 [0,1,2,9,10,11] [0,2,9,10] aaD (fun x=>M.nZ x.1.1 x.1.2.1 x.1.2.2.1 ah x.1.2.2.2.1 x.1.2.2.2.2.1 x.1.2.2.2.2.2.1) aaz
def aaE(m:(List M.ai)->(List UInt8)->(List UInt8)->Option (Int×Int×Int)):aE K:={f:=32,sh:=⟨[.an U.aJ,.str,.str],[]⟩,R:=Int×Int×Int,run:=fun x=>m x.1.1 x.1.2.1 x.1.2.2.1,dflt:=default,out:=fun r=>(Sh.enc D (.bz [iq0,iq0,iq0]) (r.1,(r.2.1,(r.2.2,()))),aY.encs D [] ())}
def Ik:Cx K:=bg [(50,.plain),(51,.plain)] [aax M.Bt,aay M.By] [(4,aaC)]
theorem aaF:aN Ik:=aV aL _ (ae ard (ae arf ay))
theorem arh:bF Ik (bp (bD Tryz.f32) 0) aaC:=lk (cx:=Ik) (sh:=aaD) (run:=fun n x=>M.nZ x.1.1 x.1.2.1 x.1.2.2.1 n x.1.2.2.2.1 x.1.2.2.2.2.1 x.1.2.2.2.2.2.1) (bG:=aaB) aaF (fun m x=>by kernel_rfl) (ae ⟨bJ,fun _ _ _=>rfl⟩ ay)
theorem ari:au (aaE (M.BC)):=aS (cx:=Ik) true aaF Tryz.func32 (hl1 arh) ⟨aaG,fun x=>(x.1.1.1,x.1.1.2.1,x.1.1.2.2.1)⟩ (fun x=>by kernel_rfl)
def aaH(m:(List UInt8)->(List UInt8)->Option Bool):aE K:=cB 58 vY (fun x=>m x.1.1 x.1.2.1)
theorem arj:au (aaH (M.Br)):=aS (cx:=Ot) true aaI Tryz.func58 hq ⟨zs0,fun x=>x.1.1⟩ (fun x=>by kernel_rfl)
def aaJ(m:Int->Option Bool):aE K:=cB 139 zs2 (fun x=>m x.1.1)
theorem ark:au (aaJ (M.aaK)):=aS (cx:=fy) true fG Tryz.func139 hq ⟨zs0,fun x=>x.1.1⟩ (fun x=>by kernel_rfl)
def aaL(m:Int->Int->Option Int):aE K:=cI 97 ⟨[iq0,iq0],[]⟩ (fun x=>m x.1.1 x.1.2.1)
def aaM:Cx K:=bg [(139,.plain)] [aaJ M.aaK] []
theorem arl:aN aaM:=aV aL _ (ae ark ay)
theorem arn:au (aaL (M.Gj)):=aS (cx:=aaM) true arl Tryz.func97 hq ⟨zs2,fun x=>x.1.1⟩ (fun x=>by kernel_rfl)
def aaN(m:(List UInt8)->(List UInt8)->Option (Int×Int)):aE K:={f:=75,sh:=vY,R:=Int×Int,run:=fun x=>m x.1.1 x.1.2.1,dflt:=default,out:=fun r=>(Sh.enc D (.bz [iq0,iq0]) (r.1,(r.2,())),aY.encs D [] ())}
def aaO:Cx K:=bg [(57,.plain),(97,.plain)] [Ou M.m5,aaL M.Gj] []
theorem aro:aN aaO:=aV aL _ (ae aaP (ae arn ay))
theorem arp:au (aaN (M.Gi)):=aS (cx:=aaO) true aro Tryz.func75 hq ⟨Ij,fun x=>(x.1.1.1,x.1.1.2.1)⟩ (fun x=>by kernel_rfl)
def aaQ(m:(List UInt8)->(List UInt8)->Option Bool):aE K:=cB 59 vY (fun x=>m x.1.1 x.1.2.1)
def aaR:Cx K:=bg [(75,.plain)] [aaN M.Gi] []
theorem arq:aN aaR:=aV aL _ (ae arp ay)
theorem ars:au (aaQ (M.Bv)):=aS (cx:=aaR) true arq Tryz.func59 hq ⟨zs0,fun x=>x.1.1⟩ (fun x=>by kernel_rfl)
def aaS:bE K:=bH D false 74 0 [0,1,2,9,10,20,21,22] [0,2,9,10] aaT (fun x=>M.rh x.1.1 x.1.2.1 x.1.2.2.1 x.1.2.2.2.2.2.1 x.1.2.2.2.2.2.2.1 ah x.1.2.2.2.1 x.1.2.2.2.2.1 x.1.2.2.2.2.2.2.2.1) aaz
def aaU(m:(List M.ai)->(List UInt8)->(List UInt8)->Option (Int×Int×Int)):aE K:={f:=41,sh:=⟨[.an U.aJ,.str,.str],[]⟩,R:=Int×Int×Int,run:=fun x=>m x.1.1 x.1.2.1 x.1.2.2.1,dflt:=default,out:=fun r=>(Sh.enc D (.bz [iq0,iq0,iq0]) (r.1,(r.2.1,(r.2.2,()))),aY.encs D [] ())}
def Il:Cx K:=bg [(40,.plain),(58,.plain),(59,.plain)] [Im M.rk,aaH M.Br,aaQ M.Bv] [(5,aaS)]
theorem aaV:aN Il:=aV aL _ (ae Ov (ae arj (ae ars ay)))
theorem art:bF Il (bp (bD Tryz.f41) 0) aaS:=lk (cx:=Il) (sh:=aaT) (run:=fun n x=>M.rh x.1.1 x.1.2.1 x.1.2.2.1 x.1.2.2.2.2.2.1 x.1.2.2.2.2.2.2.1 n x.1.2.2.2.1 x.1.2.2.2.2.1 x.1.2.2.2.2.2.2.2.1) (bG:=aaB) aaV (fun m x=>by kernel_rfl) (ae ⟨bJ,fun _ _ _=>rfl⟩ ay)
theorem aru:au (aaU (M.BD)):=aS (cx:=Il) true aaV Tryz.func41 (hl1 art) ⟨aaG,fun x=>(x.1.1.1,x.1.1.2.1,x.1.1.2.2.1)⟩ (fun x=>by kernel_rfl)
def aaW:bE K:=bH D false 27 0 [0,1,5] [1,4] Ib (fun x=>M.vZ x.1.1 ah x.1.2.1 x.1.2.2.1) oh
def aaX(m:(List M.ai)->Int->Option Int):aE K:=cI 4 Dh (fun x=>m x.1.1 x.1.2.1)
def Io:Cx K:=bg [(13,.plain)] [YK M.CE] [(5,aaW)]
theorem aaY:aN Io:=aV aL _ (ae apO ay)
theorem arv:bF Io (bp (bD Tryz.f4) 0) aaW:=lk (cx:=Io) (sh:=Ib) (run:=fun n x=>M.vZ x.1.1 n x.1.2.1 x.1.2.2.1) (bG:=oi) aaY (fun m x=>by kernel_rfl) (ae ⟨cO,fun _ _ _=>rfl⟩ (ae ⟨bJ,fun _ _ _=>rfl⟩ ay))
theorem arw:au (aaX (M.Dj)):=aS (cx:=Io) true aaY Tryz.func4 (hl1 arv) ⟨zs2,fun x=>x.1.1⟩ (fun x=>by kernel_rfl)
def arx(y:(List M.ai)){R:Type}(k:KT R):R:=match y with|a0=>kk k (Ex.exit 0) ⟨[.own 1],[.dead,.tree U.aJ]⟩ (((),()),((),(a0,())))
def ary:List (cn K ((List M.ai))):=[⟨(Ex.exit 0),⟨[.own 1],[.dead,.tree U.aJ]⟩,fun x=>x.2.2.1⟩]
def aaZ:bE K:=bH D false 23 1 [0,3,4] [3] aa0 (fun x=>M.tX x.1.1 ah x.1.2.2.1 x.2.2.1) arx
def aa1(m:(List M.ai)->Option ((List M.ai))):aE K:={f:=7,sh:=Di,R:=(List M.ai),run:=fun x=>m x.1.1,dflt:=default,out:=fun r=>(Sh.enc D (.own 0) (),aY.encs D [.tree U.aJ] (r,()))}
def Ip:Cx K:={eM with mode:=ef .plain [(17,.fresh)],ik:=[[some U.aJ]],deep:=fun c=>eI (D.cells c (K.zero c)),call:=callOf D [Zu M.CW],loop:=dR [(3,aaZ)]}
theorem aa2:aN Ip:=aV aL _ (ae aqx ay)
theorem arz:bF Ip (bp (bD Tryz.f7) 0) aaZ:=lk (cx:=Ip) (sh:=aa0) (run:=fun n x=>M.tX x.1.1 n x.1.2.2.1 x.2.2.1) (bG:=ary) aa2 (fun m x=>by kernel_rfl) (ae ⟨bJ,fun _ _ _=>rfl⟩ ay)
theorem arA:au (aa1 (M.Dk)):=aS (cx:=Ip) false aa2 Tryz.func7 (hl1 arz) ⟨⟨[.own 0],[.tree U.aJ]⟩,fun x=>x.2.1⟩ (fun x=>by kernel_rfl)
def aa3:bE K:=bH D false 27 0 [0,1,5] [4] aa4 (fun x=>M.v7 x.1.1 x.1.2.1 ah x.1.2.2.1) iU
def aa5(m:(List M.ai)->(List M.ai)->Option Bool):aE K:=cB 12 ⟨[.an U.aJ,.an U.aJ],[]⟩ (fun x=>m x.1.1 x.1.2.1)
def Iq:Cx K:=bg [(25,.plain)] [aaf M.Df] [(4,aa3)]
theorem aa6:aN Iq:=aV aL _ (ae aq0 ay)
theorem arB:bF Iq (bp (bD Tryz.f12) 0) aa3:=lk (cx:=Iq) (sh:=aa4) (run:=fun n x=>M.v7 x.1.1 x.1.2.1 n x.1.2.2.1) (bG:=iV) aa6 (fun m x=>by kernel_rfl) (ae ⟨cO,fun _ _ _=>rfl⟩ (ae ⟨bJ,fun _ _ _=>rfl⟩ ay))
theorem arC:au (aa5 (M.Dl)):=aS (cx:=Iq) true aa6 Tryz.func12 (hl1 arB) ⟨zs0,fun x=>x.1.1⟩ (fun x=>by kernel_rfl)
def aa7(m:(List M.ai)->Int->Option (M.cJ)):aE K:={f:=14,sh:=Dh,R:=M.cJ,run:=fun x=>m x.1.1 x.1.2.1,dflt:=default,out:=fun r=>(Sh.enc D (.el U.Problem) r,aY.encs D [] ())}
def aa8:Cx K:=bg [(28,.plain),(29,.plain)] [aaj M.Bq,yt M.yu] []
theorem arD:aN aa8:=aV aL _ (ae aq5 (ae BU ay))
theorem arE:au (aa7 (M.BJ)):=aS (cx:=aa8) true arD Tryz.func14 hq ⟨Ir,fun x=>x.1.1⟩ (fun x=>by kernel_rfl)
def aa9(m:M.aQ->Option Bool):aE K:=cB 15 yA (fun x=>m x.1.1)
def aba:Cx K:=bg [(30,.plain),(31,.plain)] [Ox M.mI,Oy M.vB] []
theorem arF:aN aba:=aV aL _ (ae abb (ae abd ay))
theorem arG:au (aa9 (M.BH)):=aS (cx:=aba) true arF Tryz.func15 hq ⟨zs0,fun x=>x.1.1⟩ (fun x=>by kernel_rfl)
def abe(m:(List M.ai)->Int->M.aQ->Option (Int×M.dr×M.cJ)):aE K:={f:=16,sh:=Is,R:=Int×M.dr×M.cJ,run:=fun x=>m x.1.1 x.1.2.1 x.1.2.2.1,dflt:=default,out:=fun r=>(Sh.enc D (.bz [iq0,.el U.Choice,.el U.Problem]) (r.1,(r.2.1,(r.2.2,()))),aY.encs D [] ())}
def abf:Cx K:=bg [(32,.plain),(33,.plain)] [aaE M.BC,He M.pn] []
theorem arH:aN abf:=aV aL _ (ae ari (ae Oe ay))
theorem arI:au (abe (M.BE)):=aS (cx:=abf) true arH Tryz.func16 hq ⟨Oz,fun x=>(x.1.1.1,x.1.1.2.1,x.1.1.2.2.1)⟩ (fun x=>by kernel_rfl)
def abg(m:(List M.ai)->Int->M.aQ->Option (Int×M.dr×M.cJ)):aE K:={f:=6,sh:=Is,R:=Int×M.dr×M.cJ,run:=fun x=>m x.1.1 x.1.2.1 x.1.2.2.1,dflt:=default,out:=fun r=>(Sh.enc D (.bz [iq0,.el U.Choice,.el U.Problem]) (r.1,(r.2.1,(r.2.2,()))),aY.encs D [] ())}
def abh:Cx K:=bg [(14,.plain),(15,.plain),(16,.plain)] [aa7 M.BJ,aa9 M.BH,abe M.BE] []
theorem arJ:aN abh:=aV aL _ (ae arE (ae arG (ae arI ay)))
theorem arK:au (abg (M.BK)):=aS (cx:=abh) true arJ Tryz.func6 hq ⟨Oz,fun x=>(x.1.1.1,x.1.1.2.1,x.1.1.2.2.1)⟩ (fun x=>by kernel_rfl)
def It(m:Int->(List UInt8)->Option (M.cJ)):aE K:={f:=21,sh:=⟨[iq0,.str],[]⟩,R:=M.cJ,run:=fun x=>m x.1.1 x.1.2.1,dflt:=default,out:=fun r=>(Sh.enc D (.el U.Problem) r,aY.encs D [] ())}
theorem OA:au (It (M.Iu)):=aS (cx:=fy) true fG Tryz.func21 hq ⟨Ir,fun x=>x.1.1⟩ (fun x=>by kernel_rfl)
def abj(m:(List M.ai)->Option Int):aE K:=cI 38 Di (fun x=>m x.1.1)
theorem arL:au (abj (M.abk)):=aS (cx:=fy) true fG Tryz.func38 hq ⟨zs2,fun x=>x.1.1⟩ (fun x=>by kernel_rfl)
def abl(m:(List M.ai)->Int->Option (M.cJ)):aE K:={f:=18,sh:=Dh,R:=M.cJ,run:=fun x=>m x.1.1 x.1.2.1,dflt:=default,out:=fun r=>(Sh.enc D (.el U.Problem) r,aY.encs D [] ())}
def abm:Cx K:=bg [(36,.plain),(21,.plain),(38,.plain),(37,.plain)] [aav M.Bo,It M.Iu,abj M.abk,BV M.BW] []
theorem arM:aN abm:=aV aL _ (ae arc (ae OA (ae arL (ae GL ay))))
theorem arN:au (abl (M.BI)):=aS (cx:=abm) true arM Tryz.func18 hq ⟨Ir,fun x=>x.1.1⟩ (fun x=>by kernel_rfl)
def abn(m:M.cJ->Option Bool):aE K:=cB 19 Ir (fun x=>m x.1.1)
theorem arO:au (abn (M.abo)):=aS (cx:=fy) true fG Tryz.func19 hq ⟨zs0,fun x=>x.1.1⟩ (fun x=>by kernel_rfl)
def abp(m:M.aQ->Option Bool):aE K:=cB 20 yA (fun x=>m x.1.1)
def abq:Cx K:=bg [(39,.plain),(40,.plain)] [Iw M.pK,Im M.rk] []
theorem arP:aN abq:=aV aL _ (ae OB (ae Ov ay))
theorem arQ:au (abp (M.BG)):=aS (cx:=abq) true arP Tryz.func20 hq ⟨zs0,fun x=>x.1.1⟩ (fun x=>by kernel_rfl)
def abr(m:(List M.ai)->Option ((List M.ai))):aE K:={f:=22,sh:=Di,R:=(List M.ai),run:=fun x=>m x.1.1,dflt:=default,out:=fun r=>(Sh.enc D (.ptr 0 0) (),aY.encs D [.box [.an U.aJ,.any]] ((r,((),())),()))}
theorem arR:au (abr (M.NF)):=aS (cx:=fy) true fG Tryz.func22 hq ⟨⟨[.ptr 0 0],[.box [.an U.aJ,.any]]⟩,fun x=>x.2.1.1⟩ (fun x=>by kernel_rfl)
def abt(m:Int->M.aQ->(List M.ai)->Option (Int×M.dr×M.cJ×(List M.ai))):aE K:={f:=23,sh:=⟨[.ptr 0 0,iq0,.el U.Path],[.box [.an U.aJ,.any]]⟩,R:=Int×M.dr×M.cJ×(List M.ai),run:=fun x=>m x.1.2.1 x.1.2.2.1 x.2.1.1,dflt:=default,out:=fun r=>(Sh.enc D (.bz [iq0,.el U.Choice,.el U.Problem]) (r.1,(r.2.1,(r.2.2.1,()))),aY.encs D [.box [.an U.aJ,.any]] ((r.2.2.2,((),())),()))}
def abu:Cx K:=bg [(41,.plain),(42,.plain),(21,.plain)] [aaU M.BD,GM M.pj,It M.Iu] []
theorem arS:aN abu:=aV aL _ (ae aru (ae N8 (ae OA ay)))
theorem arT:au (abt (M.BF)):=aS (cx:=abu) true arS Tryz.func23 hq ⟨⟨[.bz [iq0,.el U.Choice,.el U.Problem]],[.box [.an U.aJ,.any]]⟩,fun x=>(x.1.1.1,x.1.1.2.1,x.1.1.2.2.1,x.2.1.1)⟩ (fun x=>by kernel_rfl)
def abv(m:(List M.ai)->Int->M.aQ->Option (Int×M.dr×M.cJ)):aE K:={f:=9,sh:=Is,R:=Int×M.dr×M.cJ,run:=fun x=>m x.1.1 x.1.2.1 x.1.2.2.1,dflt:=default,out:=fun r=>(Sh.enc D (.bz [iq0,.el U.Choice,.el U.Problem]) (r.1,(r.2.1,(r.2.2,()))),aY.encs D [] ())}
def abw:Cx K:=bg [(18,.plain),(19,.plain),(20,.plain),(21,.plain),(22,.fresh),(23,.pass)] [abl M.BI,abn M.abo,abp M.BG,It M.Iu,abr M.NF,abt M.BF] []
theorem arU:aN abw:=aV aL _ (ae arN (ae arO (ae arQ (ae OA (ae arR (ae arT ay))))))
theorem arV:au (abv (M.BL)):=aS (cx:=abw) true arU Tryz.func9 hq ⟨Oz,fun x=>(x.1.1.1,x.1.1.2.1,x.1.1.2.2.1)⟩ (fun x=>by kernel_rfl)
def abx(m:M.dr->M.dr->Option Bool):aE K:=cB 10 ⟨[.el U.Choice,.el U.Choice],[]⟩ (fun x=>m x.1.1 x.1.2.1)
theorem arW:au (abx (M.BM)):=aS (cx:=On) true Z3 Tryz.func10 hq ⟨zs0,fun x=>x.1.1⟩ (fun x=>by kernel_rfl)
def aby(m:M.cJ->M.cJ->Option Bool):aE K:=cB 11 ⟨[.el U.Problem,.el U.Problem],[]⟩ (fun x=>m x.1.1 x.1.2.1)
theorem arX:au (aby (M.BN)):=aS (cx:=fy) true fG Tryz.func11 hq ⟨zs0,fun x=>x.1.1⟩ (fun x=>by kernel_rfl)
def abz(m:(List M.ai)->Int->M.aQ->Option Bool):aE K:=cB 3 Is (fun x=>m x.1.1 x.1.2.1 x.1.2.2.1)
def abA:Cx K:={eM with mode:=ef .plain [(4,.plain),(5,.plain),(7,.fresh),(8,.fresh),(6,.plain),(9,.plain),(10,.plain),(11,.plain),(12,.plain)],deep:=fun c=>eI (D.cells c (K.zero c)),call:=callOf D [aaX M.Dj,Hw M.ry,aa1 M.Dk,HK M.yG,abg M.BK,abv M.BL,abx M.BM,aby M.BN,aa5 M.Dl],loop:=dR []}
theorem arY:aN abA:=aV aL _ (ae arw (ae Oi (ae arA (ae Ol (ae arK (ae arV (ae arW (ae arX (ae arC ay)))))))))
theorem arZ:au (abz (M.BO)):=aS (cx:=abA) true arY Tryz.func3 hq ⟨zs0,fun x=>x.1.1⟩ (fun x=>by kernel_rfl)
