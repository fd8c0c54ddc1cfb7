/-
  Part of the proof of the claim.
-/
import Derived.Test.YtnkkcmdomlkdmaaGreatDoorXEFCa
import Derived.Test.YtnkkcmdomlkdmaaGreatDoorXEFM
import Derived.Test.YtnkkcmdomlkdmaaGreatDoorXEHdA
import Derived.Test.YtnkkcmdomlkdmaaGreatDoorXEHd4
import Derived.Test.YtnkkcmdomlkdmaaGreatDoorXEHdV
import Derived.Test.YtnkkcmdomlkdmaaGreatDoorXEHdB
import Derived.Test.YtnkkcmdomlkdmaaGreatDoorXEHdO
import Derived.Test.YtnkkcmdomlkdmaaGreatDoorXWgD
import Derived.Test.YtnkkcmdomlkdmaaGreatDoorProg
set_option linter.unusedVariables false
set_option maxRecDepth 100000
open Go Go.Proofs
open Go.V
noncomputable section
theorem aqc(f6:M.aa->Option (M.aa))(yQ:ai (sE f6)):ai (sE (M.HE f6)):=fq (cx:=HD f6) (fz:=true) ay (V4 f6 yQ) cM ⟨Tryz.func244,by kernel_rfl⟩ (hl1 (aqb f6 yQ)) ⟨zs7,fun x=>x.1.1⟩ (fun x=>rfl) (fun x=>by kernel_rfl)
theorem V5:∀n,ai (sE (M.sG n))|0=>iG fun _=>rfl|n+1=>aqc (M.sG n) (V5 n)
theorem aqd:ai (sE (M.HG)):=V5 af
def aqe(y:(List M.aa)){R:Type}(k:KT R):R:=match y with|a0=>kk k (Ex.exit 0) ⟨[.own 2],[.dead,.dead,.arr U.Type]⟩ (((),()),((),((),(a0,()))))
def aqf:List (cC K ((List M.aa))):=[⟨(Ex.exit 0),⟨[.own 2],[.dead,.dead,.arr U.Type]⟩,fun x=>x.2.2.2.1⟩]
def V6:bf K:=bm D false 24 2 [1,3,4] [3] Wl (fun x=>M.sH af x.1.2.2.1 x.2.1 x.2.2.2.1) aqe
def V8(m:M.aJ->Option ((List M.aa))):an K:={f:=185,sh:=pB,R:=(List M.aa),run:=fun x=>m x.1.1,dflt:=default,out:=fun r=>(Sh.enc D (.ah U.Type) r,bk.encs D [] ())}
def HH:Cx K:=aP [(244,.fm)] [sE M.HG] [(3,V6)]
theorem V9:aI HH:=aL ay _ (ae aqd ak)
theorem aqg:bg HH (aW (aY Tryz.f185) 0) V6:=lk (cx:=HH) (sh:=Wl) (run:=fun n x=>M.sH n x.1.2.2.1 x.2.1 x.2.2.2.1) (bh:=aqf) V9 (fun m x=>by kernel_rfl) (ae ⟨bp,fun _ _ _=>rfl⟩ ak)
theorem aqh:ai (V8 (M.CX)):=aG (cx:=HH) true V9 Tryz.func185 (hl1 aqg) ⟨ma,fun x=>x.1.1⟩ (fun x=>by kernel_rfl)
def Wa(m:M.aa->Option Bool):an K:=cB 289 zs7 (fun x=>m x.1.1)
def Wb:Cx K:=aP [(241,.plain)] [Oh M.sJ] []
theorem aqi:aI Wb:=aL ay _ (ae Wc ak)
theorem aqj:ai (Wa (M.CY)):=aG (cx:=Wb) true aqi Tryz.func289 hq ⟨zs0,fun x=>x.1.1⟩ (fun x=>by kernel_rfl)
def aqk(y:Bool⊕((List M.aa))){R:Type}(k:KT R):R:=match y with|.inl a0=>kk k Ex.ret aag (((),(a0,())),())|.inr a1=>kk k (Ex.exit 0) ⟨[.ah U.Type,.any],[]⟩ ((a1,((),())),())
def aql:List (cC K ((Bool)⊕((List M.aa)))):=[⟨Ex.ret,aag,fun x=>.inl x.1.2.1⟩,⟨(Ex.exit 0),⟨[.ah U.Type,.any],[]⟩,fun x=>.inr (x.1.1)⟩]
def We:bf K:=bm D false 23 0 [0,3] [0,2] adm (fun x=>M.vT x.1.1 af x.1.2.1) aqk
def Wg(m:(List M.aa)->Option Bool):an K:=cB 245 ma (fun x=>m x.1.1)
def HK:Cx K:=aP [(289,.plain)] [Wa M.CY] [(2,We)]
theorem Wh:aI HK:=aL ay _ (ae aqj ak)
theorem aqm:bg HK (aW (aY Tryz.f245) 0) We:=lk (cx:=HK) (sh:=adm) (run:=fun n x=>M.vT x.1.1 n x.1.2.1) (bh:=aql) Wh (fun m x=>by kernel_rfl) (ae ⟨bX,fun _ _ _=>rfl⟩ (ae ⟨bp,fun _ _ _=>rfl⟩ ak))
theorem aqn:ai (Wg (M.yR)):=aG (cx:=HK) true Wh Tryz.func245 (hl1 aqm) ⟨zs0,fun x=>x.1.1⟩ (fun x=>by kernel_rfl)
def l8(m:(List M.aa)->Option ((List Int))):an K:={f:=246,sh:=ma,R:=(List Int),run:=fun x=>m x.1.1,dflt:=default,out:=fun r=>(Sh.enc D (.ah U.i64) r,bk.encs D [] ())}
def Wi(m:M.aa->Option ((List M.aa))):an K:={f:=326,sh:=zs7,R:=(List M.aa),run:=fun x=>m x.1.1,dflt:=default,out:=fun r=>(Sh.enc D (.ah U.Type) r,bk.encs D [] ())}
theorem aqo:ai (Wi (M.CZ)):=aG (cx:=dy) true dA Tryz.func326 hq ⟨ma,fun x=>x.1.1⟩ (fun x=>by kernel_rfl)
def sK(m:M.aa->Option ((List Int))):an K:={f:=290,sh:=zs7,R:=(List Int),run:=fun x=>m x.1.1,dflt:=default,out:=fun r=>(Sh.enc D (.ah U.i64) r,bk.encs D [] ())}
def HL(y:(List Int)){R:Type}(k:KT R):R:=match y with|a0=>kk k (Ex.exit 0) mF (((),()),((),(a0,())))
def HN:List (cC K ((List Int))):=[⟨(Ex.exit 0),mF,fun x=>x.2.2.1⟩]
def Wj:bf K:=bm D false 57 1 [0,1,5,6] [5] W7 (fun x=>M.pC x.1.1 x.1.2.1 af x.1.2.2.2.1 x.2.2.1) HL
def Wm(m:(List Int)->(List Int)->Option ((List Int))):an K:={f:=327,sh:=⟨[.ah U.i64,.ah U.i64],[]⟩,R:=(List Int),run:=fun x=>m x.1.1 x.1.2.1,dflt:=default,out:=fun r=>(Sh.enc D (.own 0) (),bk.encs D [.arr U.i64] (r,()))}
def HO:Cx K:={tl with mode:=dO .plain [(315,.plain)],fl:=[[some U.i64]],call:=callOf D [Oj M.nr],loop:=dI [(3,Wj)]}
theorem Wn:aI HO:=aL ay _ (ae Wp ak)
theorem aqp:bg HO (aW (aY Tryz.f327) 0) Wj:=lk (cx:=HO) (sh:=W7) (run:=fun n x=>M.pC x.1.1 x.1.2.1 n x.1.2.2.2.1 x.2.2.1) (bh:=HN) Wn (fun m x=>by kernel_rfl) (ae ⟨bp,fun _ _ _=>rfl⟩ ak)
theorem aqr:ai (Wm (M.C0)):=aG (cx:=HO) false Wn Tryz.func327 (hl1 aqp) ⟨N8,fun x=>x.2.1⟩ (fun x=>by kernel_rfl)
def Wq(y:(List Int)){R:Type}(k:KT R):R:=match y with|a0=>kk k (Ex.exit 1) mF (((),()),((),(a0,())))
def Ws:List (cC K ((List Int))):=[⟨(Ex.exit 1),mF,fun x=>x.2.2.1⟩]
def Wu(f7:M.aa->Option ((List Int))):bf K:=bm D false 47 1 [3,4,5] [4] Iw (fun x=>M.sL f7 x.1.1 af x.1.2.2.1 x.2.2.1) Wq
def HS(cX:(List M.aa)->Option ((List Int)))(f7:M.aa->Option ((List Int))):Cx K:=aP [(246,.fm),(326,.fm),(290,.fm),(327,.fresh)] [l8 cX,Wi M.CZ,sK f7,Wm M.C0] [(18,Wu f7)]
theorem Wv(cX:(List M.aa)->Option ((List Int)))(jr:ai (l8 cX))(f7:M.aa->Option ((List Int)))(yS:ai (sK f7)):aI (HS cX f7):=aL ay _ (ae jr (ae aqo (ae yS (ae aqr ak))))
theorem aqs(cX:(List M.aa)->Option ((List Int)))(jr:ai (l8 cX))(f7:M.aa->Option ((List Int)))(yS:ai (sK f7)):bg (HS cX f7) (aW (aY Tryz.f290) 0) (Wu f7):=lk (cx:=HS cX f7) (sh:=Iw) (run:=fun n x=>M.sL f7 x.1.1 n x.1.2.2.1 x.2.2.1) (bh:=Ws) (Wv cX jr f7 yS) (fun m x=>by kernel_rfl) (ae ⟨bp,fun _ _ _=>rfl⟩ ak)
theorem aqt(cX:(List M.aa)->Option ((List Int)))(jr:ai (l8 cX))(f7:M.aa->Option ((List Int)))(yS:ai (sK f7)):ai (sK (M.HT cX f7)):=fq (cx:=HS cX f7) (fz:=true) ay (Wv cX jr f7 yS) cM ⟨Tryz.func290,by kernel_rfl⟩ (hl1 (aqs cX jr f7 yS)) ⟨sM,fun x=>x.1.1⟩ (fun x=>rfl) (fun x=>by kernel_rfl)
theorem Ww(cX:(List M.aa)->Option ((List Int)))(jr:ai (l8 cX)):∀n,ai (sK (M.sN cX n))|0=>iG fun _=>rfl|n+1=>aqt cX jr (M.sN cX n) (Ww cX jr n)
theorem aqu(cX:(List M.aa)->Option ((List Int)))(jr:ai (l8 cX)):ai (sK (M.HU cX)):=Ww cX jr af
def Wx(cX:(List M.aa)->Option ((List Int))):bf K:=bm D false 20 1 [0,3,4] [3] Iw (fun x=>M.sO cX x.1.1 af x.1.2.2.1 x.2.2.1) HL
def HV(cX:(List M.aa)->Option ((List Int))):Cx K:=aP [(290,.fm)] [sK (M.HU cX)] [(3,Wx cX)]
theorem Wy(cX:(List M.aa)->Option ((List Int)))(jr:ai (l8 cX)):aI (HV cX):=aL ay _ (ae (aqu cX jr) ak)
theorem aqv(cX:(List M.aa)->Option ((List Int)))(jr:ai (l8 cX)):bg (HV cX) (aW (aY Tryz.f246) 0) (Wx cX):=lk (cx:=HV cX) (sh:=Iw) (run:=fun n x=>M.sO cX x.1.1 n x.1.2.2.1 x.2.2.1) (bh:=HN) (Wy cX jr) (fun m x=>by kernel_rfl) (ae ⟨bp,fun _ _ _=>rfl⟩ ak)
theorem aqw(cX:(List M.aa)->Option ((List Int)))(jr:ai (l8 cX)):ai (l8 (M.HW cX)):=fq (cx:=HV cX) (fz:=true) ay (Wy cX jr) cM ⟨Tryz.func246,by kernel_rfl⟩ (hl1 (aqv cX jr)) ⟨sM,fun x=>x.1.1⟩ (fun x=>rfl) (fun x=>by kernel_rfl)
theorem WA:∀n,ai (l8 (M.qO n))|0=>iG fun _=>rfl|n+1=>aqw (M.qO n) (WA n)
theorem aqx:ai (l8 (M.C2)):=WA af
def WB(m:(List M.aa)->Option ((List Int))):an K:={f:=186,sh:=ma,R:=(List Int),run:=fun x=>m x.1.1,dflt:=default,out:=fun r=>(Sh.enc D (.ah U.i64) r,bk.encs D [] ())}
def Om:Cx K:=aP [(245,.plain),(246,.fm)] [Wg M.yR,l8 M.C2] []
theorem WC:aI Om:=aL ay _ (ae aqn (ae aqx ak))
theorem aqy:ai (WB (M.HY)):=aG (cx:=Om) true WC Tryz.func186 hq ⟨sM,fun x=>x.1.1⟩ (fun x=>by kernel_rfl)
def WE(m:(List M.aa)->Option Bool):an K:=cB 187 ma (fun x=>m x.1.1)
theorem aqz:ai (WE (M.HZ)):=aG (cx:=Om) true WC Tryz.func187 hq ⟨zs0,fun x=>x.1.1⟩ (fun x=>by kernel_rfl)
def On(m:M.aJ->Option (Int×Bool)):an K:={f:=136,sh:=pB,R:=Int×Bool,run:=fun x=>m x.1.1,dflt:=default,out:=fun r=>(Sh.enc D (.bQ [iq0,.bool]) (r.1,(r.2,())),bk.encs D [] ())}
def WG:Cx K:=aP [(185,.fm),(186,.fm),(187,.plain)] [V8 M.CX,WB M.HY,WE M.HZ] []
theorem aqA:aI WG:=aL ay _ (ae aqh (ae aqy (ae aqz ak)))
theorem WH:ai (On (M.sP)):=aG (cx:=WG) true aqA Tryz.func136 hq ⟨JF,fun x=>(x.1.1.1,x.1.1.2.1)⟩ (fun x=>by kernel_rfl)
def WI(y:Bool⊕(M.aV×Int×Int)){R:Type}(k:KT R):R:=match y with|.inl a0=>kk k Ex.ret IN (((),((),((),(a0,())))),())|.inr a1=>kk k (Ex.exit 2) Jh ((a1.1,(a1.2.1,(a1.2.2,((),())))),())
def WM:List (cC K ((Bool)⊕(M.aV×Int×Int))):=[⟨Ex.ret,IN,fun x=>.inl x.1.2.2.2.1⟩,⟨(Ex.exit 2),Jh,fun x=>.inr ((x.1.1,x.1.2.1,x.1.2.2.1))⟩]
def WN:bf K:=bm D false 138 0 [0,3,4,5] [0,3,4,2] sR (fun x=>M.po x.1.1 x.1.2.2.1 af x.1.2.1 x.1.2.2.2.1) WI
def WO(y:Bool⊕(M.aV×Int)){R:Type}(k:KT R):R:=match y with|.inl a0=>kk k Ex.ret yT (((),((),(a0,()))),())|.inr a1=>kk k (Ex.exit 0) Jn ((a1.1,(a1.2,((),()))),())
def WR:List (cC K ((Bool)⊕(M.aV×Int))):=[⟨Ex.ret,yT,fun x=>.inl x.1.2.2.1⟩,⟨(Ex.exit 0),Jn,fun x=>.inr ((x.1.1,x.1.2.1))⟩]
def WS:bf K:=bm D false 138 0 [0,3,4] [0,3,2] wc (fun x=>M.pq af x.1.1 x.1.2.1 x.1.2.2.1) WO
def WT(m:M.aV->Option Bool):an K:=cB 91 adk (fun x=>m x.1.1)
def yU:Cx K:=aP [(132,.plain),(135,.plain),(136,.plain)] [C5 M.jP,VZ M.BW,On M.sP] [(6,WN),(3,WS)]
theorem Oo:aI yU:=aL ay _ (ae H3 (ae ap8 (ae WH ak)))
theorem aqB:bg yU (aW (aW (aY Tryz.f91) 0) 0) WN:=lk (cx:=yU) (sh:=sR) (run:=fun n x=>M.po x.1.1 x.1.2.2.1 n x.1.2.1 x.1.2.2.2.1) (bh:=WM) Oo (fun m x=>by kernel_rfl) (ae ⟨bX,fun _ _ _=>rfl⟩ (ae ⟨bp,fun _ _ _=>rfl⟩ ak))
theorem aqC:bg yU (aW (aY Tryz.f91) 0) WS:=lk (cx:=yU) (sh:=wc) (run:=fun n x=>M.pq n x.1.1 x.1.2.1 x.1.2.2.1) (bh:=WR) Oo (fun m x=>by kernel_rfl) (ae ⟨bX,fun _ _ _=>rfl⟩ (ae ⟨bp,fun _ _ _=>rfl⟩ ak)) (hl:=(mG 1 (by kernel_rfl) (ns (.mk (by kernel_rfl) aqB))))
theorem aqD:ai (WT (M.BZ)):=aG (cx:=yU) true Oo Tryz.func91 (hl1 aqC) ⟨zs0,fun x=>x.1.1⟩ (fun x=>by kernel_rfl)
def WU:bf K:=bm D false 22 1 [1,2,5] [4] WQ (fun x=>M.vy x.1.1 x.2.1 af x.1.2.2.1) VV
def Oq(m:M.aN->(List UInt8)->Option Int):an K:=cI 137 H7 (fun x=>m x.1.1 x.1.2.1)
def H4:Cx K:=aP [] [] [(2,WU)]
theorem WV:aI H4:=aL ay _ ak
theorem aqE:bg H4 (aW (aY Tryz.f137) 0) WU:=lk (cx:=H4) (sh:=WQ) (run:=fun n x=>M.vy x.1.1 x.2.1 n x.1.2.2.1) (bh:=VX) WV (fun m x=>by kernel_rfl) (ae ⟨bX,fun _ _ _=>rfl⟩ (ae ⟨bp,fun _ _ _=>rfl⟩ ak))
theorem WW:ai (Oq (M.vx)):=aG (cx:=H4) true WV Tryz.func137 (hl1 aqE) ⟨zs1,fun x=>x.1.1⟩ (fun x=>by kernel_rfl)
def WX:bf K:=bm D false 138 0 [0,3,4,5] [0,3,4,2] sR (fun x=>M.pt x.1.1 x.1.2.2.1 af x.1.2.1 x.1.2.2.2.1) WI
def WY:bf K:=bm D false 138 0 [0,3,4] [0,3,2] wc (fun x=>M.pv af x.1.1 x.1.2.1 x.1.2.2.1) WO
def WZ(m:M.aV->Option Bool):an K:=cB 92 adk (fun x=>m x.1.1)
def yV:Cx K:=aP [(132,.plain),(137,.plain),(136,.plain)] [C5 M.jP,Oq M.vx,On M.sP] [(6,WX),(3,WY)]
theorem Ot:aI yV:=aL ay _ (ae H3 (ae WW (ae WH ak)))
theorem aqF:bg yV (aW (aW (aY Tryz.f92) 0) 0) WX:=lk (cx:=yV) (sh:=sR) (run:=fun n x=>M.pt x.1.1 x.1.2.2.1 n x.1.2.1 x.1.2.2.2.1) (bh:=WM) Ot (fun m x=>by kernel_rfl) (ae ⟨bX,fun _ _ _=>rfl⟩ (ae ⟨bp,fun _ _ _=>rfl⟩ ak))
theorem aqG:bg yV (aW (aY Tryz.f92) 0) WY:=lk (cx:=yV) (sh:=wc) (run:=fun n x=>M.pv n x.1.1 x.1.2.1 x.1.2.2.1) (bh:=WR) Ot (fun m x=>by kernel_rfl) (ae ⟨bX,fun _ _ _=>rfl⟩ (ae ⟨bp,fun _ _ _=>rfl⟩ ak)) (hl:=(mG 1 (by kernel_rfl) (ns (.mk (by kernel_rfl) aqF))))
theorem aqH:ai (WZ (M.B0)):=aG (cx:=yV) true Ot Tryz.func92 (hl1 aqG) ⟨zs0,fun x=>x.1.1⟩ (fun x=>by kernel_rfl)
def W0:bf K:=bm D false 20 0 [0,1,5] [4] ⟨[.ah U.aS,.str,iq0],[]⟩ (fun x=>M.vH x.1.1 x.1.2.1 af x.1.2.2.1) jd
def W4(m:(List M.ax)->(List UInt8)->Option Int):an K:=cI 188 ⟨[.ah U.aS,.str],[]⟩ (fun x=>m x.1.1 x.1.2.1)
def H5:Cx K:=aP [(132,.plain)] [C5 M.jP] [(2,W0)]
theorem W5:aI H5:=aL ay _ (ae H3 ak)
theorem aqI:bg H5 (aW (aY Tryz.f188) 0) W0:=lk (cx:=H5) (sh:=⟨[.ah U.aS,.str,iq0],[]⟩) (run:=fun n x=>M.vH x.1.1 x.1.2.1 n x.1.2.2.1) (bh:=je) W5 (fun m x=>by kernel_rfl) (ae ⟨bX,fun _ _ _=>rfl⟩ (ae ⟨bp,fun _ _ _=>rfl⟩ ak))
theorem aqJ:ai (W4 (M.B7)):=aG (cx:=H5) true W5 Tryz.func188 (hl1 aqI) ⟨zs1,fun x=>x.1.1⟩ (fun x=>by kernel_rfl)
def W6:bf K:=bm D false 34 0 [0,2,7,8] [6] Xu (fun x=>M.vI x.1.1 x.1.2.1 x.1.2.2.1 af x.1.2.2.2.1) js
def W8(m:(List M.ax)->(List UInt8)->(List UInt8)->Option Bool):an K:=cB 138 ⟨[.ah U.aS,.str,.str],[]⟩ (fun x=>m x.1.1 x.1.2.1 x.1.2.2.1)
def H6:Cx K:=aP [(188,.plain)] [W4 M.B7] [(5,W6)]
theorem W9:aI H6:=aL ay _ (ae aqJ ak)
theorem aqK:bg H6 (aW (aY Tryz.f138) 0) W6:=lk (cx:=H6) (sh:=Xu) (run:=fun n x=>M.vI x.1.1 x.1.2.1 x.1.2.2.1 n x.1.2.2.2.1) (bh:=jt) W9 (fun m x=>by kernel_rfl) (ae ⟨bX,fun _ _ _=>rfl⟩ (ae ⟨bp,fun _ _ _=>rfl⟩ ak))
theorem aqL:ai (W8 (M.yI)):=aG (cx:=H6) true W9 Tryz.func138 (hl1 aqK) ⟨zs0,fun x=>x.1.1⟩ (fun x=>by kernel_rfl)
def Xa:bf K:=bm D false 99 0 [0,3] [2] Jw (fun x=>M.vK x.1.1 af x.1.2.1) js
def Xb(m:M.aV->Option Bool):an K:=cB 93 adk (fun x=>m x.1.1)
def H8:Cx K:=aP [(138,.plain),(137,.plain),(89,.plain)] [W8 M.yI,Oq M.vx,pz M.pA] [(4,Xa)]
theorem Xc:aI H8:=aL ay _ (ae aqL (ae WW (ae qN ak)))
theorem aqM:bg H8 (aW (aY Tryz.f93) 0) Xa:=lk (cx:=H8) (sh:=Jw) (run:=fun n x=>M.vK x.1.1 n x.1.2.1) (bh:=jt) Xc (fun m x=>by kernel_rfl) (ae ⟨bX,fun _ _ _=>rfl⟩ (ae ⟨bp,fun _ _ _=>rfl⟩ ak))
theorem aqN:ai (Xb (M.Cb)):=aG (cx:=H8) true Xc Tryz.func93 (hl1 aqM) ⟨zs0,fun x=>x.1.1⟩ (fun x=>by kernel_rfl)
def aqO(y:M.aV×Int×Int){R:Type}(k:KT R):R:=match y with|a0=>kk k (Ex.exit 2) wc ((a0.1,(a0.2.1,(a0.2.2,()))),())
def aqP:List (cC K (M.aV×Int×Int)):=[⟨(Ex.exit 2),wc,fun x=>(x.1.1,x.1.2.1,x.1.2.2.1)⟩]
def Xd:bf K:=bm D false 77 0 [0,3,4,5] [0,3,4] sR (fun x=>M.nj x.1.1 x.1.2.1 af x.1.2.2.1 x.1.2.2.2.1) aqO
def aqQ(y:M.aV×Int×Int){R:Type}(k:KT R):R:=match y with|a0=>kk k (Ex.exit 4) wc ((a0.1,(a0.2.1,(a0.2.2,()))),())
def aqR:List (cC K (M.aV×Int×Int)):=[⟨(Ex.exit 4),wc,fun x=>(x.1.1,x.1.2.1,x.1.2.2.1)⟩]
def Xe:bf K:=bm D false 77 0 [0,3,4,6] [0,3,4] sR (fun x=>M.nk x.1.1 x.1.2.1 af x.1.2.2.1 x.1.2.2.2.1) aqQ
def Xf:bf K:=bm D false 77 0 [0,3] [2] Jw (fun x=>M.py af x.1.1 x.1.2.1) js
def Xg(m:M.aV->Option Bool):an K:=cB 94 adk (fun x=>m x.1.1)
def sS:Cx K:=aP [] [] [(6,Xd),(11,Xe),(2,Xf)]
theorem H9:aI sS:=aL ay _ ak
theorem aqS:bg sS (aW (aW (aY Tryz.f94) 0) 0) Xd:=lk (cx:=sS) (sh:=sR) (run:=fun n x=>M.nj x.1.1 x.1.2.1 n x.1.2.2.1 x.1.2.2.2.1) (bh:=aqP) H9 (fun m x=>by kernel_rfl) (ae ⟨bp,fun _ _ _=>rfl⟩ ak)
theorem aqT:bg sS (aW (aW (aY Tryz.f94) 0) 1) Xe:=lk (cx:=sS) (sh:=sR) (run:=fun n x=>M.nk x.1.1 x.1.2.1 n x.1.2.2.1 x.1.2.2.2.1) (bh:=aqR) H9 (fun m x=>by kernel_rfl) (ae ⟨bp,fun _ _ _=>rfl⟩ ak)
theorem aqU:bg sS (aW (aY Tryz.f94) 0) Xf:=lk (cx:=sS) (sh:=Jw) (run:=fun n x=>M.py n x.1.1 x.1.2.1) (bh:=jt) H9 (fun m x=>by kernel_rfl) (ae ⟨bX,fun _ _ _=>rfl⟩ (ae ⟨bp,fun _ _ _=>rfl⟩ ak)) (hl:=(mG 2 (by kernel_rfl) (lt_succ (ns (.mk (by kernel_rfl) aqS)) (.mk (by kernel_rfl) aqT))))
theorem aqV:ai (Xg (M.Cd)):=aG (cx:=sS) true H9 Tryz.func94 (hl1 aqU) ⟨zs0,fun x=>x.1.1⟩ (fun x=>by kernel_rfl)
def Xh(m:M.aV->Option ((List UInt8))):an K:=cS 49 adk (fun x=>m x.1.1)
def Xi:Cx K:=aP [(86,.plain),(87,.plain),(88,.plain),(89,.plain),(90,.plain),(91,.plain),(92,.plain),(93,.plain),(94,.plain)] [yW M.kf,Ou M.vU,Xj M.yX,pz M.pA,VT M.CW,WT M.BZ,WZ M.B0,Xb M.Cb,Xg M.Cd] []
theorem aqW:aI Xi:=aL ay _ (ae C6 (ae Xk (ae aqX (ae qN (ae ap6 (ae aqD (ae aqH (ae aqN (ae aqV ak)))))))))
theorem aqY:ai (Xh (M.Ce)):=aG (cx:=Xi) true aqW Tryz.func49 hq ⟨cH,fun x=>x.1.1⟩ (fun x=>by kernel_rfl)
def Xl(m:Int->Option Bool):an K:=cB 106 zs1 (fun x=>m x.1.1)
def Xm:Cx K:=aP [(77,.plain)] [lA M.lB] []
theorem aqZ:aI Xm:=aL ay _ (ae l9 ak)
theorem aq0:ai (Xl (M.Xn)):=aG (cx:=Xm) true aqZ Tryz.func106 hq ⟨zs0,fun x=>x.1.1⟩ (fun x=>by kernel_rfl)
def Xo(m:M.aE->Option Bool):an K:=cB 228 HJ (fun x=>m x.1.1)
def Xp:Cx K:=aP [(271,.plain),(77,.plain)] [Ov M.m3,lA M.lB] []
theorem aq1:aI Xp:=aL ay _ (ae Xq (ae l9 ak))
theorem aq2:ai (Xo (M.oG)):=aG (cx:=Xp) true aq1 Tryz.func228 hq ⟨zs0,fun x=>x.1.1⟩ (fun x=>by kernel_rfl)
def Xr(m:M.aE->Option Bool):an K:=cB 227 HJ (fun x=>m x.1.1)
def Ox:Cx K:=aP [(228,.plain)] [Xo M.oG] []
theorem Xs:aI Ox:=aL ay _ (ae aq2 ak)
theorem aq3:ai (Xr (M.C7)):=aG (cx:=Ox) true Xs Tryz.func227 hq ⟨zs0,fun x=>x.1.1⟩ (fun x=>by kernel_rfl)
def Xt:bf K:=bm D false 19 0 [0,1,7,8] [4] XF (fun x=>M.vV x.1.1 x.1.2.2.1 af x.1.2.2.2.1) jd
def Xv(m:(List M.aE)->Option Int):an K:=cI 270 ⟨[.ah U.Ins,.fn 227 []],[]⟩ (fun x=>m x.1.1)
def Ia:Cx K:=aP [(227,.plain)] [Xr M.C7] [(2,Xt)]
theorem Xw:aI Ia:=aL ay _ (ae aq3 ak)
theorem aq4:bg Ia (aW (aY Tryz.f270) 0) Xt:=lk (cx:=Ia) (sh:=XF) (run:=fun n x=>M.vV x.1.1 x.1.2.2.1 n x.1.2.2.2.1) (bh:=je) Xw (fun m x=>by kernel_rfl) (ae ⟨bX,fun _ _ _=>rfl⟩ (ae ⟨bp,fun _ _ _=>rfl⟩ ak))
theorem aq5:ai (Xv (M.Ib)):=aG (cx:=Ia) true Xw Tryz.func270 (hl1 aq4) ⟨zs1,fun x=>x.1.1⟩ (fun x=>by kernel_rfl)
def Xx(m:(List M.aE)->Option Bool):an K:=cB 226 ⟨[.ah U.Ins,.fn 227 []],[]⟩ (fun x=>m x.1.1)
def Xy:Cx K:=aP [(270,.plain)] [Xv M.Ib] []
theorem aq6:aI Xy:=aL ay _ (ae aq5 ak)
theorem aq7:ai (Xx (M.C9)):=aG (cx:=Xy) true aq6 Tryz.func226 hq ⟨zs0,fun x=>x.1.1⟩ (fun x=>by kernel_rfl)
def Xz(m:M.av->Option Bool):an K:=cB 168 zb (fun x=>m x.1.1)
def XA:Cx K:=aP [(77,.plain),(226,.plain)] [lA M.lB,Xx M.C9] []
theorem aq8:aI XA:=aL ay _ (ae l9 (ae aq7 ak))
theorem aq9:ai (Xz (M.Da)):=aG (cx:=XA) true aq8 Tryz.func168 hq ⟨zs0,fun x=>x.1.1⟩ (fun x=>by kernel_rfl)
def XB(m:M.aV->Option Bool):an K:=cB 20 HM (fun x=>m x.1.1)
def XC:Cx K:=aP [(49,.plain)] [Xh M.Ce] []
theorem ara:aI XC:=aL ay _ (ae aqY ak)
theorem arb:ai (XB (M.Ci)):=aG (cx:=XC) true ara Tryz.func20 hq ⟨zs0,fun x=>x.1.1⟩ (fun x=>by kernel_rfl)
def XD(m:M.bF->M.bF->Option Bool):an K:=cB 72 ⟨[.el U.dK,.el U.dK],[]⟩ (fun x=>m x.1.1 x.1.2.1)
theorem arc:ai (XD (M.Db)):=aG (cx:=dy) true dA Tryz.func72 hq ⟨zs0,fun x=>x.1.1⟩ (fun x=>by kernel_rfl)
def XE:bf K:=bm D false 27 0 [0,1,5] [4] XK (fun x=>M.vW x.1.1 x.1.2.1 af x.1.2.2.1) js
def XG(m:(List M.bF)->(List M.bF)->Option Bool):an K:=cB 33 ⟨[.ah U.dK,.ah U.dK],[]⟩ (fun x=>m x.1.1 x.1.2.1)
def Ic:Cx K:=aP [(72,.plain)] [XD M.Db] [(4,XE)]
theorem XH:aI Ic:=aL ay _ (ae arc ak)
theorem ard:bg Ic (aW (aY Tryz.f33) 0) XE:=lk (cx:=Ic) (sh:=XK) (run:=fun n x=>M.vW x.1.1 x.1.2.1 n x.1.2.2.1) (bh:=jt) XH (fun m x=>by kernel_rfl) (ae ⟨bX,fun _ _ _=>rfl⟩ (ae ⟨bp,fun _ _ _=>rfl⟩ ak))
theorem arf:ai (XG (M.Dc)):=aG (cx:=Ic) true XH Tryz.func33 (hl1 ard) ⟨zs0,fun x=>x.1.1⟩ (fun x=>by kernel_rfl)
def XI(m:M.bC->M.bC->Option Bool):an K:=cB 73 ⟨[.el U.Lower,.el U.Lower],[]⟩ (fun x=>m x.1.1 x.1.2.1)
theorem arh:ai (XI (M.Df)):=aG (cx:=dy) true dA Tryz.func73 hq ⟨zs0,fun x=>x.1.1⟩ (fun x=>by kernel_rfl)
def XJ:bf K:=bm D false 27 0 [0,1,5] [4] XP (fun x=>M.vX x.1.1 x.1.2.1 af x.1.2.2.1) js
def XL(m:(List M.bC)->(List M.bC)->Option Bool):an K:=cB 34 ⟨[.ah U.Lower,.ah U.Lower],[]⟩ (fun x=>m x.1.1 x.1.2.1)
def Ie:Cx K:=aP [(73,.plain)] [XI M.Df] [(4,XJ)]
theorem XM:aI Ie:=aL ay _ (ae arh ak)
theorem ari:bg Ie (aW (aY Tryz.f34) 0) XJ:=lk (cx:=Ie) (sh:=XP) (run:=fun n x=>M.vX x.1.1 x.1.2.1 n x.1.2.2.1) (bh:=jt) XM (fun m x=>by kernel_rfl) (ae ⟨bX,fun _ _ _=>rfl⟩ (ae ⟨bp,fun _ _ _=>rfl⟩ ak))
theorem arj:ai (XL (M.Dh)):=aG (cx:=Ie) true XM Tryz.func34 (hl1 ari) ⟨zs0,fun x=>x.1.1⟩ (fun x=>by kernel_rfl)
def XN(m:M.bu->M.bu->Option Bool):an K:=cB 74 ⟨[.el U.Builtin,.el U.Builtin],[]⟩ (fun x=>m x.1.1 x.1.2.1)
theorem ark:ai (XN (M.Di)):=aG (cx:=dy) true dA Tryz.func74 hq ⟨zs0,fun x=>x.1.1⟩ (fun x=>by kernel_rfl)
def XO:bf K:=bm D false 27 0 [0,1,5] [4] XW (fun x=>M.vY x.1.1 x.1.2.1 af x.1.2.2.1) js
def XQ(m:(List M.bu)->(List M.bu)->Option Bool):an K:=cB 35 ⟨[.ah U.Builtin,.ah U.Builtin],[]⟩ (fun x=>m x.1.1 x.1.2.1)
def Ig:Cx K:=aP [(74,.plain)] [XN M.Di] [(4,XO)]
theorem XR:aI Ig:=aL ay _ (ae ark ak)
theorem arl:bg Ig (aW (aY Tryz.f35) 0) XO:=lk (cx:=Ig) (sh:=XW) (run:=fun n x=>M.vY x.1.1 x.1.2.1 n x.1.2.2.1) (bh:=jt) XR (fun m x=>by kernel_rfl) (ae ⟨bX,fun _ _ _=>rfl⟩ (ae ⟨bp,fun _ _ _=>rfl⟩ ak))
theorem arn:ai (XQ (M.Dj)):=aG (cx:=Ig) true XR Tryz.func35 (hl1 arl) ⟨zs0,fun x=>x.1.1⟩ (fun x=>by kernel_rfl)
def XS(m:M.aV->M.aV->Option Bool):an K:=cB 9 XX (fun x=>m x.1.1 x.1.2.1)
def XT:Cx K:=aP [(31,.plain),(32,.plain),(33,.plain),(34,.plain),(35,.plain)] [XU M.yY,XV M.Dk,XG M.Dc,XL M.Dh,XQ M.Dj] []
theorem aro:aI XT:=aL ay _ (ae arp (ae arq (ae arf (ae arj (ae arn ak)))))
theorem ars:ai (XS (M.Dl)):=aG (cx:=XT) true aro Tryz.func9 hq ⟨zs0,fun x=>x.1.1⟩ (fun x=>by kernel_rfl)
def art(y:Bool⊕(M.aN×(List (List UInt8))×(List (List UInt8)))){R:Type}(k:KT R):R:=match y with|.inl a0=>kk k Ex.ret XZ (((),((),((),(a0,())))),((),((),((),((),((),()))))))|.inr a1=>kk k (Ex.exit 0) X0 (((),((),((),((),())))),(a1.1,((),((),(a1.2.1,(a1.2.2,()))))))
def aru:List (cC K ((Bool)⊕(M.aN×(List (List UInt8))×(List (List UInt8))))):=[⟨Ex.ret,XZ,fun x=>.inl x.1.2.2.2.1⟩,⟨(Ex.exit 0),X0,fun x=>.inr ((x.2.1,x.2.2.2.2.1,x.2.2.2.2.2.1))⟩]
def XY:bf K:=bm D false 66 3 [1,3,4,28,29,30] [1,3,4,2] X1 (fun x=>M.sU x.1.2.2.2.1 x.1.2.2.2.2.1 x.2.1 x.2.2.2.2.2.1 af x.1.2.2.2.2.2.1 x.2.2.2.2.1) art
def arv(y:Bool⊕((List (List UInt8))×(List (List UInt8)))){R:Type}(k:KT R):R:=match y with|.inl a0=>kk k Ex.ret X3 (((),((),(a0,()))),((),((),((),((),())))))|.inr a1=>kk k (Ex.exit 2) Yf (((),((),((),()))),((),((),(a1.1,(a1.2,())))))
def arw:List (cC K ((Bool)⊕((List (List UInt8))×(List (List UInt8))))):=[⟨Ex.ret,X3,fun x=>.inl x.1.2.2.1⟩,⟨(Ex.exit 2),Yf,fun x=>.inr ((x.2.2.2.1,x.2.2.2.2.1))⟩]
def X2:bf K:=bm D false 66 2 [3,4,45,46,47] [3,4,2] Yn (fun x=>M.sV x.1.2.2.1 x.1.2.2.2.1 x.2.2.2.1 af x.1.2.2.2.2.1 x.2.2.2.2.1) arv
def X4:bf K:=bm D false 32 0 [0,5,6] [0,2] IU (fun x=>M.vZ x.1.1 x.1.2.1 af x.1.2.2.1) Oy
def X5(m:(List UInt8)->Option Bool):an K:=cB 230 cH (fun x=>m x.1.1)
def Ii:Cx K:=aP [(272,.plain),(273,.plain),(274,.plain),(81,.plain),(77,.plain)] [X6 M.X7,X8 M.X9,Oz M.strings_IndexByte,OA M.OB,lA M.lB] [(2,X4)]
theorem Ya:aI Ii:=aL ay _ (ae arx (ae ary (ae arz (ae Yb (ae l9 ak)))))
theorem arA:bg Ii (aW (aY Tryz.f230) 0) X4:=lk (cx:=Ii) (sh:=IU) (run:=fun n x=>M.vZ x.1.1 x.1.2.1 n x.1.2.2.1) (bh:=OC) Ya (fun m x=>by kernel_rfl) (ae ⟨bX,fun _ _ _=>rfl⟩ (ae ⟨bp,fun _ _ _=>rfl⟩ ak))
theorem arB:ai (X5 (M.Dm)):=aG (cx:=Ii) true Ya Tryz.func230 (hl1 arA) ⟨zs0,fun x=>x.1.1⟩ (fun x=>by kernel_rfl)
def Yc(m:(List UInt8)->Option Bool):an K:=cB 229 cH (fun x=>m x.1.1)
def Yd:Cx K:=aP [(230,.plain)] [X5 M.Dm] []
theorem arC:aI Yd:=aL ay _ (ae arB ak)
theorem arD:ai (Yc (M.Dn)):=aG (cx:=Yd) true arC Tryz.func229 hq ⟨zs0,fun x=>x.1.1⟩ (fun x=>by kernel_rfl)
def Ye:bf K:=bm D false 19 0 [0,1,7,8] [4] Yv (fun x=>M.v7 x.1.1 x.1.2.2.1 af x.1.2.2.2.1) jd
def Yg(m:(List (List UInt8))->Option Int):an K:=cI 255 ⟨[.ah U.str,.fn 229 []],[]⟩ (fun x=>m x.1.1)
def Ij:Cx K:=aP [(229,.plain)] [Yc M.Dn] [(2,Ye)]
theorem Yh:aI Ij:=aL ay _ (ae arD ak)
theorem arE:bg Ij (aW (aY Tryz.f255) 0) Ye:=lk (cx:=Ij) (sh:=Yv) (run:=fun n x=>M.v7 x.1.1 x.1.2.2.1 n x.1.2.2.2.1) (bh:=je) Yh (fun m x=>by kernel_rfl) (ae ⟨bX,fun _ _ _=>rfl⟩ (ae ⟨bp,fun _ _ _=>rfl⟩ ak))
theorem arF:ai (Yg (M.Ik)):=aG (cx:=Ij) true Yh Tryz.func255 (hl1 arE) ⟨zs1,fun x=>x.1.1⟩ (fun x=>by kernel_rfl)
def Yi(m:(List (List UInt8))->Option Bool):an K:=cB 201 ⟨[.ah U.str,.fn 229 []],[]⟩ (fun x=>m x.1.1)
def Yj:Cx K:=aP [(255,.plain)] [Yg M.Ik] []
theorem arG:aI Yj:=aL ay _ (ae arF ak)
theorem arH:ai (Yi (M.Dp)):=aG (cx:=Yj) true arG Tryz.func201 hq ⟨zs0,fun x=>x.1.1⟩ (fun x=>by kernel_rfl)
def Yk(m:(List (List UInt8))->Option Bool):an K:=cB 169 pD (fun x=>m x.1.1)
def Yl:Cx K:=aP [(160,.plain),(201,.plain)] [yZ M.lC,Yi M.Dp] []
theorem arI:aI Yl:=aL ay _ (ae Il (ae arH ak))
theorem arJ:ai (Yk (M.y8)):=aG (cx:=Yl) true arI Tryz.func169 hq ⟨zs0,fun x=>x.1.1⟩ (fun x=>by kernel_rfl)
def Dq(m:M.aN->Option Bool):an K:=cB 118 ly (fun x=>m x.1.1)
def za:Cx K:=aP [(77,.plain),(168,.plain),(169,.plain)] [lA M.lB,Xz M.Da,Yk M.y8] [(5,XY),(12,X2)]
theorem OD:aI za:=aL ay _ (ae l9 (ae aq9 (ae arJ ak)))
theorem arK:bg za (aW (aY Tryz.f118) 0) XY:=lk (cx:=za) (sh:=X1) (run:=fun n x=>M.sU x.1.2.2.2.1 x.1.2.2.2.2.1 x.2.1 x.2.2.2.2.2.1 n x.1.2.2.2.2.2.1 x.2.2.2.2.1) (bh:=aru) OD (fun m x=>by kernel_rfl) (ae ⟨bX,fun _ _ _=>rfl⟩ (ae ⟨bp,fun _ _ _=>rfl⟩ ak))
theorem arL:bg za (aW (aY Tryz.f118) 1) X2:=lk (cx:=za) (sh:=Yn) (run:=fun n x=>M.sV x.1.2.2.1 x.1.2.2.2.1 x.2.2.2.1 n x.1.2.2.2.2.1 x.2.2.2.2.1) (bh:=arw) OD (fun m x=>by kernel_rfl) (ae ⟨bX,fun _ _ _=>rfl⟩ (ae ⟨bp,fun _ _ _=>rfl⟩ ak))
theorem Im:ai (Dq (M.nt)):=aG (cx:=za) true OD Tryz.func118 (hl2 arK arL) ⟨zs0,fun x=>x.1.1⟩ (fun x=>by kernel_rfl)
def Ym:bf K:=bm D false 30 1 [1,12,13] [2,3,4] Yx (fun x=>M.sW x.1.2.1 x.2.1 af x.1.2.2.1) VJ
def Yo(m:M.aN->Option (Int×Int×Int)):an K:={f:=212,sh:=ly,R:=Int×Int×Int,run:=fun x=>m x.1.1,dflt:=default,out:=fun r=>(Sh.enc D (.bQ [iq0,iq0,iq0]) (r.1,(r.2.1,(r.2.2,()))),bk.encs D [] ())}
def Io:Cx K:=aP [(173,.plain),(263,.fresh)] [Ip M.Iq,Yp M.Ds] [(2,Ym)]
theorem Yq:aI Io:=aL ay _ (ae OE (ae arM ak))
theorem arN:bg Io (aW (aY Tryz.f212) 0) Ym:=lk (cx:=Io) (sh:=Yx) (run:=fun n x=>M.sW x.1.2.1 x.2.1 n x.1.2.2.1) (bh:=VM) Yq (fun m x=>by kernel_rfl) (ae ⟨bX,fun _ _ _=>rfl⟩ (ae ⟨bp,fun _ _ _=>rfl⟩ ak))
theorem arO:ai (Yo (M.Dt)):=aG (cx:=Io) true Yq Tryz.func212 (hl1 arN) ⟨adp,fun x=>(x.1.1.1,x.1.1.2.1,x.1.1.2.2.1)⟩ (fun x=>by kernel_rfl)
def Yr(m:M.aN->Option (Int×Int×Int)):an K:={f:=154,sh:=ly,R:=Int×Int×Int,run:=fun x=>m x.1.1,dflt:=default,out:=fun r=>(Sh.enc D (.bQ [iq0,iq0,iq0]) (r.1,(r.2.1,(r.2.2,()))),bk.encs D [] ())}
def Ys:Cx K:=aP [(118,.plain),(212,.plain)] [Dq M.nt,Yo M.Dt] []
theorem arP:aI Ys:=aL ay _ (ae Im (ae arO ak))
theorem arQ:ai (Yr (M.Du)):=aG (cx:=Ys) true arP Tryz.func154 hq ⟨adp,fun x=>(x.1.1.1,x.1.1.2.1,x.1.1.2.2.1)⟩ (fun x=>by kernel_rfl)
def Yt(m:M.aN->Option Bool):an K:=cB 107 ly (fun x=>m x.1.1)
def Yu:Cx K:=aP [(154,.plain)] [Yr M.Du] []
theorem arR:aI Yu:=aL ay _ (ae arQ ak)
theorem arS:ai (Yt (M.Dv)):=aG (cx:=Yu) true arR Tryz.func107 hq ⟨zs0,fun x=>x.1.1⟩ (fun x=>by kernel_rfl)
def arT(y:(List M.ax)×Int×Int×(List M.cQ)){R:Type}(k:KT R):R:=match y with|a0=>kk k (Ex.exit 2) Yz (((),(a0.1,(a0.2.1,(a0.2.2.1,())))),((),((),(a0.2.2.2,()))))
def arU:List (cC K ((List M.ax)×Int×Int×(List M.cQ))):=[⟨(Ex.exit 2),Yz,fun x=>(x.1.2.1,x.1.2.2.1,x.1.2.2.2.1,x.2.2.2.1)⟩]
def Yw:bf K:=bm D false 35 2 [3,5,9,10,11,16,17,18] [3,9,10,11] YE (fun x=>M.so x.1.2.2.1 x.1.2.2.2.1 x.1.2.2.2.2.1 x.1.2.2.2.2.2.1 x.1.2.2.2.2.2.2.1 x.2.2.1 af x.1.2.2.2.2.2.2.2.1 x.2.2.2.1) arT
def arV(y:(List M.cQ)){R:Type}(k:KT R):R:=match y with|a0=>kk k (Ex.exit 0) ⟨[.own 1],[.dead,.arr U.bound]⟩ (((),()),((),(a0,())))
def arW:List (cC K ((List M.cQ))):=[⟨(Ex.exit 0),⟨[.own 1],[.dead,.arr U.bound]⟩,fun x=>x.2.2.1⟩]
def Yy:bf K:=bm D false 35 1 [3,9,10,11] [3] YL (fun x=>M.pw af x.1.2.1 x.1.2.2.1 x.1.2.2.2.1 x.2.2.1) arV
def OF(m:(List M.ax)->Option ((List M.cQ))):an K:={f:=155,sh:=adg,R:=(List M.cQ),run:=fun x=>m x.1.1,dflt:=default,out:=fun r=>(Sh.enc D (.ah U.bound) r,bk.encs D [] ())}
def zc:Cx K:=aP [(152,.plain)] [Ir M.mE] [(6,Yw),(3,Yy)]
theorem OG:aI zc:=aL ay _ (ae OH ak)
theorem arX:bg zc (aW (aW (aY Tryz.f155) 0) 0) Yw:=lk (cx:=zc) (sh:=YE) (run:=fun n x=>M.so x.1.2.2.1 x.1.2.2.2.1 x.1.2.2.2.2.1 x.1.2.2.2.2.2.1 x.1.2.2.2.2.2.2.1 x.2.2.1 n x.1.2.2.2.2.2.2.2.1 x.2.2.2.1) (bh:=arU) OG (fun m x=>by kernel_rfl) (ae ⟨bp,fun _ _ _=>rfl⟩ ak)
theorem arY:bg zc (aW (aY Tryz.f155) 0) Yy:=lk (cx:=zc) (sh:=YL) (run:=fun n x=>M.pw n x.1.2.1 x.1.2.2.1 x.1.2.2.2.1 x.2.2.1) (bh:=arW) OG (fun m x=>by kernel_rfl) (ae ⟨bp,fun _ _ _=>rfl⟩ ak) (hl:=(mG 1 (by kernel_rfl) (ns (.mk (by kernel_rfl) arX))))
theorem YA:ai (OF (M.vD)):=aG (cx:=zc) true OG Tryz.func155 (hl1 arY) ⟨⟨[.ah U.bound],[]⟩,fun x=>x.1.1⟩ (fun x=>by kernel_rfl)
def YB(m:M.av->(List UInt8)->Option Bool):an K:=cB 214 ⟨[.el U.Core,.rp U.str 0],[]⟩ (fun x=>m x.1.1 x.1.2.1)
theorem arZ:ai (YB (M.YC)):=aG (cx:=dy) true dA Tryz.func214 hq ⟨zs0,fun x=>x.1.1⟩ (fun x=>by kernel_rfl)
def YD:bf K:=bm D false 19 0 [0,1,7,8] [4] Y4 (fun x=>M.vz x.1.1 x.1.2.1.1 x.1.2.2.1 af x.1.2.2.2.1) jd
def YF(m:(List M.av)->(List UInt8)->Option Int):an K:=cI 213 ⟨[.ah U.Core,.fn 214 [.rp U.str 0]],[]⟩ (fun x=>m x.1.1 x.1.2.1.1)
def Is:Cx K:=aP [(214,.plain)] [YB M.YC] [(2,YD)]
theorem YG:aI Is:=aL ay _ (ae arZ ak)
theorem ar0:bg Is (aW (aY Tryz.f213) 0) YD:=lk (cx:=Is) (sh:=Y4) (run:=fun n x=>M.vz x.1.1 x.1.2.1.1 x.1.2.2.1 n x.1.2.2.2.1) (bh:=je) YG (fun m x=>by kernel_rfl) (ae ⟨bX,fun _ _ _=>rfl⟩ (ae ⟨bp,fun _ _ _=>rfl⟩ ak))
theorem ar1:ai (YF (M.G9)):=aG (cx:=Is) true YG Tryz.func213 (hl1 ar0) ⟨zs1,fun x=>x.1.1⟩ (fun x=>by kernel_rfl)
def YH(m:M.aN->(List UInt8)->Option (Int×Bool)):an K:={f:=156,sh:=H7,R:=Int×Bool,run:=fun x=>m x.1.1 x.1.2.1,dflt:=default,out:=fun r=>(Sh.enc D (.bQ [iq0,.bool]) (r.1,(r.2,())),bk.encs D [] ())}
def YI:Cx K:=aP [(213,.plain),(118,.plain)] [YF M.G9,Dq M.nt] []
theorem ar2:aI YI:=aL ay _ (ae ar1 (ae Im ak))
theorem ar4:ai (YH (M.B1)):=aG (cx:=YI) true ar2 Tryz.func156 hq ⟨JF,fun x=>(x.1.1.1,x.1.1.2.1)⟩ (fun x=>by kernel_rfl)
def lD(m:(List M.aa)->Option ((List Int))):an K:={f:=265,sh:=ma,R:=(List Int),run:=fun x=>m x.1.1,dflt:=default,out:=fun r=>(Sh.enc D (.ah U.i64) r,bk.encs D [] ())}
def YJ(m:M.aa->Option ((List M.aa))):an K:={f:=348,sh:=zs7,R:=(List M.aa),run:=fun x=>m x.1.1,dflt:=default,out:=fun r=>(Sh.enc D (.ah U.Type) r,bk.encs D [] ())}
theorem ar5:ai (YJ (M.It)):=aG (cx:=dy) true dA Tryz.func348 hq ⟨ma,fun x=>x.1.1⟩ (fun x=>by kernel_rfl)
def sX(m:M.aa->Option ((List Int))):an K:={f:=306,sh:=zs7,R:=(List Int),run:=fun x=>m x.1.1,dflt:=default,out:=fun r=>(Sh.enc D (.ah U.i64) r,bk.encs D [] ())}
def YK:bf K:=bm D false 47 1 [0,1,5,13,14] [5] Za (fun x=>M.sY x.1.1 x.1.2.1 x.1.2.2.2.1 af x.1.2.2.2.2.1 x.2.2.1) HL
def YM(m:(List Int)->(List Int)->Option ((List Int))):an K:={f:=349,sh:=⟨[.ah U.i64,.ah U.i64],[]⟩,R:=(List Int),run:=fun x=>m x.1.1 x.1.2.1,dflt:=default,out:=fun r=>(Sh.enc D (.own 0) (),bk.encs D [.arr U.i64] (r,()))}
def Iu:Cx K:={tl with mode:=dO .plain [],fl:=[[some U.i64]],call:=callOf D [],loop:=dI [(3,YK)]}
theorem YN:aI Iu:=aL ay _ ak
theorem ar6:bg Iu (aW (aY Tryz.f349) 0) YK:=lk (cx:=Iu) (sh:=Za) (run:=fun n x=>M.sY x.1.1 x.1.2.1 x.1.2.2.2.1 n x.1.2.2.2.2.1 x.2.2.1) (bh:=HN) YN (fun m x=>by kernel_rfl) (ae ⟨bp,fun _ _ _=>rfl⟩ ak)
theorem ar7:ai (YM (M.Dw)):=aG (cx:=Iu) false YN Tryz.func349 (hl1 ar6) ⟨N8,fun x=>x.2.1⟩ (fun x=>by kernel_rfl)
def YO(f8:M.aa->Option ((List Int))):bf K:=bm D false 45 1 [3,30,31,32] [3] O9 (fun x=>M.sZ f8 x.1.2.1 x.1.2.2.1 af x.1.2.2.2.1 x.2.2.1) Wq
def Ix(cY:(List M.aa)->Option ((List Int)))(f8:M.aa->Option ((List Int))):Cx K:=aP [(265,.fm),(348,.fm),(306,.fm),(349,.fresh)] [lD cY,YJ M.It,sX f8,YM M.Dw] [(17,YO f8)]
theorem YP(cY:(List M.aa)->Option ((List Int)))(ju:ai (lD cY))(f8:M.aa->Option ((List Int)))(zd:ai (sX f8)):aI (Ix cY f8):=aL ay _ (ae ju (ae ar5 (ae zd (ae ar7 ak))))
theorem ar8(cY:(List M.aa)->Option ((List Int)))(ju:ai (lD cY))(f8:M.aa->Option ((List Int)))(zd:ai (sX f8)):bg (Ix cY f8) (aW (aY Tryz.f306) 0) (YO f8):=lk (cx:=Ix cY f8) (sh:=O9) (run:=fun n x=>M.sZ f8 x.1.2.1 x.1.2.2.1 n x.1.2.2.2.1 x.2.2.1) (bh:=Ws) (YP cY ju f8 zd) (fun m x=>by kernel_rfl) (ae ⟨bp,fun _ _ _=>rfl⟩ ak)
theorem ar9(cY:(List M.aa)->Option ((List Int)))(ju:ai (lD cY))(f8:M.aa->Option ((List Int)))(zd:ai (sX f8)):ai (sX (M.Iy cY f8)):=fq (cx:=Ix cY f8) (fz:=true) ay (YP cY ju f8 zd) cM ⟨Tryz.func306,by kernel_rfl⟩ (hl1 (ar8 cY ju f8 zd)) ⟨sM,fun x=>x.1.1⟩ (fun x=>rfl) (fun x=>by kernel_rfl)
theorem YQ(cY:(List M.aa)->Option ((List Int)))(ju:ai (lD cY)):∀n,ai (sX (M.s6 cY n))|0=>iG fun _=>rfl|n+1=>ar9 cY ju (M.s6 cY n) (YQ cY ju n)
theorem asa(cY:(List M.aa)->Option ((List Int)))(ju:ai (lD cY)):ai (sX (M.Iz cY)):=YQ cY ju af
def YR(cY:(List M.aa)->Option ((List Int))):bf K:=bm D false 19 1 [3,7,8,9] [3] O9 (fun x=>M.s7 cY x.1.2.1 x.1.2.2.1 af x.1.2.2.2.1 x.2.2.1) HL
def IA(cY:(List M.aa)->Option ((List Int))):Cx K:=aP [(306,.fm)] [sX (M.Iz cY)] [(3,YR cY)]
theorem YS(cY:(List M.aa)->Option ((List Int)))(ju:ai (lD cY)):aI (IA cY):=aL ay _ (ae (asa cY ju) ak)
theorem asb(cY:(List M.aa)->Option ((List Int)))(ju:ai (lD cY)):bg (IA cY) (aW (aY Tryz.f265) 0) (YR cY):=lk (cx:=IA cY) (sh:=O9) (run:=fun n x=>M.s7 cY x.1.2.1 x.1.2.2.1 n x.1.2.2.2.1 x.2.2.1) (bh:=HN) (YS cY ju) (fun m x=>by kernel_rfl) (ae ⟨bp,fun _ _ _=>rfl⟩ ak)
theorem asc(cY:(List M.aa)->Option ((List Int)))(ju:ai (lD cY)):ai (lD (M.IB cY)):=fq (cx:=IA cY) (fz:=true) ay (YS cY ju) cM ⟨Tryz.func265,by kernel_rfl⟩ (hl1 (asb cY ju)) ⟨sM,fun x=>x.1.1⟩ (fun x=>rfl) (fun x=>by kernel_rfl)
theorem YT:∀n,ai (lD (M.qP n))|0=>iG fun _=>rfl|n+1=>asc (M.qP n) (YT n)
theorem YU:ai (lD (M.ze)):=YT af
def YV(m:(List M.aa)->Option Bool):an K:=cB 264 ma (fun x=>m x.1.1)
def YW:Cx K:=aP [(265,.fm)] [lD M.ze] []
theorem ase:aI YW:=aL ay _ (ae YU ak)
theorem asf:ai (YV (M.IC)):=aG (cx:=YW) true ase Tryz.func264 hq ⟨zs0,fun x=>x.1.1⟩ (fun x=>by kernel_rfl)
def YX(m:(List M.aa)->Option ((List Int))):an K:={f:=216,sh:=ma,R:=(List Int),run:=fun x=>m x.1.1,dflt:=default,out:=fun r=>(Sh.enc D (.ah U.i64) r,bk.encs D [] ())}
def YY:Cx K:=aP [(264,.plain),(265,.fm)] [YV M.IC,lD M.ze] []
theorem asg:aI YY:=aL ay _ (ae asf (ae YU ak))
theorem ash:ai (YX (M.ID)):=aG (cx:=YY) true asg Tryz.func216 hq ⟨sM,fun x=>x.1.1⟩ (fun x=>by kernel_rfl)
def OI(m:M.aJ->Option (Int×Bool)):an K:={f:=157,sh:=pB,R:=Int×Bool,run:=fun x=>m x.1.1,dflt:=default,out:=fun r=>(Sh.enc D (.bQ [iq0,.bool]) (r.1,(r.2,())),bk.encs D [] ())}
def YZ:Cx K:=aP [(209,.plain),(216,.fm),(215,.plain),(217,.plain)] [an.Y0 D (OJ M.qQ),YX M.ID,IE M.IF,IG M.IH] []
theorem asi:aI YZ:=aL ay _ (ae (an.asj ay Y1 rfl (fun _=>rfl)) (ae ash (ae OK (ae OL ak))))
theorem Y2:ai (OI (M.px)):=aG (cx:=YZ) true asi Tryz.func157 hq ⟨JF,fun x=>(x.1.1.1,x.1.1.2.1)⟩ (fun x=>by kernel_rfl)
def Y3:bf K:=bm D false 84 1 [1,3,21,22,23] [2] Zg (fun x=>M.vE x.1.2.1 x.1.2.2.1 x.1.2.2.2.1 x.2.1 af x.1.2.2.2.2.1) sB
def Y5(m:M.aV->Option Bool):an K:=cB 108 HM (fun x=>m x.1.1)
def II:Cx K:=aP [(155,.fm),(156,.plain),(157,.plain)] [OF M.vD,YH M.B1,OI M.px] [(5,Y3)]
theorem Y6:aI II:=aL ay _ (ae YA (ae ar4 (ae Y2 ak)))
theorem asl:bg II (aW (aY Tryz.f108) 0) Y3:=lk (cx:=II) (sh:=Zg) (run:=fun n x=>M.vE x.1.2.1 x.1.2.2.1 x.1.2.2.2.1 x.2.1 n x.1.2.2.2.2.1) (bh:=sC) Y6 (fun m x=>by kernel_rfl) (ae ⟨bX,fun _ _ _=>rfl⟩ (ae ⟨bp,fun _ _ _=>rfl⟩ ak))
theorem asn:ai (Y5 (M.B2)):=aG (cx:=II) true Y6 Tryz.func108 (hl1 asl) ⟨zs0,fun x=>x.1.1⟩ (fun x=>by kernel_rfl)
def Y7(m:M.aO->(List UInt8)->Option Bool):an K:=cB 219 ⟨[.el U.Import,.rp U.str 0],[]⟩ (fun x=>m x.1.1 x.1.2.1)
theorem aso:ai (Y7 (M.Y8)):=aG (cx:=dy) true dA Tryz.func219 hq ⟨zs0,fun x=>x.1.1⟩ (fun x=>by kernel_rfl)
def Y9:bf K:=bm D false 19 0 [0,1,7,8] [4] Zj (fun x=>M.vB x.1.1 x.1.2.1.1 x.1.2.2.1 af x.1.2.2.2.1) jd
def Zb(m:(List M.aO)->(List UInt8)->Option Int):an K:=cI 218 ⟨[.ah U.Import,.fn 219 [.rp U.str 0]],[]⟩ (fun x=>m x.1.1 x.1.2.1.1)
def IJ:Cx K:=aP [(219,.plain)] [Y7 M.Y8] [(2,Y9)]
theorem Zc:aI IJ:=aL ay _ (ae aso ak)
theorem asq:bg IJ (aW (aY Tryz.f218) 0) Y9:=lk (cx:=IJ) (sh:=Zj) (run:=fun n x=>M.vB x.1.1 x.1.2.1.1 x.1.2.2.1 n x.1.2.2.2.1) (bh:=je) Zc (fun m x=>by kernel_rfl) (ae ⟨bX,fun _ _ _=>rfl⟩ (ae ⟨bp,fun _ _ _=>rfl⟩ ak))
theorem asr:ai (Zb (M.Ha)):=aG (cx:=IJ) true Zc Tryz.func218 (hl1 asq) ⟨zs1,fun x=>x.1.1⟩ (fun x=>by kernel_rfl)
def OM(m:M.aN->(List UInt8)->Option (Int×Bool)):an K:={f:=158,sh:=H7,R:=Int×Bool,run:=fun x=>m x.1.1 x.1.2.1,dflt:=default,out:=fun r=>(Sh.enc D (.bQ [iq0,.bool]) (r.1,(r.2,())),bk.encs D [] ())}
def Zd:Cx K:=aP [(218,.plain),(118,.plain)] [Zb M.Ha,Dq M.nt] []
theorem ass:aI Zd:=aL ay _ (ae asr (ae Im ak))
theorem Ze:ai (OM (M.vA)):=aG (cx:=Zd) true ass Tryz.func158 hq ⟨JF,fun x=>(x.1.1.1,x.1.1.2.1)⟩ (fun x=>by kernel_rfl)
def Zf:bf K:=bm D false 84 1 [1,3,21,22,23] [2] Zk (fun x=>M.vF x.1.2.1 x.1.2.2.1 x.1.2.2.2.1 x.2.1 af x.1.2.2.2.2.1) sB
def Zh(m:M.aV->Option Bool):an K:=cB 109 HM (fun x=>m x.1.1)
def IK:Cx K:=aP [(155,.fm),(158,.plain),(157,.plain)] [OF M.vD,OM M.vA,OI M.px] [(5,Zf)]
theorem Zi:aI IK:=aL ay _ (ae YA (ae Ze (ae Y2 ak)))
theorem ast:bg IK (aW (aY Tryz.f109) 0) Zf:=lk (cx:=IK) (sh:=Zk) (run:=fun n x=>M.vF x.1.2.1 x.1.2.2.1 x.1.2.2.2.1 x.2.1 n x.1.2.2.2.2.1) (bh:=sC) Zi (fun m x=>by kernel_rfl) (ae ⟨bX,fun _ _ _=>rfl⟩ (ae ⟨bp,fun _ _ _=>rfl⟩ ak))
theorem asu:ai (Zh (M.B5)):=aG (cx:=IK) true Zi Tryz.func109 (hl1 ast) ⟨zs0,fun x=>x.1.1⟩ (fun x=>by kernel_rfl)
def asv(y:(Bool×M.ax)⊕((List UInt8)×(List UInt8)×(List UInt8)×(List (List UInt8))×(List M.aA))){R:Type}(k:KT R):R:=match y with|.inl a0=>kk k Ex.ret Zm (((),(a0.1,())),(a0.2,((),((),()))))|.inr a1=>kk k (Ex.exit 0) Zt (((),((),())),((a1.1,(a1.2.1,(a1.2.2.1,((),((),()))))),((),((),(a1.2.2.2.1,(a1.2.2.2.2,()))))))
def asw:List (cC K ((Bool×M.ax)⊕((List UInt8)×(List UInt8)×(List UInt8)×(List (List UInt8))×(List M.aA)))):=[⟨Ex.ret,Zm,fun x=>.inl (x.1.2.1,x.2.1)⟩,⟨(Ex.exit 0),Zt,fun x=>.inr ((x.2.1.1,x.2.1.2.1,x.2.1.2.2.1,x.2.2.2.2.1,x.2.2.2.2.2.1))⟩]
def Zl:bf K:=bm D false 21 3 [1,4,8,9,10] [4,5] Zx (fun x=>M.vG x.1.1 x.1.2.2.1 x.1.2.2.2.1 x.2.1.1 x.2.1.2.1 x.2.1.2.2.1 x.2.2.2.2.1 x.2.2.2.2.2.1 af x.1.2.2.2.2.1) asv
def Zn(m:(List M.ax)->(List UInt8)->Option (M.ax×Bool)):an K:={f:=220,sh:=⟨[.ah U.aS,.str],[]⟩,R:=M.ax×Bool,run:=fun x=>m x.1.1 x.1.2.1,dflt:=default,out:=fun r=>(Sh.enc D (.bQ [.el U.aS,.bool]) (r.1,(r.2,())),bk.encs D [] ())}
def IL:Cx K:=aP [(152,.plain)] [Ir M.mE] [(2,Zl)]
theorem Zo:aI IL:=aL ay _ (ae OH ak)
theorem asx:bg IL (aW (aY Tryz.f220) 0) Zl:=lk (cx:=IL) (sh:=Zx) (run:=fun n x=>M.vG x.1.1 x.1.2.2.1 x.1.2.2.2.1 x.2.1.1 x.2.1.2.1 x.2.1.2.2.1 x.2.2.2.2.1 x.2.2.2.2.2.1 n x.1.2.2.2.2.1) (bh:=asw) Zo (fun m x=>by kernel_rfl) (ae ⟨bX,fun _ _ _=>rfl⟩ (ae ⟨bp,fun _ _ _=>rfl⟩ ak))
theorem asy:ai (Zn (M.B6)):=aG (cx:=IL) true Zo Tryz.func220 (hl1 asx) ⟨⟨[.bQ [.el U.aS,.bool]],[]⟩,fun x=>(x.1.1.1,x.1.1.2.1)⟩ (fun x=>by kernel_rfl)
def Zp(m:(List M.ax)->(List UInt8)->(List UInt8)->Option Bool):an K:=cB 159 ⟨[.ah U.aS,.str,.str],[]⟩ (fun x=>m x.1.1 x.1.2.1 x.1.2.2.1)
def Zq:Cx K:=aP [(220,.fm),(206,.plain)] [Zn M.B6,ON M.sq] []
theorem asz:aI Zq:=aL ay _ (ae asy (ae Zr ak))
theorem asA:ai (Zp (M.yH)):=aG (cx:=Zq) true asz Tryz.func159 hq ⟨zs0,fun x=>x.1.1⟩ (fun x=>by kernel_rfl)
def asB(y:Bool⊕(M.aV)){R:Type}(k:KT R):R:=match y with|.inl a0=>kk k Ex.ret adh (((),(a0,())),((),()))|.inr a1=>kk k (Ex.exit 0) ⟨[.ptr 0 0,.any],[.el U.eM]⟩ (((),((),())),(a1,()))
def asC:List (cC K ((Bool)⊕(M.aV))):=[⟨Ex.ret,adh,fun x=>.inl x.1.2.1⟩,⟨(Ex.exit 0),⟨[.ptr 0 0,.any],[.el U.eM]⟩,fun x=>.inr (x.2.1)⟩]
def Zs:bf K:=bm D false 79 1 [1,11,12,13] [1,2] Zz (fun x=>M.vJ x.1.2.1 x.1.2.2.1 x.2.1 af x.1.2.2.2.1) asB
def Zu(m:M.aV->Option Bool):an K:=cB 110 HM (fun x=>m x.1.1)
def IM:Cx K:=aP [(159,.plain),(158,.plain),(77,.plain)] [Zp M.yH,OM M.vA,lA M.lB] [(2,Zs)]
theorem Zv:aI IM:=aL ay _ (ae asA (ae Ze (ae l9 ak)))
theorem asD:bg IM (aW (aY Tryz.f110) 0) Zs:=lk (cx:=IM) (sh:=Zz) (run:=fun n x=>M.vJ x.1.2.1 x.1.2.2.1 x.2.1 n x.1.2.2.2.1) (bh:=asC) Zv (fun m x=>by kernel_rfl) (ae ⟨bX,fun _ _ _=>rfl⟩ (ae ⟨bp,fun _ _ _=>rfl⟩ ak))
theorem asE:ai (Zu (M.B9)):=aG (cx:=IM) true Zv Tryz.func110 (hl1 asD) ⟨zs0,fun x=>x.1.1⟩ (fun x=>by kernel_rfl)
def asF(y:M.aV×(List (List UInt8))){R:Type}(k:KT R):R:=match y with|a0=>kk k (Ex.exit 0) Pe (((),((),())),(a0.1,((),(a0.2,()))))
def asG:List (cC K (M.aV×(List (List UInt8)))):=[⟨(Ex.exit 0),Pe,fun x=>(x.2.1,x.2.2.2.1)⟩]
def Zw:bf K:=bm D false 46 2 [1,3,10,11,12] [1,3] ZI (fun x=>M.vL x.1.2.2.1 x.1.2.2.2.1 x.2.1 af x.1.2.2.2.2.1 x.2.2.2.1) asF
def asH(y:M.aV×(List (List UInt8))){R:Type}(k:KT R):R:=match y with|a0=>kk k (Ex.exit 2) Pe (((),((),())),(a0.1,((),(a0.2,()))))
def asI:List (cC K (M.aV×(List (List UInt8)))):=[⟨(Ex.exit 2),Pe,fun x=>(x.2.1,x.2.2.2.1)⟩]
def Zy:bf K:=bm D false 46 2 [1,3,23,24,25] [1,3] ZM (fun x=>M.vM x.1.2.2.1 x.1.2.2.2.1 x.2.1 af x.1.2.2.2.2.1 x.2.2.2.1) asH
def ZA(m:M.aV->Option Bool):an K:=cB 111 HM (fun x=>m x.1.1)
def zf:Cx K:=aP [(160,.plain)] [yZ M.lC] [(3,Zw),(8,Zy)]
theorem OO:aI zf:=aL ay _ (ae Il ak)
theorem asJ:bg zf (aW (aY Tryz.f111) 0) Zw:=lk (cx:=zf) (sh:=ZI) (run:=fun n x=>M.vL x.1.2.2.1 x.1.2.2.2.1 x.2.1 n x.1.2.2.2.2.1 x.2.2.2.1) (bh:=asG) OO (fun m x=>by kernel_rfl) (ae ⟨bp,fun _ _ _=>rfl⟩ ak)
theorem asK:bg zf (aW (aY Tryz.f111) 1) Zy:=lk (cx:=zf) (sh:=ZM) (run:=fun n x=>M.vM x.1.2.2.1 x.1.2.2.2.1 x.2.1 n x.1.2.2.2.2.1 x.2.2.2.1) (bh:=asI) OO (fun m x=>by kernel_rfl) (ae ⟨bp,fun _ _ _=>rfl⟩ ak)
theorem asL:ai (ZA (M.Cc)):=aG (cx:=zf) true OO Tryz.func111 (hl2 asJ asK) ⟨zs0,fun x=>x.1.1⟩ (fun x=>by kernel_rfl)
def ZB(m:M.aV->Option ((List UInt8))):an K:=cS 58 HM (fun x=>m x.1.1)
def ZC:Cx K:=aP [(103,.plain),(104,.plain),(105,.plain),(106,.plain),(107,.plain),(77,.plain),(108,.plain),(109,.plain),(110,.plain),(111,.plain)] [zg M.kg,OP M.v8,ZD M.zh,Xl M.Xn,Yt M.Dv,lA M.lB,Y5 M.B2,Zh M.B5,Zu M.B9,ZA M.Cc] []
theorem asM:aI ZC:=aL ay _ (ae Dx (ae ZE (ae asN (ae aq0 (ae arS (ae l9 (ae asn (ae asu (ae asE (ae asL ak))))))))))
theorem asO:ai (ZB (M.Cf)):=aG (cx:=ZC) true asM Tryz.func58 hq ⟨cH,fun x=>x.1.1⟩ (fun x=>by kernel_rfl)
def ZF(m:M.aV->Option Bool):an K:=cB 28 HM (fun x=>m x.1.1)
def ZG:Cx K:=aP [(58,.plain)] [ZB M.Cf] []
theorem asP:aI ZG:=aL ay _ (ae asO ak)
theorem asQ:ai (ZF (M.Cj)):=aG (cx:=ZG) true asP Tryz.func28 hq ⟨zs0,fun x=>x.1.1⟩ (fun x=>by kernel_rfl)
def DL(y:(List UInt8)){R:Type}(k:KT R):R:=match y with|a0=>kk k (Ex.exit 0) qM (((),()),((),(a0,())))
def DN:List (cC K ((List UInt8))):=[⟨(Ex.exit 0),qM,fun x=>x.2.2.1⟩]
def aah:bf K:=bm D 0 20 1 [0,5,7,8] [5] ZV (fun x=>M.rY x.1.2.2.1 af x.1.1 x.1.2.2.2.1 x.2.2.1) DL
def DO(m:Int->Int->Option ((List UInt8))):an K:=cS 163 JL (fun x=>m x.1.1 x.1.2.1)
def IX:Cx K:=aP [] [] [(3,aah)]
theorem aaj:aI IX:=aL ay _ ak
theorem ato:bg IX (aW (aY Tryz.f163) 0) aah:=eU (cx:=IX) (sh:=ZV) (run:=fun n x=>M.rY x.1.2.2.1 n x.1.1 x.1.2.2.2.1 x.2.2.1) (bh:=DN) ay aaj cM (eN (by kernel_rfl)) (fun _=>rfl) (fun m x=>by kernel_rfl) (ae ⟨bp,fun _ _ _=>rfl⟩ ak) 0 af
theorem IY:ai (DO (M.jK)):=aG (cx:=IX) true aaj Tryz.func163 (hl1 ato) ⟨cH,fun x=>x.1.1⟩ (fun x=>by kernel_rfl)
def IZ(y:Int×(List UInt8)){R:Type}(k:KT R):R:=match y with|a0=>kk k (Ex.exit 0) pF ((a0.1,((),())),((),(a0.2,())))
def I0:List (cC K (Int×(List UInt8))):=[⟨(Ex.exit 0),pF,fun x=>(x.1.1,x.2.2.1)⟩]
def aak:bf K:=bm D 0 24 1 [0,3] [0,3] pF (fun x=>M.uW af x.1.1 x.2.2.1) IZ
def kM(m:Int->Option ((List UInt8))):an K:=cS 63 zs1 (fun x=>m x.1.1)
def I1:Cx K:=aP [] [] [(4,aak)]
theorem aal:aI I1:=aL ay _ ak
theorem atp:bg I1 (aW (aY Tryz.f63) 0) aak:=eU (cx:=I1) (sh:=pF) (run:=fun n x=>M.uW n x.1.1 x.2.2.1) (bh:=I0) ay aal cM (eN (by kernel_rfl)) (fun _=>rfl) (fun m x=>by kernel_rfl) (ae ⟨bp,fun _ _ _=>rfl⟩ ak) 0 af
theorem lE:ai (kM (M.dN)):=aG (cx:=I1) true aal Tryz.func63 (hl1 atp) ⟨cH,fun x=>x.1.1⟩ (fun x=>by kernel_rfl)
def nw(m:(List UInt8)->Option ((List UInt8))):an K:=cS 42 cH (fun x=>m x.1.1)
def aam:Cx K:=aP [(81,.plain),(63,.plain)] [OA M.OB,kM M.dN] []
theorem atq:aI aam:=aL ay _ (ae Yb (ae lE ak))
theorem pG:ai (nw (M.ajE)):=aG (cx:=aam) true atq Tryz.func42 hq ⟨cH,fun x=>x.1.1⟩ (fun x=>by kernel_rfl)
def ny(m:(List UInt8)->(List UInt8)->Option (Int×(List UInt8))):an K:={f:=79,sh:=⟨[.ptr 0 0,.str],[.box [.np 0,.own 1],.arr U.u8]⟩,R:=Int×(List UInt8),run:=fun x=>m x.1.2.1 x.2.2.1,dflt:=default,out:=fun r=>(Sh.enc D (.bQ [iq0,.any]) (r.1,((),())),bk.encs D [.box [.np 0,.own 2],.dead,.arr U.u8] (((),((),())),((),(r.2,()))))}
def aan:Cx K:={tl with mode:=dO .plain [(128,.eV)],mv:=true,call:=callOf D [OU M.OV],loop:=dI []}
theorem atr:aI aan:=aL ay _ (ae att ak)
theorem pH:ai (ny (M.eQ)):=aG (cx:=aan) true atr Tryz.func79 hq ⟨⟨[.bQ [iq0,.any]],[.box [.np 0,.own 2],.dead,.arr U.u8]⟩,fun x=>(x.1.1.1,x.2.2.2.1)⟩ (fun x=>by kernel_rfl)
def mb(m:M.aa->Option ((List UInt8))):an K:=cS 167 zs7 (fun x=>m x.1.1)
def qR(y:(List UInt8)){R:Type}(k:KT R):R:=match y with|a0=>kk k (Ex.exit 0) zs9 (((),()),(((),((),())),((),(a0,()))))
def qS:List (cC K ((List UInt8))):=[⟨(Ex.exit 0),zs9,fun x=>x.2.2.2.1⟩]
def aap(dh:M.aa->Option ((List UInt8))):bf K:=bm D 0 24 2 [1,5,12,13,14] [5] Z3 (fun x=>M.oy dh x.1.2.2.1 x.1.2.2.2.1 af x.1.2.2.2.2.1 x.2.2.2.1) qR
def aar(m:(List M.aa)->Option ((List UInt8))):an K:=cS 225 ⟨[.ah U.Type,.fn 167 []],[]⟩ (fun x=>m x.1.1)
def I2(dh:M.aa->Option ((List UInt8))):Cx K:=aP [(269,.plain),(63,.plain),(79,.eV),(80,.eV),(167,.plain)] [I3 M.I4,kM M.dN,ny M.eQ,mb dh,mH M.ei] [(4,aap dh)]
theorem aas(dh:M.aa->Option ((List UInt8)))(lF:ai (mb dh)):aI (I2 dh):=aL ay _ (ae OW (ae lE (ae pH (ae lF (ae pI ak)))))
theorem atu(dh:M.aa->Option ((List UInt8)))(lF:ai (mb dh)):bg (I2 dh) (aW (aY Tryz.f225) 0) (aap dh):=eU (cx:=I2 dh) (sh:=Z3) (run:=fun n x=>M.oy dh x.1.2.2.1 x.1.2.2.2.1 n x.1.2.2.2.2.1 x.2.2.2.1) (bh:=qS) ay (aas dh lF) cM (eN (by kernel_rfl)) (fun _=>rfl) (fun m x=>by kernel_rfl) (ae ⟨bp,fun _ _ _=>rfl⟩ ak) 0 af
theorem atv(dh:M.aa->Option ((List UInt8)))(lF:ai (mb dh)):ai (aar (M.A4 dh)):=fq (cx:=I2 dh) (fz:=true) ay (aas dh lF) cM ⟨Tryz.func225,by kernel_rfl⟩ (hl1 (atu dh lF)) ⟨cH,fun x=>x.1.1⟩ (fun x=>rfl) (fun x=>by kernel_rfl)
def aat:bf K:=bm D 0 24 2 [1,5,12,13,14] [5] Z9 (fun x=>M.oq x.1.2.2.1 x.1.2.2.2.1 af x.1.2.2.2.2.1 x.2.2.2.1) qR
def OX(m:(List (List UInt8))->Option ((List UInt8))):an K:=cS 115 ⟨[.ah U.str,.fn 42 []],[]⟩ (fun x=>m x.1.1)
def I5:Cx K:=aP [(161,.plain),(63,.plain),(79,.eV),(80,.eV),(42,.plain)] [I6 M.I7,kM M.dN,ny M.eQ,nw M.ajE,mH M.ei] [(4,aat)]
theorem aav:aI I5:=aL ay _ (ae OY (ae lE (ae pH (ae pG (ae pI ak)))))
theorem atw:bg I5 (aW (aY Tryz.f115) 0) aat:=eU (cx:=I5) (sh:=Z9) (run:=fun n x=>M.oq x.1.2.2.1 x.1.2.2.2.1 n x.1.2.2.2.2.1 x.2.2.2.1) (bh:=qS) ay aav cM (eN (by kernel_rfl)) (fun _=>rfl) (fun m x=>by kernel_rfl) (ae ⟨bp,fun _ _ _=>rfl⟩ ak) 0 af
theorem aaw:ai (OX (M.u0)):=aG (cx:=I5) true aav Tryz.func115 (hl1 atw) ⟨cH,fun x=>x.1.1⟩ (fun x=>by kernel_rfl)
def atx(y:(List UInt8)){R:Type}(k:KT R):R:=match y with|a0=>kk k (Ex.exit 1) cH ((a0,()),())
def aty:List (cC K ((List UInt8))):=[⟨(Ex.exit 1),cH,fun x=>x.1.1⟩]
def aax(dh:M.aa->Option ((List UInt8))):bf K:=bm D 0 54 0 [3,42,43,44] [3] aai (fun x=>M.ow dh x.1.2.1 x.1.2.2.1 af x.1.1 x.1.2.2.2.1) atx
def I8(dh:M.aa->Option ((List UInt8))):Cx K:=aP [(163,.plain),(42,.plain),(225,.plain),(77,.plain),(115,.plain),(167,.plain)] [DO M.jK,nw M.ajE,aar (M.A4 dh),lA M.lB,OX M.u0,mb dh] [(9,aax dh)]
theorem aaz(dh:M.aa->Option ((List UInt8)))(lF:ai (mb dh)):aI (I8 dh):=aL ay _ (ae IY (ae pG (ae (atv dh lF) (ae l9 (ae aaw (ae lF ak))))))
theorem atz(dh:M.aa->Option ((List UInt8)))(lF:ai (mb dh)):bg (I8 dh) (aW (aY Tryz.f167) 0) (aax dh):=eU (cx:=I8 dh) (sh:=aai) (run:=fun n x=>M.ow dh x.1.2.1 x.1.2.2.1 n x.1.1 x.1.2.2.2.1) (bh:=aty) ay (aaz dh lF) cM (eN (by kernel_rfl)) (fun _=>rfl) (fun m x=>by kernel_rfl) (ae ⟨bp,fun _ _ _=>rfl⟩ ak) 0 af
theorem atA(dh:M.aa->Option ((List UInt8)))(lF:ai (mb dh)):ai (mb (M.GM dh)):=fq (cx:=I8 dh) (fz:=true) ay (aaz dh lF) cM ⟨Tryz.func167,by kernel_rfl⟩ (hl1 (atz dh lF)) ⟨cH,fun x=>x.1.1⟩ (fun x=>rfl) (fun x=>by kernel_rfl)
theorem aaA:∀n,ai (mb (M.u6 n))|0=>iG fun _=>rfl|n+1=>atA (M.u6 n) (aaA n)
theorem aaB:ai (mb (M.yt)):=aaA af
def aaC:bf K:=bm D 0 27 1 [0,1,5,6] [5] aaq (fun x=>M.rZ x.1.2.1 af x.1.1 x.1.2.2.2.1 x.2.2.1) DL
def I9(m:Int->Int->Option ((List UInt8))):an K:=cS 194 JL (fun x=>m x.1.1 x.1.2.1)
def Ja:Cx K:=aP [(89,.plain)] [pz M.pA] [(3,aaC)]
theorem aaE:aI Ja:=aL ay _ (ae qN ak)
theorem atB:bg Ja (aW (aY Tryz.f194) 0) aaC:=eU (cx:=Ja) (sh:=aaq) (run:=fun n x=>M.rZ x.1.2.1 n x.1.1 x.1.2.2.2.1 x.2.2.1) (bh:=DN) ay aaE cM (eN (by kernel_rfl)) (fun _=>rfl) (fun m x=>by kernel_rfl) (ae ⟨bp,fun _ _ _=>rfl⟩ ak) 0 af
theorem OZ:ai (I9 (M.j0)):=aG (cx:=Ja) true aaE Tryz.func194 (hl1 atB) ⟨cH,fun x=>x.1.1⟩ (fun x=>by kernel_rfl)
def aaF:bf K:=bm D 0 24 1 [0,3] [0,3] pF (fun x=>M.uX af x.1.1 x.2.2.1) IZ
def nz(m:Int->Option ((List UInt8))):an K:=cS 36 zs1 (fun x=>m x.1.1)
def Jb:Cx K:=aP [] [] [(4,aaF)]
theorem aaG:aI Jb:=aL ay _ ak
theorem atC:bg Jb (aW (aY Tryz.f36) 0) aaF:=eU (cx:=Jb) (sh:=pF) (run:=fun n x=>M.uX n x.1.1 x.2.2.1) (bh:=I0) ay aaG cM (eN (by kernel_rfl)) (fun _=>rfl) (fun m x=>by kernel_rfl) (ae ⟨bp,fun _ _ _=>rfl⟩ ak) 0 af
theorem pJ:ai (nz (M.eG)):=aG (cx:=Jb) true aaG Tryz.func36 (hl1 atC) ⟨cH,fun x=>x.1.1⟩ (fun x=>by kernel_rfl)
def te(m:(List UInt8)->Option ((List UInt8))):an K:=cS 38 cH (fun x=>m x.1.1)
def aaH:Cx K:=aP [(36,.plain)] [nz M.eG] []
theorem atD:aI aaH:=aL ay _ (ae pJ ak)
theorem alR:ai (te (M.fi)):=aG (cx:=aaH) true atD Tryz.func38 hq ⟨cH,fun x=>x.1.1⟩ (fun x=>by kernel_rfl)
def aaI:bf K:=bm D 0 24 1 [0,3,4] [3] aau (fun x=>M.ou x.1.1 af x.1.2.2.1 x.2.2.1) DL
def O0(m:(List (List UInt8))->Option ((List UInt8))):an K:=cS 139 pD (fun x=>m x.1.1)
def Jc:Cx K:=aP [(36,.plain),(38,.plain)] [nz M.eG,te M.fi] [(3,aaI)]
theorem aaK:aI Jc:=aL ay _ (ae pJ (ae alR ak))
theorem atE:bg Jc (aW (aY Tryz.f139) 0) aaI:=eU (cx:=Jc) (sh:=aau) (run:=fun n x=>M.ou x.1.1 n x.1.2.2.1 x.2.2.1) (bh:=DN) ay aaK cM (eN (by kernel_rfl)) (fun _=>rfl) (fun m x=>by kernel_rfl) (ae ⟨bp,fun _ _ _=>rfl⟩ ak) 0 af
theorem aaL:ai (O0 (M.u4)):=aG (cx:=Jc) true aaK Tryz.func139 (hl1 atE) ⟨cH,fun x=>x.1.1⟩ (fun x=>by kernel_rfl)
def tf(m:M.aa->Option ((List UInt8))):an K:=cS 189 zs7 (fun x=>m x.1.1)
def atF(y:(List UInt8)){R:Type}(k:KT R):R:=match y with|a0=>kk k (Ex.exit 1) ⟨[.str],[.dead]⟩ ((a0,()),((),()))
def atG:List (cC K ((List UInt8))):=[⟨(Ex.exit 1),⟨[.str],[.dead]⟩,fun x=>x.1.1⟩]
def aaM(f9:M.aa->Option ((List UInt8))):bf K:=bm D 0 53 1 [1,3,4] [3] aay (fun x=>M.ox f9 af x.1.2.1 x.1.2.2.1 x.2.1) atF
def Jd(f9:M.aa->Option ((List UInt8))):Cx K:=aP [(194,.plain),(38,.plain),(139,.plain),(36,.plain),(189,.plain)] [I9 M.j0,te M.fi,O0 M.u4,nz M.eG,tf f9] [(9,aaM f9)]
theorem aaO(f9:M.aa->Option ((List UInt8)))(zk:ai (tf f9)):aI (Jd f9):=aL ay _ (ae OZ (ae alR (ae aaL (ae pJ (ae zk ak)))))
theorem atH(f9:M.aa->Option ((List UInt8)))(zk:ai (tf f9)):bg (Jd f9) (aW (aY Tryz.f189) 0) (aaM f9):=eU (cx:=Jd f9) (sh:=aay) (run:=fun n x=>M.ox f9 n x.1.2.1 x.1.2.2.1 x.2.1) (bh:=atG) ay (aaO f9 zk) cM (eN (by kernel_rfl)) (fun _=>rfl) (fun m x=>by kernel_rfl) (ae ⟨bp,fun _ _ _=>rfl⟩ ak) 0 af
theorem atI(f9:M.aa->Option ((List UInt8)))(zk:ai (tf f9)):ai (tf (M.GN f9)):=fq (cx:=Jd f9) (fz:=true) ay (aaO f9 zk) cM ⟨Tryz.func189,by kernel_rfl⟩ (hl1 (atH f9 zk)) ⟨cH,fun x=>x.1.1⟩ (fun x=>rfl) (fun x=>by kernel_rfl)
theorem aaP:∀n,ai (tf (M.vd n))|0=>iG fun _=>rfl|n+1=>atI (M.vd n) (aaP n)
theorem atJ:ai (tf (M.A6)):=aaP af
def aaQ(m:(List M.aA)->Option Int):an K:=cI 162 ⟨[.ah U.Func],[]⟩ (fun x=>m x.1.1)
theorem atK:ai (aaQ (M.aaR)):=aG (cx:=dy) true dA Tryz.func162 hq ⟨zs1,fun x=>x.1.1⟩ (fun x=>by kernel_rfl)
def aaS(m:(List M.ar)->Option Int):an K:=cI 224 Hz (fun x=>m x.1.1)
theorem atL:ai (aaS (M.aaT)):=aG (cx:=dy) true dA Tryz.func224 hq ⟨zs1,fun x=>x.1.1⟩ (fun x=>by kernel_rfl)
def aaU(m:M.ar->Option ((List UInt8))):an K:=cS 166 ⟨[.el U.Param],[]⟩ (fun x=>m x.1.1)
def aaV:Cx K:=aP [(42,.plain),(167,.plain)] [nw M.ajE,mb M.yt] []
theorem atM:aI aaV:=aL ay _ (ae pG (ae aaB ak))
theorem atN:ai (aaU (M.A8)):=aG (cx:=aaV) true atM Tryz.func166 hq ⟨cH,fun x=>x.1.1⟩ (fun x=>by kernel_rfl)
def aaW:bf K:=bm D 0 24 2 [1,5,12,13,14] [5] aaD (fun x=>M.oz x.1.2.2.1 x.1.2.2.2.1 af x.1.2.2.2.2.1 x.2.2.2.1) qR
def aaY(m:(List M.ar)->Option ((List UInt8))):an K:=cS 165 ⟨[.ah U.Param,.fn 166 []],[]⟩ (fun x=>m x.1.1)
def Je:Cx K:=aP [(224,.plain),(63,.plain),(79,.eV),(80,.eV),(166,.plain)] [aaS M.aaT,kM M.dN,ny M.eQ,aaU M.A8,mH M.ei] [(4,aaW)]
theorem aaZ:aI Je:=aL ay _ (ae atL (ae lE (ae pH (ae atN (ae pI ak)))))
theorem atO:bg Je (aW (aY Tryz.f165) 0) aaW:=eU (cx:=Je) (sh:=aaD) (run:=fun n x=>M.oz x.1.2.2.1 x.1.2.2.2.1 n x.1.2.2.2.2.1 x.2.2.2.1) (bh:=qS) ay aaZ cM (eN (by kernel_rfl)) (fun _=>rfl) (fun m x=>by kernel_rfl) (ae ⟨bp,fun _ _ _=>rfl⟩ ak) 0 af
theorem atP:ai (aaY (M.A9)):=aG (cx:=Je) true aaZ Tryz.func165 (hl1 atO) ⟨cH,fun x=>x.1.1⟩ (fun x=>by kernel_rfl)
def aa0(m:M.aA->Option ((List UInt8))):an K:=cS 117 adi (fun x=>m x.1.1)
def aa1:Cx K:=aP [(42,.plain),(164,.plain),(163,.plain),(165,.plain),(167,.plain)] [nw M.ajE,we M.iD,DO M.jK,aaY M.A9,mb M.yt] []
theorem atQ:aI aa1:=aL ay _ (ae pG (ae zl (ae IY (ae atP (ae aaB ak)))))
theorem atS:ai (aa0 (M.A7)):=aG (cx:=aa1) true atQ Tryz.func117 hq ⟨cH,fun x=>x.1.1⟩ (fun x=>by kernel_rfl)
def aa2:bf K:=bm D 0 24 2 [1,5,12,13,14] [5] aaJ (fun x=>M.oC x.1.2.2.1 x.1.2.2.2.1 af x.1.2.2.2.2.1 x.2.2.2.1) qR
def aa4(m:(List M.aA)->Option ((List UInt8))):an K:=cS 116 ⟨[.ah U.Func,.fn 117 []],[]⟩ (fun x=>m x.1.1)
def Jf:Cx K:=aP [(162,.plain),(63,.plain),(79,.eV),(80,.eV),(117,.plain)] [aaQ M.aaR,kM M.dN,ny M.eQ,aa0 M.A7,mH M.ei] [(4,aa2)]
theorem aa5:aI Jf:=aL ay _ (ae atK (ae lE (ae pH (ae atS (ae pI ak)))))
theorem atT:bg Jf (aW (aY Tryz.f116) 0) aa2:=eU (cx:=Jf) (sh:=aaJ) (run:=fun n x=>M.oC x.1.2.2.1 x.1.2.2.2.1 n x.1.2.2.2.2.1 x.2.2.2.1) (bh:=qS) ay aa5 cM (eN (by kernel_rfl)) (fun _=>rfl) (fun m x=>by kernel_rfl) (ae ⟨bp,fun _ _ _=>rfl⟩ ak) 0 af
theorem atU:ai (aa4 (M.Bd)):=aG (cx:=Jf) true aa5 Tryz.func116 (hl1 atT) ⟨cH,fun x=>x.1.1⟩ (fun x=>by kernel_rfl)
def aa6(m:M.ax->Option ((List UInt8))):an K:=cS 65 sQ (fun x=>m x.1.1)
def aa7:Cx K:=aP [(42,.plain),(115,.plain),(116,.plain)] [nw M.ajE,OX M.u0,aa4 M.Bd] []
theorem atV:aI aa7:=aL ay _ (ae pG (ae aaw (ae atU ak)))
theorem atW:ai (aa6 (M.Bc)):=aG (cx:=aa7) true atV Tryz.func65 hq ⟨cH,fun x=>x.1.1⟩ (fun x=>by kernel_rfl)
def O1(m:Bool->Option ((List UInt8))):an K:=cS 143 zs0 (fun x=>m x.1.1)
theorem aa8:ai (O1 (M.se)):=aG (cx:=dy) true dA Tryz.func143 hq ⟨cH,fun x=>x.1.1⟩ (fun x=>by kernel_rfl)
def atX(y:(List UInt8)×M.aA){R:Type}(k:KT R):R:=match y with|a0=>kk k (Ex.exit 0) ⟨[.ptr 0 0,.str],[.el U.Func]⟩ (((),(a0.1,())),(a0.2,()))
def atY:List (cC K ((List UInt8)×M.aA)):=[⟨(Ex.exit 0),⟨[.ptr 0 0,.str],[.el U.Func]⟩,fun x=>(x.1.2.1,x.2.1)⟩]
def aa9:bf K:=bm D 0 52 1 [1,3,4] [1,3] aaN (fun x=>M.vf af x.1.2.1 x.1.2.2.1 x.2.1) atX
def abb(m:M.aA->Option ((List UInt8))):an K:=cS 140 adi (fun x=>m x.1.1)
def Jg:Cx K:=aP [(38,.plain),(143,.plain),(36,.plain),(189,.plain)] [te M.fi,O1 M.se,nz M.eG,tf M.A6] [(3,aa9)]
theorem abd:aI Jg:=aL ay _ (ae alR (ae aa8 (ae pJ (ae atJ ak))))
theorem atZ:bg Jg (aW (aY Tryz.f140) 0) aa9:=eU (cx:=Jg) (sh:=aaN) (run:=fun n x=>M.vf n x.1.2.1 x.1.2.2.1 x.2.1) (bh:=atY) ay abd cM (eN (by kernel_rfl)) (fun _=>rfl) (fun m x=>by kernel_rfl) (ae ⟨bp,fun _ _ _=>rfl⟩ ak) 0 af
theorem at1:ai (abb (M.Ba)):=aG (cx:=Jg) true abd Tryz.func140 (hl1 atZ) ⟨cH,fun x=>x.1.1⟩ (fun x=>by kernel_rfl)
def at6(y:(List UInt8)){R:Type}(k:KT R):R:=match y with|a0=>kk k (Ex.exit 0) Ol (((),()),((),((),(a0,()))))
def at7:List (cC K ((List UInt8))):=[⟨(Ex.exit 0),Ol,fun x=>x.2.2.2.1⟩]
def abe:bf K:=bm D 0 43 2 [1,3,4] [3] aaX (fun x=>M.oD x.2.1 af x.1.2.2.1 x.2.2.2.1) at6
def abg(m:M.ax->Option ((List UInt8))):an K:=cS 95 sQ (fun x=>m x.1.1)
def Ji:Cx K:=aP [(38,.plain),(139,.plain),(36,.plain),(140,.plain)] [te M.fi,O0 M.u4,nz M.eG,abb M.Ba] [(3,abe)]
theorem abh:aI Ji:=aL ay _ (ae alR (ae aaL (ae pJ (ae at1 ak))))
theorem aua:bg Ji (aW (aY Tryz.f95) 0) abe:=eU (cx:=Ji) (sh:=aaX) (run:=fun n x=>M.oD x.2.1 n x.1.2.2.1 x.2.2.2.1) (bh:=at7) ay abh cM (eN (by kernel_rfl)) (fun _=>rfl) (fun m x=>by kernel_rfl) (ae ⟨bp,fun _ _ _=>rfl⟩ ak) 0 af
theorem aub:ai (abg (M.Be)):=aG (cx:=Ji) true abh Tryz.func95 (hl1 aua) ⟨cH,fun x=>x.1.1⟩ (fun x=>by kernel_rfl)
def abj(m:M.aN->Option Bool):an K:=cB 96 ly (fun x=>m x.1.1)
def abk:Cx K:=aP [(141,.plain)] [Oe M.vS] []
theorem auc:aI abk:=aL ay _ (ae VI ak)
theorem aud:ai (abj (M.BF)):=aG (cx:=abk) true auc Tryz.func96 hq ⟨zs0,fun x=>x.1.1⟩ (fun x=>by kernel_rfl)
def aue(y:(List UInt8)×M.aN){R:Type}(k:KT R):R:=match y with|a0=>kk k (Ex.exit 0) ⟨[.ptr 0 0,.str],[.el U.Module]⟩ (((),(a0.1,())),(a0.2,()))
def auf:List (cC K ((List UInt8)×M.aN)):=[⟨(Ex.exit 0),⟨[.ptr 0 0,.str],[.el U.Module]⟩,fun x=>(x.1.2.1,x.2.1)⟩]
def abl:bf K:=bm D 0 93 1 [1,3,4] [1,3] aa3 (fun x=>M.oN x.2.1 af x.1.2.1 x.1.2.2.1) aue
def O2(m:M.aE->Option Bool):an K:=cB 195 HJ (fun x=>m x.1.1)
def abn:Cx K:=aP [(247,.plain)] [N9 M.yN] []
theorem aug:aI abn:=aL ay _ (ae Vy ak)
theorem abo:ai (O2 (M.vj)):=aG (cx:=abn) true aug Tryz.func195 hq ⟨zs0,fun x=>x.1.1⟩ (fun x=>by kernel_rfl)
def abp:bf K:=bm D 0 27 1 [0,3] [0,3] pF (fun x=>M.vh af x.1.1 x.2.2.1) IZ
def abq(m:Int->Option ((List UInt8))):an K:=cS 249 zs1 (fun x=>m x.1.1)
def Jj:Cx K:=aP [] [] [(2,abp)]
theorem abr:aI Jj:=aL ay _ ak
theorem auh:bg Jj (aW (aY Tryz.f249) 0) abp:=eU (cx:=Jj) (sh:=pF) (run:=fun n x=>M.vh n x.1.1 x.2.2.1) (bh:=I0) ay abr cM (eN (by kernel_rfl)) (fun _=>rfl) (fun m x=>by kernel_rfl) (ae ⟨bp,fun _ _ _=>rfl⟩ ak) 0 af
theorem aui:ai (abq (M.Bh)):=aG (cx:=Jj) true abr Tryz.func249 (hl1 auh) ⟨cH,fun x=>x.1.1⟩ (fun x=>by kernel_rfl)
def abt(m:M.aE->Option ((List UInt8))):an K:=cS 196 HJ (fun x=>m x.1.1)
def abu:Cx K:=aP [(195,.plain),(194,.plain),(248,.plain),(249,.plain),(36,.plain)] [O2 M.vj,I9 M.j0,Oa M.yu,abq M.Bh,nz M.eG] []
theorem auj:aI abu:=aL ay _ (ae abo (ae OZ (ae Vx (ae aui (ae pJ ak)))))
theorem auk:ai (abt (M.Bj)):=aG (cx:=abu) true auj Tryz.func196 hq ⟨cH,fun x=>x.1.1⟩ (fun x=>by kernel_rfl)
def aul(y:((List UInt8))⊕((List UInt8))){R:Type}(k:KT R):R:=match y with|.inl a0=>kk k Ex.ret Pg (((),(a0,())),((),((),())))|.inr a1=>kk k (Ex.exit 0) Ph (((),((),())),((),(a1,())))
def aum:List (cC K (((List UInt8))⊕((List UInt8)))):=[⟨Ex.ret,Pg,fun x=>.inl x.1.2.1⟩,⟨(Ex.exit 0),Ph,fun x=>.inr (x.2.2.1)⟩]
def abv:bf K:=bm D 0 33 1 [0,3,4] [3,2] aba (fun x=>M.vm x.1.1 af x.1.2.2.1 x.2.2.1) aul
def abx(m:(List M.aE)->Option ((List UInt8))):an K:=cS 144 C4 (fun x=>m x.1.1)
def Jl:Cx K:=aP [(36,.plain),(195,.plain),(196,.plain)] [nz M.eG,O2 M.vj,abt M.Bj] [(5,abv)]
theorem aby:aI Jl:=aL ay _ (ae pJ (ae abo (ae auk ak)))
theorem aun:bg Jl (aW (aY Tryz.f144) 0) abv:=eU (cx:=Jl) (sh:=aba) (run:=fun n x=>M.vm x.1.1 n x.1.2.2.1 x.2.2.1) (bh:=aum) ay aby cM (eN (by kernel_rfl)) (fun _=>rfl) (fun m x=>by kernel_rfl) (ae ⟨bX,fun _ _ _=>rfl⟩ (ae ⟨bp,fun _ _ _=>rfl⟩ ak)) 0 af
theorem auo:ai (abx (M.Bo)):=aG (cx:=Jl) true aby Tryz.func144 (hl1 aun) ⟨cH,fun x=>x.1.1⟩ (fun x=>by kernel_rfl)
def abz(y:(List UInt8)×(List UInt8)×(List UInt8)×M.aN){R:Type}(k:KT R):R:=match y with|a0=>kk k (Ex.exit 2) CO (((),(a0.1,(a0.2.1,(a0.2.2.1,())))),(a0.2.2.2,()))
def abA:List (cC K ((List UInt8)×(List UInt8)×(List UInt8)×M.aN)):=[⟨(Ex.exit 2),CO,fun x=>(x.1.2.1,x.1.2.2.1,x.1.2.2.2.1,x.2.1)⟩]
def abB:bf K:=bm D 0 93 1 [1,3,6,7,8] [1,3,6,7] abf (fun x=>M.oO x.1.2.1 x.2.1 af x.1.2.2.1 x.1.2.2.2.1 x.1.2.2.2.2.1) abz
def abD(m:M.aN->Option ((List M.dn))):an K:={f:=98,sh:=ly,R:=(List M.dn),run:=fun x=>m x.1.1,dflt:=default,out:=fun r=>(Sh.enc D (.ah U.jQ) r,bk.encs D [] ())}
def zm:Cx K:=aP [(36,.plain),(38,.plain),(143,.plain),(144,.plain)] [nz M.eG,te M.fi,O1 M.se,abx M.Bo] [(3,abl),(9,abB)]
theorem O3:aI zm:=aL ay _ (ae pJ (ae alR (ae aa8 (ae auo ak))))
theorem aup:bg zm (aW (aY Tryz.f98) 0) abl:=eU (cx:=zm) (sh:=aa3) (run:=fun n x=>M.oN x.2.1 n x.1.2.1 x.1.2.2.1) (bh:=auf) ay O3 cM (eN (by kernel_rfl)) (fun _=>rfl) (fun m x=>by kernel_rfl) (ae ⟨bp,fun _ _ _=>rfl⟩ ak) 0 af
theorem auq:bg zm (aW (aY Tryz.f98) 1) abB:=eU (cx:=zm) (sh:=abf) (run:=fun n x=>M.oO x.1.2.1 x.2.1 n x.1.2.2.1 x.1.2.2.2.1 x.1.2.2.2.2.1) (bh:=abA) ay O3 cM (eN (by kernel_rfl)) (fun _=>rfl) (fun m x=>by kernel_rfl) (ae ⟨bp,fun _ _ _=>rfl⟩ ak) 0 af
theorem aur:ai (abD (M.Bv)):=aG (cx:=zm) true O3 Tryz.func98 (hl2 aup auq) ⟨Oi,fun x=>x.1.1⟩ (fun x=>by kernel_rfl)
def aus(y:(List UInt8)×(List UInt8)×(List UInt8)×M.aN){R:Type}(k:KT R):R:=match y with|a0=>kk k (Ex.exit 0) CO (((),(a0.1,(a0.2.1,(a0.2.2.1,())))),(a0.2.2.2,()))
def aut:List (cC K ((List UInt8)×(List UInt8)×(List UInt8)×M.aN)):=[⟨(Ex.exit 0),CO,fun x=>(x.1.2.1,x.1.2.2.1,x.1.2.2.2.1,x.2.1)⟩]
def abE:bf K:=bm D 0 87 1 [1,3,4,5,23,24,25] [1,3,4,5] abm (fun x=>M.oL x.1.2.2.1 x.1.2.2.2.1 x.1.2.2.2.2.1 x.1.2.2.2.2.2.1 x.2.1 af x.1.2.1 x.1.2.2.2.2.2.2.1) aus
def abH(m:M.aE->Option Bool):an K:=cB 232 HJ (fun x=>m x.1.1)
theorem auu:ai (abH (M.Bm)):=aG (cx:=Ox) true Xs Tryz.func232 hq ⟨zs0,fun x=>x.1.1⟩ (fun x=>by kernel_rfl)
def abI:bf K:=bm D 0 19 0 [0,1,7,8] [4] abw (fun x=>M.vl x.1.1 x.1.2.2.1 af x.1.2.2.2.1) jd
def abK(m:(List M.aE)->Option Int):an K:=cI 270 ⟨[.ah U.Ins,.fn 232 []],[]⟩ (fun x=>m x.1.1)
def Jo:Cx K:=aP [(232,.plain)] [abH M.Bm] [(2,abI)]
theorem abL:aI Jo:=aL ay _ (ae auu ak)
theorem auv:bg Jo (aW (aY Tryz.f270) 0) abI:=eU (cx:=Jo) (sh:=abw) (run:=fun n x=>M.vl x.1.1 x.1.2.2.1 n x.1.2.2.2.1) (bh:=je) ay abL cM (eN (by kernel_rfl)) (fun _=>rfl) (fun m x=>by kernel_rfl) (ae ⟨bX,fun _ _ _=>rfl⟩ (ae ⟨bp,fun _ _ _=>rfl⟩ ak)) 0 af
theorem auw:ai (abK (M.GX)):=aG (cx:=Jo) true abL Tryz.func270 (hl1 auv) ⟨zs1,fun x=>x.1.1⟩ (fun x=>by kernel_rfl)
def abM(m:(List M.aE)->Option Bool):an K:=cB 226 ⟨[.ah U.Ins,.fn 232 []],[]⟩ (fun x=>m x.1.1)
def abN:Cx K:=aP [(270,.plain)] [abK M.GX] []
theorem auy:aI abN:=aL ay _ (ae auw ak)
theorem auz:ai (abM (M.Bn)):=aG (cx:=abN) true auy Tryz.func226 hq ⟨zs0,fun x=>x.1.1⟩ (fun x=>by kernel_rfl)
def abO:bf K:=bm D 0 24 1 [0,3] [0,3] pF (fun x=>M.vg af x.1.1 x.2.2.1) IZ
def abP(m:Int->Option ((List UInt8))):an K:=cS 277 zs1 (fun x=>m x.1.1)
def Jp:Cx K:=aP [(77,.plain)] [lA M.lB] [(2,abO)]
theorem abQ:aI Jp:=aL ay _ (ae l9 ak)
theorem auA:bg Jp (aW (aY Tryz.f277) 0) abO:=eU (cx:=Jp) (sh:=pF) (run:=fun n x=>M.vg n x.1.1 x.2.2.1) (bh:=I0) ay abQ cM (eN (by kernel_rfl)) (fun _=>rfl) (fun m x=>by kernel_rfl) (ae ⟨bp,fun _ _ _=>rfl⟩ ak) 0 af
theorem auB:ai (abP (M.Bg)):=aG (cx:=Jp) true abQ Tryz.func277 (hl1 auA) ⟨cH,fun x=>x.1.1⟩ (fun x=>by kernel_rfl)
def abR(m:M.aE->Option ((List UInt8))):an K:=cS 234 HJ (fun x=>m x.1.1)
def abS:Cx K:=aP [(163,.plain),(271,.plain),(277,.plain),(63,.plain)] [DO M.jK,Ov M.m3,abP M.Bg,kM M.dN] []
theorem auC:aI abS:=aL ay _ (ae IY (ae Xq (ae auB (ae lE ak))))
theorem auD:ai (abR (M.Bi)):=aG (cx:=abS) true auC Tryz.func234 hq ⟨cH,fun x=>x.1.1⟩ (fun x=>by kernel_rfl)
def abT:bf K:=bm D 0 28 2 [3,17,18,19] [3] abC (fun x=>M.oI x.1.2.1 x.1.2.2.1 af x.1.2.2.2.1 x.2.2.2.1) qR
def abV(m:(List M.aE)->Option ((List UInt8))):an K:=cS 174 C4 (fun x=>m x.1.1)
def Jq:Cx K:=aP [(226,.plain),(233,.plain),(63,.plain),(79,.eV),(234,.plain),(80,.eV)] [abM M.Bn,Jr M.Js,kM M.dN,ny M.eQ,abR M.Bi,mH M.ei] [(6,abT)]
theorem abW:aI Jq:=aL ay _ (ae auz (ae O4 (ae lE (ae pH (ae auD (ae pI ak))))))
theorem auE:bg Jq (aW (aY Tryz.f174) 0) abT:=eU (cx:=Jq) (sh:=abC) (run:=fun n x=>M.oI x.1.2.1 x.1.2.2.1 n x.1.2.2.2.1 x.2.2.2.1) (bh:=qS) ay abW cM (eN (by kernel_rfl)) (fun _=>rfl) (fun m x=>by kernel_rfl) (ae ⟨bp,fun _ _ _=>rfl⟩ ak) 0 af
theorem auF:ai (abV (M.Bl)):=aG (cx:=Jq) true abW Tryz.func174 (hl1 auE) ⟨cH,fun x=>x.1.1⟩ (fun x=>by kernel_rfl)
def abX:bf K:=bm D 0 87 1 [1,3,4,5,45,46,47] [1,3,4,5] abG (fun x=>M.oM x.1.2.1 x.1.2.2.2.2.1 x.1.2.2.2.2.2.1 x.2.1 af x.1.2.2.1 x.1.2.2.2.1 x.1.2.2.2.2.2.2.1) abz
def abZ(m:M.aN->Option ((List M.dn))):an K:={f:=120,sh:=ly,R:=(List M.dn),run:=fun x=>m x.1.1,dflt:=default,out:=fun r=>(Sh.enc D (.ah U.jQ) r,bk.encs D [] ())}
def zn:Cx K:=aP [(172,.plain),(63,.plain),(173,.plain),(42,.plain),(164,.plain),(174,.plain)] [O5 M.O6,kM M.dN,Ip M.Iq,nw M.ajE,we M.iD,abV M.Bl] [(3,abE),(8,abX)]
theorem O7:aI zn:=aL ay _ (ae ab1 (ae lE (ae OE (ae pG (ae zl (ae auF ak))))))
theorem auG:bg zn (aW (aY Tryz.f120) 0) abE:=eU (cx:=zn) (sh:=abm) (run:=fun n x=>M.oL x.1.2.2.1 x.1.2.2.2.1 x.1.2.2.2.2.1 x.1.2.2.2.2.2.1 x.2.1 n x.1.2.1 x.1.2.2.2.2.2.2.1) (bh:=aut) ay O7 cM (eN (by kernel_rfl)) (fun _=>rfl) (fun m x=>by kernel_rfl) (ae ⟨bp,fun _ _ _=>rfl⟩ ak) 0 af
theorem auH:bg zn (aW (aY Tryz.f120) 1) abX:=eU (cx:=zn) (sh:=abG) (run:=fun n x=>M.oM x.1.2.1 x.1.2.2.2.2.1 x.1.2.2.2.2.2.1 x.2.1 n x.1.2.2.1 x.1.2.2.2.1 x.1.2.2.2.2.2.2.1) (bh:=abA) ay O7 cM (eN (by kernel_rfl)) (fun _=>rfl) (fun m x=>by kernel_rfl) (ae ⟨bp,fun _ _ _=>rfl⟩ ak) 0 af
theorem auI:ai (abZ (M.Bt)):=aG (cx:=zn) true O7 Tryz.func120 (hl2 auG auH) ⟨Oi,fun x=>x.1.1⟩ (fun x=>by kernel_rfl)
def ab2(m:M.dn->Option Bool):an K:=cB 170 ⟨[.el U.jQ],[]⟩ (fun x=>m x.1.1)
def ab3:Cx K:=aP [(77,.plain),(231,.plain)] [lA M.lB,ab4 M.GY] []
theorem auJ:aI ab3:=aL ay _ (ae l9 (ae auK ak))
theorem auL:ai (ab2 (M.Bz)):=aG (cx:=ab3) true auJ Tryz.func170 hq ⟨zs0,fun x=>x.1.1⟩ (fun x=>by kernel_rfl)
def auM(y:((List UInt8))⊕((List UInt8))){R:Type}(k:KT R):R:=match y with|.inl a0=>kk k Ex.ret ⟨[.any,.str],[.dead,.dead,.dead]⟩ (((),(a0,())),((),((),((),()))))|.inr a1=>kk k (Ex.exit 0) abJ (((),((),())),(((),((),())),((),(a1,()))))
def auN:List (cC K (((List UInt8))⊕((List UInt8)))):=[⟨Ex.ret,⟨[.any,.str],[.dead,.dead,.dead]⟩,fun x=>.inl x.1.2.1⟩,⟨(Ex.exit 0),abJ,fun x=>.inr (x.2.2.2.1)⟩]
def ab6:bf K:=bm D 0 41 2 [3,11,12,13] [3,2] abU (fun x=>M.oP x.1.2.1 x.1.2.2.1 af x.1.2.2.2.1 x.2.2.2.1) auM
def ab8(m:(List UInt8)->Option (Int×(List UInt8))):an K:={f:=171,sh:=⟨[.ptr 0 0],[.box [.np 0,.own 1],.arr U.u8]⟩,R:=Int×(List UInt8),run:=fun x=>m x.2.2.1,dflt:=default,out:=fun r=>(Sh.enc D (.int .i64) r.1,bk.encs D [.box [.np 0,.own 2],.dead,.arr U.u8] (((),((),())),((),(r.2,()))))}
def ab9:Cx K:={tl with mode:=dO .plain [],mv:=true,call:=callOf D [],loop:=dI []}
theorem auO:aI ab9:=aL ay _ ak
theorem auP:ai (ab8 (M.aca)):=aG (cx:=ab9) true auO Tryz.func171 hq ⟨⟨[iq0],[.box [.np 0,.own 2],.dead,.arr U.u8]⟩,fun x=>(x.1.1,x.2.2.2.1)⟩ (fun x=>by kernel_rfl)
def acb(m:(List M.dn)->Option ((List UInt8))):an K:=cS 119 Oi (fun x=>m x.1.1)
def Jt:Cx K:=aP [(79,.eV),(170,.plain),(42,.plain),(163,.plain),(171,.eV),(80,.eV)] [ny M.eQ,ab2 M.Bz,nw M.ajE,DO M.jK,ab8 M.aca,mH M.ei] [(6,ab6)]
theorem acd:aI Jt:=aL ay _ (ae pH (ae auL (ae pG (ae IY (ae auP (ae pI ak))))))
theorem auQ:bg Jt (aW (aY Tryz.f119) 0) ab6:=eU (cx:=Jt) (sh:=abU) (run:=fun n x=>M.oP x.1.2.1 x.1.2.2.1 n x.1.2.2.2.1 x.2.2.2.1) (bh:=auN) ay acd cM (eN (by kernel_rfl)) (fun _=>rfl) (fun m x=>by kernel_rfl) (ae ⟨bX,fun _ _ _=>rfl⟩ (ae ⟨bp,fun _ _ _=>rfl⟩ ak)) 0 af
theorem auR:ai (acb (M.BA)):=aG (cx:=Jt) true acd Tryz.func119 (hl1 auQ) ⟨cH,fun x=>x.1.1⟩ (fun x=>by kernel_rfl)
def ace(m:M.aN->Option ((List UInt8))):an K:=cS 66 ly (fun x=>m x.1.1)
def acf:Cx K:=aP [(118,.plain),(120,.fm),(119,.plain)] [Dq M.nt,abZ M.Bt,acb M.BA] []
theorem auS:aI acf:=aL ay _ (ae Im (ae auI (ae auR ak)))
theorem auT:ai (ace (M.BD)):=aG (cx:=acf) true auS Tryz.func66 hq ⟨cH,fun x=>x.1.1⟩ (fun x=>by kernel_rfl)
def acg(m:M.dn->Option ((List UInt8))):an K:=cS 142 ⟨[.el U.jQ],[]⟩ (fun x=>m x.1.1)
def ach:Cx K:=aP [(194,.plain),(38,.plain)] [I9 M.j0,te M.fi] []
theorem auU:aI ach:=aL ay _ (ae OZ (ae alR ak))
theorem auV:ai (acg (M.BB)):=aG (cx:=ach) true auU Tryz.func142 hq ⟨cH,fun x=>x.1.1⟩ (fun x=>by kernel_rfl)
def aci:bf K:=bm D 0 22 1 [0,3,4] [3] abY (fun x=>M.oQ x.1.1 af x.1.2.2.1 x.2.2.1) DL
def ack(m:(List M.dn)->Option ((List UInt8))):an K:=cS 97 Oi (fun x=>m x.1.1)
def Ju:Cx K:=aP [(142,.plain)] [acg M.BB] [(3,aci)]
theorem acm:aI Ju:=aL ay _ (ae auV ak)
theorem auW:bg Ju (aW (aY Tryz.f97) 0) aci:=eU (cx:=Ju) (sh:=abY) (run:=fun n x=>M.oQ x.1.1 n x.1.2.2.1 x.2.2.1) (bh:=DN) ay acm cM (eN (by kernel_rfl)) (fun _=>rfl) (fun m x=>by kernel_rfl) (ae ⟨bp,fun _ _ _=>rfl⟩ ak) 0 af
theorem auX:ai (ack (M.BC)):=aG (cx:=Ju) true acm Tryz.func97 (hl1 auW) ⟨cH,fun x=>x.1.1⟩ (fun x=>by kernel_rfl)
def acn(m:M.aN->Option ((List UInt8))):an K:=cS 51 ly (fun x=>m x.1.1)
def aco:Cx K:=aP [(96,.plain),(98,.fm),(97,.plain)] [abj M.BF,abD M.Bv,ack M.BC] []
theorem auY:aI aco:=aL ay _ (ae aud (ae aur (ae auX ak)))
theorem auZ:ai (acn (M.BE)):=aG (cx:=aco) true auY Tryz.func51 hq ⟨cH,fun x=>x.1.1⟩ (fun x=>by kernel_rfl)
def acp:bf K:=bm D 0 24 1 [0,3,4] [3] ab5 (fun x=>M.o5 x.1.1 af x.1.2.2.1 x.2.2.1) DL
def acs(m:(List M.ax)->Option ((List UInt8))):an K:=cS 50 adg (fun x=>m x.1.1)
def Jv:Cx K:=aP [(36,.plain),(95,.plain)] [nz M.eG,abg M.Be] [(3,acp)]
theorem acu:aI Jv:=aL ay _ (ae pJ (ae aub ak))
theorem au0:bg Jv (aW (aY Tryz.f50) 0) acp:=eU (cx:=Jv) (sh:=ab5) (run:=fun n x=>M.o5 x.1.1 n x.1.2.2.1 x.2.2.1) (bh:=DN) ay acu cM (eN (by kernel_rfl)) (fun _=>rfl) (fun m x=>by kernel_rfl) (ae ⟨bp,fun _ _ _=>rfl⟩ ak) 0 af
theorem au1:ai (acs (M.yz)):=aG (cx:=Jv) true acu Tryz.func50 (hl1 au0) ⟨cH,fun x=>x.1.1⟩ (fun x=>by kernel_rfl)
def au2(y:M.aV×(List UInt8)){R:Type}(k:KT R):R:=match y with|a0=>kk k (Ex.exit 0) OT (((),((),())),(a0.1,((),(a0.2,()))))
def au3:List (cC K (M.aV×(List UInt8))):=[⟨(Ex.exit 0),OT,fun x=>(x.2.1,x.2.2.2.1)⟩]
def acv:bf K:=bm D 0 119 2 [1,3,4] [1,3] DR (fun x=>M.pd x.2.1 af x.1.2.2.1 x.2.2.2.1) au2
def au4(y:M.aV×(List UInt8)){R:Type}(k:KT R):R:=match y with|a0=>kk k (Ex.exit 2) OT (((),((),())),(a0.1,((),(a0.2,()))))
def au5:List (cC K (M.aV×(List UInt8))):=[⟨(Ex.exit 2),OT,fun x=>(x.2.1,x.2.2.2.1)⟩]
def acw:bf K:=bm D 0 119 2 [1,3,5] [1,3] DR (fun x=>M.pe x.2.1 af x.1.2.2.1 x.2.2.2.1) au4
def au6(y:(List UInt8)){R:Type}(k:KT R):R:=match y with|a0=>kk k (Ex.exit 4) Ol (((),()),((),((),(a0,()))))
def au7:List (cC K ((List UInt8))):=[⟨(Ex.exit 4),Ol,fun x=>x.2.2.2.1⟩]
def acx:bf K:=bm D 0 119 2 [1,3,6] [3] DR (fun x=>M.pf x.2.1 af x.1.2.2.1 x.2.2.2.1) au6
def acy(m:M.aV->Option ((List UInt8))):an K:=cS 22 HM (fun x=>m x.1.1)
def tg:Cx K:=aP [(38,.plain),(36,.plain),(50,.plain),(51,.plain)] [te M.fi,nz M.eG,acs M.yz,acn M.BE] [(4,acv),(9,acw),(14,acx)]
theorem Jy:aI tg:=aL ay _ (ae alR (ae pJ (ae au1 (ae auZ ak))))
theorem au8:bg tg (aW (aY Tryz.f22) 0) acv:=eU (cx:=tg) (sh:=DR) (run:=fun n x=>M.pd x.2.1 n x.1.2.2.1 x.2.2.2.1) (bh:=au3) ay Jy cM (eN (by kernel_rfl)) (fun _=>rfl) (fun m x=>by kernel_rfl) (ae ⟨bp,fun _ _ _=>rfl⟩ ak) 0 af
theorem au9:bg tg (aW (aY Tryz.f22) 1) acw:=eU (cx:=tg) (sh:=DR) (run:=fun n x=>M.pe x.2.1 n x.1.2.2.1 x.2.2.2.1) (bh:=au5) ay Jy cM (eN (by kernel_rfl)) (fun _=>rfl) (fun m x=>by kernel_rfl) (ae ⟨bp,fun _ _ _=>rfl⟩ ak) 0 af
theorem ava:bg tg (aW (aY Tryz.f22) 2) acx:=eU (cx:=tg) (sh:=DR) (run:=fun n x=>M.pf x.2.1 n x.1.2.2.1 x.2.2.2.1) (bh:=au7) ay Jy cM (eN (by kernel_rfl)) (fun _=>rfl) (fun m x=>by kernel_rfl) (ae ⟨bp,fun _ _ _=>rfl⟩ ak) 0 af
theorem avb:ai (acy (M.BN)):=aG (cx:=tg) true Jy Tryz.func22 (Jz (mG 3 (by kernel_rfl) (lt_succ (lt_succ (ns (.mk (by kernel_rfl) au8)) (.mk (by kernel_rfl) au9)) (.mk (by kernel_rfl) ava)))) ⟨cH,fun x=>x.1.1⟩ (fun x=>by kernel_rfl)
def acz(m:(List UInt8)->Option ((List UInt8))):an K:=cS 21 cH (fun x=>m x.1.1)
theorem avc:ai (acz (M.BO)):=aG (cx:=dy) true dA Tryz.func21 hq ⟨cH,fun x=>x.1.1⟩ (fun x=>by kernel_rfl)
def acC(m:(List M.bF)->Option Int):an K:=cI 112 ⟨[.ah U.dK],[]⟩ (fun x=>m x.1.1)
theorem avf:ai (acC (M.acD)):=aG (cx:=dy) true dA Tryz.func112 hq ⟨zs1,fun x=>x.1.1⟩ (fun x=>by kernel_rfl)
def acE(m:M.bF->Option ((List UInt8))):an K:=cS 60 ⟨[.el U.dK],[]⟩ (fun x=>m x.1.1)
def O8:Cx K:=aP [(42,.plain)] [nw M.ajE] []
theorem acF:aI O8:=aL ay _ (ae pG ak)
theorem avg:ai (acE (M.BH)):=aG (cx:=O8) true acF Tryz.func60 hq ⟨cH,fun x=>x.1.1⟩ (fun x=>by kernel_rfl)
def acG:bf K:=bm D 0 24 2 [1,5,12,13,14] [5] ab7 (fun x=>M.oW x.1.2.2.1 x.1.2.2.2.1 af x.1.2.2.2.2.1 x.2.2.2.1) qR
def acI(m:(List M.bF)->Option ((List UInt8))):an K:=cS 59 ⟨[.ah U.dK,.fn 60 []],[]⟩ (fun x=>m x.1.1)
def JA:Cx K:=aP [(112,.plain),(63,.plain),(79,.eV),(80,.eV),(60,.plain)] [acC M.acD,kM M.dN,ny M.eQ,acE M.BH,mH M.ei] [(4,acG)]
theorem acJ:aI JA:=aL ay _ (ae avf (ae lE (ae pH (ae avg (ae pI ak)))))
theorem avh:bg JA (aW (aY Tryz.f59) 0) acG:=eU (cx:=JA) (sh:=ab7) (run:=fun n x=>M.oW x.1.2.2.1 x.1.2.2.2.1 n x.1.2.2.2.2.1 x.2.2.2.1) (bh:=qS) ay acJ cM (eN (by kernel_rfl)) (fun _=>rfl) (fun m x=>by kernel_rfl) (ae ⟨bp,fun _ _ _=>rfl⟩ ak) 0 af
theorem avi:ai (acI (M.BG)):=aG (cx:=JA) true acJ Tryz.func59 (hl1 avh) ⟨cH,fun x=>x.1.1⟩ (fun x=>by kernel_rfl)
def acK(m:(List M.bC)->Option Int):an K:=cI 113 ⟨[.ah U.Lower],[]⟩ (fun x=>m x.1.1)
theorem avj:ai (acK (M.acL)):=aG (cx:=dy) true dA Tryz.func113 hq ⟨zs1,fun x=>x.1.1⟩ (fun x=>by kernel_rfl)
def acM(m:M.bC->Option ((List UInt8))):an K:=cS 62 ⟨[.el U.Lower],[]⟩ (fun x=>m x.1.1)
theorem avk:ai (acM (M.BJ)):=aG (cx:=O8) true acF Tryz.func62 hq ⟨cH,fun x=>x.1.1⟩ (fun x=>by kernel_rfl)
def acN:bf K:=bm D 0 24 2 [1,5,12,13,14] [5] acj (fun x=>M.oY x.1.2.2.1 x.1.2.2.2.1 af x.1.2.2.2.2.1 x.2.2.2.1) qR
def acP(m:(List M.bC)->Option ((List UInt8))):an K:=cS 61 ⟨[.ah U.Lower,.fn 62 []],[]⟩ (fun x=>m x.1.1)
def JB:Cx K:=aP [(113,.plain),(63,.plain),(79,.eV),(80,.eV),(62,.plain)] [acK M.acL,kM M.dN,ny M.eQ,acM M.BJ,mH M.ei] [(4,acN)]
theorem acQ:aI JB:=aL ay _ (ae avj (ae lE (ae pH (ae avk (ae pI ak)))))
theorem avl:bg JB (aW (aY Tryz.f61) 0) acN:=eU (cx:=JB) (sh:=acj) (run:=fun n x=>M.oY x.1.2.2.1 x.1.2.2.2.1 n x.1.2.2.2.2.1 x.2.2.2.1) (bh:=qS) ay acQ cM (eN (by kernel_rfl)) (fun _=>rfl) (fun m x=>by kernel_rfl) (ae ⟨bp,fun _ _ _=>rfl⟩ ak) 0 af
theorem avm:ai (acP (M.BI)):=aG (cx:=JB) true acQ Tryz.func61 (hl1 avl) ⟨cH,fun x=>x.1.1⟩ (fun x=>by kernel_rfl)
def acR(m:(List M.ax)->Option Int):an K:=cI 114 adg (fun x=>m x.1.1)
theorem avn:ai (acR (M.acS)):=aG (cx:=dy) true dA Tryz.func114 hq ⟨zs1,fun x=>x.1.1⟩ (fun x=>by kernel_rfl)
def acT:bf K:=bm D 0 24 2 [1,5,12,13,14] [5] acr (fun x=>M.oU x.1.2.2.1 x.1.2.2.2.1 af x.1.2.2.2.2.1 x.2.2.2.1) qR
def acV(m:(List M.ax)->Option ((List UInt8))):an K:=cS 64 ⟨[.ah U.aS,.fn 65 []],[]⟩ (fun x=>m x.1.1)
def JC:Cx K:=aP [(114,.plain),(63,.plain),(79,.eV),(80,.eV),(65,.plain)] [acR M.acS,kM M.dN,ny M.eQ,aa6 M.Bc,mH M.ei] [(4,acT)]
theorem acW:aI JC:=aL ay _ (ae avn (ae lE (ae pH (ae atW (ae pI ak)))))
theorem avo:bg JC (aW (aY Tryz.f64) 0) acT:=eU (cx:=JC) (sh:=acr) (run:=fun n x=>M.oU x.1.2.2.1 x.1.2.2.2.1 n x.1.2.2.2.2.1 x.2.2.2.1) (bh:=qS) ay acW cM (eN (by kernel_rfl)) (fun _=>rfl) (fun m x=>by kernel_rfl) (ae ⟨bp,fun _ _ _=>rfl⟩ ak) 0 af
theorem avp:ai (acV (M.yy)):=aG (cx:=JC) true acW Tryz.func64 (hl1 avo) ⟨cH,fun x=>x.1.1⟩ (fun x=>by kernel_rfl)
def acX(m:(List M.bu)->Option Int):an K:=cI 121 adq (fun x=>m x.1.1)
theorem avq:ai (acX (M.acY)):=aG (cx:=dy) true dA Tryz.func121 hq ⟨zs1,fun x=>x.1.1⟩ (fun x=>by kernel_rfl)
def acZ(m:M.bu->Option ((List UInt8))):an K:=cS 68 adr (fun x=>m x.1.1)
def ac0:Cx K:=aP [(63,.plain),(42,.plain)] [kM M.dN,nw M.ajE] []
theorem avr:aI ac0:=aL ay _ (ae lE (ae pG ak))
theorem avs:ai (acZ (M.BL)):=aG (cx:=ac0) true avr Tryz.func68 hq ⟨cH,fun x=>x.1.1⟩ (fun x=>by kernel_rfl)
def ac1:bf K:=bm D 0 24 2 [1,5,12,13,14] [5] acH (fun x=>M.oZ x.1.2.2.1 x.1.2.2.2.1 af x.1.2.2.2.2.1 x.2.2.2.1) qR
def ac3(m:(List M.bu)->Option ((List UInt8))):an K:=cS 67 ⟨[.ah U.Builtin,.fn 68 []],[]⟩ (fun x=>m x.1.1)
def JD:Cx K:=aP [(121,.plain),(63,.plain),(79,.eV),(80,.eV),(68,.plain)] [acX M.acY,kM M.dN,ny M.eQ,acZ M.BL,mH M.ei] [(4,ac1)]
theorem ac4:aI JD:=aL ay _ (ae avq (ae lE (ae pH (ae avs (ae pI ak)))))
theorem avt:bg JD (aW (aY Tryz.f67) 0) ac1:=eU (cx:=JD) (sh:=acH) (run:=fun n x=>M.oZ x.1.2.2.1 x.1.2.2.2.1 n x.1.2.2.2.2.1 x.2.2.2.1) (bh:=qS) ay ac4 cM (eN (by kernel_rfl)) (fun _=>rfl) (fun m x=>by kernel_rfl) (ae ⟨bp,fun _ _ _=>rfl⟩ ak) 0 af
theorem avu:ai (ac3 (M.BK)):=aG (cx:=JD) true ac4 Tryz.func67 (hl1 avt) ⟨cH,fun x=>x.1.1⟩ (fun x=>by kernel_rfl)
def ac5(m:M.aV->Option ((List UInt8))):an K:=cS 30 HM (fun x=>m x.1.1)
def ac6:Cx K:=aP [(59,.plain),(61,.plain),(42,.plain),(63,.plain),(64,.plain),(66,.plain),(67,.plain)] [acI M.BG,acP M.BI,nw M.ajE,kM M.dN,acV M.yy,ace M.BD,ac3 M.BK] []
theorem avv:aI ac6:=aL ay _ (ae avi (ae avm (ae pG (ae lE (ae avp (ae auT (ae avu ak)))))))
theorem avw:ai (ac5 (M.BM)):=aG (cx:=ac6) true avv Tryz.func30 hq ⟨cH,fun x=>x.1.1⟩ (fun x=>by kernel_rfl)
def ac7(m:(List UInt8)->Option ((List UInt8))):an K:=cS 29 cH (fun x=>m x.1.1)
theorem avx:ai (ac7 (M.BP)):=aG (cx:=dy) true dA Tryz.func29 hq ⟨cH,fun x=>x.1.1⟩ (fun x=>by kernel_rfl)
def aGw:bf K:=bm D 0 27 0 [0,1,5] [1,4] acO (fun x=>M.amI x.1.1 af x.1.2.1 x.1.2.2.1) pK
def aGy(m:(List M.aV)->Int->Option Int):an K:=cI 10 ⟨[.ah U.eM,iq0],[]⟩ (fun x=>m x.1.1 x.1.2.1)
def aDF:Cx K:=aP [(5,.plain)] [U9 M.CH] [(5,aGw)]
theorem aGz:aI aDF:=aL ay _ (ae apB ak)
theorem aHU:bg aDF (aW (aY Tryz.f10) 0) aGw:=eU (cx:=aDF) (sh:=acO) (run:=fun n x=>M.amI x.1.1 n x.1.2.1 x.1.2.2.1) (bh:=pL) ay aGz cM (eN (by kernel_rfl)) (fun _=>rfl) (fun m x=>by kernel_rfl) (ae ⟨bX,fun _ _ _=>rfl⟩ (ae ⟨bp,fun _ _ _=>rfl⟩ ak)) 0 af
theorem aHV:ai (aGy (M.aBK)):=aG (cx:=aDF) true aGz Tryz.func10 (hl1 aHU) ⟨zs1,fun x=>x.1.1⟩ (fun x=>by kernel_rfl)
def aGE(m:(List UInt8)->(List UInt8)->Option (Int×Int)):an K:={f:=75,sh:=⟨[.str,.str],[]⟩,R:=Int×Int,run:=fun x=>m x.1.1 x.1.2.1,dflt:=default,out:=fun r=>(Sh.enc D (.bQ [iq0,iq0]) (r.1,(r.2,())),bk.encs D [] ())}
theorem aH0:ai (aGE (M.anA)):=aG (cx:=ahM) true ayw Tryz.func75 hq ⟨C3,fun x=>(x.1.1.1,x.1.1.2.1)⟩ (fun x=>by kernel_rfl)
def aGF(m:M.aV->M.aV->Option Bool):an K:=cB 37 XX (fun x=>m x.1.1 x.1.2.1)
def aGG:Cx K:=aP [(75,.plain)] [aGE M.anA] []
theorem aH1:aI aGG:=aL ay _ (ae aH0 ak)
theorem aH2:ai (aGF (M.an2)):=aG (cx:=aGG) true aH1 Tryz.func37 hq ⟨zs0,fun x=>x.1.1⟩ (fun x=>by kernel_rfl)
def aGH:bf K:=bm D 0 58 1 [0,3,4] [3,2] acU (fun x=>M.alh x.1.1 af x.1.2.2.1 x.2.2.1) aul
def aGJ(m:(List M.aV)->Option ((List UInt8))):an K:=cS 11 yL (fun x=>m x.1.1)
def aD9:Cx K:=aP [(36,.plain),(20,.plain),(37,.plain),(22,.plain),(38,.plain),(21,.plain)] [nz M.eG,XB M.Ci,aGF M.an2,acy M.BN,te M.fi,acz M.BO] [(5,aGH)]
theorem aGK:aI aD9:=aL ay _ (ae pJ (ae arb (ae aH2 (ae avb (ae alR (ae avc ak))))))
theorem aH3:bg aD9 (aW (aY Tryz.f11) 0) aGH:=eU (cx:=aD9) (sh:=acU) (run:=fun n x=>M.alh x.1.1 n x.1.2.2.1 x.2.2.1) (bh:=aum) ay aGK cM (eN (by kernel_rfl)) (fun _=>rfl) (fun m x=>by kernel_rfl) (ae ⟨bX,fun _ _ _=>rfl⟩ (ae ⟨bp,fun _ _ _=>rfl⟩ ak)) 0 af
theorem aH4:ai (aGJ (M.anu)):=aG (cx:=aD9) true aGK Tryz.func11 (hl1 aH3) ⟨cH,fun x=>x.1.1⟩ (fun x=>by kernel_rfl)
def aGL(m:Int->Option Bool):an K:=cB 238 zs1 (fun x=>m x.1.1)
theorem aH5:ai (aGL (M.aGM)):=aG (cx:=dy) true dA Tryz.func238 hq ⟨zs0,fun x=>x.1.1⟩ (fun x=>by kernel_rfl)
def aGN(m:Int->Int->Option Int):an K:=cI 178 JL (fun x=>m x.1.1 x.1.2.1)
def aGO:Cx K:=aP [(238,.plain)] [aGL M.aGM] []
theorem aH6:aI aGO:=aL ay _ (ae aH5 ak)
theorem aH7:ai (aGN (M.aDE)):=aG (cx:=aGO) true aH6 Tryz.func178 hq ⟨zs1,fun x=>x.1.1⟩ (fun x=>by kernel_rfl)
def aGP(m:(List UInt8)->(List UInt8)->Option (Int×Int)):an K:={f:=127,sh:=⟨[.str,.str],[]⟩,R:=Int×Int,run:=fun x=>m x.1.1 x.1.2.1,dflt:=default,out:=fun r=>(Sh.enc D (.bQ [iq0,iq0]) (r.1,(r.2,())),bk.encs D [] ())}
def aGQ:Cx K:=aP [(147,.plain),(178,.plain)] [ah9 M.EV,aGN M.aDE] []
theorem aH8:aI aGQ:=aL ay _ (ae azb (ae aH7 ak))
theorem aH9:ai (aGP (M.aDq)):=aG (cx:=aGQ) true aH8 Tryz.func127 hq ⟨C3,fun x=>(x.1.1.1,x.1.1.2.1)⟩ (fun x=>by kernel_rfl)
def aGR(m:(List UInt8)->(List UInt8)->Option Bool):an K:=cB 76 ⟨[.str,.str],[]⟩ (fun x=>m x.1.1 x.1.2.1)
def aGS:Cx K:=aP [(127,.plain)] [aGP M.aDq] []
theorem aIa:aI aGS:=aL ay _ (ae aH9 ak)
theorem aIb:ai (aGR (M.anz)):=aG (cx:=aGS) true aIa Tryz.func76 hq ⟨zs0,fun x=>x.1.1⟩ (fun x=>by kernel_rfl)
def aIc(y:Bool⊕((List M.aV))){R:Type}(k:KT R):R:=match y with|.inl a0=>kk k Ex.ret aag (((),(a0,())),())|.inr a1=>kk k (Ex.exit 0) ⟨[.ah U.eM,.any],[]⟩ ((a1,((),())),())
def aId:List (cC K ((Bool)⊕((List M.aV)))):=[⟨Ex.ret,aag,fun x=>.inl x.1.2.1⟩,⟨(Ex.exit 0),⟨[.ah U.eM,.any],[]⟩,fun x=>.inr (x.1.1)⟩]
def aGT:bf K:=bm D 0 47 0 [0,6,7,8] [0,2] ac2 (fun x=>M.akJ x.1.1 x.1.2.1 x.1.2.2.1 af x.1.2.2.2.1) aIc
def aGg(m:(List M.aV)->Option Int):an K:=cI 78 yL (fun x=>m x.1.1)
theorem aGV:ai (aGg (M.aGh)):=aG (cx:=dy) true dA Tryz.func78 hq ⟨zs1,fun x=>x.1.1⟩ (fun x=>by kernel_rfl)
def aGW(m:(List M.aV)->Option Bool):an K:=cB 39 yL (fun x=>m x.1.1)
def aEr:Cx K:=aP [(28,.plain),(76,.plain),(78,.plain),(77,.plain)] [ZF M.Cj,aGR M.anz,aGg M.aGh,lA M.lB] [(2,aGT)]
theorem aGX:aI aEr:=aL ay _ (ae asQ (ae aIb (ae aGV (ae l9 ak))))
theorem aIe:bg aEr (aW (aY Tryz.f39) 0) aGT:=eU (cx:=aEr) (sh:=ac2) (run:=fun n x=>M.akJ x.1.1 x.1.2.1 x.1.2.2.1 n x.1.2.2.2.1) (bh:=aId) ay aGX cM (eN (by kernel_rfl)) (fun _=>rfl) (fun m x=>by kernel_rfl) (ae ⟨bX,fun _ _ _=>rfl⟩ (ae ⟨bp,fun _ _ _=>rfl⟩ ak)) 0 af
theorem aIf:ai (aGW (M.aAu)):=aG (cx:=aEr) true aGX Tryz.func39 (hl1 aIe) ⟨zs0,fun x=>x.1.1⟩ (fun x=>by kernel_rfl)
def aGY(m:M.aV->Option ((List UInt8))):an K:=cS 41 HM (fun x=>m x.1.1)
def aGZ:Cx K:=aP [(30,.plain),(42,.plain)] [ac5 M.BM,nw M.ajE] []
theorem aIg:aI aGZ:=aL ay _ (ae avw (ae pG ak))
theorem aIh:ai (aGY (M.apm)):=aG (cx:=aGZ) true aIg Tryz.func41 hq ⟨cH,fun x=>x.1.1⟩ (fun x=>by kernel_rfl)
def aG0:bf K:=bm D 0 24 2 [1,5,12,13,14] [5] aGs (fun x=>M.aj2 x.1.2.2.1 x.1.2.2.2.1 af x.1.2.2.2.2.1 x.2.2.2.1) qR
def aG2(m:(List M.aV)->Option ((List UInt8))):an K:=cS 40 ⟨[.ah U.eM,.fn 41 []],[]⟩ (fun x=>m x.1.1)
def aEE:Cx K:=aP [(78,.plain),(63,.plain),(79,.eV),(80,.eV),(41,.plain)] [aGg M.aGh,kM M.dN,ny M.eQ,aGY M.apm,mH M.ei] [(4,aG0)]
theorem aG3:aI aEE:=aL ay _ (ae aGV (ae lE (ae pH (ae aIh (ae pI ak)))))
theorem aIi:bg aEE (aW (aY Tryz.f40) 0) aG0:=eU (cx:=aEE) (sh:=aGs) (run:=fun n x=>M.aj2 x.1.2.2.1 x.1.2.2.2.1 n x.1.2.2.2.2.1 x.2.2.2.1) (bh:=qS) ay aG3 cM (eN (by kernel_rfl)) (fun _=>rfl) (fun m x=>by kernel_rfl) (ae ⟨bp,fun _ _ _=>rfl⟩ ak) 0 af
theorem aIj:ai (aG2 (M.apj)):=aG (cx:=aEE) true aG3 Tryz.func40 (hl1 aIi) ⟨cH,fun x=>x.1.1⟩ (fun x=>by kernel_rfl)
def aG4(m:(List M.aV)->Option ((List UInt8))):an K:=cS 13 yL (fun x=>m x.1.1)
def aG5:Cx K:=aP [(39,.plain),(40,.plain),(29,.plain)] [aGW M.aAu,aG2 M.apj,ac7 M.BP] []
theorem aIk:aI aG5:=aL ay _ (ae aIf (ae aIj (ae avx ak)))
theorem aIl:ai (aG4 (M.ant)):=aG (cx:=aG5) true aIk Tryz.func13 hq ⟨cH,fun x=>x.1.1⟩ (fun x=>by kernel_rfl)
def aG6:bf K:=bm D 0 27 0 [0,1,5] [4] aGt (fun x=>M.amX x.1.1 x.1.2.1 af x.1.2.2.1) js
def aG8(m:(List M.aV)->(List M.aV)->Option Bool):an K:=cB 14 ⟨[.ah U.eM,.ah U.eM],[]⟩ (fun x=>m x.1.1 x.1.2.1)
def aFa:Cx K:=aP [(9,.plain)] [XS M.Dl] [(4,aG6)]
theorem aG9:aI aFa:=aL ay _ (ae ars ak)
theorem aIm:bg aFa (aW (aY Tryz.f14) 0) aG6:=eU (cx:=aFa) (sh:=aGt) (run:=fun n x=>M.amX x.1.1 x.1.2.1 n x.1.2.2.1) (bh:=jt) ay aG9 cM (eN (by kernel_rfl)) (fun _=>rfl) (fun m x=>by kernel_rfl) (ae ⟨bX,fun _ _ _=>rfl⟩ (ae ⟨bp,fun _ _ _=>rfl⟩ ak)) 0 af
theorem aIn:ai (aG8 (M.aCX)):=aG (cx:=aFa) true aG9 Tryz.func14 (hl1 aIm) ⟨zs0,fun x=>x.1.1⟩ (fun x=>by kernel_rfl)
def ZH:bf K:=bm D 0 22 1 [0,3,4] [3] aGu (fun x=>M.s8 x.1.1 af x.1.2.2.1 x.2.2.1) OQ
def OR(m:(List (List UInt8))->Option ((List (List UInt8)))):an K:={f:=99,sh:=pD,R:=(List (List UInt8)),run:=fun x=>m x.1.1,dflt:=default,out:=fun r=>(Sh.enc D (.ah U.str) r,bk.encs D [] ())}
def IP:Cx K:=aP [] [] [(3,ZH)]
theorem ZJ:aI IP:=aL ay _ ak
theorem asR:bg IP (aW (aY Tryz.f99) 0) ZH:=eU (cx:=IP) (sh:=aGu) (run:=fun n x=>M.s8 x.1.1 n x.1.2.2.1 x.2.2.1) (bh:=OS) ay ZJ cM (eN (by kernel_rfl)) (fun _=>rfl) (fun m x=>by kernel_rfl) (ae ⟨bp,fun _ _ _=>rfl⟩ ak) 0 af
theorem ZK:ai (OR (M.wa)):=aG (cx:=IP) true ZJ Tryz.func99 (hl1 asR) ⟨pD,fun x=>x.1.1⟩ (fun x=>by kernel_rfl)
def nu(m:M.aa->Option (M.aa)):an K:={f:=251,sh:=zs7,R:=M.aa,run:=fun x=>m x.1.1,dflt:=default,out:=fun r=>(Sh.enc D (.el U.Type) r,bk.encs D [] ())}
def ZL(ee:M.aa->Option (M.aa)):bf K:=bm D 0 23 1 [0,3,4] [3] aGv (fun x=>M.s9 ee x.1.1 af x.1.2.2.1 x.2.2.1) azI
def ZN(m:(List M.aa)->Option ((List M.aa))):an K:={f:=292,sh:=ma,R:=(List M.aa),run:=fun x=>m x.1.1,dflt:=default,out:=fun r=>(Sh.enc D (.ah U.Type) r,bk.encs D [] ())}
def IQ(ee:M.aa->Option (M.aa)):Cx K:=aP [(251,.fm)] [nu ee] [(3,ZL ee)]
theorem ZO(ee:M.aa->Option (M.aa))(pE:ai (nu ee)):aI (IQ ee):=aL ay _ (ae pE ak)
theorem asV(ee:M.aa->Option (M.aa))(pE:ai (nu ee)):bg (IQ ee) (aW (aY Tryz.f292) 0) (ZL ee):=eU (cx:=IQ ee) (sh:=aGv) (run:=fun n x=>M.s9 ee x.1.1 n x.1.2.2.1 x.2.2.1) (bh:=azJ) ay (ZO ee pE) cM (eN (by kernel_rfl)) (fun _=>rfl) (fun m x=>by kernel_rfl) (ae ⟨bp,fun _ _ _=>rfl⟩ ak) 0 af
theorem asW(ee:M.aa->Option (M.aa))(pE:ai (nu ee)):ai (ZN (M.Dy ee)):=fq (cx:=IQ ee) (fz:=true) ay (ZO ee pE) cM ⟨Tryz.func292,by kernel_rfl⟩ (hl1 (asV ee pE)) ⟨ma,fun x=>x.1.1⟩ (fun x=>rfl) (fun x=>by kernel_rfl)
def ZP(ee:M.aa->Option (M.aa)):Cx K:=aP [(99,.fm),(292,.fm)] [OR M.wa,ZN (M.Dy ee)] []
theorem asX(ee:M.aa->Option (M.aa))(pE:ai (nu ee)):aI (ZP ee):=aL ay _ (ae ZK (ae (asW ee pE) ak))
theorem asY(ee:M.aa->Option (M.aa))(pE:ai (nu ee)):ai (nu (M.IS ee)):=fq (cx:=ZP ee) (fz:=true) ay (asX ee pE) cM ⟨Tryz.func251,by kernel_rfl⟩ hq ⟨zs7,fun x=>x.1.1⟩ (fun x=>rfl) (fun x=>by kernel_rfl)
theorem ZQ:∀n,ai (nu (M.wb n))|0=>iG fun _=>rfl|n+1=>asY (M.wb n) (ZQ n)
theorem ZR:ai (nu (M.zi)):=ZQ af
def ZS(m:M.ar->Option (M.ar)):an K:={f:=291,sh:=⟨[.el U.Param],[]⟩,R:=M.ar,run:=fun x=>m x.1.1,dflt:=default,out:=fun r=>(Sh.enc D (.el U.Param) r,bk.encs D [] ())}
def ZT:Cx K:=aP [(251,.fm)] [nu M.zi] []
theorem asZ:aI ZT:=aL ay _ (ae ZR ak)
theorem as1:ai (ZS (M.Dz)):=aG (cx:=ZT) true asZ Tryz.func291 hq ⟨⟨[.el U.Param],[]⟩,fun x=>x.1.1⟩ (fun x=>by kernel_rfl)
def as2(y:(List M.ar)){R:Type}(k:KT R):R:=match y with|a0=>kk k (Ex.exit 0) ⟨[.own 1],[.dead,.arr U.Param]⟩ (((),()),((),(a0,())))
def as3:List (cC K ((List M.ar))):=[⟨(Ex.exit 0),⟨[.own 1],[.dead,.arr U.Param]⟩,fun x=>x.2.2.1⟩]
def ZU:bf K:=bm D 0 23 1 [0,3,4] [3] aGx (fun x=>M.ta x.1.1 af x.1.2.2.1 x.2.2.1) as2
def ZW(m:(List M.ar)->Option ((List M.ar))):an K:={f:=250,sh:=Hz,R:=(List M.ar),run:=fun x=>m x.1.1,dflt:=default,out:=fun r=>(Sh.enc D (.ah U.Param) r,bk.encs D [] ())}
def IT:Cx K:=aP [(291,.fm)] [ZS M.Dz] [(3,ZU)]
theorem ZX:aI IT:=aL ay _ (ae as1 ak)
theorem as4:bg IT (aW (aY Tryz.f250) 0) ZU:=eU (cx:=IT) (sh:=aGx) (run:=fun n x=>M.ta x.1.1 n x.1.2.2.1 x.2.2.1) (bh:=as3) ay ZX cM (eN (by kernel_rfl)) (fun _=>rfl) (fun m x=>by kernel_rfl) (ae ⟨bp,fun _ _ _=>rfl⟩ ak) 0 af
theorem as5:ai (ZW (M.DC)):=aG (cx:=IT) true ZX Tryz.func250 (hl1 as4) ⟨Hz,fun x=>x.1.1⟩ (fun x=>by kernel_rfl)
def ZY(m:M.aJ->Option (M.aJ)):an K:={f:=197,sh:=pB,R:=M.aJ,run:=fun x=>m x.1.1,dflt:=default,out:=fun r=>(Sh.enc D (.el U.iS) r,bk.encs D [] ())}
def ZZ:Cx K:=aP [(250,.fm),(251,.fm)] [ZW M.DC,nu M.zi] []
theorem as6:aI ZZ:=aL ay _ (ae as5 (ae ZR ak))
theorem as7:ai (ZY (M.DD)):=aG (cx:=ZZ) true as6 Tryz.func197 hq ⟨pB,fun x=>x.1.1⟩ (fun x=>by kernel_rfl)
def Z0(m:M.aA->Option (M.aA)):an K:={f:=145,sh:=adi,R:=M.aA,run:=fun x=>m x.1.1,dflt:=default,out:=fun r=>(Sh.enc D (.el U.Func) r,bk.encs D [] ())}
def Z1:Cx K:=aP [(197,.fm)] [ZY M.DD] []
theorem as8:aI Z1:=aL ay _ (ae as7 ak)
theorem as9:ai (Z0 (M.DF)):=aG (cx:=Z1) true as8 Tryz.func145 hq ⟨adi,fun x=>x.1.1⟩ (fun x=>by kernel_rfl)
def ata(y:(List M.aA)){R:Type}(k:KT R):R:=match y with|a0=>kk k (Ex.exit 0) ⟨[.own 1],[.dead,.arr U.Func]⟩ (((),()),((),(a0,())))
def atb:List (cC K ((List M.aA))):=[⟨(Ex.exit 0),⟨[.own 1],[.dead,.arr U.Func]⟩,fun x=>x.2.2.1⟩]
def Z2:bf K:=bm D 0 23 1 [0,3,4] [3] aGB (fun x=>M.tc x.1.1 af x.1.2.2.1 x.2.2.1) ata
def Z4(m:(List M.aA)->Option ((List M.aA))):an K:={f:=100,sh:=⟨[.ah U.Func],[]⟩,R:=(List M.aA),run:=fun x=>m x.1.1,dflt:=default,out:=fun r=>(Sh.enc D (.ah U.Func) r,bk.encs D [] ())}
def IV:Cx K:=aP [(145,.fm)] [Z0 M.DF] [(3,Z2)]
theorem Z5:aI IV:=aL ay _ (ae as9 ak)
theorem atc:bg IV (aW (aY Tryz.f100) 0) Z2:=eU (cx:=IV) (sh:=aGB) (run:=fun n x=>M.tc x.1.1 n x.1.2.2.1 x.2.2.1) (bh:=atb) ay Z5 cM (eN (by kernel_rfl)) (fun _=>rfl) (fun m x=>by kernel_rfl) (ae ⟨bp,fun _ _ _=>rfl⟩ ak) 0 af
theorem atd:ai (Z4 (M.DG)):=aG (cx:=IV) true Z5 Tryz.func100 (hl1 atc) ⟨⟨[.ah U.Func],[]⟩,fun x=>x.1.1⟩ (fun x=>by kernel_rfl)
def Z6(m:M.ax->Option (M.ax)):an K:={f:=52,sh:=sQ,R:=M.ax,run:=fun x=>m x.1.1,dflt:=default,out:=fun r=>(Sh.enc D (.el U.aS) r,bk.encs D [] ())}
def Z7:Cx K:=aP [(99,.fm),(100,.fm)] [OR M.wa,Z4 M.DG] []
theorem ate:aI Z7:=aL ay _ (ae ZK (ae atd ak))
theorem atf:ai (Z6 (M.DI)):=aG (cx:=Z7) true ate Tryz.func52 hq ⟨sQ,fun x=>x.1.1⟩ (fun x=>by kernel_rfl)
def atg(y:(List M.ax)){R:Type}(k:KT R):R:=match y with|a0=>kk k (Ex.exit 0) ⟨[.own 1],[.dead,.arr U.aS]⟩ (((),()),((),(a0,())))
def ath:List (cC K ((List M.ax))):=[⟨(Ex.exit 0),⟨[.own 1],[.dead,.arr U.aS]⟩,fun x=>x.2.2.1⟩]
def Z8:bf K:=bm D 0 23 1 [0,3,4] [3] aGI (fun x=>M.td x.1.1 af x.1.2.2.1 x.2.2.1) atg
def aab(m:(List M.ax)->Option ((List M.ax))):an K:={f:=23,sh:=adg,R:=(List M.ax),run:=fun x=>m x.1.1,dflt:=default,out:=fun r=>(Sh.enc D (.ah U.aS) r,bk.encs D [] ())}
def IW:Cx K:=aP [(52,.fm)] [Z6 M.DI] [(3,Z8)]
theorem aac:aI IW:=aL ay _ (ae atf ak)
theorem ati:bg IW (aW (aY Tryz.f23) 0) Z8:=eU (cx:=IW) (sh:=aGI) (run:=fun n x=>M.td x.1.1 n x.1.2.2.1 x.2.2.1) (bh:=ath) ay aac cM (eN (by kernel_rfl)) (fun _=>rfl) (fun m x=>by kernel_rfl) (ae ⟨bp,fun _ _ _=>rfl⟩ ak) 0 af
theorem atj:ai (aab (M.zj)):=aG (cx:=IW) true aac Tryz.func23 (hl1 ati) ⟨adg,fun x=>x.1.1⟩ (fun x=>by kernel_rfl)
def aeD(m:M.aO->Option (M.aO)):an K:={f:=101,sh:=⟨[.el U.Import],[]⟩,R:=M.aO,run:=fun x=>m x.1.1,dflt:=default,out:=fun r=>(Sh.enc D (.el U.Import) r,bk.encs D [] ())}
theorem avN:ai (aeD (M.JR)):=aG (cx:=dy) true dA Tryz.func101 hq ⟨⟨[.el U.Import],[]⟩,fun x=>x.1.1⟩ (fun x=>by kernel_rfl)
def avO(y:(List M.aO)){R:Type}(k:KT R):R:=match y with|a0=>kk k (Ex.exit 0) ⟨[.own 1],[.dead,.arr U.Import]⟩ (((),()),((),(a0,())))
def avP:List (cC K ((List M.aO))):=[⟨(Ex.exit 0),⟨[.own 1],[.dead,.arr U.Import]⟩,fun x=>x.2.2.1⟩]
def aeE:bf K:=bm D 0 23 1 [0,3,4] [3] aGU (fun x=>M.tD x.1.1 af x.1.2.2.1 x.2.2.1) avO
def aeF(m:(List M.aO)->Option ((List M.aO))):an K:={f:=53,sh:=Og,R:=(List M.aO),run:=fun x=>m x.1.1,dflt:=default,out:=fun r=>(Sh.enc D (.ah U.Import) r,bk.encs D [] ())}
def JS:Cx K:=aP [(101,.plain)] [aeD M.JR] [(3,aeE)]
theorem aeG:aI JS:=aL ay _ (ae avN ak)
theorem avQ:bg JS (aW (aY Tryz.f53) 0) aeE:=eU (cx:=JS) (sh:=aGU) (run:=fun n x=>M.tD x.1.1 n x.1.2.2.1 x.2.2.1) (bh:=avP) ay aeG cM (eN (by kernel_rfl)) (fun _=>rfl) (fun m x=>by kernel_rfl) (ae ⟨bp,fun _ _ _=>rfl⟩ ak) 0 af
theorem avR:ai (aeF (M.DZ)):=aG (cx:=JS) true aeG Tryz.func53 (hl1 avQ) ⟨Og,fun x=>x.1.1⟩ (fun x=>by kernel_rfl)
def aeH(m:M.aE->Option (M.aE)):an K:={f:=198,sh:=HJ,R:=M.aE,run:=fun x=>m x.1.1,dflt:=default,out:=fun r=>(Sh.enc D (.el U.Ins) r,bk.encs D [] ())}
theorem avS:ai (aeH (M.JU)):=aG (cx:=dy) true dA Tryz.func198 hq ⟨HJ,fun x=>x.1.1⟩ (fun x=>by kernel_rfl)
def avT(y:(List M.aE)){R:Type}(k:KT R):R:=match y with|a0=>kk k (Ex.exit 0) ⟨[.own 1],[.dead,.arr U.Ins]⟩ (((),()),((),(a0,())))
def avU:List (cC K ((List M.aE))):=[⟨(Ex.exit 0),⟨[.own 1],[.dead,.arr U.Ins]⟩,fun x=>x.2.2.1⟩]
def aeI:bf K:=bm D 0 23 1 [0,3,4] [3] aG1 (fun x=>M.tG x.1.1 af x.1.2.2.1 x.2.2.1) avT
def aeJ(m:(List M.aE)->Option ((List M.aE))):an K:={f:=146,sh:=C4,R:=(List M.aE),run:=fun x=>m x.1.1,dflt:=default,out:=fun r=>(Sh.enc D (.ah U.Ins) r,bk.encs D [] ())}
def JV:Cx K:=aP [(198,.plain)] [aeH M.JU] [(3,aeI)]
theorem aeK:aI JV:=aL ay _ (ae avS ak)
theorem avV:bg JV (aW (aY Tryz.f146) 0) aeI:=eU (cx:=JV) (sh:=aG1) (run:=fun n x=>M.tG x.1.1 n x.1.2.2.1 x.2.2.1) (bh:=avU) ay aeK cM (eN (by kernel_rfl)) (fun _=>rfl) (fun m x=>by kernel_rfl) (ae ⟨bp,fun _ _ _=>rfl⟩ ak) 0 af
theorem avW:ai (aeJ (M.D1)):=aG (cx:=JV) true aeK Tryz.func146 (hl1 avV) ⟨C4,fun x=>x.1.1⟩ (fun x=>by kernel_rfl)
def aeL(m:M.av->Option (M.av)):an K:={f:=102,sh:=zb,R:=M.av,run:=fun x=>m x.1.1,dflt:=default,out:=fun r=>(Sh.enc D (.el U.Core) r,bk.encs D [] ())}
def aeM:Cx K:=aP [(146,.fm)] [aeJ M.D1] []
theorem avX:aI aeM:=aL ay _ (ae avW ak)
theorem avY:ai (aeL (M.D2)):=aG (cx:=aeM) true avX Tryz.func102 hq ⟨zb,fun x=>x.1.1⟩ (fun x=>by kernel_rfl)
def avZ(y:(List M.av)){R:Type}(k:KT R):R:=match y with|a0=>kk k (Ex.exit 0) ⟨[.own 1],[.dead,.arr U.Core]⟩ (((),()),((),(a0,())))
def av1:List (cC K ((List M.av))):=[⟨(Ex.exit 0),⟨[.own 1],[.dead,.arr U.Core]⟩,fun x=>x.2.2.1⟩]
def aeN:bf K:=bm D 0 23 1 [0,3,4] [3] aG7 (fun x=>M.tH x.1.1 af x.1.2.2.1 x.2.2.1) avZ
def aeO(m:(List M.av)->Option ((List M.av))):an K:={f:=54,sh:=⟨[.ah U.Core],[]⟩,R:=(List M.av),run:=fun x=>m x.1.1,dflt:=default,out:=fun r=>(Sh.enc D (.ah U.Core) r,bk.encs D [] ())}
def JW:Cx K:=aP [(102,.fm)] [aeL M.D2] [(3,aeN)]
theorem aeP:aI JW:=aL ay _ (ae avY ak)
theorem av2:bg JW (aW (aY Tryz.f54) 0) aeN:=eU (cx:=JW) (sh:=aG7) (run:=fun n x=>M.tH x.1.1 n x.1.2.2.1 x.2.2.1) (bh:=av1) ay aeP cM (eN (by kernel_rfl)) (fun _=>rfl) (fun m x=>by kernel_rfl) (ae ⟨bp,fun _ _ _=>rfl⟩ ak) 0 af
theorem av3:ai (aeO (M.D3)):=aG (cx:=JW) true aeP Tryz.func54 (hl1 av2) ⟨⟨[.ah U.Core],[]⟩,fun x=>x.1.1⟩ (fun x=>by kernel_rfl)
def aaf(m:M.aN->Option (M.aN)):an K:={f:=24,sh:=ly,R:=M.aN,run:=fun x=>m x.1.1,dflt:=default,out:=fun r=>(Sh.enc D (.el U.Module) r,bk.encs D [] ())}
def aeQ:Cx K:=aP [(53,.fm),(54,.fm)] [aeF M.DZ,aeO M.D3] []
theorem av4:aI aeQ:=aL ay _ (ae avR (ae av3 ak))
theorem atm:ai (aaf (M.DJ)):=aG (cx:=aeQ) true av4 Tryz.func24 hq ⟨ly,fun x=>x.1.1⟩ (fun x=>by kernel_rfl)
def Vg(m:M.bF->Option (M.bF)):an K:={f:=55,sh:=⟨[.el U.dK],[]⟩,R:=M.bF,run:=fun x=>m x.1.1,dflt:=default,out:=fun r=>(Sh.enc D (.el U.dK) r,bk.encs D [] ())}
theorem apC:ai (Vg (M.Hk)):=aG (cx:=dy) true dA Tryz.func55 hq ⟨⟨[.el U.dK],[]⟩,fun x=>x.1.1⟩ (fun x=>by kernel_rfl)
def apD(y:(List M.bF)){R:Type}(k:KT R):R:=match y with|a0=>kk k (Ex.exit 0) ⟨[.own 1],[.dead,.arr U.dK]⟩ (((),()),((),(a0,())))
def apE:List (cC K ((List M.bF))):=[⟨(Ex.exit 0),⟨[.own 1],[.dead,.arr U.dK]⟩,fun x=>x.2.2.1⟩]
def Vh:bf K:=bm D 0 23 1 [0,3,4] [3] aHd (fun x=>M.sx x.1.1 af x.1.2.2.1 x.2.2.1) apD
def Vj(m:(List M.bF)->Option ((List M.bF))):an K:={f:=25,sh:=⟨[.ah U.dK],[]⟩,R:=(List M.bF),run:=fun x=>m x.1.1,dflt:=default,out:=fun r=>(Sh.enc D (.ah U.dK) r,bk.encs D [] ())}
def Hl:Cx K:=aP [(55,.plain)] [Vg M.Hk] [(3,Vh)]
theorem Vk:aI Hl:=aL ay _ (ae apC ak)
theorem apF:bg Hl (aW (aY Tryz.f25) 0) Vh:=eU (cx:=Hl) (sh:=aHd) (run:=fun n x=>M.sx x.1.1 n x.1.2.2.1 x.2.2.1) (bh:=apE) ay Vk cM (eN (by kernel_rfl)) (fun _=>rfl) (fun m x=>by kernel_rfl) (ae ⟨bp,fun _ _ _=>rfl⟩ ak) 0 af
theorem apG:ai (Vj (M.CL)):=aG (cx:=Hl) true Vk Tryz.func25 (hl1 apF) ⟨⟨[.ah U.dK],[]⟩,fun x=>x.1.1⟩ (fun x=>by kernel_rfl)
def Vl(m:M.bC->Option (M.bC)):an K:={f:=56,sh:=⟨[.el U.Lower],[]⟩,R:=M.bC,run:=fun x=>m x.1.1,dflt:=default,out:=fun r=>(Sh.enc D (.el U.Lower) r,bk.encs D [] ())}
theorem apH:ai (Vl (M.Hm)):=aG (cx:=dy) true dA Tryz.func56 hq ⟨⟨[.el U.Lower],[]⟩,fun x=>x.1.1⟩ (fun x=>by kernel_rfl)
def apI(y:(List M.bC)){R:Type}(k:KT R):R:=match y with|a0=>kk k (Ex.exit 0) ⟨[.own 1],[.dead,.arr U.Lower]⟩ (((),()),((),(a0,())))
def apJ:List (cC K ((List M.bC))):=[⟨(Ex.exit 0),⟨[.own 1],[.dead,.arr U.Lower]⟩,fun x=>x.2.2.1⟩]
def Vm:bf K:=bm D 0 23 1 [0,3,4] [3] aHe (fun x=>M.sy x.1.1 af x.1.2.2.1 x.2.2.1) apI
def Vo(m:(List M.bC)->Option ((List M.bC))):an K:={f:=26,sh:=⟨[.ah U.Lower],[]⟩,R:=(List M.bC),run:=fun x=>m x.1.1,dflt:=default,out:=fun r=>(Sh.enc D (.ah U.Lower) r,bk.encs D [] ())}
def Hq:Cx K:=aP [(56,.plain)] [Vl M.Hm] [(3,Vm)]
theorem Vp:aI Hq:=aL ay _ (ae apH ak)
theorem apK:bg Hq (aW (aY Tryz.f26) 0) Vm:=eU (cx:=Hq) (sh:=aHe) (run:=fun n x=>M.sy x.1.1 n x.1.2.2.1 x.2.2.1) (bh:=apJ) ay Vp cM (eN (by kernel_rfl)) (fun _=>rfl) (fun m x=>by kernel_rfl) (ae ⟨bp,fun _ _ _=>rfl⟩ ak) 0 af
theorem apL:ai (Vo (M.CM)):=aG (cx:=Hq) true Vp Tryz.func26 (hl1 apK) ⟨⟨[.ah U.Lower],[]⟩,fun x=>x.1.1⟩ (fun x=>by kernel_rfl)
def Vq(m:M.bu->Option (M.bu)):an K:={f:=57,sh:=adr,R:=M.bu,run:=fun x=>m x.1.1,dflt:=default,out:=fun r=>(Sh.enc D (.el U.Builtin) r,bk.encs D [] ())}
theorem apM:ai (Vq (M.Hr)):=aG (cx:=dy) true dA Tryz.func57 hq ⟨adr,fun x=>x.1.1⟩ (fun x=>by kernel_rfl)
def apN(y:(List M.bu)){R:Type}(k:KT R):R:=match y with|a0=>kk k (Ex.exit 0) ⟨[.own 1],[.dead,.arr U.Builtin]⟩ (((),()),((),(a0,())))
def apO:List (cC K ((List M.bu))):=[⟨(Ex.exit 0),⟨[.own 1],[.dead,.arr U.Builtin]⟩,fun x=>x.2.2.1⟩]
def Vr:bf K:=bm D 0 23 1 [0,3,4] [3] aHf (fun x=>M.sA x.1.1 af x.1.2.2.1 x.2.2.1) apN
def Vt(m:(List M.bu)->Option ((List M.bu))):an K:={f:=27,sh:=adq,R:=(List M.bu),run:=fun x=>m x.1.1,dflt:=default,out:=fun r=>(Sh.enc D (.ah U.Builtin) r,bk.encs D [] ())}
def Ht:Cx K:=aP [(57,.plain)] [Vq M.Hr] [(3,Vr)]
theorem Vu:aI Ht:=aL ay _ (ae apM ak)
theorem apP:bg Ht (aW (aY Tryz.f27) 0) Vr:=eU (cx:=Ht) (sh:=aHf) (run:=fun n x=>M.sA x.1.1 n x.1.2.2.1 x.2.2.1) (bh:=apO) ay Vu cM (eN (by kernel_rfl)) (fun _=>rfl) (fun m x=>by kernel_rfl) (ae ⟨bp,fun _ _ _=>rfl⟩ ak) 0 af
theorem apQ:ai (Vt (M.CN)):=aG (cx:=Ht) true Vu Tryz.func27 (hl1 apP) ⟨adq,fun x=>x.1.1⟩ (fun x=>by kernel_rfl)
def aad(m:M.aV->Option (M.aV)):an K:={f:=7,sh:=HM,R:=M.aV,run:=fun x=>m x.1.1,dflt:=default,out:=fun r=>(Sh.enc D (.el U.eM) r,bk.encs D [] ())}
def aae:Cx K:=aP [(23,.fm),(24,.fm),(25,.fm),(26,.fm),(27,.fm)] [aab M.zj,aaf M.DJ,Vj M.CL,Vo M.CM,Vt M.CN] []
theorem atl:aI aae:=aL ay _ (ae atj (ae atm (ae apG (ae apL (ae apQ ak)))))
theorem atn:ai (aad (M.DK)):=aG (cx:=aae) true atl Tryz.func7 hq ⟨HM,fun x=>x.1.1⟩ (fun x=>by kernel_rfl)
def aHW(y:(List M.aV)){R:Type}(k:KT R):R:=match y with|a0=>kk k (Ex.exit 0) ⟨[.own 1],[.dead,.arr U.eM]⟩ (((),()),((),(a0,())))
def aHX:List (cC K ((List M.aV))):=[⟨(Ex.exit 0),⟨[.own 1],[.dead,.arr U.eM]⟩,fun x=>x.2.2.1⟩]
def aGA:bf K:=bm D 0 23 1 [0,3,4] [3] aHg (fun x=>M.amH x.1.1 af x.1.2.2.1 x.2.2.1) aHW
def aGC(m:(List M.aV)->Option ((List M.aV))):an K:={f:=12,sh:=yL,R:=(List M.aV),run:=fun x=>m x.1.1,dflt:=default,out:=fun r=>(Sh.enc D (.ah U.eM) r,bk.encs D [] ())}
def aDT:Cx K:=aP [(7,.fm)] [aad M.DK] [(3,aGA)]
theorem aGD:aI aDT:=aL ay _ (ae atn ak)
theorem aHY:bg aDT (aW (aY Tryz.f12) 0) aGA:=eU (cx:=aDT) (sh:=aHg) (run:=fun n x=>M.amH x.1.1 n x.1.2.2.1 x.2.2.1) (bh:=aHX) ay aGD cM (eN (by kernel_rfl)) (fun _=>rfl) (fun m x=>by kernel_rfl) (ae ⟨bp,fun _ _ _=>rfl⟩ ak) 0 af
theorem aHZ:ai (aGC (M.aCW)):=aG (cx:=aDT) true aGD Tryz.func12 (hl1 aHY) ⟨yL,fun x=>x.1.1⟩ (fun x=>by kernel_rfl)
def aHa(m:(List M.aV)->Option Bool):an K:=cB 4 yL (fun x=>m x.1.1)
def aHb:Cx K:=aP [(10,.plain),(12,.fm),(11,.plain),(13,.plain),(14,.plain)] [aGy M.aBK,aGC M.aCW,aGJ M.anu,aG4 M.ant,aG8 M.aCX] []
theorem aIo:aI aHb:=aL ay _ (ae aHV (ae aHZ (ae aH4 (ae aIl (ae aIn ak)))))
theorem aIp:ai (aHa (M.aAG)):=aG (cx:=aHb) true aIo Tryz.func4 hq ⟨zs0,fun x=>x.1.1⟩ (fun x=>by kernel_rfl)
