/-
  Part of the proof of the claim.
-/
import Derived.Test.YtiacpoahkccfaaaGreatDoorXXRCa
import Derived.Test.YtiacpoahkccfaaaGreatDoorXXRM
import Derived.Test.YtiacpoahkccfaaaGreatDoorXXHdA
import Derived.Test.YtiacpoahkccfaaaGreatDoorXXHdI
import Derived.Test.YtiacpoahkccfaaaGreatDoorXXHdJ2
import Derived.Test.YtiacpoahkccfaaaGreatDoorXXHdV
import Derived.Test.YtiacpoahkccfaaaGreatDoorXWor
import Derived.Test.YtiacpoahkccfaaaGreatDoorProg
set_option linter.unusedVariables false
set_option maxRecDepth 100000
open Go Go.Proofs
open Go.V
noncomputable section
def ajE:List (cH K (M.aC×(List UInt8)×(List UInt8)×M.aG×(List M.aG)×(List M.aG))):=[⟨(Ex.exit 2),S9,fun x=>(x.2.1,x.2.2.1.1,x.2.2.2.1.1,x.2.2.2.2.1,x.2.2.2.2.2.2.2.1,x.2.2.2.2.2.2.2.2.1)⟩]
def Ta:bG K:=bM D false 71 6 [0,2,3,4,5] [0,2,3,4] Tc (fun x=>M.kq x.2.2.1.1 x.2.2.2.1.1 x.2.2.2.2.2.2.2.1 x.2.2.2.2.2.2.2.2.1 ad x.1.2.2.2.2.1 x.2.1 x.2.2.2.2.1) ajF
def ajG(y:(List M.ai)×Int×Bool×(List UInt8)×(List UInt8)×(List M.aG)×(List M.aG)){R:Type}(k:KT R):R:=match y with|a0=>kk k (Ex.exit 0) Td (((),((),())),((a0.1,(a0.2.1,(a0.2.2.1,()))),((a0.2.2.2.1,((),())),((a0.2.2.2.2.1,((),())),((),((),(a0.2.2.2.2.2.1,(a0.2.2.2.2.2.2,()))))))))
def ajH:List (cH K ((List M.ai)×Int×Bool×(List UInt8)×(List UInt8)×(List M.aG)×(List M.aG))):=[⟨(Ex.exit 0),Td,fun x=>(x.2.1.1,x.2.1.2.1,x.2.1.2.2.1,x.2.2.1.1,x.2.2.2.1.1,x.2.2.2.2.2.2.1,x.2.2.2.2.2.2.2.1)⟩]
def Tf:bG K:=bM D false 71 5 [0,2,3] [2,3] Ti (fun x=>M.qR ad x.2.1 x.2.2.1.1 x.2.2.2.1.1 x.2.2.2.2.2.2.1 x.2.2.2.2.2.2.2.1) ajG
def Tj(m:M.aC->Option (M.aJ×M.aC)):aI K:={f:=93,sh:=m8,R:=M.aJ×M.aC,run:=fun x=>m x.2.1,dflt:=default,out:=fun r=>(Sh.enc D (.el U.cY) r.1,aY.encs D [.el U.dm] (r.2,()))}
def yt:Cx K:=bw [(89,.bh),(88,.bh),(91,.bh),(84,.jN),(148,.bh)] [pF M.gd,m9 M.dI,ml M.dN,LR M.jF,LS M.lO] [(7,Ta),(3,Tf)]
theorem LU:aV yt:=aZ au _ (af ri (af nY (af na (af Tm (af Tn acW)))))
theorem ajI:bH yt (bC (bC (bL Tryz.f93) 0) 0) Ta:=bN (cx:=yt) (sh:=Tc) (run:=fun n x=>M.kq x.2.2.1.1 x.2.2.2.1.1 x.2.2.2.2.2.2.2.1 x.2.2.2.2.2.2.2.2.1 n x.1.2.2.2.2.1 x.2.1 x.2.2.2.2.1) (bK:=ajE) au LU bp (aN (by kernel_rfl)) (fun _=>rfl) (fun m x=>by kernel_rfl) (af ⟨bP,fun _ _ _=>rfl⟩ acW) false ad
theorem ajJ:bH yt (bC (bL Tryz.f93) 0) Tf:=bN (cx:=yt) (sh:=Ti) (run:=fun n x=>M.qR n x.2.1 x.2.2.1.1 x.2.2.2.1.1 x.2.2.2.2.2.2.1 x.2.2.2.2.2.2.2.1) (bK:=ajH) au LU bp (bU 1 (by kernel_rfl) (bY (.mk (by kernel_rfl) ajI))) (fun _=>rfl) (fun m x=>by kernel_rfl) (af ⟨bP,fun _ _ _=>rfl⟩ acW) false ad
theorem ajK:az (Tj (M.vm)):=ba (cx:=yt) true LU Tryz.func93 (aS (bU 1 (by kernel_rfl) (bY (.mk (by kernel_rfl) ajJ)))) ⟨⟨[.el U.cY],[.el U.dm]⟩,fun x=>(x.1.1,x.2.1)⟩ (fun x=>by kernel_rfl)
def To:bG K:=bM D false 63 7 [0,2,3] [2,3] Tq (fun x=>M.jU x.2.2.1.1 x.2.2.1.2.1 x.2.2.2.1.1 x.2.2.2.1.2.1 x.2.2.2.2.2.2.2.2.1 x.2.2.2.2.2.2.2.2.2.1 ad x.2.1 x.2.2.2.2.2.2.2.2.2.2.1 x.2.2.2.2.2.2.2.2.2.2.2.1) Tt
def Tu(m:M.aC->Option (M.aA×M.aC)):aI K:={f:=45,sh:=m8,R:=M.aA×M.aC,run:=fun x=>m x.2.1,dflt:=default,out:=fun r=>(Sh.enc D (.el U.bo) r.1,aY.encs D [.el U.dm] (r.2,()))}
def Ft:Cx K:=bw [(88,.bh),(89,.bh),(90,.bh),(46,.bh),(91,.bh),(92,.bh),(93,.bh)] [m9 M.dI,pF M.gd,LV M.sy,vB M.kP,ml M.dN,Tv M.xN,Tj M.vm] [(6,To)]
theorem Tz:aV Ft:=aZ au _ (af nY (af ri (af TA (af yu (af na (af ajL (af ajK acW)))))))
theorem ajM:bH Ft (bC (bL Tryz.f45) 0) To:=bN (cx:=Ft) (sh:=Tq) (run:=fun n x=>M.jU x.2.2.1.1 x.2.2.1.2.1 x.2.2.2.1.1 x.2.2.2.1.2.1 x.2.2.2.2.2.2.2.2.1 x.2.2.2.2.2.2.2.2.2.1 n x.2.1 x.2.2.2.2.2.2.2.2.2.2.1 x.2.2.2.2.2.2.2.2.2.2.2.1) (bK:=TB) au Tz bp (aN (by kernel_rfl)) (fun _=>rfl) (fun m x=>by kernel_rfl) (af ⟨bP,fun _ _ _=>rfl⟩ acW) false ad
theorem ajN:az (Tu (M.xO)):=ba (cx:=Ft) true Tz Tryz.func45 (aS (bU 1 (by kernel_rfl) (bY (.mk (by kernel_rfl) ajM)))) ⟨⟨[.el U.bo],[.el U.dm]⟩,fun x=>(x.1.1,x.2.1)⟩ (fun x=>by kernel_rfl)
def TC(m:M.aK->Option ((List UInt8))):aI K:=cS 118 Fv (fun x=>m x.1.1)
theorem ajO:az (TC (M.AK)):=ba (cx:=gY) true ij Tryz.func118 (aS (aN (by kernel_rfl))) ⟨zs2,fun x=>x.1.1⟩ (fun x=>by kernel_rfl)
def ajP(y:Int×M.aE×(List (List UInt8))×(List (List UInt8))){R:Type}(k:KT R):R:=match y with|a0=>kk k (Ex.exit 3) TD (((),((),((),(a0.1,())))),(a0.2.1,((),((),((),(a0.2.2.1,(a0.2.2.2,())))))))
def ajQ:List (cH K (Int×M.aE×(List (List UInt8))×(List (List UInt8)))):=[⟨(Ex.exit 3),TD,fun x=>(x.1.2.2.2.1,x.2.1,x.2.2.2.2.2.1,x.2.2.2.2.2.2.1)⟩]
def TE:bG K:=bM D false 60 4 [1,4,5,6,7,8] [1,4,5,6] TF (fun x=>M.xR x.1.2.2.2.1 x.2.1 x.2.2.2.2.2.2.1 ad x.1.2.2.2.2.2.1 x.2.2.2.2.1 x.2.2.2.2.2.1) ajP
def ajR(y:(List (List UInt8))×(List (List UInt8))){R:Type}(k:KT R):R:=match y with|a0=>kk k (Ex.exit 0) Fz (((),((),())),((),((),((),(a0.1,(a0.2,()))))))
def ajS:List (cH K ((List (List UInt8))×(List (List UInt8)))):=[⟨(Ex.exit 0),Fz,fun x=>(x.2.2.2.2.1,x.2.2.2.2.2.1)⟩]
def TG:bG K:=bM D false 60 3 [1,4,5,6] [4,5] TI (fun x=>M.qT ad x.1.2.2.2.1 x.2.1 x.2.2.2.2.1 x.2.2.2.2.2.1) ajR
def TJ(m:M.aE->Option ((List (List UInt8))×(List (List UInt8)))):aI K:={f:=94,sh:=⟨[.el U.cJ],[]⟩,R:=(List (List UInt8))×(List (List UInt8)),run:=fun x=>m x.1.1,dflt:=default,out:=fun r=>(Sh.enc D (.bD [.an U.str,.an U.str]) (r.1,(r.2,())),aY.encs D [] ())}
def yv:Cx K:=bw [(118,.plain)] [TC M.AK] [(15,TE),(4,TG)]
theorem LW:aV yv:=aZ au _ (af ajO acW)
theorem ajT:bH yv (bC (bC (bL Tryz.f94) 0) 0) TE:=bN (cx:=yv) (sh:=TF) (run:=fun n x=>M.xR x.1.2.2.2.1 x.2.1 x.2.2.2.2.2.2.1 n x.1.2.2.2.2.2.1 x.2.2.2.2.1 x.2.2.2.2.2.1) (bK:=ajQ) au LW bp (aN (by kernel_rfl)) (fun _=>rfl) (fun m x=>by kernel_rfl) (af ⟨bP,fun _ _ _=>rfl⟩ acW) false ad
theorem ajU:bH yv (bC (bL Tryz.f94) 0) TG:=bN (cx:=yv) (sh:=TI) (run:=fun n x=>M.qT n x.1.2.2.2.1 x.2.1 x.2.2.2.2.1 x.2.2.2.2.2.1) (bK:=ajS) au LW bp (bU 1 (by kernel_rfl) (bY (.mk (by kernel_rfl) ajT))) (fun _=>rfl) (fun m x=>by kernel_rfl) (af ⟨bP,fun _ _ _=>rfl⟩ acW) false ad
theorem ajV:az (TJ (M.AM)):=ba (cx:=yv) true LW Tryz.func94 (aS (bU 1 (by kernel_rfl) (bY (.mk (by kernel_rfl) ajU)))) ⟨⟨[.bD [.an U.str,.an U.str]],[]⟩,fun x=>(x.1.1.1,x.1.1.2.1)⟩ (fun x=>by kernel_rfl)
def ajW(y:Bool⊕((List (List UInt8))×Int)){R:Type}(k:KT R):R:=match y with|.inl a0=>kk k Ex.ret ⟨[.any,.any,.bool],[]⟩ (((),((),(a0,()))),())|.inr a1=>kk k (Ex.exit 2) ⟨[.an U.str,iq0,.any],[]⟩ ((a1.1,(a1.2,((),()))),())
def ajX:List (cH K ((Bool)⊕((List (List UInt8))×Int))):=[⟨Ex.ret,⟨[.any,.any,.bool],[]⟩,fun x=>.inl x.1.2.2.1⟩,⟨(Ex.exit 2),⟨[.an U.str,iq0,.any],[]⟩,fun x=>.inr ((x.1.1,x.1.2.1))⟩]
def TK:bG K:=bM D false 25 0 [0,3,4] [0,3,2] FA (fun x=>M.vo x.1.1 x.1.2.1 ad x.1.2.2.1) ajW
def TL:bG K:=bM D false 25 0 [0,3] [2] LX (fun x=>M.vp ad x.1.1 x.1.2.1) jj
def TM(m:(List (List UInt8))->Option Bool):aI K:=cB 95 yw (fun x=>m x.1.1)
def yx:Cx K:=bw [] [] [(5,TK),(2,TL)]
theorem LY:aV yx:=aZ au _ acW
theorem ajY:bH yx (bC (bC (bL Tryz.f95) 0) 0) TK:=bN (cx:=yx) (sh:=FA) (run:=fun n x=>M.vo x.1.1 x.1.2.1 n x.1.2.2.1) (bK:=ajX) au LY bp (aN (by kernel_rfl)) (fun _=>rfl) (fun m x=>by kernel_rfl) (af ⟨df,fun _ _ _=>rfl⟩ (af ⟨bP,fun _ _ _=>rfl⟩ acW)) false ad
theorem ajZ:bH yx (bC (bL Tryz.f95) 0) TL:=bN (cx:=yx) (sh:=LX) (run:=fun n x=>M.vp n x.1.1 x.1.2.1) (bK:=jk) au LY bp (bU 1 (by kernel_rfl) (bY (.mk (by kernel_rfl) ajY))) (fun _=>rfl) (fun m x=>by kernel_rfl) (af ⟨df,fun _ _ _=>rfl⟩ (af ⟨bP,fun _ _ _=>rfl⟩ acW)) false ad
theorem aj0:az (TM (M.sK)):=ba (cx:=yx) true LY Tryz.func95 (aS (bU 1 (by kernel_rfl) (bY (.mk (by kernel_rfl) ajZ)))) ⟨zs0,fun x=>x.1.1⟩ (fun x=>by kernel_rfl)
def TN:bG K:=bM D false 66 3 [1,3,4,5] [1,3,4,2] FB (fun x=>M.xY x.2.1 x.2.2.2.2.2.1 ad x.1.2.2.2.1 x.2.2.2.2.1) TP
def aj1(y:(List (List UInt8))×(List (List UInt8))){R:Type}(k:KT R):R:=match y with|a0=>kk k (Ex.exit 2) Fz (((),((),())),((),((),((),(a0.1,(a0.2,()))))))
def aj2:List (cH K ((List (List UInt8))×(List (List UInt8)))):=[⟨(Ex.exit 2),Fz,fun x=>(x.2.2.2.2.1,x.2.2.2.2.2.1)⟩]
def TQ:bG K:=bM D false 66 3 [1,3,4,8] [3,4] FB (fun x=>M.xZ x.2.1 x.2.2.2.2.1 ad x.1.2.2.2.1 x.2.2.2.2.2.1) aj1
def TR(m:M.aA->Option Bool):aI K:=cB 47 nZ (fun x=>m x.1.1)
def yy:Cx K:=bw [(94,.jN),(95,.plain)] [TJ M.AM,TM M.sK] [(4,TN),(11,TQ)]
theorem LZ:aV yy:=aZ au _ (af ajV (af aj0 acW))
theorem aj3:bH yy (bC (bL Tryz.f47) 0) TN:=bN (cx:=yy) (sh:=FB) (run:=fun n x=>M.xY x.2.1 x.2.2.2.2.2.1 n x.1.2.2.2.1 x.2.2.2.2.1) (bK:=TS) au LZ bp (aN (by kernel_rfl)) (fun _=>rfl) (fun m x=>by kernel_rfl) (af ⟨df,fun _ _ _=>rfl⟩ (af ⟨bP,fun _ _ _=>rfl⟩ acW)) false ad
theorem aj6:bH yy (bC (bL Tryz.f47) 1) TQ:=bN (cx:=yy) (sh:=FB) (run:=fun n x=>M.xZ x.2.1 x.2.2.2.2.1 n x.1.2.2.2.1 x.2.2.2.2.2.1) (bK:=aj2) au LZ bp (aN (by kernel_rfl)) (fun _=>rfl) (fun m x=>by kernel_rfl) (af ⟨bP,fun _ _ _=>rfl⟩ acW) false ad
theorem aj7:az (TR (M.xP)):=ba (cx:=yy) true LZ Tryz.func47 (aS (bU 2 (by kernel_rfl) (lt_succ (bY (.mk (by kernel_rfl) aj3)) (.mk (by kernel_rfl) aj6)))) ⟨zs0,fun x=>x.1.1⟩ (fun x=>by kernel_rfl)
def TU(m:(List UInt8)->Option (M.aA×Int×Int)):aI K:={f:=22,sh:=zs2,R:=M.aA×Int×Int,run:=fun x=>m x.1.1,dflt:=default,out:=fun r=>(Sh.enc D (.bD [.el U.bo,iq0,iq0]) (r.1,(r.2.1,(r.2.2,()))),aY.encs D [] ())}
def TV:Cx K:=bw [(44,.jN),(45,.bh),(46,.bh),(47,.plain)] [TW M.Aa,Tu M.xO,vB M.kP,TR M.xP] []
theorem aj8:aV TV:=aZ au _ (af aj9 (af ajN (af yu (af aj7 acW))))
theorem aka:az (TU (M.sJ)):=ba (cx:=TV) true aj8 Tryz.func22 (aS (aN (by kernel_rfl))) ⟨TX,fun x=>(x.1.1.1,x.1.1.2.1,x.1.1.2.2.1)⟩ (fun x=>by kernel_rfl)
def tn(m:M.aa->Int->Option Int):aI K:=cI 165 L0 (fun x=>m x.1.1 x.1.2.1)
def akb(y:Int⊕Int){R:Type}(k:KT R):R:=match y with|.inl a0=>kk k Ex.ret ⟨[.any,iq0],[.dead]⟩ (((),(a0,())),((),()))|.inr a1=>kk k (Ex.exit 1) ⟨[iq0,.any],[.dead]⟩ ((a1,((),())),((),()))
def akc:List (cH K ((Int)⊕Int)):=[⟨Ex.ret,⟨[.any,iq0],[.dead]⟩,fun x=>.inl x.1.2.1⟩,⟨(Ex.exit 1),⟨[iq0,.any],[.dead]⟩,fun x=>.inr (x.1.1)⟩]
def TY(gh:M.aa->Int->Option Int):bG K:=bM D false 114 1 [1,2,8,9] [8,4] TZ (fun x=>M.vx gh x.1.1 ad x.1.2.2.1 x.1.2.2.2.1 x.2.1) akb
def FC(gh:M.aa->Int->Option Int):Cx K:=bw [(122,.plain),(165,.plain)] [Bv M.By,tn gh] [(22,TY gh)]
theorem T0(gh:M.aa->Int->Option Int)(yz:az (tn gh)):aV (FC gh):=aZ au _ (af FD (af yz acW))
theorem akd(gh:M.aa->Int->Option Int)(yz:az (tn gh)):bH (FC gh) (bC (bL Tryz.f165) 0) (TY gh):=bN (cx:=FC gh) (sh:=TZ) (run:=fun n x=>M.vx gh x.1.1 n x.1.2.2.1 x.1.2.2.2.1 x.2.1) (bK:=akc) au (T0 gh yz) bp (aN (by kernel_rfl)) (fun _=>rfl) (fun m x=>by kernel_rfl) (af ⟨df,fun _ _ _=>rfl⟩ (af ⟨bP,fun _ _ _=>rfl⟩ acW)) false ad
theorem ake(gh:M.aa->Int->Option Int)(yz:az (tn gh)):az (tn (M.Fb gh)):=f9 (cx:=FC gh) (fz:=true) au (T0 gh yz) bp ⟨Tryz.func165,by kernel_rfl⟩ (aS (bU 1 (by kernel_rfl) (bY (.mk (by kernel_rfl) (akd gh yz))))) ⟨fM,fun x=>x.1.1⟩ (fun x=>rfl) (fun x=>by kernel_rfl)
theorem T8:∀n,az (tn (M.vy n))|0=>nE fun _=>rfl|n+1=>ake (M.vy n) (T8 n)
theorem akf:az (tn (M.Bf)):=T8 ad
def jW(m:M.aa->Option ((List UInt8))):aI K:=cS 137 ⟨[.el U.Term],[]⟩ (fun x=>m x.1.1)
def akg(y:(List UInt8)){R:Type}(k:KT R):R:=match y with|a0=>kk k (Ex.exit 0) zs2 ((a0,()),())
def akh:List (cH K ((List UInt8))):=[⟨(Ex.exit 0),zs2,fun x=>x.1.1⟩]
def T9(ct:M.aa->Option ((List UInt8))):bG K:=bM D false 23 0 [0,3,4] [3] ⟨[.an U.Term,.str,iq0],[]⟩ (fun x=>M.qZ ct x.1.1 ad x.1.2.1 x.1.2.2.1) akg
def Ua(m:(List M.aa)->Option ((List UInt8))):aI K:=cS 178 ⟨[.an U.Term],[]⟩ (fun x=>m x.1.1)
def FG(ct:M.aa->Option ((List UInt8))):Cx K:=bw [(137,.plain)] [jW ct] [(3,T9 ct)]
theorem Ub(ct:M.aa->Option ((List UInt8)))(ik:az (jW ct)):aV (FG ct):=aZ au _ (af ik acW)
theorem aki(ct:M.aa->Option ((List UInt8)))(ik:az (jW ct)):bH (FG ct) (bC (bL Tryz.f178) 0) (T9 ct):=bN (cx:=FG ct) (sh:=⟨[.an U.Term,.str,iq0],[]⟩) (run:=fun n x=>M.qZ ct x.1.1 n x.1.2.1 x.1.2.2.1) (bK:=akh) au (Ub ct ik) bp (aN (by kernel_rfl)) (fun _=>rfl) (fun m x=>by kernel_rfl) (af ⟨bP,fun _ _ _=>rfl⟩ acW) false ad
theorem akj(ct:M.aa->Option ((List UInt8)))(ik:az (jW ct)):az (Ua (M.Bg ct)):=f9 (cx:=FG ct) (fz:=true) au (Ub ct ik) bp ⟨Tryz.func178,by kernel_rfl⟩ (aS (bU 1 (by kernel_rfl) (bY (.mk (by kernel_rfl) (aki ct ik))))) ⟨zs2,fun x=>x.1.1⟩ (fun x=>rfl) (fun x=>by kernel_rfl)
def Uc(m:M.aa->M.aa->Option ((List UInt8))):aI K:=cS 179 L1 (fun x=>m x.1.1 x.1.2.1)
def Ud(ct:M.aa->Option ((List UInt8))):Cx K:=bw [(137,.plain)] [jW ct] []
theorem akk(ct:M.aa->Option ((List UInt8)))(ik:az (jW ct)):aV (Ud ct):=aZ au _ (af ik acW)
theorem akl(ct:M.aa->Option ((List UInt8)))(ik:az (jW ct)):az (Uc (M.Bi ct)):=f9 (cx:=Ud ct) (fz:=true) au (akk ct ik) bp ⟨Tryz.func179,by kernel_rfl⟩ (aS (aN (by kernel_rfl))) ⟨zs2,fun x=>x.1.1⟩ (fun x=>rfl) (fun x=>by kernel_rfl)
def akm(y:(List UInt8)){R:Type}(k:KT R):R:=match y with|a0=>kk k (Ex.exit 0) yA ((a0,()),((),()))
def akn:List (cH K ((List UInt8))):=[⟨(Ex.exit 0),yA,fun x=>x.1.1⟩]
def Ue(ct:M.aa->Option ((List UInt8))):bG K:=bM D false 62 1 [1,3,4] [3] Uf (fun x=>M.rf ct ad x.1.2.1 x.1.2.2.1 x.2.1) akm
def Ug(m:M.aa->Option ((List UInt8))):aI K:=cS 180 ⟨[.el U.Term],[]⟩ (fun x=>m x.1.1)
def FH(ct:M.aa->Option ((List UInt8))):Cx K:=bw [(137,.plain)] [jW ct] [(3,Ue ct)]
theorem Uh(ct:M.aa->Option ((List UInt8)))(ik:az (jW ct)):aV (FH ct):=aZ au _ (af ik acW)
theorem ako(ct:M.aa->Option ((List UInt8)))(ik:az (jW ct)):bH (FH ct) (bC (bL Tryz.f180) 0) (Ue ct):=bN (cx:=FH ct) (sh:=Uf) (run:=fun n x=>M.rf ct n x.1.2.1 x.1.2.2.1 x.2.1) (bK:=akn) au (Uh ct ik) bp (aN (by kernel_rfl)) (fun _=>rfl) (fun m x=>by kernel_rfl) (af ⟨bP,fun _ _ _=>rfl⟩ acW) false ad
theorem akp(ct:M.aa->Option ((List UInt8)))(ik:az (jW ct)):az (Ug (M.Bh ct)):=f9 (cx:=FH ct) (fz:=true) au (Uh ct ik) bp ⟨Tryz.func180,by kernel_rfl⟩ (aS (bU 1 (by kernel_rfl) (bY (.mk (by kernel_rfl) (ako ct ik))))) ⟨zs2,fun x=>x.1.1⟩ (fun x=>rfl) (fun x=>by kernel_rfl)
def Ui(ct:M.aa->Option ((List UInt8))):Cx K:=bw [(176,.fresh),(177,.jN),(178,.plain),(179,.plain),(180,.plain)] [L2 M.jz,L6 M.jA,Ua (M.Bg ct),Uc (M.Bi ct),Ug (M.Bh ct)] []
theorem akq(ct:M.aa->Option ((List UInt8)))(ik:az (jW ct)):aV (Ui ct):=aZ au _ (af Uj (af Uk (af (akj ct ik) (af (akl ct ik) (af (akp ct ik) acW)))))
theorem akr(ct:M.aa->Option ((List UInt8)))(ik:az (jW ct)):az (jW (M.Fg ct)):=f9 (cx:=Ui ct) (fz:=true) au (akq ct ik) bp ⟨Tryz.func137,by kernel_rfl⟩ (aS (aN (by kernel_rfl))) ⟨zs2,fun x=>x.1.1⟩ (fun x=>rfl) (fun x=>by kernel_rfl)
theorem Ul:∀n,az (jW (M.m6 n))|0=>nE fun _=>rfl|n+1=>akr (M.m6 n) (Ul n)
theorem aks:az (jW (M.yj)):=Ul ad
def akt(y:Bool⊕(M.aa×M.aa)){R:Type}(k:KT R):R:=match y with|.inl a0=>kk k Ex.ret yB (((),((),(a0,()))),((),((),())))|.inr a1=>kk k (Ex.exit 0) Um (((),((),((),()))),(a1.1,(a1.2,())))
def aku:List (cH K ((Bool)⊕(M.aa×M.aa))):=[⟨Ex.ret,yB,fun x=>.inl x.1.2.2.1⟩,⟨(Ex.exit 0),Um,fun x=>.inr ((x.2.1,x.2.2.1))⟩]
def Un:bG K:=bM D false 74 2 [2,3,5] [2,3,4] FI (fun x=>M.sP ad x.1.2.2.1 x.2.1 x.2.2.1) akt
def rj(m:M.aa->M.aa->Option Bool):aI K:=cB 136 L1 (fun x=>m x.1.1 x.1.2.1)
def Uo(y:Bool⊕Unit){R:Type}(k:KT R):R:=match y with|.inl a0=>kk k Ex.ret FK ((a0,()),((),((),())))|.inr a1=>kk k (Ex.exit 2) FM (((),()),((),((),())))
def Up:List (cH K ((Bool)⊕Unit)):=[⟨Ex.ret,FK,fun x=>.inl x.1.1⟩,⟨(Ex.exit 2),FM,fun x=>.inr (())⟩]
def Ur(fg:M.aa->M.aa->Option Bool):bG K:=bM D false 74 2 [2,3,6] [4] FI (fun x=>M.sQ fg ad x.1.2.2.1 x.2.1 x.2.2.1) Uo
def yC(fg:M.aa->M.aa->Option Bool):Cx K:=bw [(136,.plain)] [rj fg] [(4,Un),(9,Ur fg)]
theorem L8(fg:M.aa->M.aa->Option Bool)(rk:az (rj fg)):aV (yC fg):=aZ au _ (af rk acW)
theorem akv(fg:M.aa->M.aa->Option Bool)(rk:az (rj fg)):bH (yC fg) (bC (bL Tryz.f136) 0) Un:=bN (cx:=yC fg) (sh:=FI) (run:=fun n x=>M.sP n x.1.2.2.1 x.2.1 x.2.2.1) (bK:=aku) au (L8 fg rk) bp (aN (by kernel_rfl)) (fun _=>rfl) (fun m x=>by kernel_rfl) (af ⟨df,fun _ _ _=>rfl⟩ (af ⟨bP,fun _ _ _=>rfl⟩ acW)) false ad
theorem akw(fg:M.aa->M.aa->Option Bool)(rk:az (rj fg)):bH (yC fg) (bC (bL Tryz.f136) 1) (Ur fg):=bN (cx:=yC fg) (sh:=FI) (run:=fun n x=>M.sQ fg n x.1.2.2.1 x.2.1 x.2.2.1) (bK:=Up) au (L8 fg rk) bp (aN (by kernel_rfl)) (fun _=>rfl) (fun m x=>by kernel_rfl) (af ⟨df,fun _ _ _=>rfl⟩ (af ⟨bP,fun _ _ _=>rfl⟩ acW)) false ad
theorem akx(fg:M.aa->M.aa->Option Bool)(rk:az (rj fg)):az (rj (M.EZ fg)):=f9 (cx:=yC fg) (fz:=true) au (L8 fg rk) bp ⟨Tryz.func136,by kernel_rfl⟩ (aS (bU 2 (by kernel_rfl) (lt_succ (bY (.mk (by kernel_rfl) (akv fg rk))) (.mk (by kernel_rfl) (akw fg rk))))) ⟨zs0,fun x=>x.1.1⟩ (fun x=>rfl) (fun x=>by kernel_rfl)
theorem Us:∀n,az (rj (M.sO n))|0=>nE fun _=>rfl|n+1=>akx (M.sO n) (Us n)
theorem aky:az (rj (M.A8)):=Us ad
def Ut:bG K:=bM D false 26 0 [0,1,12,13] [4] Uu (fun x=>M.x5 x.1.1 x.1.2.1 x.1.2.2.1 ad x.1.2.2.2.1) jj
def Uw(m:(List (List UInt8))->(List (List UInt8))->Option Bool):aI K:=cB 169 ⟨[.an U.str,.an U.str],[]⟩ (fun x=>m x.1.1 x.1.2.1)
def FN:Cx K:=bw [] [] [(4,Ut)]
theorem Ux:aV FN:=aZ au _ acW
theorem akz:bH FN (bC (bL Tryz.f169) 0) Ut:=bN (cx:=FN) (sh:=Uu) (run:=fun n x=>M.x5 x.1.1 x.1.2.1 x.1.2.2.1 n x.1.2.2.2.1) (bK:=jk) au Ux bp (aN (by kernel_rfl)) (fun _=>rfl) (fun m x=>by kernel_rfl) (af ⟨df,fun _ _ _=>rfl⟩ (af ⟨bP,fun _ _ _=>rfl⟩ acW)) false ad
theorem akA:az (Uw (M.AS)):=ba (cx:=FN) true Ux Tryz.func169 (aS (bU 1 (by kernel_rfl) (bY (.mk (by kernel_rfl) akz)))) ⟨zs0,fun x=>x.1.1⟩ (fun x=>by kernel_rfl)
def mm(m:M.aa->M.aa->Int->Option Bool):aI K:=cB 128 ⟨[.el U.Term,.el U.Term,iq0],[]⟩ (fun x=>m x.1.1 x.1.2.1 x.1.2.2.1)
def Uy(m:M.aa->M.aa->Int->Option Bool):aI K:=cB 171 ⟨[.el U.Term,.el U.Term,.rp U.i64 0],[]⟩ (fun x=>m x.1.1 x.1.2.1 x.1.2.2.1)
def Uz(dx:M.aa->M.aa->Int->Option Bool):Cx K:=bw [(128,.plain)] [mm dx] []
theorem akB(dx:M.aa->M.aa->Int->Option Bool)(lV:az (mm dx)):aV (Uz dx):=aZ au _ (af lV acW)
theorem akC(dx:M.aa->M.aa->Int->Option Bool)(lV:az (mm dx)):az (Uy (M.EY dx)):=f9 (cx:=Uz dx) (fz:=true) au (akB dx lV) bp ⟨Tryz.func171,by kernel_rfl⟩ (aS (aN (by kernel_rfl))) ⟨zs0,fun x=>x.1.1⟩ (fun x=>rfl) (fun x=>by kernel_rfl)
def UA(dx:M.aa->M.aa->Int->Option Bool):bG K:=bM D false 32 0 [1,2,15,16,17] [6] UB (fun x=>M.x6 dx x.1.1 x.1.2.1.1 x.1.2.2.1 x.1.2.2.2.1 ad x.1.2.2.2.2.1) jj
def UC(m:(List M.aa)->(List M.aa)->Int->Option Bool):aI K:=cB 170 ⟨[.an U.Term,.an U.Term,.fn 171 [.rp U.i64 0]],[]⟩ (fun x=>m x.1.1 x.1.2.1 x.1.2.2.1.1)
def FO(dx:M.aa->M.aa->Int->Option Bool):Cx K:=bw [(171,.plain)] [Uy (M.EY dx)] [(4,UA dx)]
theorem UD(dx:M.aa->M.aa->Int->Option Bool)(lV:az (mm dx)):aV (FO dx):=aZ au _ (af (akC dx lV) acW)
theorem akD(dx:M.aa->M.aa->Int->Option Bool)(lV:az (mm dx)):bH (FO dx) (bC (bL Tryz.f170) 0) (UA dx):=bN (cx:=FO dx) (sh:=UB) (run:=fun n x=>M.x6 dx x.1.1 x.1.2.1.1 x.1.2.2.1 x.1.2.2.2.1 n x.1.2.2.2.2.1) (bK:=jk) au (UD dx lV) bp (aN (by kernel_rfl)) (fun _=>rfl) (fun m x=>by kernel_rfl) (af ⟨df,fun _ _ _=>rfl⟩ (af ⟨bP,fun _ _ _=>rfl⟩ acW)) false ad
theorem akE(dx:M.aa->M.aa->Int->Option Bool)(lV:az (mm dx)):az (UC (M.AT dx)):=f9 (cx:=FO dx) (fz:=true) au (UD dx lV) bp ⟨Tryz.func170,by kernel_rfl⟩ (aS (bU 1 (by kernel_rfl) (bY (.mk (by kernel_rfl) (akD dx lV))))) ⟨zs0,fun x=>x.1.1⟩ (fun x=>rfl) (fun x=>by kernel_rfl)
def UE(dx:M.aa->M.aa->Int->Option Bool):Cx K:=bw [(169,.plain),(170,.plain)] [Uw M.AS,UC (M.AT dx)] []
theorem akF(dx:M.aa->M.aa->Int->Option Bool)(lV:az (mm dx)):aV (UE dx):=aZ au _ (af akA (af (akE dx lV) acW))
theorem akG(dx:M.aa->M.aa->Int->Option Bool)(lV:az (mm dx)):az (mm (M.EX dx)):=f9 (cx:=UE dx) (fz:=true) au (akF dx lV) bp ⟨Tryz.func128,by kernel_rfl⟩ (aS (aN (by kernel_rfl))) ⟨zs0,fun x=>x.1.1⟩ (fun x=>rfl) (fun x=>by kernel_rfl)
theorem UF:∀n,az (mm (M.vt n))|0=>nE fun _=>rfl|n+1=>akG (M.vt n) (UF n)
theorem UG:az (mm (M.x9)):=UF ad
def tp(m:M.aa->Int->Option ((List UInt8))):aI K:=cS 167 L0 (fun x=>m x.1.1 x.1.2.1)
def akH(y:(List UInt8)×M.aa×(List (List UInt8))){R:Type}(k:KT R):R:=match y with|a0=>kk k (Ex.exit 0) UH (((),(a0.1,((),()))),(a0.2.1,((),(a0.2.2,()))))
def akI:List (cH K ((List UInt8)×M.aa×(List (List UInt8)))):=[⟨(Ex.exit 0),UH,fun x=>(x.1.2.1,x.2.1,x.2.2.2.1)⟩]
def UI(gp:M.aa->Int->Option ((List UInt8))):bG K:=bM D false 83 2 [1,2,5,6,21,22,23] [2,5,6] UJ (fun x=>M.s9 gp x.1.1 x.1.2.2.1 x.1.2.2.2.2.1 x.1.2.2.2.2.2.1 ad x.1.2.2.2.2.2.2.1 x.2.1 x.2.2.2.1) akH
def UK(m:M.aa->(List (List UInt8))->Option ((List UInt8))):aI K:=cS 209 ⟨[.el U.Term,.an U.str],[]⟩ (fun x=>m x.1.1 x.1.2.1)
theorem akJ:az (UK (M.yg)):=ba (cx:=gY) true ij Tryz.func209 (aS (aN (by kernel_rfl))) ⟨zs2,fun x=>x.1.1⟩ (fun x=>by kernel_rfl)
def akK(y:(List (List UInt8))){R:Type}(k:KT R):R:=match y with|a0=>kk k (Ex.exit 0) ⟨[.own 2],[.dead,.dead,.arr U.str]⟩ (((),()),((),((),(a0,()))))
def akL:List (cH K ((List (List UInt8)))):=[⟨(Ex.exit 0),⟨[.own 2],[.dead,.dead,.arr U.str]⟩,fun x=>x.2.2.2.1⟩]
def UL:bG K:=bM D false 60 2 [1,2,5,10,11,12] [5] UM (fun x=>M.qY x.1.1 x.1.2.2.2.1 x.1.2.2.2.2.1 ad x.1.2.2.2.2.2.1 x.2.1 x.2.2.2.1) akK
def UN(m:M.aa->(List (List UInt8))->Option ((List (List UInt8)))):aI K:={f:=210,sh:=⟨[.el U.Term,.an U.str],[]⟩,R:=(List (List UInt8)),run:=fun x=>m x.1.1 x.1.2.1,dflt:=default,out:=fun r=>(Sh.enc D (.an U.str) r,aY.encs D [] ())}
def FP:Cx K:=bw [] [] [(3,UL)]
theorem UO:aV FP:=aZ au _ acW
theorem akM:bH FP (bC (bL Tryz.f210) 0) UL:=bN (cx:=FP) (sh:=UM) (run:=fun n x=>M.qY x.1.1 x.1.2.2.2.1 x.1.2.2.2.2.1 n x.1.2.2.2.2.2.1 x.2.1 x.2.2.2.1) (bK:=akL) au UO bp (aN (by kernel_rfl)) (fun _=>rfl) (fun m x=>by kernel_rfl) (af ⟨bP,fun _ _ _=>rfl⟩ acW) false ad
theorem akN:az (UN (M.yh)):=ba (cx:=FP) true UO Tryz.func210 (aS (bU 1 (by kernel_rfl) (bY (.mk (by kernel_rfl) akM)))) ⟨yw,fun x=>x.1.1⟩ (fun x=>by kernel_rfl)
def FQ(gp:M.aa->Int->Option ((List UInt8))):Cx K:=bw [(125,.plain),(196,.jN),(167,.plain),(168,.plain),(209,.plain),(210,.jN)] [FR M.FT,FU M.fW,tp gp,Ep M.strings_Join,UK M.yg,UN M.yh] [(7,UI gp)]
theorem UP(gp:M.aa->Int->Option ((List UInt8)))(yD:az (tp gp)):aV (FQ gp):=aZ au _ (af L9 (af Mc (af yD (af QZ (af akJ (af akN acW))))))
theorem akO(gp:M.aa->Int->Option ((List UInt8)))(yD:az (tp gp)):bH (FQ gp) (bC (bL Tryz.f167) 0) (UI gp):=bN (cx:=FQ gp) (sh:=UJ) (run:=fun n x=>M.s9 gp x.1.1 x.1.2.2.1 x.1.2.2.2.2.1 x.1.2.2.2.2.2.1 n x.1.2.2.2.2.2.2.1 x.2.1 x.2.2.2.1) (bK:=akI) au (UP gp yD) bp (aN (by kernel_rfl)) (fun _=>rfl) (fun m x=>by kernel_rfl) (af ⟨bP,fun _ _ _=>rfl⟩ acW) false ad
theorem akP(gp:M.aa->Int->Option ((List UInt8)))(yD:az (tp gp)):az (tp (M.Fa gp)):=f9 (cx:=FQ gp) (fz:=true) au (UP gp yD) bp ⟨Tryz.func167,by kernel_rfl⟩ (aS (bU 1 (by kernel_rfl) (bY (.mk (by kernel_rfl) (akO gp yD))))) ⟨zs2,fun x=>x.1.1⟩ (fun x=>rfl) (fun x=>by kernel_rfl)
theorem UQ:∀n,az (tp (M.td n))|0=>nE fun _=>rfl|n+1=>akP (M.td n) (UQ n)
theorem akQ:az (tp (M.tf)):=UQ ad
def UR(m:(List UInt8)->(List UInt8)->Option (Int×(List UInt8))):aI K:={f:=123,sh:=⟨[.ptr 0 0,.str],[.box [.np 0,.own 1],.arr U.u8]⟩,R:=Int×(List UInt8),run:=fun x=>m x.1.2.1 x.2.2.1,dflt:=default,out:=fun r=>(Sh.enc D (.bD [iq0,.any]) (r.1,((),())),aY.encs D [.box [.np 0,.own 2],.dead,.arr U.u8] (((),((),())),((),(r.2,()))))}
def US:Cx K:={eZ with mode:=eC .plain [(166,.bh)],mv:=true,call:=callOf D [KN M.KP],loop:=dZ []}
theorem akR:aV US:=aZ au _ (af aga acW)
theorem akS:az (UR (M.nW)):=ba (cx:=US) true akR Tryz.func123 (aS (aN (by kernel_rfl))) ⟨⟨[.bD [iq0,.any]],[.box [.np 0,.own 2],.dead,.arr U.u8]⟩,fun x=>(x.1.1.1,x.2.2.2.1)⟩ (fun x=>by kernel_rfl)
def akT(y:M.ah×(List (List UInt8))){R:Type}(k:KT R):R:=match y with|a0=>kk k (Ex.exit 1) UT (((),((),())),(a0.1,((),(a0.2,()))))
def akU:List (cH K (M.ah×(List (List UInt8)))):=[⟨(Ex.exit 1),UT,fun x=>(x.2.1,x.2.2.2.1)⟩]
def UU:bG K:=bM D false 105 2 [1,3,32,33,34] [1,3] UW (fun x=>M.pn x.1.2.2.1 x.1.2.2.2.1 ad x.1.2.2.2.2.1 x.2.1 x.2.2.2.1) akT
def Md(m:M.bf->Option ((List UInt8))):aI K:=cS 126 FV (fun x=>m x.1.1)
theorem UX:az (Md (M.s7)):=ba (cx:=gY) true ij Tryz.func126 (aS (aN (by kernel_rfl))) ⟨zs2,fun x=>x.1.1⟩ (fun x=>by kernel_rfl)
def akV(y:(List UInt8)×M.ah×(List (List UInt8))){R:Type}(k:KT R):R:=match y with|a0=>kk k (Ex.exit 3) UY (((),((),(a0.1,()))),(a0.2.1,((),(a0.2.2,()))))
def akW:List (cH K ((List UInt8)×M.ah×(List (List UInt8)))):=[⟨(Ex.exit 3),UY,fun x=>(x.1.2.2.1,x.2.1,x.2.2.2.1)⟩]
def UZ:bG K:=bM D false 105 2 [1,7,8,67,68,69] [1,7,8] U0 (fun x=>M.po x.1.2.2.1 x.1.2.2.2.1 x.1.2.2.2.2.1 ad x.1.2.2.2.2.2.1 x.2.1 x.2.2.2.1) akV
def U1(m:M.ah->Option ((List UInt8))):aI K:=cS 124 FW (fun x=>m x.1.1)
def yE:Cx K:=bw [(167,.plain),(126,.plain),(168,.plain)] [tp M.tf,Md M.s7,Ep M.strings_Join] [(9,UU),(19,UZ)]
theorem Me:aV yE:=aZ au _ (af akQ (af UX (af QZ acW)))
theorem akX:bH yE (bC (bL Tryz.f124) 0) UU:=bN (cx:=yE) (sh:=UW) (run:=fun n x=>M.pn x.1.2.2.1 x.1.2.2.2.1 n x.1.2.2.2.2.1 x.2.1 x.2.2.2.1) (bK:=akU) au Me bp (aN (by kernel_rfl)) (fun _=>rfl) (fun m x=>by kernel_rfl) (af ⟨bP,fun _ _ _=>rfl⟩ acW) false ad
theorem akY:bH yE (bC (bL Tryz.f124) 1) UZ:=bN (cx:=yE) (sh:=U0) (run:=fun n x=>M.po x.1.2.2.1 x.1.2.2.2.1 x.1.2.2.2.2.1 n x.1.2.2.2.2.2.1 x.2.1 x.2.2.2.1) (bK:=akW) au Me bp (aN (by kernel_rfl)) (fun _=>rfl) (fun m x=>by kernel_rfl) (af ⟨bP,fun _ _ _=>rfl⟩ acW) false ad
theorem akZ:az (U1 (M.Bm)):=ba (cx:=yE) true Me Tryz.func124 (aS (bU 2 (by kernel_rfl) (lt_succ (bY (.mk (by kernel_rfl) akX)) (.mk (by kernel_rfl) akY)))) ⟨zs2,fun x=>x.1.1⟩ (fun x=>by kernel_rfl)
def ak0(y:(List M.aE)×Int×Int×M.aA×(List UInt8)){R:Type}(k:KT R):R:=match y with|a0=>kk k (Ex.exit 2) FX (((),((),(a0.1,(a0.2.1,(a0.2.2.1,()))))),(a0.2.2.2.1,(((),((),())),((),(a0.2.2.2.2,())))))
def ak1:List (cH K ((List M.aE)×Int×Int×M.aA×(List UInt8))):=[⟨(Ex.exit 2),FX,fun x=>(x.1.2.2.1,x.1.2.2.2.1,x.1.2.2.2.2.1,x.2.1,x.2.2.2.2.1)⟩]
def U2:bG K:=bM D false 91 3 [1,3,24,25,26,36,37,38] [1,3,24,25,26] U3 (fun x=>M.pw x.1.2.2.1 x.1.2.2.2.1 x.1.2.2.2.2.1 x.1.2.2.2.2.2.1 x.1.2.2.2.2.2.2.1 x.2.1 ad x.1.2.2.2.2.2.2.2.1 x.2.2.2.2.1) ak0
def ak2(y:M.aA×(List UInt8)){R:Type}(k:KT R):R:=match y with|a0=>kk k (Ex.exit 0) U4 (((),((),())),(a0.1,(((),((),())),((),(a0.2,())))))
def ak3:List (cH K (M.aA×(List UInt8))):=[⟨(Ex.exit 0),U4,fun x=>(x.2.1,x.2.2.2.2.1)⟩]
def U5:bG K:=bM D false 91 3 [1,3,24,25,26] [1,3] FX (fun x=>M.px ad x.1.2.2.1 x.1.2.2.2.1 x.1.2.2.2.2.1 x.2.1 x.2.2.2.2.1) ak2
def ak4(y:(List M.aJ)×Int×Int×(List (List UInt8))×(List UInt8)){R:Type}(k:KT R):R:=match y with|a0=>kk k (Ex.exit 6) FY (((),((),(a0.1,(a0.2.1,(a0.2.2.1,()))))),(((),((),())),((),((),(a0.2.2.2.1,(a0.2.2.2.2,()))))))
def ak5:List (cH K ((List M.aJ)×Int×Int×(List (List UInt8))×(List UInt8))):=[⟨(Ex.exit 6),FY,fun x=>(x.1.2.2.1,x.1.2.2.2.1,x.1.2.2.2.2.1,x.2.2.2.2.1,x.2.2.2.2.2.1)⟩]
def U6:bG K:=bM D false 91 3 [3,8,52,53,54,64,65,66] [3,8,52,53,54] U7 (fun x=>M.py x.1.2.2.1 x.1.2.2.2.1 x.1.2.2.2.2.1 x.1.2.2.2.2.2.1 x.1.2.2.2.2.2.2.1 x.2.2.2.2.1 ad x.1.2.2.2.2.2.2.2.1 x.2.2.2.2.2.1) ak4
def ak6(y:(List UInt8)){R:Type}(k:KT R):R:=match y with|a0=>kk k (Ex.exit 4) U8 (((),()),(((),((),())),((),((),(a0,())))))
def ak7:List (cH K ((List UInt8))):=[⟨(Ex.exit 4),U8,fun x=>x.2.2.2.2.1⟩]
def U9:bG K:=bM D false 91 3 [3,8,52,53,54] [3] FY (fun x=>M.pz ad x.1.2.2.1 x.1.2.2.2.1 x.1.2.2.2.2.1 x.2.2.2.2.1 x.2.2.2.2.2.1) ak6
def Va(m:M.aA->Option ((List UInt8))):aI K:=cS 70 nZ (fun x=>m x.1.1)
def pG:Cx K:=bw [(123,.bh),(124,.plain),(125,.plain),(126,.plain),(127,.bh)] [UR M.nW,U1 M.Bm,FR M.FT,Md M.s7,KO M.sg] [(8,U2),(4,U5),(20,U6),(16,U9)]
theorem Bz:aV pG:=aZ au _ (af akS (af akZ (af L9 (af UX (af agb acW)))))
theorem ak8:bH pG (bC (bC (bL Tryz.f70) 0) 0) U2:=bN (cx:=pG) (sh:=U3) (run:=fun n x=>M.pw x.1.2.2.1 x.1.2.2.2.1 x.1.2.2.2.2.1 x.1.2.2.2.2.2.1 x.1.2.2.2.2.2.2.1 x.2.1 n x.1.2.2.2.2.2.2.2.1 x.2.2.2.2.1) (bK:=ak1) au Bz bp (aN (by kernel_rfl)) (fun _=>rfl) (fun m x=>by kernel_rfl) (af ⟨bP,fun _ _ _=>rfl⟩ acW) false ad
theorem ak9:bH pG (bC (bC (bL Tryz.f70) 1) 0) U6:=bN (cx:=pG) (sh:=U7) (run:=fun n x=>M.py x.1.2.2.1 x.1.2.2.2.1 x.1.2.2.2.2.1 x.1.2.2.2.2.2.1 x.1.2.2.2.2.2.2.1 x.2.2.2.2.1 n x.1.2.2.2.2.2.2.2.1 x.2.2.2.2.2.1) (bK:=ak5) au Bz bp (aN (by kernel_rfl)) (fun _=>rfl) (fun m x=>by kernel_rfl) (af ⟨bP,fun _ _ _=>rfl⟩ acW) false ad
theorem ala:bH pG (bC (bL Tryz.f70) 0) U5:=bN (cx:=pG) (sh:=FX) (run:=fun n x=>M.px n x.1.2.2.1 x.1.2.2.2.1 x.1.2.2.2.2.1 x.2.1 x.2.2.2.2.1) (bK:=ak3) au Bz bp (bU 1 (by kernel_rfl) (bY (.mk (by kernel_rfl) ak8))) (fun _=>rfl) (fun m x=>by kernel_rfl) (af ⟨bP,fun _ _ _=>rfl⟩ acW) false ad
theorem alb:bH pG (bC (bL Tryz.f70) 1) U9:=bN (cx:=pG) (sh:=FY) (run:=fun n x=>M.pz n x.1.2.2.1 x.1.2.2.2.1 x.1.2.2.2.2.1 x.2.2.2.2.1 x.2.2.2.2.2.1) (bK:=ak7) au Bz bp (bU 1 (by kernel_rfl) (bY (.mk (by kernel_rfl) ak9))) (fun _=>rfl) (fun m x=>by kernel_rfl) (af ⟨bP,fun _ _ _=>rfl⟩ acW) false ad
theorem alc:az (Va (M.sY)):=ba (cx:=pG) true Bz Tryz.func70 (aS (bU 2 (by kernel_rfl) (lt_succ (bY (.mk (by kernel_rfl) ala)) (.mk (by kernel_rfl) alb)))) ⟨zs2,fun x=>x.1.1⟩ (fun x=>by kernel_rfl)
def Vb:bG K:=bM D false 26 0 [0,1,12,13] [4] Vd (fun x=>M.x7 x.1.1 x.1.2.1 x.1.2.2.1 ad x.1.2.2.2.1) jj
def Ve(m:(List M.aK)->(List M.aK)->Option Bool):aI K:=cB 129 ⟨[.an U.dc,.an U.dc],[]⟩ (fun x=>m x.1.1 x.1.2.1)
def FZ:Cx K:=bw [] [] [(4,Vb)]
theorem Vf:aV FZ:=aZ au _ acW
theorem ald:bH FZ (bC (bL Tryz.f129) 0) Vb:=bN (cx:=FZ) (sh:=Vd) (run:=fun n x=>M.x7 x.1.1 x.1.2.1 x.1.2.2.1 n x.1.2.2.2.1) (bK:=jk) au Vf bp (aN (by kernel_rfl)) (fun _=>rfl) (fun m x=>by kernel_rfl) (af ⟨df,fun _ _ _=>rfl⟩ (af ⟨bP,fun _ _ _=>rfl⟩ acW)) false ad
theorem ale:az (Ve (M.AU)):=ba (cx:=FZ) true Vf Tryz.func129 (aS (bU 1 (by kernel_rfl) (bY (.mk (by kernel_rfl) ald)))) ⟨zs0,fun x=>x.1.1⟩ (fun x=>by kernel_rfl)
def Vg(m:M.ax->M.ax->Option Bool):aI K:=cB 131 Vh (fun x=>m x.1.1 x.1.2.1)
def Vi:Cx K:=bw [(128,.plain)] [mm M.x9] []
theorem alf:aV Vi:=aZ au _ (af UG acW)
theorem alg:az (Vg (M.AX)):=ba (cx:=Vi) true alf Tryz.func131 (aS (aN (by kernel_rfl))) ⟨zs0,fun x=>x.1.1⟩ (fun x=>by kernel_rfl)
def Vj:bG K:=bM D false 32 0 [1,2,15,16,17] [6] Vk (fun x=>M.ya x.1.1 x.1.2.2.1 x.1.2.2.2.1 ad x.1.2.2.2.2.1) jj
def Vl(m:(List M.ax)->(List M.ax)->Option Bool):aI K:=cB 130 ⟨[.an U.cZ,.an U.cZ,.fn 131 []],[]⟩ (fun x=>m x.1.1 x.1.2.1)
def F3:Cx K:=bw [(131,.plain)] [Vg M.AX] [(4,Vj)]
theorem Vm:aV F3:=aZ au _ (af alg acW)
theorem alh:bH F3 (bC (bL Tryz.f130) 0) Vj:=bN (cx:=F3) (sh:=Vk) (run:=fun n x=>M.ya x.1.1 x.1.2.2.1 x.1.2.2.2.1 n x.1.2.2.2.2.1) (bK:=jk) au Vm bp (aN (by kernel_rfl)) (fun _=>rfl) (fun m x=>by kernel_rfl) (af ⟨df,fun _ _ _=>rfl⟩ (af ⟨bP,fun _ _ _=>rfl⟩ acW)) false ad
theorem ali:az (Vl (M.AY)):=ba (cx:=F3) true Vm Tryz.func130 (aS (bU 1 (by kernel_rfl) (bY (.mk (by kernel_rfl) alh)))) ⟨zs0,fun x=>x.1.1⟩ (fun x=>by kernel_rfl)
def Vn(m:M.ah->M.ah->Option Bool):aI K:=cB 74 MA (fun x=>m x.1.1 x.1.2.1)
def Vo:Cx K:=bw [(128,.plain),(129,.plain),(130,.plain)] [mm M.x9,Ve M.AU,Vl M.AY] []
theorem alj:aV Vo:=aZ au _ (af UG (af ale (af ali acW)))
theorem alk:az (Vn (M.AZ)):=ba (cx:=Vo) true alj Tryz.func74 (aS (aN (by kernel_rfl))) ⟨zs0,fun x=>x.1.1⟩ (fun x=>by kernel_rfl)
def Vp:bG K:=bM D false 32 0 [1,2,15,16,17] [6] Vq (fun x=>M.yb x.1.1 x.1.2.2.1 x.1.2.2.2.1 ad x.1.2.2.2.2.1) jj
def Vr(m:(List M.ah)->(List M.ah)->Option Bool):aI K:=cB 73 ⟨[.an U.Item,.an U.Item,.fn 74 []],[]⟩ (fun x=>m x.1.1 x.1.2.1)
def F4:Cx K:=bw [(74,.plain)] [Vn M.AZ] [(4,Vp)]
theorem Vs:aV F4:=aZ au _ (af alk acW)
theorem alm:bH F4 (bC (bL Tryz.f73) 0) Vp:=bN (cx:=F4) (sh:=Vq) (run:=fun n x=>M.yb x.1.1 x.1.2.2.1 x.1.2.2.2.1 n x.1.2.2.2.2.1) (bK:=jk) au Vs bp (aN (by kernel_rfl)) (fun _=>rfl) (fun m x=>by kernel_rfl) (af ⟨df,fun _ _ _=>rfl⟩ (af ⟨bP,fun _ _ _=>rfl⟩ acW)) false ad
theorem aln:az (Vr (M.A2)):=ba (cx:=F4) true Vs Tryz.func73 (aS (bU 1 (by kernel_rfl) (bY (.mk (by kernel_rfl) alm)))) ⟨zs0,fun x=>x.1.1⟩ (fun x=>by kernel_rfl)
def Vt(m:M.aE->M.aE->Option Bool):aI K:=cB 72 ⟨[.el U.cJ,.el U.cJ],[]⟩ (fun x=>m x.1.1 x.1.2.1)
def Vu:Cx K:=bw [(73,.plain)] [Vr M.A2] []
theorem alo:aV Vu:=aZ au _ (af aln acW)
theorem alp:az (Vt (M.A3)):=ba (cx:=Vu) true alo Tryz.func72 (aS (aN (by kernel_rfl))) ⟨zs0,fun x=>x.1.1⟩ (fun x=>by kernel_rfl)
def Vv:bG K:=bM D false 32 0 [1,2,15,16,17] [6] Vw (fun x=>M.yc x.1.1 x.1.2.2.1 x.1.2.2.2.1 ad x.1.2.2.2.2.1) jj
def Vx(m:(List M.aE)->(List M.aE)->Option Bool):aI K:=cB 71 ⟨[.an U.cJ,.an U.cJ,.fn 72 []],[]⟩ (fun x=>m x.1.1 x.1.2.1)
def F5:Cx K:=bw [(72,.plain)] [Vt M.A3] [(4,Vv)]
theorem Vy:aV F5:=aZ au _ (af alp acW)
theorem alq:bH F5 (bC (bL Tryz.f71) 0) Vv:=bN (cx:=F5) (sh:=Vw) (run:=fun n x=>M.yc x.1.1 x.1.2.2.1 x.1.2.2.2.1 n x.1.2.2.2.2.1) (bK:=jk) au Vy bp (aN (by kernel_rfl)) (fun _=>rfl) (fun m x=>by kernel_rfl) (af ⟨df,fun _ _ _=>rfl⟩ (af ⟨bP,fun _ _ _=>rfl⟩ acW)) false ad
theorem alr:az (Vx (M.A4)):=ba (cx:=F5) true Vy Tryz.func71 (aS (bU 1 (by kernel_rfl) (bY (.mk (by kernel_rfl) alq)))) ⟨zs0,fun x=>x.1.1⟩ (fun x=>by kernel_rfl)
def Vz:bG K:=bM D false 26 0 [0,1,12,13] [4] VA (fun x=>M.x8 x.1.1 x.1.2.1 x.1.2.2.1 ad x.1.2.2.2.1) jj
def VB(m:(List M.aG)->(List M.aG)->Option Bool):aI K:=cB 77 VC (fun x=>m x.1.1 x.1.2.1)
def F6:Cx K:=bw [] [] [(4,Vz)]
theorem VD:aV F6:=aZ au _ acW
theorem als:bH F6 (bC (bL Tryz.f77) 0) Vz:=bN (cx:=F6) (sh:=VA) (run:=fun n x=>M.x8 x.1.1 x.1.2.1 x.1.2.2.1 n x.1.2.2.2.1) (bK:=jk) au VD bp (aN (by kernel_rfl)) (fun _=>rfl) (fun m x=>by kernel_rfl) (af ⟨df,fun _ _ _=>rfl⟩ (af ⟨bP,fun _ _ _=>rfl⟩ acW)) false ad
theorem alu:az (VB (M.AW)):=ba (cx:=F6) true VD Tryz.func77 (aS (bU 1 (by kernel_rfl) (bY (.mk (by kernel_rfl) als)))) ⟨zs0,fun x=>x.1.1⟩ (fun x=>by kernel_rfl)
def VE(m:M.aJ->M.aJ->Option Bool):aI K:=cB 76 VF (fun x=>m x.1.1 x.1.2.1)
def VG:Cx K:=bw [(77,.plain)] [VB M.AW] []
theorem alv:aV VG:=aZ au _ (af alu acW)
theorem alx:az (VE (M.A5)):=ba (cx:=VG) true alv Tryz.func76 (aS (aN (by kernel_rfl))) ⟨zs0,fun x=>x.1.1⟩ (fun x=>by kernel_rfl)
def VH:bG K:=bM D false 32 0 [1,2,15,16,17] [6] VI (fun x=>M.yd x.1.1 x.1.2.2.1 x.1.2.2.2.1 ad x.1.2.2.2.2.1) jj
def VJ(m:(List M.aJ)->(List M.aJ)->Option Bool):aI K:=cB 75 ⟨[.an U.cY,.an U.cY,.fn 76 []],[]⟩ (fun x=>m x.1.1 x.1.2.1)
def F7:Cx K:=bw [(76,.plain)] [VE M.A5] [(4,VH)]
theorem VK:aV F7:=aZ au _ (af alx acW)
theorem aly:bH F7 (bC (bL Tryz.f75) 0) VH:=bN (cx:=F7) (sh:=VI) (run:=fun n x=>M.yd x.1.1 x.1.2.2.1 x.1.2.2.2.1 n x.1.2.2.2.2.1) (bK:=jk) au VK bp (aN (by kernel_rfl)) (fun _=>rfl) (fun m x=>by kernel_rfl) (af ⟨df,fun _ _ _=>rfl⟩ (af ⟨bP,fun _ _ _=>rfl⟩ acW)) false ad
theorem alz:az (VJ (M.A6)):=ba (cx:=F7) true VK Tryz.func75 (aS (bU 1 (by kernel_rfl) (bY (.mk (by kernel_rfl) aly)))) ⟨zs0,fun x=>x.1.1⟩ (fun x=>by kernel_rfl)
def VL(m:M.aA->M.aA->Option Bool):aI K:=cB 37 MB (fun x=>m x.1.1 x.1.2.1)
def VM:Cx K:=bw [(71,.plain),(75,.plain)] [Vx M.A4,VJ M.A6] []
theorem alA:aV VM:=aZ au _ (af alr (af alz acW))
theorem alB:az (VL (M.A7)):=ba (cx:=VM) true alA Tryz.func37 (aS (aN (by kernel_rfl))) ⟨zs0,fun x=>x.1.1⟩ (fun x=>by kernel_rfl)
def VN(m:M.aA->Option ((List UInt8)×Bool)):aI K:={f:=36,sh:=nZ,R:=(List UInt8)×Bool,run:=fun x=>m x.1.1,dflt:=default,out:=fun r=>(Sh.enc D (.bD [.str,.bool]) (r.1,(r.2,())),aY.encs D [] ())}
def VO:Cx K:=bw [(70,.plain),(9,.jN),(37,.plain)] [Va M.sY,VP M.AP,VL M.A7] []
theorem alC:aV VO:=aZ au _ (af alc (af alD (af alB acW)))
theorem alE:az (VN (M.Bc)):=ba (cx:=VO) true alC Tryz.func36 (aS (aN (by kernel_rfl))) ⟨⟨[.bD [.str,.bool]],[]⟩,fun x=>(x.1.1.1,x.1.1.2.1)⟩ (fun x=>by kernel_rfl)
def alH(y:Bool⊕(M.ah)){R:Type}(k:KT R):R:=match y with|.inl a0=>kk k Ex.ret F8 (((),(a0,())),((),()))|.inr a1=>kk k (Ex.exit 0) ⟨[.ptr 0 0,.any],[.el U.Item]⟩ (((),((),())),(a1,()))
def alI:List (cH K ((Bool)⊕(M.ah))):=[⟨Ex.ret,F8,fun x=>.inl x.1.2.1⟩,⟨(Ex.exit 0),⟨[.ptr 0 0,.any],[.el U.Item]⟩,fun x=>.inr (x.2.1)⟩]
def VS:bG K:=bM D false 48 1 [1,3] [1,2] ⟨[.ptr 0 0,iq0],[.el U.Item]⟩ (fun x=>M.yk ad x.1.2.1 x.2.1) alH
def VT(m:M.ah->Option Bool):aI K:=cB 121 FW (fun x=>m x.1.1)
def F9:Cx K:=bw [(165,.plain),(122,.plain)] [tn M.Bf,Bv M.By] [(4,VS)]
theorem VU:aV F9:=aZ au _ (af akf (af FD acW))
theorem alJ:bH F9 (bC (bL Tryz.f121) 0) VS:=bN (cx:=F9) (sh:=⟨[.ptr 0 0,iq0],[.el U.Item]⟩) (run:=fun n x=>M.yk n x.1.2.1 x.2.1) (bK:=alI) au VU bp (aN (by kernel_rfl)) (fun _=>rfl) (fun m x=>by kernel_rfl) (af ⟨df,fun _ _ _=>rfl⟩ (af ⟨bP,fun _ _ _=>rfl⟩ acW)) false ad
theorem alK:az (VT (M.Bn)):=ba (cx:=F9) true VU Tryz.func121 (aS (bU 1 (by kernel_rfl) (bY (.mk (by kernel_rfl) alJ)))) ⟨zs0,fun x=>x.1.1⟩ (fun x=>by kernel_rfl)
def alL(y:Bool⊕(Int×M.aA)){R:Type}(k:KT R):R:=match y with|.inl a0=>kk k Ex.ret Ge (((),((),(a0,()))),((),()))|.inr a1=>kk k (Ex.exit 2) Gf (((),(a1.1,((),()))),(a1.2,()))
def alM:List (cH K ((Bool)⊕(Int×M.aA))):=[⟨Ex.ret,Ge,fun x=>.inl x.1.2.2.1⟩,⟨(Ex.exit 2),Gf,fun x=>.inr ((x.1.2.1,x.2.1))⟩]
def VV:bG K:=bM D false 92 1 [1,3,4] [1,3,2] Gg (fun x=>M.yn x.1.2.1 x.2.1 ad x.1.2.2.1) alL
def alN(y:Bool⊕(M.aA)){R:Type}(k:KT R):R:=match y with|.inl a0=>kk k Ex.ret F8 (((),(a0,())),((),()))|.inr a1=>kk k (Ex.exit 0) ⟨[.ptr 0 0,.any],[.el U.bo]⟩ (((),((),())),(a1,()))
def alO:List (cH K ((Bool)⊕(M.aA))):=[⟨Ex.ret,F8,fun x=>.inl x.1.2.1⟩,⟨(Ex.exit 0),⟨[.ptr 0 0,.any],[.el U.bo]⟩,fun x=>.inr (x.2.1)⟩]
def VW:bG K:=bM D false 92 1 [1,3] [1,2] Gh (fun x=>M.yo ad x.1.2.1 x.2.1) alN
def alP(y:Bool⊕(Int×M.aA)){R:Type}(k:KT R):R:=match y with|.inl a0=>kk k Ex.ret Ge (((),((),(a0,()))),((),()))|.inr a1=>kk k (Ex.exit 6) Gf (((),(a1.1,((),()))),(a1.2,()))
def alQ:List (cH K ((Bool)⊕(Int×M.aA))):=[⟨Ex.ret,Ge,fun x=>.inl x.1.2.2.1⟩,⟨(Ex.exit 6),Gf,fun x=>.inr ((x.1.2.1,x.2.1))⟩]
def VX:bG K:=bM D false 92 1 [1,5,6] [1,5,2] Gg (fun x=>M.yp x.1.2.1 x.2.1 ad x.1.2.2.1) alP
def alR(y:Bool⊕Unit){R:Type}(k:KT R):R:=match y with|.inl a0=>kk k Ex.ret ⟨[.bool],[.dead]⟩ ((a0,()),((),()))|.inr a1=>kk k (Ex.exit 4) Gi (((),()),((),()))
def alS:List (cH K ((Bool)⊕Unit)):=[⟨Ex.ret,⟨[.bool],[.dead]⟩,fun x=>.inl x.1.1⟩,⟨(Ex.exit 4),Gi,fun x=>.inr (())⟩]
def VY:bG K:=bM D false 92 1 [1,5] [2] Gh (fun x=>M.yq ad x.1.2.1 x.2.1) alR
def VZ(m:M.aA->Option Bool):aI K:=cB 69 nZ (fun x=>m x.1.1)
def pH:Cx K:=bw [(121,.plain),(122,.plain)] [VT M.Bn,Bv M.By] [(9,VV),(4,VW),(19,VX),(14,VY)]
theorem BB:aV pH:=aZ au _ (af alK (af FD acW))
theorem alT:bH pH (bC (bC (bL Tryz.f69) 0) 0) VV:=bN (cx:=pH) (sh:=Gg) (run:=fun n x=>M.yn x.1.2.1 x.2.1 n x.1.2.2.1) (bK:=alM) au BB bp (aN (by kernel_rfl)) (fun _=>rfl) (fun m x=>by kernel_rfl) (af ⟨df,fun _ _ _=>rfl⟩ (af ⟨bP,fun _ _ _=>rfl⟩ acW)) false ad
theorem alU:bH pH (bC (bC (bL Tryz.f69) 1) 0) VX:=bN (cx:=pH) (sh:=Gg) (run:=fun n x=>M.yp x.1.2.1 x.2.1 n x.1.2.2.1) (bK:=alQ) au BB bp (aN (by kernel_rfl)) (fun _=>rfl) (fun m x=>by kernel_rfl) (af ⟨df,fun _ _ _=>rfl⟩ (af ⟨bP,fun _ _ _=>rfl⟩ acW)) false ad
theorem alV:bH pH (bC (bL Tryz.f69) 0) VW:=bN (cx:=pH) (sh:=Gh) (run:=fun n x=>M.yo n x.1.2.1 x.2.1) (bK:=alO) au BB bp (bU 1 (by kernel_rfl) (bY (.mk (by kernel_rfl) alT))) (fun _=>rfl) (fun m x=>by kernel_rfl) (af ⟨df,fun _ _ _=>rfl⟩ (af ⟨bP,fun _ _ _=>rfl⟩ acW)) false ad
theorem alW:bH pH (bC (bL Tryz.f69) 1) VY:=bN (cx:=pH) (sh:=Gh) (run:=fun n x=>M.yq n x.1.2.1 x.2.1) (bK:=alS) au BB bp (bU 1 (by kernel_rfl) (bY (.mk (by kernel_rfl) alU))) (fun _=>rfl) (fun m x=>by kernel_rfl) (af ⟨df,fun _ _ _=>rfl⟩ (af ⟨bP,fun _ _ _=>rfl⟩ acW)) false ad
theorem alX:az (VZ (M.s6)):=ba (cx:=pH) true BB Tryz.func69 (aS (bU 2 (by kernel_rfl) (lt_succ (bY (.mk (by kernel_rfl) alV)) (.mk (by kernel_rfl) alW)))) ⟨zs0,fun x=>x.1.1⟩ (fun x=>by kernel_rfl)
def MC(m:M.bf->Option ((List UInt8))):aI K:=cS 85 FV (fun x=>m x.1.1)
theorem V0:az (MC (M.s8)):=ba (cx:=gY) true ij Tryz.func85 (aS (aN (by kernel_rfl))) ⟨zs2,fun x=>x.1.1⟩ (fun x=>by kernel_rfl)
def alY(y:(List UInt8)){R:Type}(k:KT R):R:=match y with|a0=>kk k (Ex.exit 1) yA ((a0,()),((),()))
def alZ:List (cH K ((List UInt8))):=[⟨(Ex.exit 1),yA,fun x=>x.1.1⟩]
def V1:bG K:=bM D false 118 1 [1,3,4] [3] Gj (fun x=>M.pq ad x.1.2.1 x.1.2.2.1 x.2.1) alY
def al0(y:(List UInt8)×M.ah){R:Type}(k:KT R):R:=match y with|a0=>kk k (Ex.exit 3) ⟨[.ptr 0 0,.str],[.el U.Item]⟩ (((),(a0.1,())),(a0.2,()))
def al1:List (cH K ((List UInt8)×M.ah)):=[⟨(Ex.exit 3),⟨[.ptr 0 0,.str],[.el U.Item]⟩,fun x=>(x.1.2.1,x.2.1)⟩]
def V2:bG K:=bM D false 118 1 [1,5,6] [1,5] Gj (fun x=>M.pv ad x.1.2.1 x.1.2.2.1 x.2.1) al0
def V3(m:M.ah->Option ((List UInt8))):aI K:=cS 83 FW (fun x=>m x.1.1)
def yF:Cx K:=bw [(137,.plain),(85,.plain)] [jW M.yj,MC M.s8] [(9,V1),(22,V2)]
theorem MD:aV yF:=aZ au _ (af aks (af V0 acW))
theorem al2:bH yF (bC (bL Tryz.f83) 0) V1:=bN (cx:=yF) (sh:=Gj) (run:=fun n x=>M.pq n x.1.2.1 x.1.2.2.1 x.2.1) (bK:=alZ) au MD bp (aN (by kernel_rfl)) (fun _=>rfl) (fun m x=>by kernel_rfl) (af ⟨bP,fun _ _ _=>rfl⟩ acW) false ad
theorem al3:bH yF (bC (bL Tryz.f83) 1) V2:=bN (cx:=yF) (sh:=Gj) (run:=fun n x=>M.pv n x.1.2.1 x.1.2.2.1 x.2.1) (bK:=al1) au MD bp (aN (by kernel_rfl)) (fun _=>rfl) (fun m x=>by kernel_rfl) (af ⟨bP,fun _ _ _=>rfl⟩ acW) false ad
theorem al4:az (V3 (M.Bo)):=ba (cx:=yF) true MD Tryz.func83 (aS (bU 2 (by kernel_rfl) (lt_succ (bY (.mk (by kernel_rfl) al2)) (.mk (by kernel_rfl) al3)))) ⟨zs2,fun x=>x.1.1⟩ (fun x=>by kernel_rfl)
def al5(y:(List UInt8)×Int×M.aA){R:Type}(k:KT R):R:=match y with|a0=>kk k (Ex.exit 2) tq (((),(a0.1,(a0.2.1,()))),(a0.2.2,()))
def al6:List (cH K ((List UInt8)×Int×M.aA)):=[⟨(Ex.exit 2),tq,fun x=>(x.1.2.1,x.1.2.2.1,x.2.1)⟩]
def V4:bG K:=bM D false 116 1 [1,3,4,5] [1,3,4] Gk (fun x=>M.pA x.1.2.2.1 x.2.1 ad x.1.2.1 x.1.2.2.2.1) al5
def al7(y:(List UInt8)×M.aA){R:Type}(k:KT R):R:=match y with|a0=>kk k (Ex.exit 0) ⟨[.ptr 0 0,.str],[.el U.bo]⟩ (((),(a0.1,())),(a0.2,()))
def al8:List (cH K ((List UInt8)×M.aA)):=[⟨(Ex.exit 0),⟨[.ptr 0 0,.str],[.el U.bo]⟩,fun x=>(x.1.2.1,x.2.1)⟩]
def V5:bG K:=bM D false 116 1 [1,3,4] [1,3] tq (fun x=>M.pB ad x.1.2.1 x.1.2.2.1 x.2.1) al7
def al9(y:(List UInt8)×Int×M.aA){R:Type}(k:KT R):R:=match y with|a0=>kk k (Ex.exit 6) tq (((),(a0.1,(a0.2.1,()))),(a0.2.2,()))
def ama:List (cH K ((List UInt8)×Int×M.aA)):=[⟨(Ex.exit 6),tq,fun x=>(x.1.2.1,x.1.2.2.1,x.2.1)⟩]
def V6:bG K:=bM D false 116 1 [1,3,6,7] [1,3,6] Gk (fun x=>M.pC x.1.2.2.1 x.2.1 ad x.1.2.1 x.1.2.2.2.1) al9
def amb(y:(List UInt8)){R:Type}(k:KT R):R:=match y with|a0=>kk k (Ex.exit 4) yA ((a0,()),((),()))
def amc:List (cH K ((List UInt8))):=[⟨(Ex.exit 4),yA,fun x=>x.1.1⟩]
def V7:bG K:=bM D false 116 1 [1,3,6] [3] tq (fun x=>M.pD ad x.1.2.1 x.1.2.2.1 x.2.1) amb
def V8(m:M.aA->Option ((List UInt8))):aI K:=cS 43 nZ (fun x=>m x.1.1)
def pI:Cx K:=bw [(83,.plain),(84,.jN),(85,.plain)] [V3 M.Bo,LR M.jF,MC M.s8] [(7,V4),(3,V5),(16,V6),(12,V7)]
theorem BC:aV pI:=aZ au _ (af al4 (af Tm (af V0 acW)))
theorem amd:bH pI (bC (bC (bL Tryz.f43) 0) 0) V4:=bN (cx:=pI) (sh:=Gk) (run:=fun n x=>M.pA x.1.2.2.1 x.2.1 n x.1.2.1 x.1.2.2.2.1) (bK:=al6) au BC bp (aN (by kernel_rfl)) (fun _=>rfl) (fun m x=>by kernel_rfl) (af ⟨bP,fun _ _ _=>rfl⟩ acW) false ad
theorem ame:bH pI (bC (bC (bL Tryz.f43) 1) 0) V6:=bN (cx:=pI) (sh:=Gk) (run:=fun n x=>M.pC x.1.2.2.1 x.2.1 n x.1.2.1 x.1.2.2.2.1) (bK:=ama) au BC bp (aN (by kernel_rfl)) (fun _=>rfl) (fun m x=>by kernel_rfl) (af ⟨bP,fun _ _ _=>rfl⟩ acW) false ad
theorem amf:bH pI (bC (bL Tryz.f43) 0) V5:=bN (cx:=pI) (sh:=tq) (run:=fun n x=>M.pB n x.1.2.1 x.1.2.2.1 x.2.1) (bK:=al8) au BC bp (bU 1 (by kernel_rfl) (bY (.mk (by kernel_rfl) amd))) (fun _=>rfl) (fun m x=>by kernel_rfl) (af ⟨bP,fun _ _ _=>rfl⟩ acW) false ad
theorem amg:bH pI (bC (bL Tryz.f43) 1) V7:=bN (cx:=pI) (sh:=tq) (run:=fun n x=>M.pD n x.1.2.1 x.1.2.2.1 x.2.1) (bK:=amc) au BC bp (bU 1 (by kernel_rfl) (bY (.mk (by kernel_rfl) ame))) (fun _=>rfl) (fun m x=>by kernel_rfl) (af ⟨bP,fun _ _ _=>rfl⟩ acW) false ad
theorem amh:az (V8 (M.pf)):=ba (cx:=pI) true BC Tryz.func43 (aS (bU 2 (by kernel_rfl) (lt_succ (bY (.mk (by kernel_rfl) amf)) (.mk (by kernel_rfl) amg)))) ⟨zs2,fun x=>x.1.1⟩ (fun x=>by kernel_rfl)
def ami(y:Bool⊕(M.ah×M.ah)){R:Type}(k:KT R):R:=match y with|.inl a0=>kk k Ex.ret yB (((),((),(a0,()))),((),((),())))|.inr a1=>kk k (Ex.exit 0) V9 (((),((),((),()))),(a1.1,(a1.2,())))
def amj:List (cH K ((Bool)⊕(M.ah×M.ah))):=[⟨Ex.ret,yB,fun x=>.inl x.1.2.2.1⟩,⟨(Ex.exit 0),V9,fun x=>.inr ((x.2.1,x.2.2.1))⟩]
def Wa:bG K:=bM D false 113 2 [2,3,5] [2,3,4] Gl (fun x=>M.sR ad x.1.2.2.1 x.2.1 x.2.2.1) ami
def Wb:bG K:=bM D false 113 2 [2,3,6] [4] Gl (fun x=>M.sS ad x.1.2.2.1 x.2.1 x.2.2.1) Uo
def Wc(m:M.ah->M.ah->Option Bool):aI K:=cB 82 MA (fun x=>m x.1.1 x.1.2.1)
def yG:Cx K:=bw [(136,.plain)] [rj M.A8] [(4,Wa),(9,Wb)]
theorem ME:aV yG:=aZ au _ (af aky acW)
theorem amk:bH yG (bC (bL Tryz.f82) 0) Wa:=bN (cx:=yG) (sh:=Gl) (run:=fun n x=>M.sR n x.1.2.2.1 x.2.1 x.2.2.1) (bK:=amj) au ME bp (aN (by kernel_rfl)) (fun _=>rfl) (fun m x=>by kernel_rfl) (af ⟨df,fun _ _ _=>rfl⟩ (af ⟨bP,fun _ _ _=>rfl⟩ acW)) false ad
theorem aml:bH yG (bC (bL Tryz.f82) 1) Wb:=bN (cx:=yG) (sh:=Gl) (run:=fun n x=>M.sS n x.1.2.2.1 x.2.1 x.2.2.1) (bK:=Up) au ME bp (aN (by kernel_rfl)) (fun _=>rfl) (fun m x=>by kernel_rfl) (af ⟨df,fun _ _ _=>rfl⟩ (af ⟨bP,fun _ _ _=>rfl⟩ acW)) false ad
theorem amm:az (Wc (M.A9)):=ba (cx:=yG) true ME Tryz.func82 (aS (bU 2 (by kernel_rfl) (lt_succ (bY (.mk (by kernel_rfl) amk)) (.mk (by kernel_rfl) aml)))) ⟨zs0,fun x=>x.1.1⟩ (fun x=>by kernel_rfl)
def amn(y:Bool⊕(Int×M.aA×M.aA)){R:Type}(k:KT R):R:=match y with|.inl a0=>kk k Ex.ret Gm (((),((),((),(a0,())))),((),((),())))|.inr a1=>kk k (Ex.exit 2) Gn (((),((),(a1.1,((),())))),(a1.2.1,(a1.2.2,())))
def amo:List (cH K ((Bool)⊕(Int×M.aA×M.aA))):=[⟨Ex.ret,Gm,fun x=>.inl x.1.2.2.2.1⟩,⟨(Ex.exit 2),Gn,fun x=>.inr ((x.1.2.2.1,x.2.1,x.2.2.1))⟩]
def We:bG K:=bM D false 174 2 [2,3,5,6] [2,3,5,4] Gp (fun x=>M.sV x.1.2.2.1 x.2.1 x.2.2.1 ad x.1.2.2.2.1) amn
def amq(y:Bool⊕(M.aA×M.aA)){R:Type}(k:KT R):R:=match y with|.inl a0=>kk k Ex.ret yB (((),((),(a0,()))),((),((),())))|.inr a1=>kk k (Ex.exit 0) Wg (((),((),((),()))),(a1.1,(a1.2,())))
def amr:List (cH K ((Bool)⊕(M.aA×M.aA))):=[⟨Ex.ret,yB,fun x=>.inl x.1.2.2.1⟩,⟨(Ex.exit 0),Wg,fun x=>.inr ((x.2.1,x.2.2.1))⟩]
def Wh:bG K:=bM D false 174 2 [2,3,5] [2,3,4] Gq (fun x=>M.sU ad x.1.2.2.1 x.2.1 x.2.2.1) amq
def ams(y:Bool⊕(Int×M.aA×M.aA)){R:Type}(k:KT R):R:=match y with|.inl a0=>kk k Ex.ret Gm (((),((),((),(a0,())))),((),((),())))|.inr a1=>kk k (Ex.exit 6) Gn (((),((),(a1.1,((),())))),(a1.2.1,(a1.2.2,())))
def amu:List (cH K ((Bool)⊕(Int×M.aA×M.aA))):=[⟨Ex.ret,Gm,fun x=>.inl x.1.2.2.2.1⟩,⟨(Ex.exit 6),Gn,fun x=>.inr ((x.1.2.2.1,x.2.1,x.2.2.1))⟩]
def Wi:bG K:=bM D false 174 2 [2,3,7,8] [2,3,7,4] Gp (fun x=>M.sX x.1.2.2.1 x.2.1 x.2.2.1 ad x.1.2.2.2.1) ams
def amv(y:Bool⊕Unit){R:Type}(k:KT R):R:=match y with|.inl a0=>kk k Ex.ret FK ((a0,()),((),((),())))|.inr a1=>kk k (Ex.exit 4) FM (((),()),((),((),())))
def amw:List (cH K ((Bool)⊕Unit)):=[⟨Ex.ret,FK,fun x=>.inl x.1.1⟩,⟨(Ex.exit 4),FM,fun x=>.inr (())⟩]
def Wj:bG K:=bM D false 174 2 [2,3,7] [4] Gq (fun x=>M.sW ad x.1.2.2.1 x.2.1 x.2.2.1) amv
def Wl(m:M.aA->M.aA->Option Bool):aI K:=cB 42 MB (fun x=>m x.1.1 x.1.2.1)
def pJ:Cx K:=bw [(82,.plain)] [Wc M.A9] [(9,We),(4,Wh),(19,Wi),(14,Wj)]
theorem BD:aV pJ:=aZ au _ (af amm acW)
theorem amx:bH pJ (bC (bC (bL Tryz.f42) 0) 0) We:=bN (cx:=pJ) (sh:=Gp) (run:=fun n x=>M.sV x.1.2.2.1 x.2.1 x.2.2.1 n x.1.2.2.2.1) (bK:=amo) au BD bp (aN (by kernel_rfl)) (fun _=>rfl) (fun m x=>by kernel_rfl) (af ⟨df,fun _ _ _=>rfl⟩ (af ⟨bP,fun _ _ _=>rfl⟩ acW)) false ad
theorem amy:bH pJ (bC (bC (bL Tryz.f42) 1) 0) Wi:=bN (cx:=pJ) (sh:=Gp) (run:=fun n x=>M.sX x.1.2.2.1 x.2.1 x.2.2.1 n x.1.2.2.2.1) (bK:=amu) au BD bp (aN (by kernel_rfl)) (fun _=>rfl) (fun m x=>by kernel_rfl) (af ⟨df,fun _ _ _=>rfl⟩ (af ⟨bP,fun _ _ _=>rfl⟩ acW)) false ad
theorem amz:bH pJ (bC (bL Tryz.f42) 0) Wh:=bN (cx:=pJ) (sh:=Gq) (run:=fun n x=>M.sU n x.1.2.2.1 x.2.1 x.2.2.1) (bK:=amr) au BD bp (bU 1 (by kernel_rfl) (bY (.mk (by kernel_rfl) amx))) (fun _=>rfl) (fun m x=>by kernel_rfl) (af ⟨df,fun _ _ _=>rfl⟩ (af ⟨bP,fun _ _ _=>rfl⟩ acW)) false ad
theorem amA:bH pJ (bC (bL Tryz.f42) 1) Wj:=bN (cx:=pJ) (sh:=Gq) (run:=fun n x=>M.sW n x.1.2.2.1 x.2.1 x.2.2.1) (bK:=amw) au BD bp (bU 1 (by kernel_rfl) (bY (.mk (by kernel_rfl) amy))) (fun _=>rfl) (fun m x=>by kernel_rfl) (af ⟨df,fun _ _ _=>rfl⟩ (af ⟨bP,fun _ _ _=>rfl⟩ acW)) false ad
theorem amB:az (Wl (M.Ba)):=ba (cx:=pJ) true BD Tryz.func42 (aS (bU 2 (by kernel_rfl) (lt_succ (bY (.mk (by kernel_rfl) amz)) (.mk (by kernel_rfl) amA)))) ⟨zs0,fun x=>x.1.1⟩ (fun x=>by kernel_rfl)
def Wm(m:M.aA->Option Bool):aI K:=cB 35 nZ (fun x=>m x.1.1)
def Wn:Cx K:=bw [(69,.plain),(43,.plain),(22,.jN),(42,.plain)] [VZ M.s6,V8 M.pf,TU M.sJ,Wl M.Ba] []
theorem amC:aV Wn:=aZ au _ (af alX (af amh (af aka (af amB acW))))
theorem amD:az (Wm (M.pe)):=ba (cx:=Wn) true amC Tryz.func35 (aS (aN (by kernel_rfl))) ⟨zs0,fun x=>x.1.1⟩ (fun x=>by kernel_rfl)
def aeu(m:M.aA->Option ((List UInt8))):aI K:=cS 14 nZ (fun x=>m x.1.1)
def aiU:Cx K:=bw [(36,.plain)] [VN M.Bc] []
theorem atB:aV aiU:=aZ au _ (af alE acW)
theorem atC:az (aeu (M.aB)):=ba (cx:=aiU) true atB Tryz.func14 (aS (aN (by kernel_rfl))) ⟨zs2,fun x=>x.1.1⟩ (fun x=>by kernel_rfl)
def ai4(m:M.aA->Option ((List UInt8))):aI K:=cS 21 nZ (fun x=>m x.1.1)
def ai5:Cx K:=bw [(35,.plain),(43,.plain)] [Wm M.pe,V8 M.pf] []
theorem atD:aV ai5:=aZ au _ (af amD (af amh acW))
theorem atE:az (ai4 (M.f6)):=ba (cx:=ai5) true atD Tryz.func21 (aS (aN (by kernel_rfl))) ⟨zs2,fun x=>x.1.1⟩ (fun x=>by kernel_rfl)
def oa(m:M.aa->Int->Option Int):aI K:=cI 212 L0 (fun x=>m x.1.1 x.1.2.1)
def Ws(d6:M.aa->Int->Option Int):bG K:=bM D false 27 0 [0,1,5] [1,4] Wu (fun x=>M.vC d6 x.1.1 ad x.1.2.1 x.1.2.2.1) pK
def Wv(m:(List M.aa)->Int->Option Int):aI K:=cI 249 ⟨[.an U.Term,iq0],[]⟩ (fun x=>m x.1.1 x.1.2.1)
def Gs(d6:M.aa->Int->Option Int):Cx K:=bw [(212,.plain)] [oa d6] [(5,Ws d6)]
theorem Ww(d6:M.aa->Int->Option Int)(pL:az (oa d6)):aV (Gs d6):=aZ au _ (af pL acW)
theorem amG(d6:M.aa->Int->Option Int)(pL:az (oa d6)):bH (Gs d6) (bC (bL Tryz.f249) 0) (Ws d6):=bN (cx:=Gs d6) (sh:=Wu) (run:=fun n x=>M.vC d6 x.1.1 n x.1.2.1 x.1.2.2.1) (bK:=pM) au (Ww d6 pL) bp (aN (by kernel_rfl)) (fun _=>rfl) (fun m x=>by kernel_rfl) (af ⟨df,fun _ _ _=>rfl⟩ (af ⟨bP,fun _ _ _=>rfl⟩ acW)) false ad
theorem amH(d6:M.aa->Int->Option Int)(pL:az (oa d6)):az (Wv (M.BE d6)):=f9 (cx:=Gs d6) (fz:=true) au (Ww d6 pL) bp ⟨Tryz.func249,by kernel_rfl⟩ (aS (bU 1 (by kernel_rfl) (bY (.mk (by kernel_rfl) (amG d6 pL))))) ⟨fM,fun x=>x.1.1⟩ (fun x=>rfl) (fun x=>by kernel_rfl)
def Wx(d6:M.aa->Int->Option Int):Cx K:=bw [(248,.plain),(249,.plain)] [Wy M.BF,Wv (M.BE d6)] []
theorem amI(d6:M.aa->Int->Option Int)(pL:az (oa d6)):aV (Wx d6):=aZ au _ (af amJ (af (amH d6 pL) acW))
theorem amK(d6:M.aa->Int->Option Int)(pL:az (oa d6)):az (oa (M.Gt d6)):=f9 (cx:=Wx d6) (fz:=true) au (amI d6 pL) bp ⟨Tryz.func212,by kernel_rfl⟩ (aS (aN (by kernel_rfl))) ⟨fM,fun x=>x.1.1⟩ (fun x=>rfl) (fun x=>by kernel_rfl)
theorem WA:∀n,az (oa (M.vD n))|0=>nE fun _=>rfl|n+1=>amK (M.vD n) (WA n)
theorem WB:az (oa (M.yH)):=WA ad
def WC(m:M.ax->Int->Option Int):aI K:=cI 250 ⟨[.el U.cZ,iq0],[]⟩ (fun x=>m x.1.1 x.1.2.1)
def WE:Cx K:=bw [(212,.plain)] [oa M.yH] []
theorem amL:aV WE:=aZ au _ (af WB acW)
theorem amM:az (WC (M.BG)):=ba (cx:=WE) true amL Tryz.func250 (aS (aN (by kernel_rfl))) ⟨fM,fun x=>x.1.1⟩ (fun x=>by kernel_rfl)
def WG:bG K:=bM D false 27 0 [0,1,5] [1,4] WH (fun x=>M.vE x.1.1 ad x.1.2.1 x.1.2.2.1) pK
def WI(m:(List M.ax)->Int->Option Int):aI K:=cI 213 ⟨[.an U.cZ,iq0],[]⟩ (fun x=>m x.1.1 x.1.2.1)
def Gu:Cx K:=bw [(250,.plain)] [WC M.BG] [(5,WG)]
theorem WJ:aV Gu:=aZ au _ (af amM acW)
theorem amN:bH Gu (bC (bL Tryz.f213) 0) WG:=bN (cx:=Gu) (sh:=WH) (run:=fun n x=>M.vE x.1.1 n x.1.2.1 x.1.2.2.1) (bK:=pM) au WJ bp (aN (by kernel_rfl)) (fun _=>rfl) (fun m x=>by kernel_rfl) (af ⟨df,fun _ _ _=>rfl⟩ (af ⟨bP,fun _ _ _=>rfl⟩ acW)) false ad
theorem amO:az (WI (M.BH)):=ba (cx:=Gu) true WJ Tryz.func213 (aS (bU 1 (by kernel_rfl) (bY (.mk (by kernel_rfl) amN)))) ⟨fM,fun x=>x.1.1⟩ (fun x=>by kernel_rfl)
def MF(m:M.bf->Int->Option Int):aI K:=cI 214 ⟨[.el U.Path,iq0],[]⟩ (fun x=>m x.1.1 x.1.2.1)
theorem WL:az (MF (M.vF)):=ba (cx:=gY) true ij Tryz.func214 (aS (aN (by kernel_rfl))) ⟨fM,fun x=>x.1.1⟩ (fun x=>by kernel_rfl)
def WM(m:M.aK->Int->Option Int):aI K:=cI 251 ⟨[.el U.dc,iq0],[]⟩ (fun x=>m x.1.1 x.1.2.1)
theorem amP:az (WM (M.BI)):=ba (cx:=gY) true ij Tryz.func251 (aS (aN (by kernel_rfl))) ⟨fM,fun x=>x.1.1⟩ (fun x=>by kernel_rfl)
def WN:bG K:=bM D false 27 0 [0,1,5] [1,4] WO (fun x=>M.vG x.1.1 ad x.1.2.1 x.1.2.2.1) pK
def WQ(m:(List M.aK)->Int->Option Int):aI K:=cI 215 ⟨[.an U.dc,iq0],[]⟩ (fun x=>m x.1.1 x.1.2.1)
def Gv:Cx K:=bw [(251,.plain)] [WM M.BI] [(5,WN)]
theorem WR:aV Gv:=aZ au _ (af amP acW)
theorem amQ:bH Gv (bC (bL Tryz.f215) 0) WN:=bN (cx:=Gv) (sh:=WO) (run:=fun n x=>M.vG x.1.1 n x.1.2.1 x.1.2.2.1) (bK:=pM) au WR bp (aN (by kernel_rfl)) (fun _=>rfl) (fun m x=>by kernel_rfl) (af ⟨df,fun _ _ _=>rfl⟩ (af ⟨bP,fun _ _ _=>rfl⟩ acW)) false ad
theorem amR:az (WQ (M.BJ)):=ba (cx:=Gv) true WR Tryz.func215 (aS (bU 1 (by kernel_rfl) (bY (.mk (by kernel_rfl) amQ)))) ⟨fM,fun x=>x.1.1⟩ (fun x=>by kernel_rfl)
def WS(m:M.ah->Int->Option Int):aI K:=cI 172 ⟨[.el U.Item,iq0],[]⟩ (fun x=>m x.1.1 x.1.2.1)
def WT:Cx K:=bw [(212,.plain),(213,.plain),(214,.plain),(215,.plain)] [oa M.yH,WI M.BH,MF M.vF,WQ M.BJ] []
theorem amS:aV WT:=aZ au _ (af WB (af amO (af WL (af amR acW))))
theorem amT:az (WS (M.BK)):=ba (cx:=WT) true amS Tryz.func172 (aS (aN (by kernel_rfl))) ⟨fM,fun x=>x.1.1⟩ (fun x=>by kernel_rfl)
def WU:bG K:=bM D false 27 0 [0,1,5] [1,4] WV (fun x=>M.vH x.1.1 ad x.1.2.1 x.1.2.2.1) pK
def WW(m:(List M.ah)->Int->Option Int):aI K:=cI 132 ⟨[.an U.Item,iq0],[]⟩ (fun x=>m x.1.1 x.1.2.1)
def Gw:Cx K:=bw [(172,.plain)] [WS M.BK] [(5,WU)]
theorem WX:aV Gw:=aZ au _ (af amT acW)
theorem amU:bH Gw (bC (bL Tryz.f132) 0) WU:=bN (cx:=Gw) (sh:=WV) (run:=fun n x=>M.vH x.1.1 n x.1.2.1 x.1.2.2.1) (bK:=pM) au WX bp (aN (by kernel_rfl)) (fun _=>rfl) (fun m x=>by kernel_rfl) (af ⟨df,fun _ _ _=>rfl⟩ (af ⟨bP,fun _ _ _=>rfl⟩ acW)) false ad
theorem amV:az (WW (M.BL)):=ba (cx:=Gw) true WX Tryz.func132 (aS (bU 1 (by kernel_rfl) (bY (.mk (by kernel_rfl) amU)))) ⟨fM,fun x=>x.1.1⟩ (fun x=>by kernel_rfl)
def WY(m:M.aE->Int->Option Int):aI K:=cI 78 ⟨[.el U.cJ,iq0],[]⟩ (fun x=>m x.1.1 x.1.2.1)
def WZ:Cx K:=bw [(132,.plain)] [WW M.BL] []
theorem amW:aV WZ:=aZ au _ (af amV acW)
theorem amX:az (WY (M.BM)):=ba (cx:=WZ) true amW Tryz.func78 (aS (aN (by kernel_rfl))) ⟨fM,fun x=>x.1.1⟩ (fun x=>by kernel_rfl)
def W0:bG K:=bM D false 27 0 [0,1,5] [1,4] W4 (fun x=>M.vI x.1.1 ad x.1.2.1 x.1.2.2.1) pK
def W5(m:(List M.aE)->Int->Option Int):aI K:=cI 38 ⟨[.an U.cJ,iq0],[]⟩ (fun x=>m x.1.1 x.1.2.1)
def Gx:Cx K:=bw [(78,.plain)] [WY M.BM] [(5,W0)]
theorem W6:aV Gx:=aZ au _ (af amX acW)
theorem amY:bH Gx (bC (bL Tryz.f38) 0) W0:=bN (cx:=Gx) (sh:=W4) (run:=fun n x=>M.vI x.1.1 n x.1.2.1 x.1.2.2.1) (bK:=pM) au W6 bp (aN (by kernel_rfl)) (fun _=>rfl) (fun m x=>by kernel_rfl) (af ⟨df,fun _ _ _=>rfl⟩ (af ⟨bP,fun _ _ _=>rfl⟩ acW)) false ad
theorem amZ:az (W5 (M.BN)):=ba (cx:=Gx) true W6 Tryz.func38 (aS (bU 1 (by kernel_rfl) (bY (.mk (by kernel_rfl) amY)))) ⟨fM,fun x=>x.1.1⟩ (fun x=>by kernel_rfl)
def W7(m:M.aG->Int->Option Int):aI K:=cI 173 ⟨[.el U.dr,iq0],[]⟩ (fun x=>m x.1.1 x.1.2.1)
def W8:Cx K:=bw [(214,.plain)] [MF M.vF] []
theorem am0:aV W8:=aZ au _ (af WL acW)
theorem am1:az (W7 (M.BO)):=ba (cx:=W8) true am0 Tryz.func173 (aS (aN (by kernel_rfl))) ⟨fM,fun x=>x.1.1⟩ (fun x=>by kernel_rfl)
def W9:bG K:=bM D false 27 0 [0,1,5] [1,4] Xa (fun x=>M.vJ x.1.1 ad x.1.2.1 x.1.2.2.1) pK
def Xb(m:(List M.aG)->Int->Option Int):aI K:=cI 133 ⟨[.an U.dr,iq0],[]⟩ (fun x=>m x.1.1 x.1.2.1)
def Gy:Cx K:=bw [(173,.plain)] [W7 M.BO] [(5,W9)]
theorem Xc:aV Gy:=aZ au _ (af am1 acW)
theorem am2:bH Gy (bC (bL Tryz.f133) 0) W9:=bN (cx:=Gy) (sh:=Xa) (run:=fun n x=>M.vJ x.1.1 n x.1.2.1 x.1.2.2.1) (bK:=pM) au Xc bp (aN (by kernel_rfl)) (fun _=>rfl) (fun m x=>by kernel_rfl) (af ⟨df,fun _ _ _=>rfl⟩ (af ⟨bP,fun _ _ _=>rfl⟩ acW)) false ad
theorem am3:az (Xb (M.BP)):=ba (cx:=Gy) true Xc Tryz.func133 (aS (bU 1 (by kernel_rfl) (bY (.mk (by kernel_rfl) am2)))) ⟨fM,fun x=>x.1.1⟩ (fun x=>by kernel_rfl)
def Xd(m:M.aJ->Int->Option Int):aI K:=cI 79 ⟨[.el U.cY,iq0],[]⟩ (fun x=>m x.1.1 x.1.2.1)
def Xe:Cx K:=bw [(133,.plain)] [Xb M.BP] []
theorem am4:aV Xe:=aZ au _ (af am3 acW)
theorem am5:az (Xd (M.BQ)):=ba (cx:=Xe) true am4 Tryz.func79 (aS (aN (by kernel_rfl))) ⟨fM,fun x=>x.1.1⟩ (fun x=>by kernel_rfl)
def Xf:bG K:=bM D false 27 0 [0,1,5] [1,4] Xg (fun x=>M.vK x.1.1 ad x.1.2.1 x.1.2.2.1) pK
def Xh(m:(List M.aJ)->Int->Option Int):aI K:=cI 39 ⟨[.an U.cY,iq0],[]⟩ (fun x=>m x.1.1 x.1.2.1)
def Gz:Cx K:=bw [(79,.plain)] [Xd M.BQ] [(5,Xf)]
theorem Xi:aV Gz:=aZ au _ (af am5 acW)
theorem am6:bH Gz (bC (bL Tryz.f39) 0) Xf:=bN (cx:=Gz) (sh:=Xg) (run:=fun n x=>M.vK x.1.1 n x.1.2.1 x.1.2.2.1) (bK:=pM) au Xi bp (aN (by kernel_rfl)) (fun _=>rfl) (fun m x=>by kernel_rfl) (af ⟨df,fun _ _ _=>rfl⟩ (af ⟨bP,fun _ _ _=>rfl⟩ acW)) false ad
theorem am7:az (Xh (M.BR)):=ba (cx:=Gz) true Xi Tryz.func39 (aS (bU 1 (by kernel_rfl) (bY (.mk (by kernel_rfl) am6)))) ⟨fM,fun x=>x.1.1⟩ (fun x=>by kernel_rfl)
def Xj(m:M.aA->Int->Option Int):aI K:=cI 17 ⟨[.el U.bo,iq0],[]⟩ (fun x=>m x.1.1 x.1.2.1)
def Xk:Cx K:=bw [(38,.plain),(39,.plain)] [W5 M.BN,Xh M.BR] []
theorem am8:aV Xk:=aZ au _ (af amZ (af am7 acW))
theorem am9:az (Xj (M.BS)):=ba (cx:=Xk) true am8 Tryz.func17 (aS (aN (by kernel_rfl))) ⟨fM,fun x=>x.1.1⟩ (fun x=>by kernel_rfl)
def od(m:M.aa->Option (Int×(List UInt8)×(List (List UInt8))×(List M.aa))):aI K:={f:=216,sh:=⟨[.el U.Term],[]⟩,R:=Int×(List UInt8)×(List (List UInt8))×(List M.aa),run:=fun x=>m x.1.1,dflt:=default,out:=fun r=>(Sh.enc D (.agg [iq0,.str,.own 0,.own 1]) (r.1,(r.2.1,((),((),())))),aY.encs D [.arr U.str,.tree U.Term] (r.2.2.1,(r.2.2.2,())))}
def ana(y:(List M.aa)){R:Type}(k:KT R):R:=match y with|a0=>kk k (Ex.exit 0) ⟨[.own 1],[.dead,.tree U.Term]⟩ (((),()),((),(a0,())))
def anb:List (cH K ((List M.aa))):=[⟨(Ex.exit 0),⟨[.own 1],[.dead,.tree U.Term]⟩,fun x=>x.2.2.1⟩]
def Xl(ek:M.aa->Option (Int×(List UInt8)×(List (List UInt8))×(List M.aa))):bG K:=bM D false 23 1 [0,3,4] [3] Xm (fun x=>M.tu ek x.1.1 ad x.1.2.2.1 x.2.2.1) ana
def Xn(m:(List M.aa)->Option ((List M.aa))):aI K:={f:=253,sh:=⟨[.an U.Term],[]⟩,R:=(List M.aa),run:=fun x=>m x.1.1,dflt:=default,out:=fun r=>(Sh.enc D (.own 0) (),aY.encs D [.tree U.Term] (r,()))}
def GF(ek:M.aa->Option (Int×(List UInt8)×(List (List UInt8))×(List M.aa))):Cx K:={eZ with mode:=eC .plain [(216,.fresh)],iG:=[[some U.Term]],deep:=fun c=>eN (D.cells c (K.zero c)),call:=callOf D [od ek],loop:=dZ [(3,Xl ek)]}
theorem Xo(ek:M.aa->Option (Int×(List UInt8)×(List (List UInt8))×(List M.aa)))(pN:az (od ek)):aV (GF ek):=aZ au _ (af pN acW)
theorem anc(ek:M.aa->Option (Int×(List UInt8)×(List (List UInt8))×(List M.aa)))(pN:az (od ek)):bH (GF ek) (bC (bL Tryz.f253) 0) (Xl ek):=bN (cx:=GF ek) (sh:=Xm) (run:=fun n x=>M.tu ek x.1.1 n x.1.2.2.1 x.2.2.1) (bK:=anb) au (Xo ek pN) bp (aN (by kernel_rfl)) (fun _=>rfl) (fun m x=>by kernel_rfl) (af ⟨bP,fun _ _ _=>rfl⟩ acW) false ad
theorem ane(ek:M.aa->Option (Int×(List UInt8)×(List (List UInt8))×(List M.aa)))(pN:az (od ek)):az (Xn (M.BU ek)):=f9 (cx:=GF ek) (fz:=false) au (Xo ek pN) bp ⟨Tryz.func253,by kernel_rfl⟩ (aS (bU 1 (by kernel_rfl) (bY (.mk (by kernel_rfl) (anc ek pN))))) ⟨⟨[.own 0],[.tree U.Term]⟩,fun x=>x.2.1⟩ (fun x=>rfl) (fun x=>by kernel_rfl)
def Xp(ek:M.aa->Option (Int×(List UInt8)×(List (List UInt8))×(List M.aa))):Cx K:={eZ with mode:=eC .plain [(252,.fresh),(253,.fresh)],iG:=[[none,none,some U.str,some U.Term]],deep:=fun c=>eN (D.cells c (K.zero c)),call:=callOf D [Xq M.BV,Xn (M.BU ek)],loop:=dZ []}
theorem anf(ek:M.aa->Option (Int×(List UInt8)×(List (List UInt8))×(List M.aa)))(pN:az (od ek)):aV (Xp ek):=aZ au _ (af ang (af (ane ek pN) acW))
theorem anh(ek:M.aa->Option (Int×(List UInt8)×(List (List UInt8))×(List M.aa)))(pN:az (od ek)):az (od (M.GG ek)):=f9 (cx:=Xp ek) (fz:=false) au (anf ek pN) bp ⟨Tryz.func216,by kernel_rfl⟩ (aS (aN (by kernel_rfl))) ⟨⟨[.agg [iq0,.str,.own 0,.own 1]],[.arr U.str,.tree U.Term]⟩,fun x=>(x.1.1.1,x.1.1.2.1,x.2.1,x.2.2.1)⟩ (fun x=>rfl) (fun x=>by kernel_rfl)
theorem Xr:∀n,az (od (M.vL n))|0=>nE fun _=>rfl|n+1=>anh (M.vL n) (Xr n)
theorem Xs:az (od (M.yI)):=Xr ad
def Xt(m:M.ax->Option ((List UInt8)×Int×(List UInt8)×(List (List UInt8))×(List M.aa))):aI K:={f:=254,sh:=⟨[.el U.cZ],[]⟩,R:=(List UInt8)×Int×(List UInt8)×(List (List UInt8))×(List M.aa),run:=fun x=>m x.1.1,dflt:=default,out:=fun r=>(Sh.enc D (.agg [.str,iq0,.str,.own 0,.own 1]) (r.1,(r.2.1,(r.2.2.1,((),((),()))))),aY.encs D [.arr U.str,.tree U.Term] (r.2.2.2.1,(r.2.2.2.2,())))}
def Xu:Cx K:={eZ with mode:=eC .plain [(216,.fresh)],iG:=[[none,none,none,some U.str,some U.Term]],deep:=fun c=>eN (D.cells c (K.zero c)),call:=callOf D [od M.yI],loop:=dZ []}
theorem ani:aV Xu:=aZ au _ (af Xs acW)
theorem anj:az (Xt (M.BW)):=ba (cx:=Xu) false ani Tryz.func254 (aS (aN (by kernel_rfl))) ⟨⟨[.agg [.str,iq0,.str,.own 0,.own 1]],[.arr U.str,.tree U.Term]⟩,fun x=>(x.1.1.1,x.1.1.2.1,x.1.1.2.2.1,x.2.1,x.2.2.1)⟩ (fun x=>by kernel_rfl)
def ank(y:(List M.ax)){R:Type}(k:KT R):R:=match y with|a0=>kk k (Ex.exit 0) ⟨[.own 1],[.dead,.tree U.cZ]⟩ (((),()),((),(a0,())))
def anl:List (cH K ((List M.ax))):=[⟨(Ex.exit 0),⟨[.own 1],[.dead,.tree U.cZ]⟩,fun x=>x.2.2.1⟩]
def Xv:bG K:=bM D false 23 1 [0,3,4] [3] Xw (fun x=>M.tw x.1.1 ad x.1.2.2.1 x.2.2.1) ank
def Xx(m:(List M.ax)->Option ((List M.ax))):aI K:={f:=217,sh:=⟨[.an U.cZ],[]⟩,R:=(List M.ax),run:=fun x=>m x.1.1,dflt:=default,out:=fun r=>(Sh.enc D (.own 0) (),aY.encs D [.tree U.cZ] (r,()))}
def GH:Cx K:={eZ with mode:=eC .plain [(254,.fresh)],iG:=[[some U.cZ]],deep:=fun c=>eN (D.cells c (K.zero c)),call:=callOf D [Xt M.BW],loop:=dZ [(3,Xv)]}
theorem Xy:aV GH:=aZ au _ (af anj acW)
theorem anm:bH GH (bC (bL Tryz.f217) 0) Xv:=bN (cx:=GH) (sh:=Xw) (run:=fun n x=>M.tw x.1.1 n x.1.2.2.1 x.2.2.1) (bK:=anl) au Xy bp (aN (by kernel_rfl)) (fun _=>rfl) (fun m x=>by kernel_rfl) (af ⟨bP,fun _ _ _=>rfl⟩ acW) false ad
theorem ann:az (Xx (M.BX)):=ba (cx:=GH) false Xy Tryz.func217 (aS (bU 1 (by kernel_rfl) (bY (.mk (by kernel_rfl) anm)))) ⟨⟨[.own 0],[.tree U.cZ]⟩,fun x=>x.2.1⟩ (fun x=>by kernel_rfl)
def MG(m:M.bf->Option (M.bf)):aI K:={f:=218,sh:=FV,R:=M.bf,run:=fun x=>m x.1.1,dflt:=default,out:=fun r=>(Sh.enc D (.el U.Path) r,aY.encs D [] ())}
def MH:Cx K:={eZ with mode:=eC .plain [],iG:=[[]],deep:=fun c=>eN (D.cells c (K.zero c)),call:=callOf D [],loop:=dZ []}
theorem Xz:aV MH:=aZ au _ acW
theorem XA:az (MG (M.BY)):=ba (cx:=MH) false Xz Tryz.func218 (aS (aN (by kernel_rfl))) ⟨FV,fun x=>x.1.1⟩ (fun x=>by kernel_rfl)
def XB(m:M.aK->Option (M.aK)):aI K:={f:=255,sh:=Fv,R:=M.aK,run:=fun x=>m x.1.1,dflt:=default,out:=fun r=>(Sh.enc D (.el U.dc) r,aY.encs D [] ())}
theorem ano:az (XB (M.GI)):=ba (cx:=MH) false Xz Tryz.func255 (aS (aN (by kernel_rfl))) ⟨Fv,fun x=>x.1.1⟩ (fun x=>by kernel_rfl)
def anp(y:(List M.aK)){R:Type}(k:KT R):R:=match y with|a0=>kk k (Ex.exit 0) ⟨[.own 1],[.dead,.arr U.dc]⟩ (((),()),((),(a0,())))
def anq:List (cH K ((List M.aK))):=[⟨(Ex.exit 0),⟨[.own 1],[.dead,.arr U.dc]⟩,fun x=>x.2.2.1⟩]
def XC:bG K:=bM D false 23 1 [0,3,4] [3] XD (fun x=>M.tz x.1.1 ad x.1.2.2.1 x.2.2.1) anp
def XE(m:(List M.aK)->Option ((List M.aK))):aI K:={f:=219,sh:=⟨[.an U.dc],[]⟩,R:=(List M.aK),run:=fun x=>m x.1.1,dflt:=default,out:=fun r=>(Sh.enc D (.own 0) (),aY.encs D [.arr U.dc] (r,()))}
def GK:Cx K:={eZ with mode:=eC .plain [(255,.fresh)],iG:=[[some U.dc]],deep:=fun c=>eN (D.cells c (K.zero c)),call:=callOf D [XB M.GI],loop:=dZ [(3,XC)]}
theorem XF:aV GK:=aZ au _ (af ano acW)
theorem anr:bH GK (bC (bL Tryz.f219) 0) XC:=bN (cx:=GK) (sh:=XD) (run:=fun n x=>M.tz x.1.1 n x.1.2.2.1 x.2.2.1) (bK:=anq) au XF bp (aN (by kernel_rfl)) (fun _=>rfl) (fun m x=>by kernel_rfl) (af ⟨bP,fun _ _ _=>rfl⟩ acW) false ad
theorem ant:az (XE (M.BZ)):=ba (cx:=GK) false XF Tryz.func219 (aS (bU 1 (by kernel_rfl) (bY (.mk (by kernel_rfl) anr)))) ⟨⟨[.own 0],[.arr U.dc]⟩,fun x=>x.2.1⟩ (fun x=>by kernel_rfl)
def XG(m:M.ah->Option (Int×(List UInt8)×Int×(List UInt8)×Bool×(List UInt8)×(List UInt8)×(List UInt8)×(List (List UInt8))×(List M.aa)×(List M.ax)×(List M.aK))):aI K:={f:=174,sh:=FW,R:=Int×(List UInt8)×Int×(List UInt8)×Bool×(List UInt8)×(List UInt8)×(List UInt8)×(List (List UInt8))×(List M.aa)×(List M.ax)×(List M.aK),run:=fun x=>m x.1.1,dflt:=default,out:=fun r=>(Sh.enc D (.agg [iq0,.str,iq0,.str,.own 0,.own 1,.own 2,.bool,.str,.str,.str,.own 3]) (r.1,(r.2.1,(r.2.2.1,(r.2.2.2.1,((),((),((),(r.2.2.2.2.1,(r.2.2.2.2.2.1,(r.2.2.2.2.2.2.1,(r.2.2.2.2.2.2.2.1,((),())))))))))))),aY.encs D [.arr U.str,.tree U.Term,.tree U.cZ,.arr U.dc] (r.2.2.2.2.2.2.2.2.1,(r.2.2.2.2.2.2.2.2.2.1,(r.2.2.2.2.2.2.2.2.2.2.1,(r.2.2.2.2.2.2.2.2.2.2.2,())))))}
def XH:Cx K:={eZ with mode:=eC .plain [(216,.fresh),(217,.fresh),(218,.fresh),(219,.fresh)],iG:=[[none,none,none,none,some U.str,some U.Term,some U.cZ,none,none,none,none,some U.dc]],deep:=fun c=>eN (D.cells c (K.zero c)),call:=callOf D [od M.yI,Xx M.BX,MG M.BY,XE M.BZ],loop:=dZ []}
theorem anu:aV XH:=aZ au _ (af Xs (af ann (af XA (af ant acW))))
theorem anv:az (XG (M.B0)):=ba (cx:=XH) false anu Tryz.func174 (aS (aN (by kernel_rfl))) ⟨⟨[.agg [iq0,.str,iq0,.str,.own 0,.own 1,.own 2,.bool,.str,.str,.str,.own 3]],[.arr U.str,.tree U.Term,.tree U.cZ,.arr U.dc]⟩,fun x=>(x.1.1.1,x.1.1.2.1,x.1.1.2.2.1,x.1.1.2.2.2.1,x.1.1.2.2.2.2.2.2.2.1,x.1.1.2.2.2.2.2.2.2.2.1,x.1.1.2.2.2.2.2.2.2.2.2.1,x.1.1.2.2.2.2.2.2.2.2.2.2.1,x.2.1,x.2.2.1,x.2.2.2.1,x.2.2.2.2.1)⟩ (fun x=>by kernel_rfl)
def anw(y:(List M.ah)){R:Type}(k:KT R):R:=match y with|a0=>kk k (Ex.exit 0) ⟨[.own 1],[.dead,.tree U.Item]⟩ (((),()),((),(a0,())))
def anx:List (cH K ((List M.ah))):=[⟨(Ex.exit 0),⟨[.own 1],[.dead,.tree U.Item]⟩,fun x=>x.2.2.1⟩]
def XI:bG K:=bM D false 23 1 [0,3,4] [3] XJ (fun x=>M.tA x.1.1 ad x.1.2.2.1 x.2.2.1) anw
def XK(m:(List M.ah)->Option ((List M.ah))):aI K:={f:=134,sh:=⟨[.an U.Item],[]⟩,R:=(List M.ah),run:=fun x=>m x.1.1,dflt:=default,out:=fun r=>(Sh.enc D (.own 0) (),aY.encs D [.tree U.Item] (r,()))}
def GL:Cx K:={eZ with mode:=eC .plain [(174,.fresh)],iG:=[[some U.Item]],deep:=fun c=>eN (D.cells c (K.zero c)),call:=callOf D [XG M.B0],loop:=dZ [(3,XI)]}
theorem XL:aV GL:=aZ au _ (af anv acW)
theorem anz:bH GL (bC (bL Tryz.f134) 0) XI:=bN (cx:=GL) (sh:=XJ) (run:=fun n x=>M.tA x.1.1 n x.1.2.2.1 x.2.2.1) (bK:=anx) au XL bp (aN (by kernel_rfl)) (fun _=>rfl) (fun m x=>by kernel_rfl) (af ⟨bP,fun _ _ _=>rfl⟩ acW) false ad
theorem anA:az (XK (M.B6)):=ba (cx:=GL) false XL Tryz.func134 (aS (bU 1 (by kernel_rfl) (bY (.mk (by kernel_rfl) anz)))) ⟨⟨[.own 0],[.tree U.Item]⟩,fun x=>x.2.1⟩ (fun x=>by kernel_rfl)
def XM(m:M.aE->Option ((List UInt8)×(List M.ah))):aI K:={f:=80,sh:=⟨[.el U.cJ],[]⟩,R:=(List UInt8)×(List M.ah),run:=fun x=>m x.1.1,dflt:=default,out:=fun r=>(Sh.enc D (.agg [.str,.own 0]) (r.1,((),())),aY.encs D [.tree U.Item] (r.2,()))}
def XN:Cx K:={eZ with mode:=eC .plain [(134,.fresh)],iG:=[[none,some U.Item]],deep:=fun c=>eN (D.cells c (K.zero c)),call:=callOf D [XK M.B6],loop:=dZ []}
theorem anB:aV XN:=aZ au _ (af anA acW)
theorem anC:az (XM (M.B7)):=ba (cx:=XN) false anB Tryz.func80 (aS (aN (by kernel_rfl))) ⟨⟨[.agg [.str,.own 0]],[.tree U.Item]⟩,fun x=>(x.1.1.1,x.2.1)⟩ (fun x=>by kernel_rfl)
def anD(y:(List M.aE)){R:Type}(k:KT R):R:=match y with|a0=>kk k (Ex.exit 0) ⟨[.own 1],[.dead,.tree U.cJ]⟩ (((),()),((),(a0,())))
def anE:List (cH K ((List M.aE))):=[⟨(Ex.exit 0),⟨[.own 1],[.dead,.tree U.cJ]⟩,fun x=>x.2.2.1⟩]
def XO:bG K:=bM D false 23 1 [0,3,4] [3] XP (fun x=>M.tB x.1.1 ad x.1.2.2.1 x.2.2.1) anD
def XQ(m:(List M.aE)->Option ((List M.aE))):aI K:={f:=40,sh:=⟨[.an U.cJ],[]⟩,R:=(List M.aE),run:=fun x=>m x.1.1,dflt:=default,out:=fun r=>(Sh.enc D (.own 0) (),aY.encs D [.tree U.cJ] (r,()))}
def GM:Cx K:={eZ with mode:=eC .plain [(80,.fresh)],iG:=[[some U.cJ]],deep:=fun c=>eN (D.cells c (K.zero c)),call:=callOf D [XM M.B7],loop:=dZ [(3,XO)]}
theorem XR:aV GM:=aZ au _ (af anC acW)
theorem anF:bH GM (bC (bL Tryz.f40) 0) XO:=bN (cx:=GM) (sh:=XP) (run:=fun n x=>M.tB x.1.1 n x.1.2.2.1 x.2.2.1) (bK:=anE) au XR bp (aN (by kernel_rfl)) (fun _=>rfl) (fun m x=>by kernel_rfl) (af ⟨bP,fun _ _ _=>rfl⟩ acW) false ad
theorem anG:az (XQ (M.B8)):=ba (cx:=GM) false XR Tryz.func40 (aS (bU 1 (by kernel_rfl) (bY (.mk (by kernel_rfl) anF)))) ⟨⟨[.own 0],[.tree U.cJ]⟩,fun x=>x.2.1⟩ (fun x=>by kernel_rfl)
def XS(m:M.aG->Option (M.aG)):aI K:={f:=175,sh:=⟨[.el U.dr],[]⟩,R:=M.aG,run:=fun x=>m x.1.1,dflt:=default,out:=fun r=>(Sh.enc D (.el U.dr) r,aY.encs D [] ())}
def XT:Cx K:={eZ with mode:=eC .plain [(218,.fresh)],iG:=[[]],deep:=fun c=>eN (D.cells c (K.zero c)),call:=callOf D [MG M.BY],loop:=dZ []}
theorem anH:aV XT:=aZ au _ (af XA acW)
theorem anI:az (XS (M.GN)):=ba (cx:=XT) false anH Tryz.func175 (aS (aN (by kernel_rfl))) ⟨⟨[.el U.dr],[]⟩,fun x=>x.1.1⟩ (fun x=>by kernel_rfl)
def anJ(y:(List M.aG)){R:Type}(k:KT R):R:=match y with|a0=>kk k (Ex.exit 0) ⟨[.own 1],[.dead,.arr U.dr]⟩ (((),()),((),(a0,())))
def anK:List (cH K ((List M.aG))):=[⟨(Ex.exit 0),⟨[.own 1],[.dead,.arr U.dr]⟩,fun x=>x.2.2.1⟩]
def XU:bG K:=bM D false 23 1 [0,3,4] [3] XV (fun x=>M.tD x.1.1 ad x.1.2.2.1 x.2.2.1) anJ
def XW(m:(List M.aG)->Option ((List M.aG))):aI K:={f:=135,sh:=⟨[.an U.dr],[]⟩,R:=(List M.aG),run:=fun x=>m x.1.1,dflt:=default,out:=fun r=>(Sh.enc D (.own 0) (),aY.encs D [.arr U.dr] (r,()))}
def GO:Cx K:={eZ with mode:=eC .plain [(175,.fresh)],iG:=[[some U.dr]],deep:=fun c=>eN (D.cells c (K.zero c)),call:=callOf D [XS M.GN],loop:=dZ [(3,XU)]}
theorem XX:aV GO:=aZ au _ (af anI acW)
theorem anL:bH GO (bC (bL Tryz.f135) 0) XU:=bN (cx:=GO) (sh:=XV) (run:=fun n x=>M.tD x.1.1 n x.1.2.2.1 x.2.2.1) (bK:=anK) au XX bp (aN (by kernel_rfl)) (fun _=>rfl) (fun m x=>by kernel_rfl) (af ⟨bP,fun _ _ _=>rfl⟩ acW) false ad
theorem anM:az (XW (M.B9)):=ba (cx:=GO) false XX Tryz.func135 (aS (bU 1 (by kernel_rfl) (bY (.mk (by kernel_rfl) anL)))) ⟨⟨[.own 0],[.arr U.dr]⟩,fun x=>x.2.1⟩ (fun x=>by kernel_rfl)
def XY(m:M.aJ->Option ((List UInt8)×(List M.aG))):aI K:={f:=81,sh:=⟨[.el U.cY],[]⟩,R:=(List UInt8)×(List M.aG),run:=fun x=>m x.1.1,dflt:=default,out:=fun r=>(Sh.enc D (.agg [.str,.own 0]) (r.1,((),())),aY.encs D [.arr U.dr] (r.2,()))}
def XZ:Cx K:={eZ with mode:=eC .plain [(135,.fresh)],iG:=[[none,some U.dr]],deep:=fun c=>eN (D.cells c (K.zero c)),call:=callOf D [XW M.B9],loop:=dZ []}
theorem anN:aV XZ:=aZ au _ (af anM acW)
theorem anO:az (XY (M.Cb)):=ba (cx:=XZ) false anN Tryz.func81 (aS (aN (by kernel_rfl))) ⟨⟨[.agg [.str,.own 0]],[.arr U.dr]⟩,fun x=>(x.1.1.1,x.2.1)⟩ (fun x=>by kernel_rfl)
def anP(y:(List M.aJ)){R:Type}(k:KT R):R:=match y with|a0=>kk k (Ex.exit 0) ⟨[.own 1],[.dead,.tree U.cY]⟩ (((),()),((),(a0,())))
def anQ:List (cH K ((List M.aJ))):=[⟨(Ex.exit 0),⟨[.own 1],[.dead,.tree U.cY]⟩,fun x=>x.2.2.1⟩]
def X0:bG K:=bM D false 23 1 [0,3,4] [3] X1 (fun x=>M.tG x.1.1 ad x.1.2.2.1 x.2.2.1) anP
def X2(m:(List M.aJ)->Option ((List M.aJ))):aI K:={f:=41,sh:=⟨[.an U.cY],[]⟩,R:=(List M.aJ),run:=fun x=>m x.1.1,dflt:=default,out:=fun r=>(Sh.enc D (.own 0) (),aY.encs D [.tree U.cY] (r,()))}
def GQ:Cx K:={eZ with mode:=eC .plain [(81,.fresh)],iG:=[[some U.cY]],deep:=fun c=>eN (D.cells c (K.zero c)),call:=callOf D [XY M.Cb],loop:=dZ [(3,X0)]}
theorem X3:aV GQ:=aZ au _ (af anO acW)
theorem anR:bH GQ (bC (bL Tryz.f41) 0) X0:=bN (cx:=GQ) (sh:=X1) (run:=fun n x=>M.tG x.1.1 n x.1.2.2.1 x.2.2.1) (bK:=anQ) au X3 bp (aN (by kernel_rfl)) (fun _=>rfl) (fun m x=>by kernel_rfl) (af ⟨bP,fun _ _ _=>rfl⟩ acW) false ad
theorem anS:az (X2 (M.Cc)):=ba (cx:=GQ) false X3 Tryz.func41 (aS (bU 1 (by kernel_rfl) (bY (.mk (by kernel_rfl) anR)))) ⟨⟨[.own 0],[.tree U.cY]⟩,fun x=>x.2.1⟩ (fun x=>by kernel_rfl)
def X4(m:M.aA->Option ((List UInt8)×(List UInt8)×(List M.aE)×(List M.aJ))):aI K:={f:=19,sh:=nZ,R:=(List UInt8)×(List UInt8)×(List M.aE)×(List M.aJ),run:=fun x=>m x.1.1,dflt:=default,out:=fun r=>(Sh.enc D (.agg [.str,.str,.own 0,.own 1]) (r.1,(r.2.1,((),((),())))),aY.encs D [.tree U.cJ,.tree U.cY] (r.2.2.1,(r.2.2.2,())))}
def X5:Cx K:={eZ with mode:=eC .plain [(40,.fresh),(41,.fresh)],iG:=[[none,none,some U.cJ,some U.cY]],deep:=fun c=>eN (D.cells c (K.zero c)),call:=callOf D [XQ M.B8,X2 M.Cc],loop:=dZ []}
theorem anT:aV X5:=aZ au _ (af anG (af anS acW))
theorem anU:az (X4 (M.Cd)):=ba (cx:=X5) false anT Tryz.func19 (aS (aN (by kernel_rfl))) ⟨⟨[.agg [.str,.str,.own 0,.own 1]],[.tree U.cJ,.tree U.cY]⟩,fun x=>(x.1.1.1,x.1.1.2.1,x.2.1,x.2.2.1)⟩ (fun x=>by kernel_rfl)
def oe(m:M.aa->M.aa->Option Bool):aI K:=cB 204 L1 (fun x=>m x.1.1 x.1.2.1)
def X6(ed:M.aa->M.aa->Option Bool):bG K:=bM D false 27 0 [0,1,5] [4] X7 (fun x=>M.vM ed x.1.1 x.1.2.1 ad x.1.2.2.1) jj
def X8(m:(List M.aa)->(List M.aa)->Option Bool):aI K:=cB 244 ⟨[.an U.Term,.an U.Term],[]⟩ (fun x=>m x.1.1 x.1.2.1)
def GR(ed:M.aa->M.aa->Option Bool):Cx K:=bw [(204,.plain)] [oe ed] [(4,X6 ed)]
theorem X9(ed:M.aa->M.aa->Option Bool)(pO:az (oe ed)):aV (GR ed):=aZ au _ (af pO acW)
theorem anV(ed:M.aa->M.aa->Option Bool)(pO:az (oe ed)):bH (GR ed) (bC (bL Tryz.f244) 0) (X6 ed):=bN (cx:=GR ed) (sh:=X7) (run:=fun n x=>M.vM ed x.1.1 x.1.2.1 n x.1.2.2.1) (bK:=jk) au (X9 ed pO) bp (aN (by kernel_rfl)) (fun _=>rfl) (fun m x=>by kernel_rfl) (af ⟨df,fun _ _ _=>rfl⟩ (af ⟨bP,fun _ _ _=>rfl⟩ acW)) false ad
theorem anW(ed:M.aa->M.aa->Option Bool)(pO:az (oe ed)):az (X8 (M.Ce ed)):=f9 (cx:=GR ed) (fz:=true) au (X9 ed pO) bp ⟨Tryz.func244,by kernel_rfl⟩ (aS (bU 1 (by kernel_rfl) (bY (.mk (by kernel_rfl) (anV ed pO))))) ⟨zs0,fun x=>x.1.1⟩ (fun x=>rfl) (fun x=>by kernel_rfl)
def Ya(ed:M.aa->M.aa->Option Bool):Cx K:=bw [(243,.plain),(244,.plain)] [Yb M.Cf,X8 (M.Ce ed)] []
theorem anX(ed:M.aa->M.aa->Option Bool)(pO:az (oe ed)):aV (Ya ed):=aZ au _ (af anY (af (anW ed pO) acW))
theorem anZ(ed:M.aa->M.aa->Option Bool)(pO:az (oe ed)):az (oe (M.GU ed)):=f9 (cx:=Ya ed) (fz:=true) au (anX ed pO) bp ⟨Tryz.func204,by kernel_rfl⟩ (aS (aN (by kernel_rfl))) ⟨zs0,fun x=>x.1.1⟩ (fun x=>rfl) (fun x=>by kernel_rfl)
theorem Yc:∀n,az (oe (M.vN n))|0=>nE fun _=>rfl|n+1=>anZ (M.vN n) (Yc n)
theorem Yd:az (oe (M.yJ)):=Yc ad
def Ye(m:M.ax->M.ax->Option Bool):aI K:=cB 245 Vh (fun x=>m x.1.1 x.1.2.1)
def Yf:Cx K:=bw [(204,.plain)] [oe M.yJ] []
theorem an0:aV Yf:=aZ au _ (af Yd acW)
theorem an1:az (Ye (M.Ci)):=ba (cx:=Yf) true an0 Tryz.func245 (aS (aN (by kernel_rfl))) ⟨zs0,fun x=>x.1.1⟩ (fun x=>by kernel_rfl)
def Yg:bG K:=bM D false 27 0 [0,1,5] [4] Yh (fun x=>M.vO x.1.1 x.1.2.1 ad x.1.2.2.1) jj
def Yi(m:(List M.ax)->(List M.ax)->Option Bool):aI K:=cB 205 ⟨[.an U.cZ,.an U.cZ],[]⟩ (fun x=>m x.1.1 x.1.2.1)
def GV:Cx K:=bw [(245,.plain)] [Ye M.Ci] [(4,Yg)]
theorem Yj:aV GV:=aZ au _ (af an1 acW)
theorem an2:bH GV (bC (bL Tryz.f205) 0) Yg:=bN (cx:=GV) (sh:=Yh) (run:=fun n x=>M.vO x.1.1 x.1.2.1 n x.1.2.2.1) (bK:=jk) au Yj bp (aN (by kernel_rfl)) (fun _=>rfl) (fun m x=>by kernel_rfl) (af ⟨df,fun _ _ _=>rfl⟩ (af ⟨bP,fun _ _ _=>rfl⟩ acW)) false ad
theorem an3:az (Yi (M.Cj)):=ba (cx:=GV) true Yj Tryz.func205 (aS (bU 1 (by kernel_rfl) (bY (.mk (by kernel_rfl) an2)))) ⟨zs0,fun x=>x.1.1⟩ (fun x=>by kernel_rfl)
def MI(m:M.bf->M.bf->Option Bool):aI K:=cB 206 ⟨[.el U.Path,.el U.Path],[]⟩ (fun x=>m x.1.1 x.1.2.1)
theorem Yk:az (MI (M.vP)):=ba (cx:=gY) true ij Tryz.func206 (aS (aN (by kernel_rfl))) ⟨zs0,fun x=>x.1.1⟩ (fun x=>by kernel_rfl)
def Yl(m:M.aK->M.aK->Option Bool):aI K:=cB 246 ⟨[.el U.dc,.el U.dc],[]⟩ (fun x=>m x.1.1 x.1.2.1)
theorem an4:az (Yl (M.Cm)):=ba (cx:=gY) true ij Tryz.func246 (aS (aN (by kernel_rfl))) ⟨zs0,fun x=>x.1.1⟩ (fun x=>by kernel_rfl)
def Ym:bG K:=bM D false 27 0 [0,1,5] [4] Yn (fun x=>M.vQ x.1.1 x.1.2.1 ad x.1.2.2.1) jj
def Yo(m:(List M.aK)->(List M.aK)->Option Bool):aI K:=cB 207 ⟨[.an U.dc,.an U.dc],[]⟩ (fun x=>m x.1.1 x.1.2.1)
def GX:Cx K:=bw [(246,.plain)] [Yl M.Cm] [(4,Ym)]
theorem Yp:aV GX:=aZ au _ (af an4 acW)
theorem an5:bH GX (bC (bL Tryz.f207) 0) Ym:=bN (cx:=GX) (sh:=Yn) (run:=fun n x=>M.vQ x.1.1 x.1.2.1 n x.1.2.2.1) (bK:=jk) au Yp bp (aN (by kernel_rfl)) (fun _=>rfl) (fun m x=>by kernel_rfl) (af ⟨df,fun _ _ _=>rfl⟩ (af ⟨bP,fun _ _ _=>rfl⟩ acW)) false ad
theorem an6:az (Yo (M.CB)):=ba (cx:=GX) true Yp Tryz.func207 (aS (bU 1 (by kernel_rfl) (bY (.mk (by kernel_rfl) an5)))) ⟨zs0,fun x=>x.1.1⟩ (fun x=>by kernel_rfl)
def Yq(m:M.ah->M.ah->Option Bool):aI K:=cB 163 MA (fun x=>m x.1.1 x.1.2.1)
def Yr:Cx K:=bw [(204,.plain),(205,.plain),(206,.plain),(207,.plain)] [oe M.yJ,Yi M.Cj,MI M.vP,Yo M.CB] []
theorem an7:aV Yr:=aZ au _ (af Yd (af an3 (af Yk (af an6 acW))))
theorem an8:az (Yq (M.CC)):=ba (cx:=Yr) true an7 Tryz.func163 (aS (aN (by kernel_rfl))) ⟨zs0,fun x=>x.1.1⟩ (fun x=>by kernel_rfl)
def Ys:bG K:=bM D false 27 0 [0,1,5] [4] Yt (fun x=>M.vR x.1.1 x.1.2.1 ad x.1.2.2.1) jj
def Yu(m:(List M.ah)->(List M.ah)->Option Bool):aI K:=cB 107 ⟨[.an U.Item,.an U.Item],[]⟩ (fun x=>m x.1.1 x.1.2.1)
def GY:Cx K:=bw [(163,.plain)] [Yq M.CC] [(4,Ys)]
theorem Yv:aV GY:=aZ au _ (af an8 acW)
theorem an9:bH GY (bC (bL Tryz.f107) 0) Ys:=bN (cx:=GY) (sh:=Yt) (run:=fun n x=>M.vR x.1.1 x.1.2.1 n x.1.2.2.1) (bK:=jk) au Yv bp (aN (by kernel_rfl)) (fun _=>rfl) (fun m x=>by kernel_rfl) (af ⟨df,fun _ _ _=>rfl⟩ (af ⟨bP,fun _ _ _=>rfl⟩ acW)) false ad
theorem aoa:az (Yu (M.CE)):=ba (cx:=GY) true Yv Tryz.func107 (aS (bU 1 (by kernel_rfl) (bY (.mk (by kernel_rfl) an9)))) ⟨zs0,fun x=>x.1.1⟩ (fun x=>by kernel_rfl)
def Yw(m:M.aE->M.aE->Option Bool):aI K:=cB 57 ⟨[.el U.cJ,.el U.cJ],[]⟩ (fun x=>m x.1.1 x.1.2.1)
def Yx:Cx K:=bw [(107,.plain)] [Yu M.CE] []
theorem aob:aV Yx:=aZ au _ (af aoa acW)
theorem aoc:az (Yw (M.CG)):=ba (cx:=Yx) true aob Tryz.func57 (aS (aN (by kernel_rfl))) ⟨zs0,fun x=>x.1.1⟩ (fun x=>by kernel_rfl)
def Yy:bG K:=bM D false 27 0 [0,1,5] [4] Yz (fun x=>M.vS x.1.1 x.1.2.1 ad x.1.2.2.1) jj
def YA(m:(List M.aE)->(List M.aE)->Option Bool):aI K:=cB 27 ⟨[.an U.cJ,.an U.cJ],[]⟩ (fun x=>m x.1.1 x.1.2.1)
def GZ:Cx K:=bw [(57,.plain)] [Yw M.CG] [(4,Yy)]
theorem YB:aV GZ:=aZ au _ (af aoc acW)
theorem aod:bH GZ (bC (bL Tryz.f27) 0) Yy:=bN (cx:=GZ) (sh:=Yz) (run:=fun n x=>M.vS x.1.1 x.1.2.1 n x.1.2.2.1) (bK:=jk) au YB bp (aN (by kernel_rfl)) (fun _=>rfl) (fun m x=>by kernel_rfl) (af ⟨df,fun _ _ _=>rfl⟩ (af ⟨bP,fun _ _ _=>rfl⟩ acW)) false ad
theorem aoe:az (YA (M.CH)):=ba (cx:=GZ) true YB Tryz.func27 (aS (bU 1 (by kernel_rfl) (bY (.mk (by kernel_rfl) aod)))) ⟨zs0,fun x=>x.1.1⟩ (fun x=>by kernel_rfl)
def YC(m:M.aG->M.aG->Option Bool):aI K:=cB 164 ⟨[.el U.dr,.el U.dr],[]⟩ (fun x=>m x.1.1 x.1.2.1)
def YD:Cx K:=bw [(206,.plain)] [MI M.vP] []
theorem aof:aV YD:=aZ au _ (af Yk acW)
theorem aog:az (YC (M.CJ)):=ba (cx:=YD) true aof Tryz.func164 (aS (aN (by kernel_rfl))) ⟨zs0,fun x=>x.1.1⟩ (fun x=>by kernel_rfl)
def YE:bG K:=bM D false 27 0 [0,1,5] [4] YF (fun x=>M.vT x.1.1 x.1.2.1 ad x.1.2.2.1) jj
def YG(m:(List M.aG)->(List M.aG)->Option Bool):aI K:=cB 108 VC (fun x=>m x.1.1 x.1.2.1)
def G0:Cx K:=bw [(164,.plain)] [YC M.CJ] [(4,YE)]
theorem YH:aV G0:=aZ au _ (af aog acW)
theorem aoh:bH G0 (bC (bL Tryz.f108) 0) YE:=bN (cx:=G0) (sh:=YF) (run:=fun n x=>M.vT x.1.1 x.1.2.1 n x.1.2.2.1) (bK:=jk) au YH bp (aN (by kernel_rfl)) (fun _=>rfl) (fun m x=>by kernel_rfl) (af ⟨df,fun _ _ _=>rfl⟩ (af ⟨bP,fun _ _ _=>rfl⟩ acW)) false ad
theorem aoi:az (YG (M.CL)):=ba (cx:=G0) true YH Tryz.func108 (aS (bU 1 (by kernel_rfl) (bY (.mk (by kernel_rfl) aoh)))) ⟨zs0,fun x=>x.1.1⟩ (fun x=>by kernel_rfl)
def YI(m:M.aJ->M.aJ->Option Bool):aI K:=cB 58 VF (fun x=>m x.1.1 x.1.2.1)
def YJ:Cx K:=bw [(108,.plain)] [YG M.CL] []
theorem aoj:aV YJ:=aZ au _ (af aoi acW)
theorem aok:az (YI (M.CM)):=ba (cx:=YJ) true aoj Tryz.func58 (aS (aN (by kernel_rfl))) ⟨zs0,fun x=>x.1.1⟩ (fun x=>by kernel_rfl)
def YK:bG K:=bM D false 27 0 [0,1,5] [4] YL (fun x=>M.vU x.1.1 x.1.2.1 ad x.1.2.2.1) jj
def YM(m:(List M.aJ)->(List M.aJ)->Option Bool):aI K:=cB 28 ⟨[.an U.cY,.an U.cY],[]⟩ (fun x=>m x.1.1 x.1.2.1)
def G5:Cx K:=bw [(58,.plain)] [YI M.CM] [(4,YK)]
theorem YN:aV G5:=aZ au _ (af aok acW)
theorem aol:bH G5 (bC (bL Tryz.f28) 0) YK:=bN (cx:=G5) (sh:=YL) (run:=fun n x=>M.vU x.1.1 x.1.2.1 n x.1.2.2.1) (bK:=jk) au YN bp (aN (by kernel_rfl)) (fun _=>rfl) (fun m x=>by kernel_rfl) (af ⟨df,fun _ _ _=>rfl⟩ (af ⟨bP,fun _ _ _=>rfl⟩ acW)) false ad
theorem aom:az (YM (M.CN)):=ba (cx:=G5) true YN Tryz.func28 (aS (bU 1 (by kernel_rfl) (bY (.mk (by kernel_rfl) aol)))) ⟨zs0,fun x=>x.1.1⟩ (fun x=>by kernel_rfl)
def YO(m:M.aA->M.aA->Option Bool):aI K:=cB 10 MB (fun x=>m x.1.1 x.1.2.1)
def YP:Cx K:=bw [(27,.plain),(28,.plain)] [YA M.CH,YM M.CN] []
theorem aon:aV YP:=aZ au _ (af aoe (af aom acW))
theorem aoo:az (YO (M.CO)):=ba (cx:=YP) true aon Tryz.func10 (aS (aN (by kernel_rfl))) ⟨zs0,fun x=>x.1.1⟩ (fun x=>by kernel_rfl)
def ajh(m:M.aA->Option Bool):aI K:=cB 7 nZ (fun x=>m x.1.1)
def ajn:Cx K:={eZ with mode:=eC .plain [(17,.plain),(19,.fresh),(21,.plain),(14,.plain),(10,.plain)],deep:=fun c=>eN (D.cells c (K.zero c)),call:=callOf D [Xj M.BS,X4 M.Cd,ai4 M.f6,aeu M.aB,YO M.CO],loop:=dZ []}
theorem atF:aV ajn:=aZ au _ (af am9 (af anU (af atE (af atC (af aoo acW)))))
theorem atG:az (ajh (M.aee)):=ba (cx:=ajn) true atF Tryz.func7 (aS (aN (by kernel_rfl))) ⟨zs0,fun x=>x.1.1⟩ (fun x=>by kernel_rfl)
