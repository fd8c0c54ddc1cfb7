/-
  Part of the proof of the claim.
-/
import Derived.Test.YtdehjkmaaljlpaaGreatDoorXEFCa
import Derived.Test.YtdehjkmaaljlpaaGreatDoorXEFM
import Derived.Test.YtdehjkmaaljlpaaGreatDoorXEHdA
import Derived.Test.YtdehjkmaaljlpaaGreatDoorXEHd4
import Derived.Test.YtdehjkmaaljlpaaGreatDoorXEHdV
import Derived.Test.YtdehjkmaaljlpaaGreatDoorXEHdB
import Derived.Test.YtdehjkmaaljlpaaGreatDoorXEHdJ2
import Derived.Test.YtdehjkmaaljlpaaGreatDoorXEHdF
import Derived.Test.YtdehjkmaaljlpaaGreatDoorXWgD
import Derived.Test.YtdehjkmaaljlpaaGreatDoorProg
set_option linter.unusedVariables false
set_option maxRecDepth 100000
open Go Go.Proofs
open Go.V
noncomputable section
theorem TU:aJ Gu:=aL aB _ (ae ani ak)
theorem anj:bn Gu (bc (bm Tryz.f101) 0) TV:=lk (cx:=Gu) (sh:=TW) (run:=fun n x=>M.u0 x.1.1 x.1.2.1 n x.1.2.2.1) (bu:=iT) TU (fun m x=>by kernel_rfl) (ae ⟨cn,fun _ _ _=>rfl⟩ (ae ⟨bD,fun _ _ _=>rfl⟩ ak))
theorem ank:aj (TX (M.Bd)):=aH (cx:=Gu) true TU Tryz.func101 (hl1 anj) ⟨zs0,fun x=>x.1.1⟩ (fun x=>by kernel_rfl)
def TY(m:M.ar->M.ar->Option Bool):ax K:=cB 56 ⟨[.el U.aT,.el U.aT],[]⟩ (fun x=>m x.1.1 x.1.2.1)
def TZ:Cx K:=aQ [(100,.plain),(101,.plain)] [ML M.u4,TX M.Bd] []
theorem anl:aJ TZ:=aL aB _ (ae T0 (ae ank ak))
theorem anm:aj (TY (M.Be)):=aH (cx:=TZ) true anl Tryz.func56 hq ⟨zs0,fun x=>x.1.1⟩ (fun x=>by kernel_rfl)
def T8:bo K:=bB D false 27 0 [0,1,5] [4] T9 (fun x=>M.u6 x.1.1 x.1.2.1 af x.1.2.2.1) iU
def Ua(m:(List M.ar)->(List M.ar)->Option Bool):ax K:=cB 25 ⟨[.ah U.aT,.ah U.aT],[]⟩ (fun x=>m x.1.1 x.1.2.1)
def Gv:Cx K:=aQ [(56,.plain)] [TY M.Be] [(4,T8)]
theorem Ub:aJ Gv:=aL aB _ (ae anm ak)
theorem ann:bn Gv (bc (bm Tryz.f25) 0) T8:=lk (cx:=Gv) (sh:=T9) (run:=fun n x=>M.u6 x.1.1 x.1.2.1 n x.1.2.2.1) (bu:=iT) Ub (fun m x=>by kernel_rfl) (ae ⟨cn,fun _ _ _=>rfl⟩ (ae ⟨bD,fun _ _ _=>rfl⟩ ak))
theorem ano:aj (Ua (M.xX)):=aH (cx:=Gv) true Ub Tryz.func25 (hl1 ann) ⟨zs0,fun x=>x.1.1⟩ (fun x=>by kernel_rfl)
def Uc(m:M.bK->Int->Option Int):ax K:=cI 33 ⟨[.el U.ef,iq0],[]⟩ (fun x=>m x.1.1 x.1.2.1)
theorem anp:aj (Uc (M.Bg)):=aH (cx:=di) true dk Tryz.func33 hq ⟨zs1,fun x=>x.1.1⟩ (fun x=>by kernel_rfl)
def Ud:bo K:=bB D false 27 0 [0,1,5] [1,4] Ue (fun x=>M.u7 x.1.1 af x.1.2.1 x.1.2.2.1) oh
def Uf(m:(List M.bK)->Int->Option Int):ax K:=cI 11 ⟨[.ah U.ef,iq0],[]⟩ (fun x=>m x.1.1 x.1.2.1)
def Gw:Cx K:=aQ [(33,.plain)] [Uc M.Bg] [(5,Ud)]
theorem Ug:aJ Gw:=aL aB _ (ae anp ak)
theorem anq:bn Gw (bc (bm Tryz.f11) 0) Ud:=lk (cx:=Gw) (sh:=Ue) (run:=fun n x=>M.u7 x.1.1 n x.1.2.1 x.1.2.2.1) (bu:=oi) Ug (fun m x=>by kernel_rfl) (ae ⟨cn,fun _ _ _=>rfl⟩ (ae ⟨bD,fun _ _ _=>rfl⟩ ak))
theorem anr:aj (Uf (M.Bh)):=aH (cx:=Gw) true Ug Tryz.func11 (hl1 anq) ⟨zs1,fun x=>x.1.1⟩ (fun x=>by kernel_rfl)
def Uh(m:M.bH->Int->Option Int):ax K:=cI 34 ⟨[.el U.Lower,iq0],[]⟩ (fun x=>m x.1.1 x.1.2.1)
theorem ant:aj (Uh (M.Bi)):=aH (cx:=di) true dk Tryz.func34 hq ⟨zs1,fun x=>x.1.1⟩ (fun x=>by kernel_rfl)
def Ui:bo K:=bB D false 27 0 [0,1,5] [1,4] Uj (fun x=>M.vc x.1.1 af x.1.2.1 x.1.2.2.1) oh
def Uk(m:(List M.bH)->Int->Option Int):ax K:=cI 12 ⟨[.ah U.Lower,iq0],[]⟩ (fun x=>m x.1.1 x.1.2.1)
def Gx:Cx K:=aQ [(34,.plain)] [Uh M.Bi] [(5,Ui)]
theorem Ul:aJ Gx:=aL aB _ (ae ant ak)
theorem anu:bn Gx (bc (bm Tryz.f12) 0) Ui:=lk (cx:=Gx) (sh:=Uj) (run:=fun n x=>M.vc x.1.1 n x.1.2.1 x.1.2.2.1) (bu:=oi) Ul (fun m x=>by kernel_rfl) (ae ⟨cn,fun _ _ _=>rfl⟩ (ae ⟨bD,fun _ _ _=>rfl⟩ ak))
theorem anv:aj (Uk (M.Bj)):=aH (cx:=Gx) true Ul Tryz.func12 (hl1 anu) ⟨zs1,fun x=>x.1.1⟩ (fun x=>by kernel_rfl)
def Um(m:M.bF->Int->Option Int):ax K:=cI 35 ⟨[.el U.Builtin,iq0],[]⟩ (fun x=>m x.1.1 x.1.2.1)
theorem anw:aj (Um (M.Bl)):=aH (cx:=di) true dk Tryz.func35 hq ⟨zs1,fun x=>x.1.1⟩ (fun x=>by kernel_rfl)
def Un:bo K:=bB D false 27 0 [0,1,5] [1,4] Uo (fun x=>M.vd x.1.1 af x.1.2.1 x.1.2.2.1) oh
def Up(m:(List M.bF)->Int->Option Int):ax K:=cI 13 ⟨[.ah U.Builtin,iq0],[]⟩ (fun x=>m x.1.1 x.1.2.1)
def Gy:Cx K:=aQ [(35,.plain)] [Um M.Bl] [(5,Un)]
theorem Ur:aJ Gy:=aL aB _ (ae anw ak)
theorem anx:bn Gy (bc (bm Tryz.f13) 0) Un:=lk (cx:=Gy) (sh:=Uo) (run:=fun n x=>M.vd x.1.1 n x.1.2.1 x.1.2.2.1) (bu:=oi) Ur (fun m x=>by kernel_rfl) (ae ⟨cn,fun _ _ _=>rfl⟩ (ae ⟨bD,fun _ _ _=>rfl⟩ ak))
theorem anz:aj (Up (M.Bm)):=aH (cx:=Gy) true Ur Tryz.func13 (hl1 anx) ⟨zs1,fun x=>x.1.1⟩ (fun x=>by kernel_rfl)
def Us(m:M.aP->Int->Option Int):ax K:=cI 4 ⟨[.el U.eG,iq0],[]⟩ (fun x=>m x.1.1 x.1.2.1)
def Ut:Cx K:=aQ [(9,.plain),(10,.plain),(11,.plain),(12,.plain),(13,.plain)] [Uu M.xY,Uw M.Bn,Uf M.Bh,Uk M.Bj,Up M.Bm] []
theorem anA:aJ Ut:=aL aB _ (ae anB (ae anC (ae anr (ae anv (ae anz ak)))))
theorem anD:aj (Us (M.Bo)):=aH (cx:=Ut) true anA Tryz.func4 hq ⟨zs1,fun x=>x.1.1⟩ (fun x=>by kernel_rfl)
def anE(y:Bool⊕(M.aM)){R:Type}(k:KT R):R:=match y with|.inl a0=>kk k Ex.ret xZ (((),(a0,())),((),()))|.inr a1=>kk k (Ex.exit 0) ⟨[.ptr 0 0,.any],[.el U.Module]⟩ (((),((),())),(a1,()))
def anF:List (cq K ((Bool)⊕(M.aM))):=[⟨Ex.ret,xZ,fun x=>.inl x.1.2.1⟩,⟨(Ex.exit 0),⟨[.ptr 0 0,.any],[.el U.Module]⟩,fun x=>.inr (x.2.1)⟩]
def Ux:bo K:=bB D false 82 1 [1,3] [1,2] ya (fun x=>M.ve x.2.1 af x.1.2.1) anE
def Uy(m:M.aG->Option Bool):ax K:=cB 158 vf (fun x=>m x.1.1)
def Uz:Cx K:=aQ [(160,.plain),(69,.plain)] [MM M.vg,qi M.qj] []
theorem anG:aJ Uz:=aL aB _ (ae UA (ae rO ak))
theorem anH:aj (Uy (M.Gz)):=aH (cx:=Uz) true anG Tryz.func158 hq ⟨zs0,fun x=>x.1.1⟩ (fun x=>by kernel_rfl)
def UB:bo K:=bB D false 40 1 [1,3] [2] ⟨[.ptr 0 0,iq0],[.el U.Core]⟩ (fun x=>M.vh x.2.1 af x.1.2.1) rP
def UC(m:M.an->Option Bool):ax K:=cB 118 yb (fun x=>m x.1.1)
def GF:Cx K:=aQ [(116,.plain),(69,.plain),(158,.plain)] [MN M.vi,qi M.qj,Uy M.Gz] [(4,UB)]
theorem UD:aJ GF:=aL aB _ (ae UE (ae rO (ae anH ak)))
theorem anI:bn GF (bc (bm Tryz.f118) 0) UB:=lk (cx:=GF) (sh:=⟨[.ptr 0 0,iq0],[.el U.Core]⟩) (run:=fun n x=>M.vh x.2.1 n x.1.2.1) (bu:=rQ) UD (fun m x=>by kernel_rfl) (ae ⟨cn,fun _ _ _=>rfl⟩ (ae ⟨bD,fun _ _ _=>rfl⟩ ak))
theorem anJ:aj (UC (M.Bq)):=aH (cx:=GF) true UD Tryz.func118 (hl1 anI) ⟨zs0,fun x=>x.1.1⟩ (fun x=>by kernel_rfl)
def UF:bo K:=bB D false 82 1 [1,5] [2] ya (fun x=>M.vj x.2.1 af x.1.2.1) UG
def MO(m:M.aM->Option Bool):ax K:=cB 76 lK (fun x=>m x.1.1)
def yc:Cx K:=aQ [(69,.plain),(116,.plain),(117,.plain),(118,.plain),(119,.plain)] [qi M.qj,MN M.vi,UH M.Br,UC M.Bq,UI M.Bt] [(4,Ux),(10,UF)]
theorem MP:aJ yc:=aL aB _ (ae rO (ae UE (ae anK (ae anJ (ae anL ak)))))
theorem anM:bn yc (bc (bm Tryz.f76) 0) Ux:=lk (cx:=yc) (sh:=ya) (run:=fun n x=>M.ve x.2.1 n x.1.2.1) (bu:=anF) MP (fun m x=>by kernel_rfl) (ae ⟨cn,fun _ _ _=>rfl⟩ (ae ⟨bD,fun _ _ _=>rfl⟩ ak))
theorem anN:bn yc (bc (bm Tryz.f76) 1) UF:=lk (cx:=yc) (sh:=ya) (run:=fun n x=>M.vj x.2.1 n x.1.2.1) (bu:=UJ) MP (fun m x=>by kernel_rfl) (ae ⟨cn,fun _ _ _=>rfl⟩ (ae ⟨bD,fun _ _ _=>rfl⟩ ak))
theorem UK:aj (MO (M.rR)):=aH (cx:=yc) true MP Tryz.func76 (hl2 anM anN) ⟨zs0,fun x=>x.1.1⟩ (fun x=>by kernel_rfl)
def UL(y:(Int×Int×Int)⊕Unit){R:Type}(k:KT R):R:=match y with|.inl a0=>kk k Ex.ret UM ((a0.1,(a0.2.1,(a0.2.2,()))),((),()))|.inr a1=>kk k (Ex.exit 0) UN (((),((),((),()))),((),()))
def UO:List (cq K ((Int×Int×Int)⊕Unit)):=[⟨Ex.ret,UM,fun x=>.inl (x.1.1,x.1.2.1,x.1.2.2.1)⟩,⟨(Ex.exit 0),UN,fun x=>.inr (())⟩]
def UP:bo K:=bB D false 33 1 [1,5] [2,3,4] ya (fun x=>M.rS x.2.1 af x.1.2.1) UL
def UQ(m:M.aM->Option (Int×Int×Int)):ax K:={f:=152,sh:=lK,R:=Int×Int×Int,run:=fun x=>m x.1.1,dflt:=default,out:=fun r=>(Sh.enc D (.bU [iq0,iq0,iq0]) (r.1,(r.2.1,(r.2.2,()))),bh.encs D [] ())}
def GG:Cx K:=aQ [(76,.plain),(203,.cT)] [MO M.rR,UR M.Bv] [(4,UP)]
theorem US:aJ GG:=aL aB _ (ae UK (ae anO ak))
theorem anP:bn GG (bc (bm Tryz.f152) 0) UP:=lk (cx:=GG) (sh:=ya) (run:=fun n x=>M.rS x.2.1 n x.1.2.1) (bu:=UO) US (fun m x=>by kernel_rfl) (ae ⟨cn,fun _ _ _=>rfl⟩ (ae ⟨bD,fun _ _ _=>rfl⟩ ak))
theorem anQ:aj (UQ (M.By)):=aH (cx:=GG) true US Tryz.func152 (hl1 anP) ⟨MQ,fun x=>(x.1.1.1,x.1.1.2.1,x.1.1.2.2.1)⟩ (fun x=>by kernel_rfl)
def UT(m:M.aM->Option Bool):ax K:=cB 110 lK (fun x=>m x.1.1)
def UU:Cx K:=aQ [(152,.plain)] [UQ M.By] []
theorem anR:aJ UU:=aL aB _ (ae anQ ak)
theorem anS:aj (UT (M.GH)):=aH (cx:=UU) true anR Tryz.func110 hq ⟨zs0,fun x=>x.1.1⟩ (fun x=>by kernel_rfl)
def UW(m:M.aM->Option Bool):ax K:=cB 70 lK (fun x=>m x.1.1)
def UX:Cx K:=aQ [(110,.plain)] [UT M.GH] []
theorem anT:aJ UX:=aL aB _ (ae anS ak)
theorem anU:aj (UW (M.Bz)):=aH (cx:=UX) true anT Tryz.func70 hq ⟨zs0,fun x=>x.1.1⟩ (fun x=>by kernel_rfl)
def UY(y:Int⊕Unit){R:Type}(k:KT R):R:=match y with|.inl a0=>kk k Ex.ret UZ ((a0,()),((),()))|.inr a1=>kk k (Ex.exit 0) yd (((),()),((),()))
def U0:List (cq K ((Int)⊕Unit)):=[⟨Ex.ret,UZ,fun x=>.inl x.1.1⟩,⟨(Ex.exit 0),yd,fun x=>.inr (())⟩]
def U1:bo K:=bB D false 22 1 [1,2,5] [4] GI (fun x=>M.uH x.1.1 x.2.1 af x.1.2.2.1) UY
def U2(m:M.aM->(List UInt8)->Option Int):ax K:=cI 111 GK (fun x=>m x.1.1 x.1.2.1)
def GL:Cx K:=aQ [] [] [(2,U1)]
theorem U3:aJ GL:=aL aB _ ak
theorem anV:bn GL (bc (bm Tryz.f111) 0) U1:=lk (cx:=GL) (sh:=GI) (run:=fun n x=>M.uH x.1.1 x.2.1 n x.1.2.2.1) (bu:=U0) U3 (fun m x=>by kernel_rfl) (ae ⟨cn,fun _ _ _=>rfl⟩ (ae ⟨bD,fun _ _ _=>rfl⟩ ak))
theorem anW:aj (U2 (M.AO)):=aH (cx:=GL) true U3 Tryz.func111 (hl1 anV) ⟨zs1,fun x=>x.1.1⟩ (fun x=>by kernel_rfl)
def rT(m:M.aa->Option (M.aa)):ax K:={f:=204,sh:=gV,R:=M.aa,run:=fun x=>m x.1.1,dflt:=default,out:=fun r=>(Sh.enc D (.el U.Type) r,bh.encs D [] ())}
def anX(y:Int×(List UInt8)×Int×(List UInt8)×(List (List UInt8))×(List M.aa)×(List (List UInt8))×(List M.aa)){R:Type}(k:KT R):R:=match y with|a0=>kk k (Ex.exit 0) U4 (((),((),())),((),((a0.1,(a0.2.1,((),((),())))),((a0.2.2.1,(a0.2.2.2.1,((),((),())))),((),((),((),((),(a0.2.2.2.2.1,(a0.2.2.2.2.2.1,(a0.2.2.2.2.2.2.1,(a0.2.2.2.2.2.2.2,()))))))))))))
def anY:List (cq K (Int×(List UInt8)×Int×(List UInt8)×(List (List UInt8))×(List M.aa)×(List (List UInt8))×(List M.aa))):=[⟨(Ex.exit 0),U4,fun x=>(x.2.2.1.1,x.2.2.1.2.1,x.2.2.2.1.1,x.2.2.2.1.2.1,x.2.2.2.2.2.2.2.2.1,x.2.2.2.2.2.2.2.2.2.1,x.2.2.2.2.2.2.2.2.2.2.1,x.2.2.2.2.2.2.2.2.2.2.2.1)⟩]
def U5(fL:M.aa->Option (M.aa)):bo K:=bB D false 33 7 [1,2,3,4] [2,3] U6 (fun x=>M.rU fL x.2.2.1.1 x.2.2.1.2.1 x.2.2.2.1.1 x.2.2.2.1.2.1 x.2.2.2.2.2.2.2.2.1 x.2.2.2.2.2.2.2.2.2.1 x.2.2.2.2.2.2.2.2.2.2.1 af x.1.2.2.2.1 x.2.1 x.2.2.2.2.2.2.2.2.2.2.2.1) anX
def GM(fL:M.aa->Option (M.aa)):Cx K:=aQ [(204,.cT)] [rT fL] [(3,U5 fL)]
theorem U7(fL:M.aa->Option (M.aa))(ye:aj (rT fL)):aJ (GM fL):=aL aB _ (ae ye ak)
theorem anZ(fL:M.aa->Option (M.aa))(ye:aj (rT fL)):bn (GM fL) (bc (bm Tryz.f204) 0) (U5 fL):=lk (cx:=GM fL) (sh:=U6) (run:=fun n x=>M.rU fL x.2.2.1.1 x.2.2.1.2.1 x.2.2.2.1.1 x.2.2.2.1.2.1 x.2.2.2.2.2.2.2.2.1 x.2.2.2.2.2.2.2.2.2.1 x.2.2.2.2.2.2.2.2.2.2.1 n x.1.2.2.2.1 x.2.1 x.2.2.2.2.2.2.2.2.2.2.2.1) (bu:=anY) (U7 fL ye) (fun m x=>by kernel_rfl) (ae ⟨bD,fun _ _ _=>rfl⟩ ak)
theorem an0(fL:M.aa->Option (M.aa))(ye:aj (rT fL)):aj (rT (M.GN fL)):=eR (cx:=GM fL) (fz:=true) aB (U7 fL ye) cG ⟨Tryz.func204,by kernel_rfl⟩ (hl1 (anZ fL ye)) ⟨gV,fun x=>x.1.1⟩ (fun x=>rfl) (fun x=>by kernel_rfl)
theorem U8:∀n,aj (rT (M.rV n))|0=>ia fun _=>rfl|n+1=>an0 (M.rV n) (U8 n)
theorem an1:aj (rT (M.GO)):=U8 af
def an2(y:(List M.aa)){R:Type}(k:KT R):R:=match y with|a0=>kk k (Ex.exit 0) ⟨[.own 2],[.dead,.dead,.arr U.Type]⟩ (((),()),((),((),(a0,()))))
def an3:List (cq K ((List M.aa))):=[⟨(Ex.exit 0),⟨[.own 2],[.dead,.dead,.arr U.Type]⟩,fun x=>x.2.2.2.1⟩]
def U9:bo K:=bB D false 24 2 [1,3,4] [3] Va (fun x=>M.rW af x.1.2.2.1 x.2.1 x.2.2.2.1) an2
def Vb(m:M.ay->Option ((List M.aa))):ax K:={f:=153,sh:=lL,R:=(List M.aa),run:=fun x=>m x.1.1,dflt:=default,out:=fun r=>(Sh.enc D (.ah U.Type) r,bh.encs D [] ())}
def GQ:Cx K:=aQ [(204,.cT)] [rT M.GO] [(3,U9)]
theorem Vd:aJ GQ:=aL aB _ (ae an1 ak)
theorem an4:bn GQ (bc (bm Tryz.f153) 0) U9:=lk (cx:=GQ) (sh:=Va) (run:=fun n x=>M.rW n x.1.2.2.1 x.2.1 x.2.2.2.1) (bu:=an3) Vd (fun m x=>by kernel_rfl) (ae ⟨bD,fun _ _ _=>rfl⟩ ak)
theorem an5:aj (Vb (M.BB)):=aH (cx:=GQ) true Vd Tryz.func153 (hl1 an4) ⟨lM,fun x=>x.1.1⟩ (fun x=>by kernel_rfl)
def Ve(m:M.aa->Option Bool):ax K:=cB 246 gV (fun x=>m x.1.1)
def Vf:Cx K:=aQ [(201,.plain)] [MR M.rX] []
theorem an6:aJ Vf:=aL aB _ (ae Vg ak)
theorem an7:aj (Ve (M.BC)):=aH (cx:=Vf) true an6 Tryz.func246 hq ⟨zs0,fun x=>x.1.1⟩ (fun x=>by kernel_rfl)
def an8(y:Bool⊕((List M.aa))){R:Type}(k:KT R):R:=match y with|.inl a0=>kk k Ex.ret GR (((),(a0,())),())|.inr a1=>kk k (Ex.exit 0) ⟨[.ah U.Type,.any],[]⟩ ((a1,((),())),())
def an9:List (cq K ((Bool)⊕((List M.aa)))):=[⟨Ex.ret,GR,fun x=>.inl x.1.2.1⟩,⟨(Ex.exit 0),⟨[.ah U.Type,.any],[]⟩,fun x=>.inr (x.1.1)⟩]
def Vh:bo K:=bB D false 23 0 [0,3] [0,2] MS (fun x=>M.vk x.1.1 af x.1.2.1) an8
def Vi(m:(List M.aa)->Option Bool):ax K:=cB 205 lM (fun x=>m x.1.1)
def GU:Cx K:=aQ [(246,.plain)] [Ve M.BC] [(2,Vh)]
theorem Vj:aJ GU:=aL aB _ (ae an7 ak)
theorem aoa:bn GU (bc (bm Tryz.f205) 0) Vh:=lk (cx:=GU) (sh:=MS) (run:=fun n x=>M.vk x.1.1 n x.1.2.1) (bu:=an9) Vj (fun m x=>by kernel_rfl) (ae ⟨cn,fun _ _ _=>rfl⟩ (ae ⟨bD,fun _ _ _=>rfl⟩ ak))
theorem aob:aj (Vi (M.yf)):=aH (cx:=GU) true Vj Tryz.func205 (hl1 aoa) ⟨zs0,fun x=>x.1.1⟩ (fun x=>by kernel_rfl)
def lN(m:(List M.aa)->Option ((List Int))):ax K:={f:=206,sh:=lM,R:=(List Int),run:=fun x=>m x.1.1,dflt:=default,out:=fun r=>(Sh.enc D (.ah U.i64) r,bh.encs D [] ())}
def Vk(m:M.aa->Option ((List M.aa))):ax K:={f:=288,sh:=gV,R:=(List M.aa),run:=fun x=>m x.1.1,dflt:=default,out:=fun r=>(Sh.enc D (.ah U.Type) r,bh.encs D [] ())}
theorem aoc:aj (Vk (M.BD)):=aH (cx:=di) true dk Tryz.func288 hq ⟨lM,fun x=>x.1.1⟩ (fun x=>by kernel_rfl)
def rY(m:M.aa->Option ((List Int))):ax K:={f:=247,sh:=gV,R:=(List Int),run:=fun x=>m x.1.1,dflt:=default,out:=fun r=>(Sh.enc D (.ah U.i64) r,bh.encs D [] ())}
def GV(y:(List Int)){R:Type}(k:KT R):R:=match y with|a0=>kk k (Ex.exit 0) GX (((),()),((),(a0,())))
def GY:List (cq K ((List Int))):=[⟨(Ex.exit 0),GX,fun x=>x.2.2.1⟩]
def Vl:bo K:=bB D false 57 1 [0,1,5,6] [5] Vm (fun x=>M.oj x.1.1 x.1.2.1 af x.1.2.2.2.1 x.2.2.1) GV
def Vn(m:(List Int)->(List Int)->Option ((List Int))):ax K:={f:=289,sh:=⟨[.ah U.i64,.ah U.i64],[]⟩,R:=(List Int),run:=fun x=>m x.1.1 x.1.2.1,dflt:=default,out:=fun r=>(Sh.enc D (.own 0) (),bh.encs D [.arr U.i64] (r,()))}
def GZ:Cx K:={js with mode:=ir .plain [(277,.plain)],mN:=[[some U.i64]],call:=callOf D [MU M.mO],loop:=gu [(3,Vl)]}
theorem Vo:aJ GZ:=aL aB _ (ae Vp ak)
theorem aod:bn GZ (bc (bm Tryz.f289) 0) Vl:=lk (cx:=GZ) (sh:=Vm) (run:=fun n x=>M.oj x.1.1 x.1.2.1 n x.1.2.2.2.1 x.2.2.1) (bu:=GY) Vo (fun m x=>by kernel_rfl) (ae ⟨bD,fun _ _ _=>rfl⟩ ak)
theorem aoe:aj (Vn (M.BE)):=aH (cx:=GZ) false Vo Tryz.func289 (hl1 aod) ⟨MV,fun x=>x.2.1⟩ (fun x=>by kernel_rfl)
def Vq(y:(List Int)){R:Type}(k:KT R):R:=match y with|a0=>kk k (Ex.exit 1) GX (((),()),((),(a0,())))
def Vr:List (cq K ((List Int))):=[⟨(Ex.exit 1),GX,fun x=>x.2.2.1⟩]
def Vs(fM:M.aa->Option ((List Int))):bo K:=bB D false 47 1 [3,4,5] [4] G0 (fun x=>M.rZ fM x.1.1 af x.1.2.2.1 x.2.2.1) Vq
def G5(cU:(List M.aa)->Option ((List Int)))(fM:M.aa->Option ((List Int))):Cx K:=aQ [(206,.cT),(288,.cT),(247,.cT),(289,.fresh)] [lN cU,Vk M.BD,rY fM,Vn M.BE] [(18,Vs fM)]
theorem Vt(cU:(List M.aa)->Option ((List Int)))(iV:aj (lN cU))(fM:M.aa->Option ((List Int)))(yg:aj (rY fM)):aJ (G5 cU fM):=aL aB _ (ae iV (ae aoc (ae yg (ae aoe ak))))
theorem aof(cU:(List M.aa)->Option ((List Int)))(iV:aj (lN cU))(fM:M.aa->Option ((List Int)))(yg:aj (rY fM)):bn (G5 cU fM) (bc (bm Tryz.f247) 0) (Vs fM):=lk (cx:=G5 cU fM) (sh:=G0) (run:=fun n x=>M.rZ fM x.1.1 n x.1.2.2.1 x.2.2.1) (bu:=Vr) (Vt cU iV fM yg) (fun m x=>by kernel_rfl) (ae ⟨bD,fun _ _ _=>rfl⟩ ak)
theorem aog(cU:(List M.aa)->Option ((List Int)))(iV:aj (lN cU))(fM:M.aa->Option ((List Int)))(yg:aj (rY fM)):aj (rY (M.G6 cU fM)):=eR (cx:=G5 cU fM) (fz:=true) aB (Vt cU iV fM yg) cG ⟨Tryz.func247,by kernel_rfl⟩ (hl1 (aof cU iV fM yg)) ⟨sc,fun x=>x.1.1⟩ (fun x=>rfl) (fun x=>by kernel_rfl)
theorem Vu(cU:(List M.aa)->Option ((List Int)))(iV:aj (lN cU)):∀n,aj (rY (M.sd cU n))|0=>ia fun _=>rfl|n+1=>aog cU iV (M.sd cU n) (Vu cU iV n)
theorem aoh(cU:(List M.aa)->Option ((List Int)))(iV:aj (lN cU)):aj (rY (M.G7 cU)):=Vu cU iV af
def Vv(cU:(List M.aa)->Option ((List Int))):bo K:=bB D false 20 1 [0,3,4] [3] G0 (fun x=>M.se cU x.1.1 af x.1.2.2.1 x.2.2.1) GV
def G8(cU:(List M.aa)->Option ((List Int))):Cx K:=aQ [(247,.cT)] [rY (M.G7 cU)] [(3,Vv cU)]
theorem Vw(cU:(List M.aa)->Option ((List Int)))(iV:aj (lN cU)):aJ (G8 cU):=aL aB _ (ae (aoh cU iV) ak)
theorem aoi(cU:(List M.aa)->Option ((List Int)))(iV:aj (lN cU)):bn (G8 cU) (bc (bm Tryz.f206) 0) (Vv cU):=lk (cx:=G8 cU) (sh:=G0) (run:=fun n x=>M.se cU x.1.1 n x.1.2.2.1 x.2.2.1) (bu:=GY) (Vw cU iV) (fun m x=>by kernel_rfl) (ae ⟨bD,fun _ _ _=>rfl⟩ ak)
theorem aoj(cU:(List M.aa)->Option ((List Int)))(iV:aj (lN cU)):aj (lN (M.G9 cU)):=eR (cx:=G8 cU) (fz:=true) aB (Vw cU iV) cG ⟨Tryz.func206,by kernel_rfl⟩ (hl1 (aoi cU iV)) ⟨sc,fun x=>x.1.1⟩ (fun x=>rfl) (fun x=>by kernel_rfl)
theorem Vx:∀n,aj (lN (M.qk n))|0=>ia fun _=>rfl|n+1=>aoj (M.qk n) (Vx n)
theorem aok:aj (lN (M.BF)):=Vx af
def Vy(m:(List M.aa)->Option ((List Int))):ax K:={f:=154,sh:=lM,R:=(List Int),run:=fun x=>m x.1.1,dflt:=default,out:=fun r=>(Sh.enc D (.ah U.i64) r,bh.encs D [] ())}
def MW:Cx K:=aQ [(205,.plain),(206,.cT)] [Vi M.yf,lN M.BF] []
theorem Vz:aJ MW:=aL aB _ (ae aob (ae aok ak))
theorem aol:aj (Vy (M.Ha)):=aH (cx:=MW) true Vz Tryz.func154 hq ⟨sc,fun x=>x.1.1⟩ (fun x=>by kernel_rfl)
def VA(m:(List M.aa)->Option Bool):ax K:=cB 155 lM (fun x=>m x.1.1)
theorem aom:aj (VA (M.He)):=aH (cx:=MW) true Vz Tryz.func155 hq ⟨zs0,fun x=>x.1.1⟩ (fun x=>by kernel_rfl)
def MX(m:M.ay->Option (Int×Bool)):ax K:={f:=112,sh:=lL,R:=Int×Bool,run:=fun x=>m x.1.1,dflt:=default,out:=fun r=>(Sh.enc D (.bU [iq0,.bool]) (r.1,(r.2,())),bh.encs D [] ())}
def VB:Cx K:=aQ [(153,.cT),(154,.cT),(155,.plain)] [Vb M.BB,Vy M.Ha,VA M.He] []
theorem aon:aJ VB:=aL aB _ (ae an5 (ae aol (ae aom ak)))
theorem VC:aj (MX (M.sf)):=aH (cx:=VB) true aon Tryz.func112 hq ⟨BG,fun x=>(x.1.1.1,x.1.1.2.1)⟩ (fun x=>by kernel_rfl)
def VD(y:Bool⊕(M.aP×Int×Int)){R:Type}(k:KT R):R:=match y with|.inl a0=>kk k Ex.ret VE (((),((),((),(a0,())))),())|.inr a1=>kk k (Ex.exit 2) VF ((a1.1,(a1.2.1,(a1.2.2,((),())))),())
def VG:List (cq K ((Bool)⊕(M.aP×Int×Int))):=[⟨Ex.ret,VE,fun x=>.inl x.1.2.2.2.1⟩,⟨(Ex.exit 2),VF,fun x=>.inr ((x.1.1,x.1.2.1,x.1.2.2.1))⟩]
def VH:bo K:=bB D false 138 0 [0,3,4,5] [0,3,4,2] sg (fun x=>M.nU x.1.1 x.1.2.2.1 af x.1.2.1 x.1.2.2.2.1) VD
def VI(y:Bool⊕(M.aP×Int)){R:Type}(k:KT R):R:=match y with|.inl a0=>kk k Ex.ret yh (((),((),(a0,()))),())|.inr a1=>kk k (Ex.exit 0) VJ ((a1.1,(a1.2,((),()))),())
def VK:List (cq K ((Bool)⊕(M.aP×Int))):=[⟨Ex.ret,yh,fun x=>.inl x.1.2.2.1⟩,⟨(Ex.exit 0),VJ,fun x=>.inr ((x.1.1,x.1.2.1))⟩]
def VL:bo K:=bB D false 138 0 [0,3,4] [0,3,2] si (fun x=>M.nV af x.1.1 x.1.2.1 x.1.2.2.1) VI
def VM(m:M.aP->Option Bool):ax K:=cB 71 BH (fun x=>m x.1.1)
def yi:Cx K:=aQ [(108,.plain),(111,.plain),(112,.plain)] [BI M.jr,U2 M.AO,MX M.sf] [(6,VH),(3,VL)]
theorem MY:aJ yi:=aL aB _ (ae Hg (ae anW (ae VC ak)))
theorem aoo:bn yi (bc (bc (bm Tryz.f71) 0) 0) VH:=lk (cx:=yi) (sh:=sg) (run:=fun n x=>M.nU x.1.1 x.1.2.2.1 n x.1.2.1 x.1.2.2.2.1) (bu:=VG) MY (fun m x=>by kernel_rfl) (ae ⟨cn,fun _ _ _=>rfl⟩ (ae ⟨bD,fun _ _ _=>rfl⟩ ak))
theorem aop:bn yi (bc (bm Tryz.f71) 0) VL:=lk (cx:=yi) (sh:=si) (run:=fun n x=>M.nV n x.1.1 x.1.2.1 x.1.2.2.1) (bu:=VK) MY (fun m x=>by kernel_rfl) (ae ⟨cn,fun _ _ _=>rfl⟩ (ae ⟨bD,fun _ _ _=>rfl⟩ ak)) (hl:=(kd 1 (by kernel_rfl) (kQ (.mk (by kernel_rfl) aoo))))
theorem aoq:aj (VM (M.AT)):=aH (cx:=yi) true MY Tryz.func71 (hl1 aop) ⟨zs0,fun x=>x.1.1⟩ (fun x=>by kernel_rfl)
def VN:bo K:=bB D false 22 1 [1,2,5] [4] GI (fun x=>M.uJ x.1.1 x.2.1 af x.1.2.2.1) UY
def MZ(m:M.aM->(List UInt8)->Option Int):ax K:=cI 113 GK (fun x=>m x.1.1 x.1.2.1)
def Hh:Cx K:=aQ [] [] [(2,VN)]
theorem VO:aJ Hh:=aL aB _ ak
theorem aor:bn Hh (bc (bm Tryz.f113) 0) VN:=lk (cx:=Hh) (sh:=GI) (run:=fun n x=>M.uJ x.1.1 x.2.1 n x.1.2.2.1) (bu:=U0) VO (fun m x=>by kernel_rfl) (ae ⟨cn,fun _ _ _=>rfl⟩ (ae ⟨bD,fun _ _ _=>rfl⟩ ak))
theorem VP:aj (MZ (M.uI)):=aH (cx:=Hh) true VO Tryz.func113 (hl1 aor) ⟨zs1,fun x=>x.1.1⟩ (fun x=>by kernel_rfl)
def VQ:bo K:=bB D false 138 0 [0,3,4,5] [0,3,4,2] sg (fun x=>M.nW x.1.1 x.1.2.2.1 af x.1.2.1 x.1.2.2.2.1) VD
def VR:bo K:=bB D false 138 0 [0,3,4] [0,3,2] si (fun x=>M.nX af x.1.1 x.1.2.1 x.1.2.2.1) VI
def VS(m:M.aP->Option Bool):ax K:=cB 72 BH (fun x=>m x.1.1)
def yj:Cx K:=aQ [(108,.plain),(113,.plain),(112,.plain)] [BI M.jr,MZ M.uI,MX M.sf] [(6,VQ),(3,VR)]
theorem M1:aJ yj:=aL aB _ (ae Hg (ae VP (ae VC ak)))
theorem aos:bn yj (bc (bc (bm Tryz.f72) 0) 0) VQ:=lk (cx:=yj) (sh:=sg) (run:=fun n x=>M.nW x.1.1 x.1.2.2.1 n x.1.2.1 x.1.2.2.2.1) (bu:=VG) M1 (fun m x=>by kernel_rfl) (ae ⟨cn,fun _ _ _=>rfl⟩ (ae ⟨bD,fun _ _ _=>rfl⟩ ak))
theorem aot:bn yj (bc (bm Tryz.f72) 0) VR:=lk (cx:=yj) (sh:=si) (run:=fun n x=>M.nX n x.1.1 x.1.2.1 x.1.2.2.1) (bu:=VK) M1 (fun m x=>by kernel_rfl) (ae ⟨cn,fun _ _ _=>rfl⟩ (ae ⟨bD,fun _ _ _=>rfl⟩ ak)) (hl:=(kd 1 (by kernel_rfl) (kQ (.mk (by kernel_rfl) aos))))
theorem aou:aj (VS (M.AU)):=aH (cx:=yj) true M1 Tryz.func72 (hl1 aot) ⟨zs0,fun x=>x.1.1⟩ (fun x=>by kernel_rfl)
def VT:bo K:=bB D false 20 0 [0,1,5] [4] ⟨[.ah U.aT,.str,iq0],[]⟩ (fun x=>M.uT x.1.1 x.1.2.1 af x.1.2.2.1) iW
def VU(m:(List M.ar)->(List UInt8)->Option Int):ax K:=cI 156 ⟨[.ah U.aT,.str],[]⟩ (fun x=>m x.1.1 x.1.2.1)
def Hj:Cx K:=aQ [(108,.plain)] [BI M.jr] [(2,VT)]
theorem VV:aJ Hj:=aL aB _ (ae Hg ak)
theorem aov:bn Hj (bc (bm Tryz.f156) 0) VT:=lk (cx:=Hj) (sh:=⟨[.ah U.aT,.str,iq0],[]⟩) (run:=fun n x=>M.uT x.1.1 x.1.2.1 n x.1.2.2.1) (bu:=iY) VV (fun m x=>by kernel_rfl) (ae ⟨cn,fun _ _ _=>rfl⟩ (ae ⟨bD,fun _ _ _=>rfl⟩ ak))
theorem aow:aj (VU (M.A2)):=aH (cx:=Hj) true VV Tryz.func156 (hl1 aov) ⟨zs1,fun x=>x.1.1⟩ (fun x=>by kernel_rfl)
def VW:bo K:=bB D false 34 0 [0,2,7,8] [6] VX (fun x=>M.uU x.1.1 x.1.2.1 x.1.2.2.1 af x.1.2.2.2.1) iU
def VY(m:(List M.ar)->(List UInt8)->(List UInt8)->Option Bool):ax K:=cB 114 ⟨[.ah U.aT,.str,.str],[]⟩ (fun x=>m x.1.1 x.1.2.1 x.1.2.2.1)
def Hk:Cx K:=aQ [(156,.plain)] [VU M.A2] [(5,VW)]
theorem VZ:aJ Hk:=aL aB _ (ae aow ak)
theorem aox:bn Hk (bc (bm Tryz.f114) 0) VW:=lk (cx:=Hk) (sh:=VX) (run:=fun n x=>M.uU x.1.1 x.1.2.1 x.1.2.2.1 n x.1.2.2.2.1) (bu:=iT) VZ (fun m x=>by kernel_rfl) (ae ⟨cn,fun _ _ _=>rfl⟩ (ae ⟨bD,fun _ _ _=>rfl⟩ ak))
theorem aoy:aj (VY (M.xW)):=aH (cx:=Hk) true VZ Tryz.func114 (hl1 aox) ⟨zs0,fun x=>x.1.1⟩ (fun x=>by kernel_rfl)
def V0:bo K:=bB D false 99 0 [0,3] [2] Hl (fun x=>M.uW x.1.1 af x.1.2.1) iU
def V1(m:M.aP->Option Bool):ax K:=cB 73 BH (fun x=>m x.1.1)
def Hm:Cx K:=aQ [(114,.plain),(113,.plain),(69,.plain)] [VY M.xW,MZ M.uI,qi M.qj] [(4,V0)]
theorem V2:aJ Hm:=aL aB _ (ae aoy (ae VP (ae rO ak)))
theorem aoz:bn Hm (bc (bm Tryz.f73) 0) V0:=lk (cx:=Hm) (sh:=Hl) (run:=fun n x=>M.uW x.1.1 n x.1.2.1) (bu:=iT) V2 (fun m x=>by kernel_rfl) (ae ⟨cn,fun _ _ _=>rfl⟩ (ae ⟨bD,fun _ _ _=>rfl⟩ ak))
theorem aoA:aj (V1 (M.A5)):=aH (cx:=Hm) true V2 Tryz.func73 (hl1 aoz) ⟨zs0,fun x=>x.1.1⟩ (fun x=>by kernel_rfl)
def aoB(y:M.aP×Int×Int){R:Type}(k:KT R):R:=match y with|a0=>kk k (Ex.exit 2) si ((a0.1,(a0.2.1,(a0.2.2,()))),())
def aoC:List (cq K (M.aP×Int×Int)):=[⟨(Ex.exit 2),si,fun x=>(x.1.1,x.1.2.1,x.1.2.2.1)⟩]
def V3:bo K:=bB D false 77 0 [0,3,4,5] [0,3,4] sg (fun x=>M.mK x.1.1 x.1.2.1 af x.1.2.2.1 x.1.2.2.2.1) aoB
def aoD(y:M.aP×Int×Int){R:Type}(k:KT R):R:=match y with|a0=>kk k (Ex.exit 4) si ((a0.1,(a0.2.1,(a0.2.2,()))),())
def aoE:List (cq K (M.aP×Int×Int)):=[⟨(Ex.exit 4),si,fun x=>(x.1.1,x.1.2.1,x.1.2.2.1)⟩]
def V4:bo K:=bB D false 77 0 [0,3,4,6] [0,3,4] sg (fun x=>M.mL x.1.1 x.1.2.1 af x.1.2.2.1 x.1.2.2.2.1) aoD
def V5:bo K:=bB D false 77 0 [0,3] [2] Hl (fun x=>M.od af x.1.1 x.1.2.1) iU
def V6(m:M.aP->Option Bool):ax K:=cB 74 BH (fun x=>m x.1.1)
def sj:Cx K:=aQ [] [] [(6,V3),(11,V4),(2,V5)]
theorem Hq:aJ sj:=aL aB _ ak
theorem aoF:bn sj (bc (bc (bm Tryz.f74) 0) 0) V3:=lk (cx:=sj) (sh:=sg) (run:=fun n x=>M.mK x.1.1 x.1.2.1 n x.1.2.2.1 x.1.2.2.2.1) (bu:=aoC) Hq (fun m x=>by kernel_rfl) (ae ⟨bD,fun _ _ _=>rfl⟩ ak)
theorem aoG:bn sj (bc (bc (bm Tryz.f74) 0) 1) V4:=lk (cx:=sj) (sh:=sg) (run:=fun n x=>M.mL x.1.1 x.1.2.1 n x.1.2.2.1 x.1.2.2.2.1) (bu:=aoE) Hq (fun m x=>by kernel_rfl) (ae ⟨bD,fun _ _ _=>rfl⟩ ak)
theorem aoH:bn sj (bc (bm Tryz.f74) 0) V5:=lk (cx:=sj) (sh:=Hl) (run:=fun n x=>M.od n x.1.1 x.1.2.1) (bu:=iT) Hq (fun m x=>by kernel_rfl) (ae ⟨cn,fun _ _ _=>rfl⟩ (ae ⟨bD,fun _ _ _=>rfl⟩ ak)) (hl:=(kd 2 (by kernel_rfl) (lt_succ (kQ (.mk (by kernel_rfl) aoF)) (.mk (by kernel_rfl) aoG))))
theorem aoI:aj (V6 (M.A7)):=aH (cx:=sj) true Hq Tryz.func74 (hl1 aoH) ⟨zs0,fun x=>x.1.1⟩ (fun x=>by kernel_rfl)
def V7(m:M.aP->Option ((List UInt8))):ax K:=cS 36 BH (fun x=>m x.1.1)
def V8:Cx K:=aQ [(66,.plain),(67,.plain),(68,.plain),(69,.plain),(70,.plain),(71,.plain),(72,.plain),(73,.plain),(74,.plain)] [yk M.jE,M3 M.vl,V9 M.yl,qi M.qj,UW M.Bz,VM M.AT,VS M.AU,V1 M.A5,V6 M.A7] []
theorem aoJ:aJ V8:=aL aB _ (ae BJ (ae Wa (ae aoK (ae rO (ae anU (ae aoq (ae aou (ae aoA (ae aoI ak)))))))))
theorem aoL:aj (V7 (M.A8)):=aH (cx:=V8) true aoJ Tryz.func36 hq ⟨dO,fun x=>x.1.1⟩ (fun x=>by kernel_rfl)
def Wb(m:Int->Option Bool):ax K:=cB 85 zs1 (fun x=>m x.1.1)
def Wc:Cx K:=aQ [(87,.plain)] [ma M.mb] []
theorem aoM:aJ Wc:=aL aB _ (ae mP ak)
theorem aoN:aj (Wb (M.We)):=aH (cx:=Wc) true aoM Tryz.func85 hq ⟨zs0,fun x=>x.1.1⟩ (fun x=>by kernel_rfl)
def Wg(m:M.aG->Option Bool):ax K:=cB 261 vf (fun x=>m x.1.1)
def Wh:Cx K:=aQ [(144,.plain),(87,.plain)] [M4 M.om,ma M.mb] []
theorem aoO:aJ Wh:=aL aB _ (ae Wi (ae mP ak))
theorem aoP:aj (Wg (M.ql)):=aH (cx:=Wh) true aoO Tryz.func261 hq ⟨zs0,fun x=>x.1.1⟩ (fun x=>by kernel_rfl)
def Wj(m:M.aG->Option Bool):ax K:=cB 260 vf (fun x=>m x.1.1)
def Wl:Cx K:=aQ [(261,.plain)] [Wg M.ql] []
theorem aoQ:aJ Wl:=aL aB _ (ae aoP ak)
theorem aoR:aj (Wj (M.BK)):=aH (cx:=Wl) true aoQ Tryz.func260 hq ⟨zs0,fun x=>x.1.1⟩ (fun x=>by kernel_rfl)
def Wm:bo K:=bB D false 19 0 [0,1,7,8] [4] Wn (fun x=>M.vm x.1.1 x.1.2.2.1 af x.1.2.2.2.1) iW
def Wp(m:(List M.aG)->Option Int):ax K:=cI 304 ⟨[.ah U.Ins,.fn 260 []],[]⟩ (fun x=>m x.1.1)
def Hr:Cx K:=aQ [(260,.plain)] [Wj M.BK] [(2,Wm)]
theorem Wq:aJ Hr:=aL aB _ (ae aoR ak)
theorem aoS:bn Hr (bc (bm Tryz.f304) 0) Wm:=lk (cx:=Hr) (sh:=Wn) (run:=fun n x=>M.vm x.1.1 x.1.2.2.1 n x.1.2.2.2.1) (bu:=iY) Wq (fun m x=>by kernel_rfl) (ae ⟨cn,fun _ _ _=>rfl⟩ (ae ⟨bD,fun _ _ _=>rfl⟩ ak))
theorem aoT:aj (Wp (M.Ht)):=aH (cx:=Hr) true Wq Tryz.func304 (hl1 aoS) ⟨zs1,fun x=>x.1.1⟩ (fun x=>by kernel_rfl)
def Ws(m:(List M.aG)->Option Bool):ax K:=cB 259 ⟨[.ah U.Ins,.fn 260 []],[]⟩ (fun x=>m x.1.1)
def Wu:Cx K:=aQ [(304,.plain)] [Wp M.Ht] []
theorem aoU:aJ Wu:=aL aB _ (ae aoT ak)
theorem aoV:aj (Ws (M.BL)):=aH (cx:=Wu) true aoU Tryz.func259 hq ⟨zs0,fun x=>x.1.1⟩ (fun x=>by kernel_rfl)
def Wv(m:M.an->Option Bool):ax K:=cB 219 yb (fun x=>m x.1.1)
def Ww:Cx K:=aQ [(87,.plain),(259,.plain)] [ma M.mb,Ws M.BL] []
theorem aoW:aJ Ww:=aL aB _ (ae mP (ae aoV ak))
theorem aoX:aj (Wv (M.BM)):=aH (cx:=Ww) true aoW Tryz.func219 hq ⟨zs0,fun x=>x.1.1⟩ (fun x=>by kernel_rfl)
def Wx(m:M.aP->Option Bool):ax K:=cB 14 kR (fun x=>m x.1.1)
def Wy:Cx K:=aQ [(36,.plain)] [V7 M.A8] []
theorem aoY:aJ Wy:=aL aB _ (ae aoL ak)
theorem aoZ:aj (Wx (M.Ba)):=aH (cx:=Wy) true aoY Tryz.func14 hq ⟨zs0,fun x=>x.1.1⟩ (fun x=>by kernel_rfl)
def WA(m:M.bK->M.bK->Option Bool):ax K:=cB 59 ⟨[.el U.ef,.el U.ef],[]⟩ (fun x=>m x.1.1 x.1.2.1)
theorem ao0:aj (WA (M.BN)):=aH (cx:=di) true dk Tryz.func59 hq ⟨zs0,fun x=>x.1.1⟩ (fun x=>by kernel_rfl)
def WB:bo K:=bB D false 27 0 [0,1,5] [4] WC (fun x=>M.vn x.1.1 x.1.2.1 af x.1.2.2.1) iU
def WE(m:(List M.bK)->(List M.bK)->Option Bool):ax K:=cB 27 ⟨[.ah U.ef,.ah U.ef],[]⟩ (fun x=>m x.1.1 x.1.2.1)
def Hu:Cx K:=aQ [(59,.plain)] [WA M.BN] [(4,WB)]
theorem WG:aJ Hu:=aL aB _ (ae ao0 ak)
theorem ao1:bn Hu (bc (bm Tryz.f27) 0) WB:=lk (cx:=Hu) (sh:=WC) (run:=fun n x=>M.vn x.1.1 x.1.2.1 n x.1.2.2.1) (bu:=iT) WG (fun m x=>by kernel_rfl) (ae ⟨cn,fun _ _ _=>rfl⟩ (ae ⟨bD,fun _ _ _=>rfl⟩ ak))
theorem ao2:aj (WE (M.BO)):=aH (cx:=Hu) true WG Tryz.func27 (hl1 ao1) ⟨zs0,fun x=>x.1.1⟩ (fun x=>by kernel_rfl)
def WH(m:M.bH->M.bH->Option Bool):ax K:=cB 60 ⟨[.el U.Lower,.el U.Lower],[]⟩ (fun x=>m x.1.1 x.1.2.1)
theorem ao3:aj (WH (M.BP)):=aH (cx:=di) true dk Tryz.func60 hq ⟨zs0,fun x=>x.1.1⟩ (fun x=>by kernel_rfl)
def WI:bo K:=bB D false 27 0 [0,1,5] [4] WJ (fun x=>M.vo x.1.1 x.1.2.1 af x.1.2.2.1) iU
def WL(m:(List M.bH)->(List M.bH)->Option Bool):ax K:=cB 28 ⟨[.ah U.Lower,.ah U.Lower],[]⟩ (fun x=>m x.1.1 x.1.2.1)
def Hw:Cx K:=aQ [(60,.plain)] [WH M.BP] [(4,WI)]
theorem WM:aJ Hw:=aL aB _ (ae ao3 ak)
theorem ao4:bn Hw (bc (bm Tryz.f28) 0) WI:=lk (cx:=Hw) (sh:=WJ) (run:=fun n x=>M.vo x.1.1 x.1.2.1 n x.1.2.2.1) (bu:=iT) WM (fun m x=>by kernel_rfl) (ae ⟨cn,fun _ _ _=>rfl⟩ (ae ⟨bD,fun _ _ _=>rfl⟩ ak))
theorem ao5:aj (WL (M.BQ)):=aH (cx:=Hw) true WM Tryz.func28 (hl1 ao4) ⟨zs0,fun x=>x.1.1⟩ (fun x=>by kernel_rfl)
def WN(m:M.bF->M.bF->Option Bool):ax K:=cB 61 ⟨[.el U.Builtin,.el U.Builtin],[]⟩ (fun x=>m x.1.1 x.1.2.1)
theorem ao6:aj (WN (M.BR)):=aH (cx:=di) true dk Tryz.func61 hq ⟨zs0,fun x=>x.1.1⟩ (fun x=>by kernel_rfl)
def WO:bo K:=bB D false 27 0 [0,1,5] [4] WQ (fun x=>M.vp x.1.1 x.1.2.1 af x.1.2.2.1) iU
def WR(m:(List M.bF)->(List M.bF)->Option Bool):ax K:=cB 29 ⟨[.ah U.Builtin,.ah U.Builtin],[]⟩ (fun x=>m x.1.1 x.1.2.1)
def Hy:Cx K:=aQ [(61,.plain)] [WN M.BR] [(4,WO)]
theorem WS:aJ Hy:=aL aB _ (ae ao6 ak)
theorem ao7:bn Hy (bc (bm Tryz.f29) 0) WO:=lk (cx:=Hy) (sh:=WQ) (run:=fun n x=>M.vp x.1.1 x.1.2.1 n x.1.2.2.1) (bu:=iT) WS (fun m x=>by kernel_rfl) (ae ⟨cn,fun _ _ _=>rfl⟩ (ae ⟨bD,fun _ _ _=>rfl⟩ ak))
theorem ao8:aj (WR (M.BU)):=aH (cx:=Hy) true WS Tryz.func29 (hl1 ao7) ⟨zs0,fun x=>x.1.1⟩ (fun x=>by kernel_rfl)
def WT(m:M.aP->M.aP->Option Bool):ax K:=cB 8 ⟨[.el U.eG,.el U.eG],[]⟩ (fun x=>m x.1.1 x.1.2.1)
def WU:Cx K:=aQ [(25,.plain),(26,.plain),(27,.plain),(28,.plain),(29,.plain)] [Ua M.xX,WV M.BV,WE M.BO,WL M.BQ,WR M.BU] []
theorem ao9:aJ WU:=aL aB _ (ae ano (ae apa (ae ao2 (ae ao5 (ae ao8 ak)))))
theorem apb:aj (WT (M.BW)):=aH (cx:=WU) true ao9 Tryz.func8 hq ⟨zs0,fun x=>x.1.1⟩ (fun x=>by kernel_rfl)
def apc(y:Bool⊕(M.aM×(List (List UInt8))×(List (List UInt8)))){R:Type}(k:KT R):R:=match y with|.inl a0=>kk k Ex.ret WW (((),((),((),(a0,())))),((),((),((),((),((),()))))))|.inr a1=>kk k (Ex.exit 0) WX (((),((),((),((),())))),(a1.1,((),((),(a1.2.1,(a1.2.2,()))))))
def apd:List (cq K ((Bool)⊕(M.aM×(List (List UInt8))×(List (List UInt8))))):=[⟨Ex.ret,WW,fun x=>.inl x.1.2.2.2.1⟩,⟨(Ex.exit 0),WX,fun x=>.inr ((x.2.1,x.2.2.2.2.1,x.2.2.2.2.2.1))⟩]
def WY:bo K:=bB D false 66 3 [1,3,4,28,29,30] [1,3,4,2] WZ (fun x=>M.sk x.1.2.2.2.1 x.1.2.2.2.2.1 x.2.1 x.2.2.2.2.2.1 af x.1.2.2.2.2.2.1 x.2.2.2.2.1) apc
def ape(y:Bool⊕((List (List UInt8))×(List (List UInt8)))){R:Type}(k:KT R):R:=match y with|.inl a0=>kk k Ex.ret W0 (((),((),(a0,()))),((),((),((),((),())))))|.inr a1=>kk k (Ex.exit 2) W4 (((),((),((),()))),((),((),(a1.1,(a1.2,())))))
def apf:List (cq K ((Bool)⊕((List (List UInt8))×(List (List UInt8))))):=[⟨Ex.ret,W0,fun x=>.inl x.1.2.2.1⟩,⟨(Ex.exit 2),W4,fun x=>.inr ((x.2.2.2.1,x.2.2.2.2.1))⟩]
def W5:bo K:=bB D false 66 2 [3,4,45,46,47] [3,4,2] W6 (fun x=>M.sn x.1.2.2.1 x.1.2.2.2.1 x.2.2.2.1 af x.1.2.2.2.2.1 x.2.2.2.2.1) ape
def W7:bo K:=bB D false 32 0 [0,5,6] [0,2] Hz (fun x=>M.vq x.1.1 x.1.2.1 af x.1.2.2.1) M5
def W8(m:(List UInt8)->Option Bool):ax K:=cB 263 dO (fun x=>m x.1.1)
def HA:Cx K:=aQ [(305,.plain),(306,.plain),(307,.plain),(308,.plain),(87,.plain)] [W9 M.Xa,Xb M.Xc,M6 M.strings_IndexByte,Xd M.Xe,ma M.mb] [(2,W7)]
theorem Xf:aJ HA:=aL aB _ (ae apg (ae aph (ae api (ae apj (ae mP ak)))))
theorem apk:bn HA (bc (bm Tryz.f263) 0) W7:=lk (cx:=HA) (sh:=Hz) (run:=fun n x=>M.vq x.1.1 x.1.2.1 n x.1.2.2.1) (bu:=M7) Xf (fun m x=>by kernel_rfl) (ae ⟨cn,fun _ _ _=>rfl⟩ (ae ⟨bD,fun _ _ _=>rfl⟩ ak))
theorem apl:aj (W8 (M.BX)):=aH (cx:=HA) true Xf Tryz.func263 (hl1 apk) ⟨zs0,fun x=>x.1.1⟩ (fun x=>by kernel_rfl)
def Xg(m:(List UInt8)->Option Bool):ax K:=cB 262 dO (fun x=>m x.1.1)
def Xh:Cx K:=aQ [(263,.plain)] [W8 M.BX] []
theorem apm:aJ Xh:=aL aB _ (ae apl ak)
theorem apn:aj (Xg (M.BY)):=aH (cx:=Xh) true apm Tryz.func262 hq ⟨zs0,fun x=>x.1.1⟩ (fun x=>by kernel_rfl)
def Xi:bo K:=bB D false 19 0 [0,1,7,8] [4] Xj (fun x=>M.vt x.1.1 x.1.2.2.1 af x.1.2.2.2.1) iW
def Xk(m:(List (List UInt8))->Option Int):ax K:=cI 211 ⟨[.ah U.str,.fn 262 []],[]⟩ (fun x=>m x.1.1)
def HD:Cx K:=aQ [(262,.plain)] [Xg M.BY] [(2,Xi)]
theorem Xl:aJ HD:=aL aB _ (ae apn ak)
theorem apo:bn HD (bc (bm Tryz.f211) 0) Xi:=lk (cx:=HD) (sh:=Xj) (run:=fun n x=>M.vt x.1.1 x.1.2.2.1 n x.1.2.2.2.1) (bu:=iY) Xl (fun m x=>by kernel_rfl) (ae ⟨cn,fun _ _ _=>rfl⟩ (ae ⟨bD,fun _ _ _=>rfl⟩ ak))
theorem apq:aj (Xk (M.HE)):=aH (cx:=HD) true Xl Tryz.func211 (hl1 apo) ⟨zs1,fun x=>x.1.1⟩ (fun x=>by kernel_rfl)
def Xm(m:(List (List UInt8))->Option Bool):ax K:=cB 165 ⟨[.ah U.str,.fn 262 []],[]⟩ (fun x=>m x.1.1)
def Xn:Cx K:=aQ [(211,.plain)] [Xk M.HE] []
theorem apr:aJ Xn:=aL aB _ (ae apq ak)
theorem aps:aj (Xm (M.BZ)):=aH (cx:=Xn) true apr Tryz.func165 hq ⟨zs0,fun x=>x.1.1⟩ (fun x=>by kernel_rfl)
def Xo(m:(List (List UInt8))->Option Bool):ax K:=cB 220 iu (fun x=>m x.1.1)
def Xp:Cx K:=aQ [(137,.plain),(165,.plain)] [ym M.kS,Xm M.BZ] []
theorem apt:aJ Xp:=aL aB _ (ae HG (ae aps ak))
theorem apu:aj (Xo (M.yn)):=aH (cx:=Xp) true apt Tryz.func220 hq ⟨zs0,fun x=>x.1.1⟩ (fun x=>by kernel_rfl)
def HH(m:M.aM->Option Bool):ax K:=cB 176 lK (fun x=>m x.1.1)
def yo:Cx K:=aQ [(87,.plain),(219,.plain),(220,.plain)] [ma M.mb,Wv M.BM,Xo M.yn] [(5,WY),(12,W5)]
theorem M8:aJ yo:=aL aB _ (ae mP (ae aoX (ae apu ak)))
theorem apv:bn yo (bc (bm Tryz.f176) 0) WY:=lk (cx:=yo) (sh:=WZ) (run:=fun n x=>M.sk x.1.2.2.2.1 x.1.2.2.2.2.1 x.2.1 x.2.2.2.2.2.1 n x.1.2.2.2.2.2.1 x.2.2.2.2.1) (bu:=apd) M8 (fun m x=>by kernel_rfl) (ae ⟨cn,fun _ _ _=>rfl⟩ (ae ⟨bD,fun _ _ _=>rfl⟩ ak))
theorem apw:bn yo (bc (bm Tryz.f176) 1) W5:=lk (cx:=yo) (sh:=W6) (run:=fun n x=>M.sn x.1.2.2.1 x.1.2.2.2.1 x.2.2.2.1 n x.1.2.2.2.2.1 x.2.2.2.2.1) (bu:=apf) M8 (fun m x=>by kernel_rfl) (ae ⟨cn,fun _ _ _=>rfl⟩ (ae ⟨bD,fun _ _ _=>rfl⟩ ak))
theorem M9:aj (HH (M.qm)):=aH (cx:=yo) true M8 Tryz.func176 (hl2 apv apw) ⟨zs0,fun x=>x.1.1⟩ (fun x=>by kernel_rfl)
def Xq:bo K:=bB D false 30 1 [1,12,13] [2,3,4] Xr (fun x=>M.so x.1.2.1 x.2.1 af x.1.2.2.1) UL
def Xs(m:M.aM->Option (Int×Int×Int)):ax K:={f:=177,sh:=lK,R:=Int×Int×Int,run:=fun x=>m x.1.1,dflt:=default,out:=fun r=>(Sh.enc D (.bU [iq0,iq0,iq0]) (r.1,(r.2.1,(r.2.2,()))),bh.encs D [] ())}
def HJ:Cx K:=aQ [(221,.plain),(222,.fresh)] [Na M.Nb,Xt M.B0] [(2,Xq)]
theorem Xu:aJ HJ:=aL aB _ (ae Xv (ae apx ak))
theorem apy:bn HJ (bc (bm Tryz.f177) 0) Xq:=lk (cx:=HJ) (sh:=Xr) (run:=fun n x=>M.so x.1.2.1 x.2.1 n x.1.2.2.1) (bu:=UO) Xu (fun m x=>by kernel_rfl) (ae ⟨cn,fun _ _ _=>rfl⟩ (ae ⟨bD,fun _ _ _=>rfl⟩ ak))
theorem apz:aj (Xs (M.B6)):=aH (cx:=HJ) true Xu Tryz.func177 (hl1 apy) ⟨MQ,fun x=>(x.1.1.1,x.1.1.2.1,x.1.1.2.2.1)⟩ (fun x=>by kernel_rfl)
def Xw(m:M.aM->Option (Int×Int×Int)):ax K:={f:=131,sh:=lK,R:=Int×Int×Int,run:=fun x=>m x.1.1,dflt:=default,out:=fun r=>(Sh.enc D (.bU [iq0,iq0,iq0]) (r.1,(r.2.1,(r.2.2,()))),bh.encs D [] ())}
def Xx:Cx K:=aQ [(176,.plain),(177,.plain)] [HH M.qm,Xs M.B6] []
theorem apA:aJ Xx:=aL aB _ (ae M9 (ae apz ak))
theorem apB:aj (Xw (M.B7)):=aH (cx:=Xx) true apA Tryz.func131 hq ⟨MQ,fun x=>(x.1.1.1,x.1.1.2.1,x.1.1.2.2.1)⟩ (fun x=>by kernel_rfl)
def Xy(m:M.aM->Option Bool):ax K:=cB 86 lK (fun x=>m x.1.1)
def Xz:Cx K:=aQ [(131,.plain)] [Xw M.B7] []
theorem apC:aJ Xz:=aL aB _ (ae apB ak)
theorem apD:aj (Xy (M.B8)):=aH (cx:=Xz) true apC Tryz.func86 hq ⟨zs0,fun x=>x.1.1⟩ (fun x=>by kernel_rfl)
def apE(y:(List M.ar)×Int×Int×(List M.cO)){R:Type}(k:KT R):R:=match y with|a0=>kk k (Ex.exit 2) XA (((),(a0.1,(a0.2.1,(a0.2.2.1,())))),((),((),(a0.2.2.2,()))))
def apF:List (cq K ((List M.ar)×Int×Int×(List M.cO))):=[⟨(Ex.exit 2),XA,fun x=>(x.1.2.1,x.1.2.2.1,x.1.2.2.2.1,x.2.2.2.1)⟩]
def XB:bo K:=bB D false 35 2 [3,5,9,10,11,16,17,18] [3,9,10,11] XC (fun x=>M.rI x.1.2.2.1 x.1.2.2.2.1 x.1.2.2.2.2.1 x.1.2.2.2.2.2.1 x.1.2.2.2.2.2.2.1 x.2.2.1 af x.1.2.2.2.2.2.2.2.1 x.2.2.2.1) apE
def apG(y:(List M.cO)){R:Type}(k:KT R):R:=match y with|a0=>kk k (Ex.exit 0) ⟨[.own 1],[.dead,.arr U.bound]⟩ (((),()),((),(a0,())))
def apH:List (cq K ((List M.cO))):=[⟨(Ex.exit 0),⟨[.own 1],[.dead,.arr U.bound]⟩,fun x=>x.2.2.1⟩]
def XD:bo K:=bB D false 35 1 [3,9,10,11] [3] XE (fun x=>M.nY af x.1.2.1 x.1.2.2.1 x.1.2.2.2.1 x.2.2.1) apG
def Nc(m:(List M.ar)->Option ((List M.cO))):ax K:={f:=132,sh:=B9,R:=(List M.cO),run:=fun x=>m x.1.1,dflt:=default,out:=fun r=>(Sh.enc D (.ah U.bound) r,bh.encs D [] ())}
def yp:Cx K:=aQ [(93,.plain)] [Cb M.kO] [(6,XB),(3,XD)]
theorem Nh:aJ yp:=aL aB _ (ae HK ak)
theorem apI:bn yp (bc (bc (bm Tryz.f132) 0) 0) XB:=lk (cx:=yp) (sh:=XC) (run:=fun n x=>M.rI x.1.2.2.1 x.1.2.2.2.1 x.1.2.2.2.2.1 x.1.2.2.2.2.2.1 x.1.2.2.2.2.2.2.1 x.2.2.1 n x.1.2.2.2.2.2.2.2.1 x.2.2.2.1) (bu:=apF) Nh (fun m x=>by kernel_rfl) (ae ⟨bD,fun _ _ _=>rfl⟩ ak)
theorem apJ:bn yp (bc (bm Tryz.f132) 0) XD:=lk (cx:=yp) (sh:=XE) (run:=fun n x=>M.nY n x.1.2.1 x.1.2.2.1 x.1.2.2.2.1 x.2.2.1) (bu:=apH) Nh (fun m x=>by kernel_rfl) (ae ⟨bD,fun _ _ _=>rfl⟩ ak) (hl:=(kd 1 (by kernel_rfl) (kQ (.mk (by kernel_rfl) apI))))
theorem XF:aj (Nc (M.uP)):=aH (cx:=yp) true Nh Tryz.func132 (hl1 apJ) ⟨⟨[.ah U.bound],[]⟩,fun x=>x.1.1⟩ (fun x=>by kernel_rfl)
def XG(m:M.an->(List UInt8)->Option Bool):ax K:=cB 179 ⟨[.el U.Core,.rp U.str 0],[]⟩ (fun x=>m x.1.1 x.1.2.1)
theorem apK:aj (XG (M.XH)):=aH (cx:=di) true dk Tryz.func179 hq ⟨zs0,fun x=>x.1.1⟩ (fun x=>by kernel_rfl)
def XI:bo K:=bB D false 19 0 [0,1,7,8] [4] XJ (fun x=>M.uL x.1.1 x.1.2.1.1 x.1.2.2.1 af x.1.2.2.2.1) iW
def XK(m:(List M.an)->(List UInt8)->Option Int):ax K:=cI 178 ⟨[.ah U.Core,.fn 179 [.rp U.str 0]],[]⟩ (fun x=>m x.1.1 x.1.2.1.1)
def HM:Cx K:=aQ [(179,.plain)] [XG M.XH] [(2,XI)]
theorem XL:aJ HM:=aL aB _ (ae apK ak)
theorem apL:bn HM (bc (bm Tryz.f178) 0) XI:=lk (cx:=HM) (sh:=XJ) (run:=fun n x=>M.uL x.1.1 x.1.2.1.1 x.1.2.2.1 n x.1.2.2.2.1) (bu:=iY) XL (fun m x=>by kernel_rfl) (ae ⟨cn,fun _ _ _=>rfl⟩ (ae ⟨bD,fun _ _ _=>rfl⟩ ak))
theorem apM:aj (XK (M.Gm)):=aH (cx:=HM) true XL Tryz.func178 (hl1 apL) ⟨zs1,fun x=>x.1.1⟩ (fun x=>by kernel_rfl)
def XM(m:M.aM->(List UInt8)->Option (Int×Bool)):ax K:={f:=133,sh:=GK,R:=Int×Bool,run:=fun x=>m x.1.1 x.1.2.1,dflt:=default,out:=fun r=>(Sh.enc D (.bU [iq0,.bool]) (r.1,(r.2,())),bh.encs D [] ())}
def XN:Cx K:=aQ [(178,.plain),(176,.plain)] [XK M.Gm,HH M.qm] []
theorem apN:aJ XN:=aL aB _ (ae apM (ae M9 ak))
theorem apO:aj (XM (M.AW)):=aH (cx:=XN) true apN Tryz.func133 hq ⟨BG,fun x=>(x.1.1.1,x.1.1.2.1)⟩ (fun x=>by kernel_rfl)
def kT(m:(List M.aa)->Option ((List Int))):ax K:={f:=224,sh:=lM,R:=(List Int),run:=fun x=>m x.1.1,dflt:=default,out:=fun r=>(Sh.enc D (.ah U.i64) r,bh.encs D [] ())}
def XO(m:M.aa->Option ((List M.aa))):ax K:={f:=316,sh:=gV,R:=(List M.aa),run:=fun x=>m x.1.1,dflt:=default,out:=fun r=>(Sh.enc D (.ah U.Type) r,bh.encs D [] ())}
theorem apP:aj (XO (M.HO)):=aH (cx:=di) true dk Tryz.func316 hq ⟨lM,fun x=>x.1.1⟩ (fun x=>by kernel_rfl)
def sq(m:M.aa->Option ((List Int))):ax K:={f:=268,sh:=gV,R:=(List Int),run:=fun x=>m x.1.1,dflt:=default,out:=fun r=>(Sh.enc D (.ah U.i64) r,bh.encs D [] ())}
def XP:bo K:=bB D false 47 1 [0,1,5,13,14] [5] XQ (fun x=>M.sr x.1.1 x.1.2.1 x.1.2.2.2.1 af x.1.2.2.2.2.1 x.2.2.1) GV
def XR(m:(List Int)->(List Int)->Option ((List Int))):ax K:={f:=317,sh:=⟨[.ah U.i64,.ah U.i64],[]⟩,R:=(List Int),run:=fun x=>m x.1.1 x.1.2.1,dflt:=default,out:=fun r=>(Sh.enc D (.own 0) (),bh.encs D [.arr U.i64] (r,()))}
def HQ:Cx K:={js with mode:=ir .plain [],mN:=[[some U.i64]],call:=callOf D [],loop:=gu [(3,XP)]}
theorem XS:aJ HQ:=aL aB _ ak
theorem apQ:bn HQ (bc (bm Tryz.f317) 0) XP:=lk (cx:=HQ) (sh:=XQ) (run:=fun n x=>M.sr x.1.1 x.1.2.1 x.1.2.2.2.1 n x.1.2.2.2.2.1 x.2.2.1) (bu:=GY) XS (fun m x=>by kernel_rfl) (ae ⟨bD,fun _ _ _=>rfl⟩ ak)
theorem apR:aj (XR (M.Cc)):=aH (cx:=HQ) false XS Tryz.func317 (hl1 apQ) ⟨MV,fun x=>x.2.1⟩ (fun x=>by kernel_rfl)
def XT(fN:M.aa->Option ((List Int))):bo K:=bB D false 45 1 [3,30,31,32] [3] HS (fun x=>M.su fN x.1.2.1 x.1.2.2.1 af x.1.2.2.2.1 x.2.2.1) Vq
def HU(cV:(List M.aa)->Option ((List Int)))(fN:M.aa->Option ((List Int))):Cx K:=aQ [(224,.cT),(316,.cT),(268,.cT),(317,.fresh)] [kT cV,XO M.HO,sq fN,XR M.Cc] [(17,XT fN)]
theorem XU(cV:(List M.aa)->Option ((List Int)))(iZ:aj (kT cV))(fN:M.aa->Option ((List Int)))(yq:aj (sq fN)):aJ (HU cV fN):=aL aB _ (ae iZ (ae apP (ae yq (ae apR ak))))
theorem apS(cV:(List M.aa)->Option ((List Int)))(iZ:aj (kT cV))(fN:M.aa->Option ((List Int)))(yq:aj (sq fN)):bn (HU cV fN) (bc (bm Tryz.f268) 0) (XT fN):=lk (cx:=HU cV fN) (sh:=HS) (run:=fun n x=>M.su fN x.1.2.1 x.1.2.2.1 n x.1.2.2.2.1 x.2.2.1) (bu:=Vr) (XU cV iZ fN yq) (fun m x=>by kernel_rfl) (ae ⟨bD,fun _ _ _=>rfl⟩ ak)
theorem apT(cV:(List M.aa)->Option ((List Int)))(iZ:aj (kT cV))(fN:M.aa->Option ((List Int)))(yq:aj (sq fN)):aj (sq (M.HV cV fN)):=eR (cx:=HU cV fN) (fz:=true) aB (XU cV iZ fN yq) cG ⟨Tryz.func268,by kernel_rfl⟩ (hl1 (apS cV iZ fN yq)) ⟨sc,fun x=>x.1.1⟩ (fun x=>rfl) (fun x=>by kernel_rfl)
theorem XV(cV:(List M.aa)->Option ((List Int)))(iZ:aj (kT cV)):∀n,aj (sq (M.sw cV n))|0=>ia fun _=>rfl|n+1=>apT cV iZ (M.sw cV n) (XV cV iZ n)
theorem apU(cV:(List M.aa)->Option ((List Int)))(iZ:aj (kT cV)):aj (sq (M.HY cV)):=XV cV iZ af
def XW(cV:(List M.aa)->Option ((List Int))):bo K:=bB D false 19 1 [3,7,8,9] [3] HS (fun x=>M.sx cV x.1.2.1 x.1.2.2.1 af x.1.2.2.2.1 x.2.2.1) GV
def HZ(cV:(List M.aa)->Option ((List Int))):Cx K:=aQ [(268,.cT)] [sq (M.HY cV)] [(3,XW cV)]
theorem XX(cV:(List M.aa)->Option ((List Int)))(iZ:aj (kT cV)):aJ (HZ cV):=aL aB _ (ae (apU cV iZ) ak)
theorem apV(cV:(List M.aa)->Option ((List Int)))(iZ:aj (kT cV)):bn (HZ cV) (bc (bm Tryz.f224) 0) (XW cV):=lk (cx:=HZ cV) (sh:=HS) (run:=fun n x=>M.sx cV x.1.2.1 x.1.2.2.1 n x.1.2.2.2.1 x.2.2.1) (bu:=GY) (XX cV iZ) (fun m x=>by kernel_rfl) (ae ⟨bD,fun _ _ _=>rfl⟩ ak)
theorem apW(cV:(List M.aa)->Option ((List Int)))(iZ:aj (kT cV)):aj (kT (M.H3 cV)):=eR (cx:=HZ cV) (fz:=true) aB (XX cV iZ) cG ⟨Tryz.func224,by kernel_rfl⟩ (hl1 (apV cV iZ)) ⟨sc,fun x=>x.1.1⟩ (fun x=>rfl) (fun x=>by kernel_rfl)
theorem XY:∀n,aj (kT (M.qn n))|0=>ia fun _=>rfl|n+1=>apW (M.qn n) (XY n)
theorem XZ:aj (kT (M.yt)):=XY af
def X0(m:(List M.aa)->Option Bool):ax K:=cB 223 lM (fun x=>m x.1.1)
def X1:Cx K:=aQ [(224,.cT)] [kT M.yt] []
theorem apX:aJ X1:=aL aB _ (ae XZ ak)
theorem apY:aj (X0 (M.H4)):=aH (cx:=X1) true apX Tryz.func223 hq ⟨zs0,fun x=>x.1.1⟩ (fun x=>by kernel_rfl)
def X2(m:(List M.aa)->Option ((List Int))):ax K:={f:=181,sh:=lM,R:=(List Int),run:=fun x=>m x.1.1,dflt:=default,out:=fun r=>(Sh.enc D (.ah U.i64) r,bh.encs D [] ())}
def X3:Cx K:=aQ [(223,.plain),(224,.cT)] [X0 M.H4,kT M.yt] []
theorem apZ:aJ X3:=aL aB _ (ae apY (ae XZ ak))
theorem ap0:aj (X2 (M.H5)):=aH (cx:=X3) true apZ Tryz.func181 hq ⟨sc,fun x=>x.1.1⟩ (fun x=>by kernel_rfl)
def Ni(m:M.ay->Option (Int×Bool)):ax K:={f:=134,sh:=lL,R:=Int×Bool,run:=fun x=>m x.1.1,dflt:=default,out:=fun r=>(Sh.enc D (.bU [iq0,.bool]) (r.1,(r.2,())),bh.encs D [] ())}
def X4:Cx K:=aQ [(173,.plain),(181,.cT),(180,.plain),(140,.plain)] [ax.X5 D (Nj M.qo),X2 M.H5,H6 M.H7,yu M.yv] []
theorem ap1:aJ X4:=aL aB _ (ae (ax.ap2 aB X6 rfl (fun _=>rfl)) (ae ap0 (ae Nk (ae Cd ak))))
theorem X7:aj (Ni (M.nZ)):=aH (cx:=X4) true ap1 Tryz.func134 hq ⟨BG,fun x=>(x.1.1.1,x.1.1.2.1)⟩ (fun x=>by kernel_rfl)
def X8:bo K:=bB D false 84 1 [1,3,21,22,23] [2] X9 (fun x=>M.uQ x.1.2.1 x.1.2.2.1 x.1.2.2.2.1 x.2.1 af x.1.2.2.2.2.1) rP
def Ya(m:M.aP->Option Bool):ax K:=cB 88 kR (fun x=>m x.1.1)
def H8:Cx K:=aQ [(132,.cT),(133,.plain),(134,.plain)] [Nc M.uP,XM M.AW,Ni M.nZ] [(5,X8)]
theorem Yb:aJ H8:=aL aB _ (ae XF (ae apO (ae X7 ak)))
theorem ap3:bn H8 (bc (bm Tryz.f88) 0) X8:=lk (cx:=H8) (sh:=X9) (run:=fun n x=>M.uQ x.1.2.1 x.1.2.2.1 x.1.2.2.2.1 x.2.1 n x.1.2.2.2.2.1) (bu:=rQ) Yb (fun m x=>by kernel_rfl) (ae ⟨cn,fun _ _ _=>rfl⟩ (ae ⟨bD,fun _ _ _=>rfl⟩ ak))
theorem ap4:aj (Ya (M.AX)):=aH (cx:=H8) true Yb Tryz.func88 (hl1 ap3) ⟨zs0,fun x=>x.1.1⟩ (fun x=>by kernel_rfl)
def Yc(m:M.aN->(List UInt8)->Option Bool):ax K:=cB 183 ⟨[.el U.Import,.rp U.str 0],[]⟩ (fun x=>m x.1.1 x.1.2.1)
theorem ap5:aj (Yc (M.Yd)):=aH (cx:=di) true dk Tryz.func183 hq ⟨zs0,fun x=>x.1.1⟩ (fun x=>by kernel_rfl)
def Ye:bo K:=bB D false 19 0 [0,1,7,8] [4] Yf (fun x=>M.uN x.1.1 x.1.2.1.1 x.1.2.2.1 af x.1.2.2.2.1) iW
def Yg(m:(List M.aN)->(List UInt8)->Option Int):ax K:=cI 182 ⟨[.ah U.Import,.fn 183 [.rp U.str 0]],[]⟩ (fun x=>m x.1.1 x.1.2.1.1)
def H9:Cx K:=aQ [(183,.plain)] [Yc M.Yd] [(2,Ye)]
theorem Yh:aJ H9:=aL aB _ (ae ap5 ak)
theorem ap6:bn H9 (bc (bm Tryz.f182) 0) Ye:=lk (cx:=H9) (sh:=Yf) (run:=fun n x=>M.uN x.1.1 x.1.2.1.1 x.1.2.2.1 n x.1.2.2.2.1) (bu:=iY) Yh (fun m x=>by kernel_rfl) (ae ⟨cn,fun _ _ _=>rfl⟩ (ae ⟨bD,fun _ _ _=>rfl⟩ ak))
theorem ap7:aj (Yg (M.Gn)):=aH (cx:=H9) true Yh Tryz.func182 (hl1 ap6) ⟨zs1,fun x=>x.1.1⟩ (fun x=>by kernel_rfl)
def Nl(m:M.aM->(List UInt8)->Option (Int×Bool)):ax K:={f:=135,sh:=GK,R:=Int×Bool,run:=fun x=>m x.1.1 x.1.2.1,dflt:=default,out:=fun r=>(Sh.enc D (.bU [iq0,.bool]) (r.1,(r.2,())),bh.encs D [] ())}
def Yi:Cx K:=aQ [(182,.plain),(176,.plain)] [Yg M.Gn,HH M.qm] []
theorem ap8:aJ Yi:=aL aB _ (ae ap7 (ae M9 ak))
theorem Yj:aj (Nl (M.uM)):=aH (cx:=Yi) true ap8 Tryz.func135 hq ⟨BG,fun x=>(x.1.1.1,x.1.1.2.1)⟩ (fun x=>by kernel_rfl)
def Yk:bo K:=bB D false 84 1 [1,3,21,22,23] [2] Yl (fun x=>M.uR x.1.2.1 x.1.2.2.1 x.1.2.2.2.1 x.2.1 af x.1.2.2.2.2.1) rP
def Ym(m:M.aP->Option Bool):ax K:=cB 89 kR (fun x=>m x.1.1)
def Ia:Cx K:=aQ [(132,.cT),(135,.plain),(134,.plain)] [Nc M.uP,Nl M.uM,Ni M.nZ] [(5,Yk)]
theorem Yn:aJ Ia:=aL aB _ (ae XF (ae Yj (ae X7 ak)))
theorem ap9:bn Ia (bc (bm Tryz.f89) 0) Yk:=lk (cx:=Ia) (sh:=Yl) (run:=fun n x=>M.uR x.1.2.1 x.1.2.2.1 x.1.2.2.2.1 x.2.1 n x.1.2.2.2.2.1) (bu:=rQ) Yn (fun m x=>by kernel_rfl) (ae ⟨cn,fun _ _ _=>rfl⟩ (ae ⟨bD,fun _ _ _=>rfl⟩ ak))
theorem aqa:aj (Ym (M.AY)):=aH (cx:=Ia) true Yn Tryz.func89 (hl1 ap9) ⟨zs0,fun x=>x.1.1⟩ (fun x=>by kernel_rfl)
def aqb(y:(Bool×M.ar)⊕((List UInt8)×(List UInt8)×(List UInt8)×(List (List UInt8))×(List M.aF))){R:Type}(k:KT R):R:=match y with|.inl a0=>kk k Ex.ret Yo (((),(a0.1,())),(a0.2,((),((),()))))|.inr a1=>kk k (Ex.exit 0) Yp (((),((),())),((a1.1,(a1.2.1,(a1.2.2.1,((),((),()))))),((),((),(a1.2.2.2.1,(a1.2.2.2.2,()))))))
def aqc:List (cq K ((Bool×M.ar)⊕((List UInt8)×(List UInt8)×(List UInt8)×(List (List UInt8))×(List M.aF)))):=[⟨Ex.ret,Yo,fun x=>.inl (x.1.2.1,x.2.1)⟩,⟨(Ex.exit 0),Yp,fun x=>.inr ((x.2.1.1,x.2.1.2.1,x.2.1.2.2.1,x.2.2.2.2.1,x.2.2.2.2.2.1))⟩]
def Yq:bo K:=bB D false 21 3 [1,4,8,9,10] [4,5] Yr (fun x=>M.uS x.1.1 x.1.2.2.1 x.1.2.2.2.1 x.2.1.1 x.2.1.2.1 x.2.1.2.2.1 x.2.2.2.2.1 x.2.2.2.2.2.1 af x.1.2.2.2.2.1) aqb
def Ys(m:(List M.ar)->(List UInt8)->Option (M.ar×Bool)):ax K:={f:=184,sh:=⟨[.ah U.aT,.str],[]⟩,R:=M.ar×Bool,run:=fun x=>m x.1.1 x.1.2.1,dflt:=default,out:=fun r=>(Sh.enc D (.bU [.el U.aT,.bool]) (r.1,(r.2,())),bh.encs D [] ())}
def Ib:Cx K:=aQ [(93,.plain)] [Cb M.kO] [(2,Yq)]
theorem Yt:aJ Ib:=aL aB _ (ae HK ak)
theorem aqd:bn Ib (bc (bm Tryz.f184) 0) Yq:=lk (cx:=Ib) (sh:=Yr) (run:=fun n x=>M.uS x.1.1 x.1.2.2.1 x.1.2.2.2.1 x.2.1.1 x.2.1.2.1 x.2.1.2.2.1 x.2.2.2.2.1 x.2.2.2.2.2.1 n x.1.2.2.2.2.1) (bu:=aqc) Yt (fun m x=>by kernel_rfl) (ae ⟨cn,fun _ _ _=>rfl⟩ (ae ⟨bD,fun _ _ _=>rfl⟩ ak))
theorem aqe:aj (Ys (M.AZ)):=aH (cx:=Ib) true Yt Tryz.func184 (hl1 aqd) ⟨⟨[.bU [.el U.aT,.bool]],[]⟩,fun x=>(x.1.1.1,x.1.1.2.1)⟩ (fun x=>by kernel_rfl)
def Yu(m:(List M.ar)->(List UInt8)->(List UInt8)->Option Bool):ax K:=cB 136 ⟨[.ah U.aT,.str,.str],[]⟩ (fun x=>m x.1.1 x.1.2.1 x.1.2.2.1)
def Yv:Cx K:=aQ [(184,.cT),(170,.plain)] [Ys M.AZ,Nn M.rJ] []
theorem aqf:aJ Yv:=aL aB _ (ae aqe (ae Yw ak))
theorem aqg:aj (Yu (M.xU)):=aH (cx:=Yv) true aqf Tryz.func136 hq ⟨zs0,fun x=>x.1.1⟩ (fun x=>by kernel_rfl)
def aqh(y:Bool⊕(M.aP)){R:Type}(k:KT R):R:=match y with|.inl a0=>kk k Ex.ret xZ (((),(a0,())),((),()))|.inr a1=>kk k (Ex.exit 0) ⟨[.ptr 0 0,.any],[.el U.eG]⟩ (((),((),())),(a1,()))
def aqi:List (cq K ((Bool)⊕(M.aP))):=[⟨Ex.ret,xZ,fun x=>.inl x.1.2.1⟩,⟨(Ex.exit 0),⟨[.ptr 0 0,.any],[.el U.eG]⟩,fun x=>.inr (x.2.1)⟩]
def Yx:bo K:=bB D false 79 1 [1,11,12,13] [1,2] Yy (fun x=>M.uV x.1.2.1 x.1.2.2.1 x.2.1 af x.1.2.2.2.1) aqh
def Yz(m:M.aP->Option Bool):ax K:=cB 90 kR (fun x=>m x.1.1)
def Ic:Cx K:=aQ [(136,.plain),(135,.plain),(87,.plain)] [Yu M.xU,Nl M.uM,ma M.mb] [(2,Yx)]
theorem YA:aJ Ic:=aL aB _ (ae aqg (ae Yj (ae mP ak)))
theorem aqj:bn Ic (bc (bm Tryz.f90) 0) Yx:=lk (cx:=Ic) (sh:=Yy) (run:=fun n x=>M.uV x.1.2.1 x.1.2.2.1 x.2.1 n x.1.2.2.2.1) (bu:=aqi) YA (fun m x=>by kernel_rfl) (ae ⟨cn,fun _ _ _=>rfl⟩ (ae ⟨bD,fun _ _ _=>rfl⟩ ak))
theorem aqk:aj (Yz (M.A4)):=aH (cx:=Ic) true YA Tryz.func90 (hl1 aqj) ⟨zs0,fun x=>x.1.1⟩ (fun x=>by kernel_rfl)
def YB(y:M.aP×(List (List UInt8))){R:Type}(k:KT R):R:=match y with|a0=>kk k (Ex.exit 0) oo (((),((),())),(a0.1,((),(a0.2,()))))
def YC:List (cq K (M.aP×(List (List UInt8)))):=[⟨(Ex.exit 0),oo,fun x=>(x.2.1,x.2.2.2.1)⟩]
def YD:bo K:=bB D false 46 2 [1,3,10,11,12] [1,3] Ie (fun x=>M.uX x.1.2.2.1 x.1.2.2.2.1 x.2.1 af x.1.2.2.2.2.1 x.2.2.2.1) YB
def YE(y:M.aP×(List (List UInt8))){R:Type}(k:KT R):R:=match y with|a0=>kk k (Ex.exit 2) oo (((),((),())),(a0.1,((),(a0.2,()))))
def YF:List (cq K (M.aP×(List (List UInt8)))):=[⟨(Ex.exit 2),oo,fun x=>(x.2.1,x.2.2.2.1)⟩]
def YG:bo K:=bB D false 46 2 [1,3,23,24,25] [1,3] Ig (fun x=>M.uY x.1.2.2.1 x.1.2.2.2.1 x.2.1 af x.1.2.2.2.2.1 x.2.2.2.1) YE
def YH(m:M.aP->Option Bool):ax K:=cB 91 kR (fun x=>m x.1.1)
def yw:Cx K:=aQ [(137,.plain)] [ym M.kS] [(3,YD),(8,YG)]
theorem Np:aJ yw:=aL aB _ (ae HG ak)
theorem aql:bn yw (bc (bm Tryz.f91) 0) YD:=lk (cx:=yw) (sh:=Ie) (run:=fun n x=>M.uX x.1.2.2.1 x.1.2.2.2.1 x.2.1 n x.1.2.2.2.2.1 x.2.2.2.1) (bu:=YC) Np (fun m x=>by kernel_rfl) (ae ⟨bD,fun _ _ _=>rfl⟩ ak)
theorem aqm:bn yw (bc (bm Tryz.f91) 1) YG:=lk (cx:=yw) (sh:=Ig) (run:=fun n x=>M.uY x.1.2.2.1 x.1.2.2.2.1 x.2.1 n x.1.2.2.2.2.1 x.2.2.2.1) (bu:=YF) Np (fun m x=>by kernel_rfl) (ae ⟨bD,fun _ _ _=>rfl⟩ ak)
theorem aqn:aj (YH (M.A6)):=aH (cx:=yw) true Np Tryz.func91 (hl2 aql aqm) ⟨zs0,fun x=>x.1.1⟩ (fun x=>by kernel_rfl)
def YI(m:M.aP->Option ((List UInt8))):ax K:=cS 49 kR (fun x=>m x.1.1)
def YJ:Cx K:=aQ [(82,.plain),(83,.plain),(84,.plain),(85,.plain),(86,.plain),(87,.plain),(88,.plain),(89,.plain),(90,.plain),(91,.plain)] [yx M.jF,Nq M.vu,YK M.yy,Wb M.We,Xy M.B8,ma M.mb,Ya M.AX,Ym M.AY,Yz M.A4,YH M.A6] []
theorem aqo:aJ YJ:=aL aB _ (ae Ce (ae YL (ae aqp (ae aoN (ae apD (ae mP (ae ap4 (ae aqa (ae aqk (ae aqn ak))))))))))
theorem aqr:aj (YI (M.A9)):=aH (cx:=YJ) true aqo Tryz.func49 hq ⟨dO,fun x=>x.1.1⟩ (fun x=>by kernel_rfl)
def YM(m:M.aP->Option Bool):ax K:=cB 22 kR (fun x=>m x.1.1)
def YN:Cx K:=aQ [(49,.plain)] [YI M.A9] []
theorem aqs:aJ YN:=aL aB _ (ae aqr ak)
theorem aqt:aj (YM (M.Bc)):=aH (cx:=YN) true aqs Tryz.func22 hq ⟨zs0,fun x=>x.1.1⟩ (fun x=>by kernel_rfl)
def aqu(y:(List UInt8)){R:Type}(k:KT R):R:=match y with|a0=>kk k (Ex.exit 0) dO ((a0,()),())
def aqv:List (cq K ((List UInt8))):=[⟨(Ex.exit 0),dO,fun x=>x.1.1⟩]
def YO:bo K:=bB D 0 23 0 [0,3,4] [3] ⟨[.ah U.str,.str,iq0],[]⟩ (fun x=>M.yz x.1.1 af x.1.2.1 x.1.2.2.1) aqu
def Nr(m:(List (List UInt8))->Option ((List UInt8))):ax K:=cS 37 iu (fun x=>m x.1.1)
def Ih:Cx K:=aQ [] [] [(3,YO)]
theorem YP:aJ Ih:=aL aB _ ak
theorem aqw:bn Ih (bc (bm Tryz.f37) 0) YO:=dY (cx:=Ih) (sh:=⟨[.ah U.str,.str,iq0],[]⟩) (run:=fun n x=>M.yz x.1.1 n x.1.2.1 x.1.2.2.1) (bu:=aqv) aB YP cG (ed (by kernel_rfl)) (fun _=>rfl) (fun m x=>by kernel_rfl) (ae ⟨bD,fun _ _ _=>rfl⟩ ak) 0 af
theorem YQ:aj (Nr (M.gv)):=aH (cx:=Ih) true YP Tryz.func37 (hl1 aqw) ⟨dO,fun x=>x.1.1⟩ (fun x=>by kernel_rfl)
def YR(m:Option ((List (List UInt8)))):ax K:={f:=38,sh:=sy,R:=(List (List UInt8)),run:=fun x=>m,dflt:=default,out:=fun r=>(Sh.enc D (.ah U.str) r,bh.encs D [] ())}
theorem aqx:aj (YR (M.yA)):=aH (cx:=di) true dk Tryz.func38 hq ⟨iu,fun x=>x.1.1⟩ (fun x=>by kernel_rfl)
def aqy(y:(List UInt8)×M.ar){R:Type}(k:KT R):R:=match y with|a0=>kk k (Ex.exit 0) ⟨[.ptr 0 0,.str],[.el U.aT]⟩ (((),(a0.1,())),(a0.2,()))
def aqz:List (cq K ((List UInt8)×M.ar)):=[⟨(Ex.exit 0),⟨[.ptr 0 0,.str],[.el U.aT]⟩,fun x=>(x.1.2.1,x.2.1)⟩]
def YS:bo K:=bB D 0 60 1 [3,5,6] [3,5] Ii (fun x=>M.oq x.2.1 af x.1.2.1 x.1.2.2.1) aqy
def YT(m:Option ((List (List UInt8)))):ax K:={f:=157,sh:=sy,R:=(List (List UInt8)),run:=fun x=>m,dflt:=default,out:=fun r=>(Sh.enc D (.ah U.str) r,bh.encs D [] ())}
theorem aqA:aj (YT (M.ke)):=aH (cx:=di) true dk Tryz.func157 hq ⟨iu,fun x=>x.1.1⟩ (fun x=>by kernel_rfl)
def qp(m:M.aa->Option ((List UInt8))):ax K:=cS 115 gV (fun x=>m x.1.1)
def aqB(y:(List UInt8)){R:Type}(k:KT R):R:=match y with|a0=>kk k (Ex.exit 1) yB ((a0,()),((),()))
def aqC:List (cq K ((List UInt8))):=[⟨(Ex.exit 1),yB,fun x=>x.1.1⟩]
def YU(dJ:M.aa->Option ((List UInt8))):bo K:=bB D 0 99 1 [1,3,4] [3] Ij (fun x=>M.ot dJ af x.1.2.1 x.1.2.2.1 x.2.1) aqB
def aqD(y:(List UInt8)){R:Type}(k:KT R):R:=match y with|a0=>kk k (Ex.exit 3) yB ((a0,()),((),()))
def aqE:List (cq K ((List UInt8))):=[⟨(Ex.exit 3),yB,fun x=>x.1.1⟩]
def YV(dJ:M.aa->Option ((List UInt8))):bo K:=bB D 0 99 1 [1,3,5] [3] Ij (fun x=>M.ou dJ af x.1.2.1 x.1.2.2.1 x.2.1) aqD
def yC(dJ:M.aa->Option ((List UInt8))):Cx K:=aQ [(157,.cT),(115,.plain)] [YT M.ke,qp dJ] [(7,YU dJ),(18,YV dJ)]
theorem Ns(dJ:M.aa->Option ((List UInt8)))(qq:aj (qp dJ)):aJ (yC dJ):=aL aB _ (ae aqA (ae qq ak))
theorem aqF(dJ:M.aa->Option ((List UInt8)))(qq:aj (qp dJ)):bn (yC dJ) (bc (bm Tryz.f115) 0) (YU dJ):=dY (cx:=yC dJ) (sh:=Ij) (run:=fun n x=>M.ot dJ n x.1.2.1 x.1.2.2.1 x.2.1) (bu:=aqC) aB (Ns dJ qq) cG (ed (by kernel_rfl)) (fun _=>rfl) (fun m x=>by kernel_rfl) (ae ⟨bD,fun _ _ _=>rfl⟩ ak) 0 af
theorem aqG(dJ:M.aa->Option ((List UInt8)))(qq:aj (qp dJ)):bn (yC dJ) (bc (bm Tryz.f115) 1) (YV dJ):=dY (cx:=yC dJ) (sh:=Ij) (run:=fun n x=>M.ou dJ n x.1.2.1 x.1.2.2.1 x.2.1) (bu:=aqE) aB (Ns dJ qq) cG (ed (by kernel_rfl)) (fun _=>rfl) (fun m x=>by kernel_rfl) (ae ⟨bD,fun _ _ _=>rfl⟩ ak) 0 af
theorem aqH(dJ:M.aa->Option ((List UInt8)))(qq:aj (qp dJ)):aj (qp (M.Ik dJ)):=eR (cx:=yC dJ) (fz:=true) aB (Ns dJ qq) cG ⟨Tryz.func115,by kernel_rfl⟩ (hl2 (aqF dJ qq) (aqG dJ qq)) ⟨dO,fun x=>x.1.1⟩ (fun x=>rfl) (fun x=>by kernel_rfl)
theorem YW:∀n,aj (qp (M.kU n))|0=>ia fun _=>rfl|n+1=>aqH (M.kU n) (YW n)
theorem aqI:aj (qp (M.Cf)):=YW af
def aqJ(y:(List UInt8)×M.ay){R:Type}(k:KT R):R:=match y with|a0=>kk k (Ex.exit 0) ⟨[.ptr 0 0,.str],[.el U.fO]⟩ (((),(a0.1,())),(a0.2,()))
def aqK:List (cq K ((List UInt8)×M.ay)):=[⟨(Ex.exit 0),⟨[.ptr 0 0,.str],[.el U.fO]⟩,fun x=>(x.1.2.1,x.2.1)⟩]
def YX:bo K:=bB D 0 48 1 [1,3,4] [1,3] YY (fun x=>M.ov af x.1.2.1 x.1.2.2.1 x.2.1) aqJ
def YZ(m:M.ay->Option ((List UInt8))):ax K:=cS 75 lL (fun x=>m x.1.1)
def Il:Cx K:=aQ [(115,.plain)] [qp M.Cf] [(5,YX)]
theorem Y0:aJ Il:=aL aB _ (ae aqI ak)
theorem aqL:bn Il (bc (bm Tryz.f75) 0) YX:=dY (cx:=Il) (sh:=YY) (run:=fun n x=>M.ov n x.1.2.1 x.1.2.2.1 x.2.1) (bu:=aqK) aB Y0 cG (ed (by kernel_rfl)) (fun _=>rfl) (fun m x=>by kernel_rfl) (ae ⟨bD,fun _ _ _=>rfl⟩ ak) 0 af
theorem aqM:aj (YZ (M.Ci)):=aH (cx:=Il) true Y0 Tryz.func75 (hl1 aqL) ⟨dO,fun x=>x.1.1⟩ (fun x=>by kernel_rfl)
def Y1(y:(List UInt8)){R:Type}(k:KT R):R:=match y with|a0=>kk k (Ex.exit 2) yB ((a0,()),((),()))
def Y2:List (cq K ((List UInt8))):=[⟨(Ex.exit 2),yB,fun x=>x.1.1⟩]
def Y3:bo K:=bB D 0 60 1 [3,5,7] [5] Ii (fun x=>M.ow x.2.1 af x.1.2.1 x.1.2.2.1) Y1
def Y4(m:(List UInt8)->M.ar->Option ((List UInt8))):ax K:=cS 40 ⟨[.str,.el U.aT],[]⟩ (fun x=>m x.1.1 x.1.2.1)
def yD:Cx K:=aQ [(37,.plain),(75,.plain)] [Nr M.gv,YZ M.Ci] [(3,YS),(7,Y3)]
theorem Nu:aJ yD:=aL aB _ (ae YQ (ae aqM ak))
theorem aqN:bn yD (bc (bm Tryz.f40) 0) YS:=dY (cx:=yD) (sh:=Ii) (run:=fun n x=>M.oq x.2.1 n x.1.2.1 x.1.2.2.1) (bu:=aqz) aB Nu cG (ed (by kernel_rfl)) (fun _=>rfl) (fun m x=>by kernel_rfl) (ae ⟨bD,fun _ _ _=>rfl⟩ ak) 0 af
theorem aqO:bn yD (bc (bm Tryz.f40) 1) Y3:=dY (cx:=yD) (sh:=Ii) (run:=fun n x=>M.ow x.2.1 n x.1.2.1 x.1.2.2.1) (bu:=Y2) aB Nu cG (ed (by kernel_rfl)) (fun _=>rfl) (fun m x=>by kernel_rfl) (ae ⟨bD,fun _ _ _=>rfl⟩ ak) 0 af
theorem aqP:aj (Y4 (M.yE)):=aH (cx:=yD) true Nu Tryz.func40 (hl2 aqN aqO) ⟨dO,fun x=>x.1.1⟩ (fun x=>by kernel_rfl)
def aqQ(y:(List UInt8)×M.aP){R:Type}(k:KT R):R:=match y with|a0=>kk k (Ex.exit 0) ox (((),(a0.1,())),(a0.2,()))
def aqR:List (cq K ((List UInt8)×M.aP)):=[⟨(Ex.exit 0),ox,fun x=>(x.1.2.1,x.2.1)⟩]
def Y5:bo K:=bB D 0 151 1 [1,3,4] [1,3] oy (fun x=>M.oz x.2.1 af x.1.2.1 x.1.2.2.1) aqQ
def aqS(y:(List UInt8)×M.aP){R:Type}(k:KT R):R:=match y with|a0=>kk k (Ex.exit 2) ox (((),(a0.1,())),(a0.2,()))
def aqT:List (cq K ((List UInt8)×M.aP)):=[⟨(Ex.exit 2),ox,fun x=>(x.1.2.1,x.2.1)⟩]
def Y6:bo K:=bB D 0 151 1 [1,3,5] [1,3] oy (fun x=>M.oC x.2.1 af x.1.2.1 x.1.2.2.1) aqS
def aqU(y:(List UInt8)×M.aP){R:Type}(k:KT R):R:=match y with|a0=>kk k (Ex.exit 4) ox (((),(a0.1,())),(a0.2,()))
def aqV:List (cq K ((List UInt8)×M.aP)):=[⟨(Ex.exit 4),ox,fun x=>(x.1.2.1,x.2.1)⟩]
def Y7:bo K:=bB D 0 151 1 [1,3,6] [1,3] oy (fun x=>M.oD x.2.1 af x.1.2.1 x.1.2.2.1) aqU
def aqW(y:(List UInt8)×M.aP){R:Type}(k:KT R):R:=match y with|a0=>kk k (Ex.exit 6) ox (((),(a0.1,())),(a0.2,()))
def aqX:List (cq K ((List UInt8)×M.aP)):=[⟨(Ex.exit 6),ox,fun x=>(x.1.2.1,x.2.1)⟩]
def Y8:bo K:=bB D 0 151 1 [1,3,7] [1,3] oy (fun x=>M.oG x.2.1 af x.1.2.1 x.1.2.2.1) aqW
def Y9(m:Option ((List (List UInt8)))):ax K:={f:=41,sh:=sy,R:=(List (List UInt8)),run:=fun x=>m,dflt:=default,out:=fun r=>(Sh.enc D (.ah U.str) r,bh.encs D [] ())}
theorem aqY:aj (Y9 (M.yF)):=aH (cx:=di) true dk Tryz.func41 hq ⟨iu,fun x=>x.1.1⟩ (fun x=>by kernel_rfl)
def aqZ(y:(List UInt8)×M.aP){R:Type}(k:KT R):R:=match y with|a0=>kk k (Ex.exit 8) ox (((),(a0.1,())),(a0.2,()))
def aq0:List (cq K ((List UInt8)×M.aP)):=[⟨(Ex.exit 8),ox,fun x=>(x.1.2.1,x.2.1)⟩]
def Za:bo K:=bB D 0 151 1 [1,3,8] [1,3] oy (fun x=>M.oH x.2.1 af x.1.2.1 x.1.2.2.1) aqZ
def sA(m:Int->Option ((List UInt8))):ax K:=cS 120 zs1 (fun x=>m x.1.1)
def Zb(kV:Int->Option ((List UInt8))):Cx K:=aQ [(120,.plain)] [sA kV] []
theorem aq1(kV:Int->Option ((List UInt8)))(Nv:aj (sA kV)):aJ (Zb kV):=aL aB _ (ae Nv ak)
theorem aq2(kV:Int->Option ((List UInt8)))(Nv:aj (sA kV)):aj (sA (M.yG kV)):=eR (cx:=Zb kV) (fz:=true) aB (aq1 kV Nv) cG ⟨Tryz.func120,by kernel_rfl⟩ hq ⟨dO,fun x=>x.1.1⟩ (fun x=>rfl) (fun x=>by kernel_rfl)
theorem Zc:∀n,aj (sA (M.vv n))|0=>ia fun _=>rfl|n+1=>aq2 (M.vv n) (Zc n)
theorem Zd:aj (sA (M.mQ)):=Zc af
def Ze(m:Bool->Option ((List UInt8))):ax K:=cS 121 zs0 (fun x=>m x.1.1)
theorem aq3:aj (Ze (M.Cj)):=aH (cx:=di) true dk Tryz.func121 hq ⟨dO,fun x=>x.1.1⟩ (fun x=>by kernel_rfl)
def aq4(y:(List UInt8)×M.aM){R:Type}(k:KT R):R:=match y with|a0=>kk k (Ex.exit 0) ⟨[.ptr 0 0,.str],[.el U.Module]⟩ (((),(a0.1,())),(a0.2,()))
def aq5:List (cq K ((List UInt8)×M.aM)):=[⟨(Ex.exit 0),⟨[.ptr 0 0,.str],[.el U.Module]⟩,fun x=>(x.1.2.1,x.2.1)⟩]
def Zf:bo K:=bB D 0 92 1 [1,3,4] [1,3] Im (fun x=>M.oI x.2.1 af x.1.2.1 x.1.2.2.1) aq4
def Zg(m:Option ((List (List UInt8)))):ax K:={f:=159,sh:=sy,R:=(List (List UInt8)),run:=fun x=>m,dflt:=default,out:=fun r=>(Sh.enc D (.ah U.str) r,bh.encs D [] ())}
theorem aq6:aj (Zg (M.vx)):=aH (cx:=di) true dk Tryz.func159 hq ⟨iu,fun x=>x.1.1⟩ (fun x=>by kernel_rfl)
def Zh(m:M.aG->Option ((List UInt8))):ax K:=cS 122 vf (fun x=>m x.1.1)
def Zi:Cx K:=aQ [(159,.cT),(160,.plain),(120,.plain)] [Zg M.vx,MM M.vg,sA M.mQ] []
theorem aq7:aJ Zi:=aL aB _ (ae aq6 (ae UA (ae Zd ak)))
theorem aq8:aj (Zh (M.Cm)):=aH (cx:=Zi) true aq7 Tryz.func122 hq ⟨dO,fun x=>x.1.1⟩ (fun x=>by kernel_rfl)
def aq9(y:(List UInt8)×Int×M.aM){R:Type}(k:KT R):R:=match y with|a0=>kk k (Ex.exit 4) Zj (((),(a0.1,(a0.2.1,()))),(a0.2.2,((),())))
def ara:List (cq K ((List UInt8)×Int×M.aM)):=[⟨(Ex.exit 4),Zj,fun x=>(x.1.2.1,x.1.2.2.1,x.2.1)⟩]
def Zk:bo K:=bB D 0 92 2 [1,3,6,7,8] [1,3,6] Zl (fun x=>M.oJ x.1.2.2.1 x.2.1 x.2.2.1 af x.1.2.1 x.1.2.2.2.2.1) aq9
def Zm:bo K:=bB D 0 92 1 [1,3,6] [3] Im (fun x=>M.oK af x.1.2.1 x.1.2.2.1 x.2.1) Y1
def Zn(m:M.aM->Option ((List UInt8))):ax K:=cS 77 lK (fun x=>m x.1.1)
def sB:Cx K:=aQ [(120,.plain),(121,.plain),(122,.plain)] [sA M.mQ,Ze M.Cj,Zh M.Cm] [(3,Zf),(13,Zk),(8,Zm)]
theorem Io:aJ sB:=aL aB _ (ae Zd (ae aq3 (ae aq8 ak)))
theorem arb:bn sB (bc (bc (bm Tryz.f77) 1) 0) Zk:=dY (cx:=sB) (sh:=Zl) (run:=fun n x=>M.oJ x.1.2.2.1 x.2.1 x.2.2.1 n x.1.2.1 x.1.2.2.2.2.1) (bu:=ara) aB Io cG (ed (by kernel_rfl)) (fun _=>rfl) (fun m x=>by kernel_rfl) (ae ⟨bD,fun _ _ _=>rfl⟩ ak) 0 af
theorem arc:bn sB (bc (bm Tryz.f77) 0) Zf:=dY (cx:=sB) (sh:=Im) (run:=fun n x=>M.oI x.2.1 n x.1.2.1 x.1.2.2.1) (bu:=aq5) aB Io cG (ed (by kernel_rfl)) (fun _=>rfl) (fun m x=>by kernel_rfl) (ae ⟨bD,fun _ _ _=>rfl⟩ ak) 0 af
theorem ard:bn sB (bc (bm Tryz.f77) 1) Zm:=dY (cx:=sB) (sh:=Im) (run:=fun n x=>M.oK n x.1.2.1 x.1.2.2.1 x.2.1) (bu:=Y2) aB Io cG (kd 1 (by kernel_rfl) (kQ (.mk (by kernel_rfl) arb))) (fun _=>rfl) (fun m x=>by kernel_rfl) (ae ⟨bD,fun _ _ _=>rfl⟩ ak) 0 af
theorem arf:aj (Zn (M.CC)):=aH (cx:=sB) true Io Tryz.func77 (hl2 arc ard) ⟨dO,fun x=>x.1.1⟩ (fun x=>by kernel_rfl)
def Zo(m:M.aM->Option ((List UInt8))):ax K:=cS 42 lK (fun x=>m x.1.1)
def Zp:Cx K:=aQ [(76,.plain),(77,.plain)] [MO M.rR,Zn M.CC] []
theorem arh:aJ Zp:=aL aB _ (ae UK (ae arf ak))
theorem ari:aj (Zo (M.CE)):=aH (cx:=Zp) true arh Tryz.func42 hq ⟨dO,fun x=>x.1.1⟩ (fun x=>by kernel_rfl)
def Zq(m:M.aP->Option ((List UInt8))):ax K:=cS 16 kR (fun x=>m x.1.1)
def mc:Cx K:=aQ [(37,.plain),(38,.cT),(39,.plain),(40,.plain),(41,.cT),(42,.plain)] [Nr M.gv,YR M.yA,sC M.mR,Y4 M.yE,Y9 M.yF,Zo M.CE] [(3,Y5),(7,Y6),(11,Y7),(15,Y8),(19,Za)]
theorem yH:aJ mc:=aL aB _ (ae YQ (ae aqx (ae Zr (ae aqP (ae aqY (ae ari ak))))))
theorem arj:bn mc (bc (bm Tryz.f16) 0) Y5:=dY (cx:=mc) (sh:=oy) (run:=fun n x=>M.oz x.2.1 n x.1.2.1 x.1.2.2.1) (bu:=aqR) aB yH cG (ed (by kernel_rfl)) (fun _=>rfl) (fun m x=>by kernel_rfl) (ae ⟨bD,fun _ _ _=>rfl⟩ ak) 0 af
theorem ark:bn mc (bc (bm Tryz.f16) 1) Y6:=dY (cx:=mc) (sh:=oy) (run:=fun n x=>M.oC x.2.1 n x.1.2.1 x.1.2.2.1) (bu:=aqT) aB yH cG (ed (by kernel_rfl)) (fun _=>rfl) (fun m x=>by kernel_rfl) (ae ⟨bD,fun _ _ _=>rfl⟩ ak) 0 af
theorem arl:bn mc (bc (bm Tryz.f16) 2) Y7:=dY (cx:=mc) (sh:=oy) (run:=fun n x=>M.oD x.2.1 n x.1.2.1 x.1.2.2.1) (bu:=aqV) aB yH cG (ed (by kernel_rfl)) (fun _=>rfl) (fun m x=>by kernel_rfl) (ae ⟨bD,fun _ _ _=>rfl⟩ ak) 0 af
theorem arn:bn mc (bc (bm Tryz.f16) 3) Y8:=dY (cx:=mc) (sh:=oy) (run:=fun n x=>M.oG x.2.1 n x.1.2.1 x.1.2.2.1) (bu:=aqX) aB yH cG (ed (by kernel_rfl)) (fun _=>rfl) (fun m x=>by kernel_rfl) (ae ⟨bD,fun _ _ _=>rfl⟩ ak) 0 af
theorem aro:bn mc (bc (bm Tryz.f16) 4) Za:=dY (cx:=mc) (sh:=oy) (run:=fun n x=>M.oH x.2.1 n x.1.2.1 x.1.2.2.1) (bu:=aq0) aB yH cG (ed (by kernel_rfl)) (fun _=>rfl) (fun m x=>by kernel_rfl) (ae ⟨bD,fun _ _ _=>rfl⟩ ak) 0 af
theorem arp:aj (Zq (M.CG)):=aH (cx:=mc) true yH Tryz.func16 (CH (kd 5 (by kernel_rfl) (lt_succ (lt_succ (lt_succ (lt_succ (kQ (.mk (by kernel_rfl) arj)) (.mk (by kernel_rfl) ark)) (.mk (by kernel_rfl) arl)) (.mk (by kernel_rfl) arn)) (.mk (by kernel_rfl) aro)))) ⟨dO,fun x=>x.1.1⟩ (fun x=>by kernel_rfl)
def Zs(m:(List UInt8)->Option ((List UInt8))):ax K:=cS 15 dO (fun x=>m x.1.1)
theorem arq:aj (Zs (M.CJ)):=aH (cx:=di) true dk Tryz.func15 hq ⟨dO,fun x=>x.1.1⟩ (fun x=>by kernel_rfl)
def Zt(m:M.aP->Option ((List UInt8))):ax K:=cS 5 kR (fun x=>m x.1.1)
def Zu:Cx K:=aQ [(14,.plain),(16,.plain),(15,.plain)] [Wx M.Ba,Zq M.CG,Zs M.CJ] []
theorem ars:aJ Zu:=aL aB _ (ae aoZ (ae arp (ae arq ak)))
theorem art:aj (Zt (M.CL)):=aH (cx:=Zu) true ars Tryz.func5 hq ⟨dO,fun x=>x.1.1⟩ (fun x=>by kernel_rfl)
def Zv(m:Option ((List (List UInt8)))):ax K:={f:=50,sh:=sy,R:=(List (List UInt8)),run:=fun x=>m,dflt:=default,out:=fun r=>(Sh.enc D (.ah U.str) r,bh.encs D [] ())}
theorem aru:aj (Zv (M.vy)):=aH (cx:=di) true dk Tryz.func50 hq ⟨iu,fun x=>x.1.1⟩ (fun x=>by kernel_rfl)
def arv(y:M.ar×(List (List UInt8))){R:Type}(k:KT R):R:=match y with|a0=>kk k (Ex.exit 0) Zw (((),((),())),(a0.1,((),(a0.2,()))))
def arw:List (cq K (M.ar×(List (List UInt8)))):=[⟨(Ex.exit 0),Zw,fun x=>(x.2.1,x.2.2.2.1)⟩]
def Zx:bo K:=bB D 0 53 2 [3,5,21,22,23] [3,5] Zy (fun x=>M.oL x.1.2.2.1 x.1.2.2.2.1 x.2.1 af x.1.2.2.2.2.1 x.2.2.2.1) arv
def Zz(m:Option ((List (List UInt8)))):ax K:={f:=192,sh:=sy,R:=(List (List UInt8)),run:=fun x=>m,dflt:=default,out:=fun r=>(Sh.enc D (.ah U.str) r,bh.encs D [] ())}
theorem arx:aj (Zz (M.jG)):=aH (cx:=di) true dk Tryz.func192 hq ⟨iu,fun x=>x.1.1⟩ (fun x=>by kernel_rfl)
def qs(m:M.aa->Option ((List UInt8))):ax K:=cS 139 gV (fun x=>m x.1.1)
def ary(y:(List UInt8)×(List (List UInt8))){R:Type}(k:KT R):R:=match y with|a0=>kk k (Ex.exit 1) ⟨[.str,.own 1],[.dead,.arr U.str]⟩ ((a0.1,((),())),((),(a0.2,())))
def arz:List (cq K ((List UInt8)×(List (List UInt8)))):=[⟨(Ex.exit 1),⟨[.str,.own 1],[.dead,.arr U.str]⟩,fun x=>(x.1.1,x.2.2.1)⟩]
def ZA(dK:M.aa->Option ((List UInt8))):bo K:=bB D 0 101 1 [3,4,41,42,43] [3,4] ZB (fun x=>M.vz dK x.1.1 x.1.2.2.1 x.1.2.2.2.1 af x.1.2.2.2.2.1 x.2.2.1) ary
def arA(y:(List UInt8)×(List (List UInt8))){R:Type}(k:KT R):R:=match y with|a0=>kk k (Ex.exit 3) ZC ((a0.1,((),())),((),((),(a0.2,()))))
def arB:List (cq K ((List UInt8)×(List (List UInt8)))):=[⟨(Ex.exit 3),ZC,fun x=>(x.1.1,x.2.2.2.1)⟩]
def ZD(dK:M.aa->Option ((List UInt8))):bo K:=bB D 0 101 2 [1,3,4,60,61,62] [3,4] ZE (fun x=>M.qu dK x.1.2.1 x.1.2.2.2.1 x.1.2.2.2.2.1 af x.1.2.2.2.2.2.1 x.2.1 x.2.2.2.1) arA
def yI(dK:M.aa->Option ((List UInt8))):Cx K:=aQ [(192,.cT),(87,.plain),(139,.plain),(54,.plain),(140,.plain)] [Zz M.jG,ma M.mb,qs dK,CM M.strings_Join,yu M.yv] [(8,ZA dK),(14,ZD dK)]
theorem Nw(dK:M.aa->Option ((List UInt8)))(qw:aj (qs dK)):aJ (yI dK):=aL aB _ (ae arx (ae mP (ae qw (ae Nx (ae Cd ak)))))
theorem arC(dK:M.aa->Option ((List UInt8)))(qw:aj (qs dK)):bn (yI dK) (bc (bm Tryz.f139) 0) (ZA dK):=dY (cx:=yI dK) (sh:=ZB) (run:=fun n x=>M.vz dK x.1.1 x.1.2.2.1 x.1.2.2.2.1 n x.1.2.2.2.2.1 x.2.2.1) (bu:=arz) aB (Nw dK qw) cG (ed (by kernel_rfl)) (fun _=>rfl) (fun m x=>by kernel_rfl) (ae ⟨bD,fun _ _ _=>rfl⟩ ak) 0 af
theorem arD(dK:M.aa->Option ((List UInt8)))(qw:aj (qs dK)):bn (yI dK) (bc (bm Tryz.f139) 1) (ZD dK):=dY (cx:=yI dK) (sh:=ZE) (run:=fun n x=>M.qu dK x.1.2.1 x.1.2.2.2.1 x.1.2.2.2.2.1 n x.1.2.2.2.2.2.1 x.2.1 x.2.2.2.1) (bu:=arB) aB (Nw dK qw) cG (ed (by kernel_rfl)) (fun _=>rfl) (fun m x=>by kernel_rfl) (ae ⟨bD,fun _ _ _=>rfl⟩ ak) 0 af
theorem arE(dK:M.aa->Option ((List UInt8)))(qw:aj (qs dK)):aj (qs (M.Ip dK)):=eR (cx:=yI dK) (fz:=true) aB (Nw dK qw) cG ⟨Tryz.func139,by kernel_rfl⟩ (hl2 (arC dK qw) (arD dK qw)) ⟨dO,fun x=>x.1.1⟩ (fun x=>rfl) (fun x=>by kernel_rfl)
theorem ZF:∀n,aj (qs (M.oM n))|0=>ia fun _=>rfl|n+1=>arE (M.oM n) (ZF n)
theorem arF:aj (qs (M.CN)):=ZF af
def arG(y:(List UInt8)×M.ay×(List (List UInt8))){R:Type}(k:KT R):R:=match y with|a0=>kk k (Ex.exit 0) ZG (((),((),(a0.1,()))),(a0.2.1,((),(a0.2.2,()))))
def arH:List (cq K ((List UInt8)×M.ay×(List (List UInt8)))):=[⟨(Ex.exit 0),ZG,fun x=>(x.1.2.2.1,x.2.1,x.2.2.2.1)⟩]
def ZH:bo K:=bB D 0 44 2 [1,3,4,9,10,11] [1,3,4] ZI (fun x=>M.qx x.1.2.2.1 x.1.2.2.2.1 x.1.2.2.2.2.1 af x.1.2.2.2.2.2.1 x.2.1 x.2.2.2.1) arG
def ZJ(m:M.ay->Option ((List UInt8))):ax K:=cS 94 lL (fun x=>m x.1.1)
def Iq:Cx K:=aQ [(139,.plain),(54,.plain),(140,.plain)] [qs M.CN,CM M.strings_Join,yu M.yv] [(3,ZH)]
theorem ZK:aJ Iq:=aL aB _ (ae arF (ae Nx (ae Cd ak)))
theorem arI:bn Iq (bc (bm Tryz.f94) 0) ZH:=dY (cx:=Iq) (sh:=ZI) (run:=fun n x=>M.qx x.1.2.2.1 x.1.2.2.2.1 x.1.2.2.2.2.1 n x.1.2.2.2.2.2.1 x.2.1 x.2.2.2.1) (bu:=arH) aB ZK cG (ed (by kernel_rfl)) (fun _=>rfl) (fun m x=>by kernel_rfl) (ae ⟨bD,fun _ _ _=>rfl⟩ ak) 0 af
theorem arJ:aj (ZJ (M.CO)):=aH (cx:=Iq) true ZK Tryz.func94 (hl1 arI) ⟨dO,fun x=>x.1.1⟩ (fun x=>by kernel_rfl)
def arK(y:(List (List UInt8))){R:Type}(k:KT R):R:=match y with|a0=>kk k (Ex.exit 2) Ir (((),()),((),(a0,())))
def arL:List (cq K ((List (List UInt8)))):=[⟨(Ex.exit 2),Ir,fun x=>x.2.2.1⟩]
def ZL:bo K:=bB D 0 53 1 [5,34,35,36] [5] ZM (fun x=>M.oN x.1.2.1 x.1.2.2.1 af x.1.2.2.2.1 x.2.2.1) arK
def ZN(m:(List UInt8)->M.ar->Option ((List (List UInt8)))):ax K:={f:=52,sh:=⟨[.str,.el U.aT],[]⟩,R:=(List (List UInt8)),run:=fun x=>m x.1.1 x.1.2.1,dflt:=default,out:=fun r=>(Sh.enc D (.ah U.str) r,bh.encs D [] ())}
def yJ:Cx K:=aQ [(93,.plain),(94,.plain)] [Cb M.kO,ZJ M.CO] [(3,Zx),(8,ZL)]
theorem Ny:aJ yJ:=aL aB _ (ae HK (ae arJ ak))
theorem arM:bn yJ (bc (bm Tryz.f52) 0) Zx:=dY (cx:=yJ) (sh:=Zy) (run:=fun n x=>M.oL x.1.2.2.1 x.1.2.2.2.1 x.2.1 n x.1.2.2.2.2.1 x.2.2.2.1) (bu:=arw) aB Ny cG (ed (by kernel_rfl)) (fun _=>rfl) (fun m x=>by kernel_rfl) (ae ⟨bD,fun _ _ _=>rfl⟩ ak) 0 af
theorem arN:bn yJ (bc (bm Tryz.f52) 1) ZL:=dY (cx:=yJ) (sh:=ZM) (run:=fun n x=>M.oN x.1.2.1 x.1.2.2.1 n x.1.2.2.2.1 x.2.2.1) (bu:=arL) aB Ny cG (ed (by kernel_rfl)) (fun _=>rfl) (fun m x=>by kernel_rfl) (ae ⟨bD,fun _ _ _=>rfl⟩ ak) 0 af
theorem arO:aj (ZN (M.yK)):=aH (cx:=yJ) true Ny Tryz.func52 (hl2 arM arN) ⟨iu,fun x=>x.1.1⟩ (fun x=>by kernel_rfl)
def ZO:bo K:=bB D 0 138 2 [1,3,33,34,35] [1,3] Is (fun x=>M.oO x.1.2.2.1 x.1.2.2.2.1 x.2.1 af x.1.2.2.2.2.1 x.2.2.2.1) YB
def ZP:bo K:=bB D 0 138 2 [1,3,45,46,47] [1,3] Is (fun x=>M.oP x.1.2.2.1 x.1.2.2.2.1 x.2.1 af x.1.2.2.2.2.1 x.2.2.2.1) YE
def arP(y:M.aP×(List (List UInt8))){R:Type}(k:KT R):R:=match y with|a0=>kk k (Ex.exit 4) oo (((),((),())),(a0.1,((),(a0.2,()))))
def arQ:List (cq K (M.aP×(List (List UInt8)))):=[⟨(Ex.exit 4),oo,fun x=>(x.2.1,x.2.2.2.1)⟩]
def ZQ:bo K:=bB D 0 138 2 [1,3,57,58,59] [1,3] ZR (fun x=>M.oQ x.1.2.2.1 x.1.2.2.2.1 x.2.1 af x.1.2.2.2.2.1 x.2.2.2.1) arP
def arR(y:M.aP×(List (List UInt8))){R:Type}(k:KT R):R:=match y with|a0=>kk k (Ex.exit 6) oo (((),((),())),(a0.1,((),(a0.2,()))))
def arS:List (cq K (M.aP×(List (List UInt8)))):=[⟨(Ex.exit 6),oo,fun x=>(x.2.1,x.2.2.2.1)⟩]
def ZS:bo K:=bB D 0 138 2 [1,3,79,80,81] [1,3] Ie (fun x=>M.oR x.1.2.2.1 x.1.2.2.2.1 x.2.1 af x.1.2.2.2.2.1 x.2.2.2.1) arR
def ZT(m:Option ((List (List UInt8)))):ax K:={f:=53,sh:=sy,R:=(List (List UInt8)),run:=fun x=>m,dflt:=default,out:=fun r=>(Sh.enc D (.ah U.str) r,bh.encs D [] ())}
theorem arT:aj (ZT (M.vA)):=aH (cx:=di) true dk Tryz.func53 hq ⟨iu,fun x=>x.1.1⟩ (fun x=>by kernel_rfl)
def arU(y:M.aP×(List (List UInt8))){R:Type}(k:KT R):R:=match y with|a0=>kk k (Ex.exit 8) oo (((),((),())),(a0.1,((),(a0.2,()))))
def arV:List (cq K (M.aP×(List (List UInt8)))):=[⟨(Ex.exit 8),oo,fun x=>(x.2.1,x.2.2.2.1)⟩]
def ZU:bo K:=bB D 0 138 2 [1,3,101,102,103] [1,3] Ig (fun x=>M.oS x.1.2.2.1 x.1.2.2.2.1 x.2.1 af x.1.2.2.2.2.1 x.2.2.2.1) arU
def ZV(m:(List UInt8)->(List UInt8)->Option (Int×(List UInt8))):ax K:={f:=96,sh:=⟨[.ptr 0 0,.str],[.box [.np 0,.own 1],.arr U.u8]⟩,R:=Int×(List UInt8),run:=fun x=>m x.1.2.1 x.2.2.1,dflt:=default,out:=fun r=>(Sh.enc D (.bU [iq0,.any]) (r.1,((),())),bh.encs D [.box [.np 0,.own 2],.dead,.arr U.u8] (((),((),())),((),(r.2,()))))}
def ZW:Cx K:={js with mode:=ir .plain [(141,.kW)],mv:=true,call:=callOf D [Nz M.NA],loop:=gu []}
theorem arW:aJ ZW:=aL aB _ (ae arX ak)
theorem arY:aj (ZV (M.sD)):=aH (cx:=ZW) true arW Tryz.func96 hq ⟨⟨[.bU [iq0,.any]],[.box [.np 0,.own 2],.dead,.arr U.u8]⟩,fun x=>(x.1.1.1,x.2.2.2.1)⟩ (fun x=>by kernel_rfl)
def arZ(y:M.aM×(List UInt8)){R:Type}(k:KT R):R:=match y with|a0=>kk k (Ex.exit 0) ZX (((),((),())),(a0.1,(((),((),())),((),(a0.2,())))))
def ar0:List (cq K (M.aM×(List UInt8))):=[⟨(Ex.exit 0),ZX,fun x=>(x.2.1,x.2.2.2.2.1)⟩]
def ZY:bo K:=bB D 0 82 3 [1,3,17,18,19] [1,3] ZZ (fun x=>M.oU x.1.2.2.1 x.1.2.2.2.1 x.2.1 af x.1.2.2.2.2.1 x.2.2.2.2.1) arZ
def Z0(m:Option ((List (List UInt8)))):ax K:={f:=143,sh:=sy,R:=(List (List UInt8)),run:=fun x=>m,dflt:=default,out:=fun r=>(Sh.enc D (.ah U.str) r,bh.encs D [] ())}
def Z1:Cx K:=aQ [(195,.cT)] [NB M.strings_Fields] []
theorem ar1:aJ Z1:=aL aB _ (ae ar2 ak)
theorem ar4:aj (Z0 (M.yL)):=aH (cx:=Z1) true ar1 Tryz.func143 hq ⟨iu,fun x=>x.1.1⟩ (fun x=>by kernel_rfl)
def Z2(m:M.aG->Option ((List UInt8))):ax K:=cS 99 vf (fun x=>m x.1.1)
def Z3:Cx K:=aQ [(143,.cT),(144,.plain),(51,.plain)] [Z0 M.yL,M4 M.om,CP M.iv] []
theorem ar5:aJ Z3:=aL aB _ (ae ar4 (ae Wi (ae NC ak)))
theorem ar6:aj (Z2 (M.CQ)):=aH (cx:=Z3) true ar5 Tryz.func99 hq ⟨dO,fun x=>x.1.1⟩ (fun x=>by kernel_rfl)
def ar7(y:(List M.an)×Int×Int×(List UInt8)){R:Type}(k:KT R):R:=match y with|a0=>kk k (Ex.exit 4) It (((),(a0.1,(a0.2.1,(a0.2.2.1,())))),(((),((),())),((),(a0.2.2.2,()))))
def ar8:List (cq K ((List M.an)×Int×Int×(List UInt8))):=[⟨(Ex.exit 4),It,fun x=>(x.1.2.1,x.1.2.2.1,x.1.2.2.2.1,x.2.2.2.1)⟩]
def Z4:bo K:=bB D 0 82 2 [3,41,42,43,69,70,71] [3,41,42,43] Z5 (fun x=>M.oV x.1.2.1 x.1.2.2.1 x.1.2.2.2.1 x.1.2.2.2.2.1 x.1.2.2.2.2.2.1 af x.1.2.2.2.2.2.2.1 x.2.2.2.1) ar7
def ar9(y:(List UInt8)){R:Type}(k:KT R):R:=match y with|a0=>kk k (Ex.exit 2) Z6 (((),()),(((),((),())),((),(a0,()))))
def asa:List (cq K ((List UInt8))):=[⟨(Ex.exit 2),Z6,fun x=>x.2.2.2.1⟩]
def Z7:bo K:=bB D 0 82 2 [3,41,42,43] [3] It (fun x=>M.oW af x.1.2.1 x.1.2.2.1 x.1.2.2.2.1 x.2.2.2.1) ar9
def Z8(m:M.aM->Option ((List UInt8))):ax K:=cS 55 lK (fun x=>m x.1.1)
def sE:Cx K:=aQ [(51,.plain),(96,.kW),(98,.plain),(99,.plain),(97,.kW)] [CP M.iv,ZV M.sD,yM M.jt,Z2 M.CQ,ND M.sF] [(4,ZY),(13,Z4),(9,Z7)]
theorem Iu:aJ sE:=aL aB _ (ae NC (ae arY (ae CS (ae ar6 (ae asb ak)))))
theorem asc:bn sE (bc (bc (bm Tryz.f55) 1) 0) Z4:=dY (cx:=sE) (sh:=Z5) (run:=fun n x=>M.oV x.1.2.1 x.1.2.2.1 x.1.2.2.2.1 x.1.2.2.2.2.1 x.1.2.2.2.2.2.1 n x.1.2.2.2.2.2.2.1 x.2.2.2.1) (bu:=ar8) aB Iu cG (ed (by kernel_rfl)) (fun _=>rfl) (fun m x=>by kernel_rfl) (ae ⟨bD,fun _ _ _=>rfl⟩ ak) 0 af
theorem ase:bn sE (bc (bm Tryz.f55) 0) ZY:=dY (cx:=sE) (sh:=ZZ) (run:=fun n x=>M.oU x.1.2.2.1 x.1.2.2.2.1 x.2.1 n x.1.2.2.2.2.1 x.2.2.2.2.1) (bu:=ar0) aB Iu cG (ed (by kernel_rfl)) (fun _=>rfl) (fun m x=>by kernel_rfl) (ae ⟨bD,fun _ _ _=>rfl⟩ ak) 0 af
theorem asf:bn sE (bc (bm Tryz.f55) 1) Z7:=dY (cx:=sE) (sh:=It) (run:=fun n x=>M.oW n x.1.2.1 x.1.2.2.1 x.1.2.2.2.1 x.2.2.2.1) (bu:=asa) aB Iu cG (kd 1 (by kernel_rfl) (kQ (.mk (by kernel_rfl) asc))) (fun _=>rfl) (fun m x=>by kernel_rfl) (ae ⟨bD,fun _ _ _=>rfl⟩ ak) 0 af
theorem asg:aj (Z8 (M.CU)):=aH (cx:=sE) true Iu Tryz.func55 (hl2 ase asf) ⟨dO,fun x=>x.1.1⟩ (fun x=>by kernel_rfl)
def Z9(m:M.aP->Option ((List UInt8))):ax K:=cS 24 kR (fun x=>m x.1.1)
def me:Cx K:=aQ [(50,.cT),(51,.plain),(52,.cT),(53,.cT),(54,.plain),(55,.plain)] [Zv M.vy,CP M.iv,ZN M.yK,ZT M.vA,CM M.strings_Join,Z8 M.CU] [(3,ZO),(8,ZP),(13,ZQ),(18,ZS),(23,ZU)]
theorem yN:aJ me:=aL aB _ (ae aru (ae NC (ae arO (ae arT (ae Nx (ae asg ak))))))
theorem ash:bn me (bc (bm Tryz.f24) 0) ZO:=dY (cx:=me) (sh:=Is) (run:=fun n x=>M.oO x.1.2.2.1 x.1.2.2.2.1 x.2.1 n x.1.2.2.2.2.1 x.2.2.2.1) (bu:=YC) aB yN cG (ed (by kernel_rfl)) (fun _=>rfl) (fun m x=>by kernel_rfl) (ae ⟨bD,fun _ _ _=>rfl⟩ ak) 0 af
theorem asi:bn me (bc (bm Tryz.f24) 1) ZP:=dY (cx:=me) (sh:=Is) (run:=fun n x=>M.oP x.1.2.2.1 x.1.2.2.2.1 x.2.1 n x.1.2.2.2.2.1 x.2.2.2.1) (bu:=YF) aB yN cG (ed (by kernel_rfl)) (fun _=>rfl) (fun m x=>by kernel_rfl) (ae ⟨bD,fun _ _ _=>rfl⟩ ak) 0 af
theorem asj:bn me (bc (bm Tryz.f24) 2) ZQ:=dY (cx:=me) (sh:=ZR) (run:=fun n x=>M.oQ x.1.2.2.1 x.1.2.2.2.1 x.2.1 n x.1.2.2.2.2.1 x.2.2.2.1) (bu:=arQ) aB yN cG (ed (by kernel_rfl)) (fun _=>rfl) (fun m x=>by kernel_rfl) (ae ⟨bD,fun _ _ _=>rfl⟩ ak) 0 af
theorem asl:bn me (bc (bm Tryz.f24) 3) ZS:=dY (cx:=me) (sh:=Ie) (run:=fun n x=>M.oR x.1.2.2.1 x.1.2.2.2.1 x.2.1 n x.1.2.2.2.2.1 x.2.2.2.1) (bu:=arS) aB yN cG (ed (by kernel_rfl)) (fun _=>rfl) (fun m x=>by kernel_rfl) (ae ⟨bD,fun _ _ _=>rfl⟩ ak) 0 af
theorem asn:bn me (bc (bm Tryz.f24) 4) ZU:=dY (cx:=me) (sh:=Ig) (run:=fun n x=>M.oS x.1.2.2.1 x.1.2.2.2.1 x.2.1 n x.1.2.2.2.2.1 x.2.2.2.1) (bu:=arV) aB yN cG (ed (by kernel_rfl)) (fun _=>rfl) (fun m x=>by kernel_rfl) (ae ⟨bD,fun _ _ _=>rfl⟩ ak) 0 af
theorem aso:aj (Z9 (M.CV)):=aH (cx:=me) true yN Tryz.func24 (CH (kd 5 (by kernel_rfl) (lt_succ (lt_succ (lt_succ (lt_succ (kQ (.mk (by kernel_rfl) ash)) (.mk (by kernel_rfl) asi)) (.mk (by kernel_rfl) asj)) (.mk (by kernel_rfl) asl)) (.mk (by kernel_rfl) asn)))) ⟨dO,fun x=>x.1.1⟩ (fun x=>by kernel_rfl)
def aab(m:(List UInt8)->Option ((List UInt8))):ax K:=cS 23 dO (fun x=>m x.1.1)
theorem asq:aj (aab (M.CW)):=aH (cx:=di) true dk Tryz.func23 hq ⟨dO,fun x=>x.1.1⟩ (fun x=>by kernel_rfl)
def aac(m:M.aP->Option ((List UInt8))):ax K:=cS 7 kR (fun x=>m x.1.1)
def aad:Cx K:=aQ [(22,.plain),(24,.plain),(23,.plain)] [YM M.Bc,Z9 M.CV,aab M.CW] []
theorem asr:aJ aad:=aL aB _ (ae aqt (ae aso (ae asq ak)))
theorem ass:aj (aac (M.CX)):=aH (cx:=aad) true asr Tryz.func7 hq ⟨dO,fun x=>x.1.1⟩ (fun x=>by kernel_rfl)
def aae:bo K:=bB D 0 22 1 [0,3,4] [3] aaf (fun x=>M.sG x.1.1 af x.1.2.2.1 x.2.2.1) NF
def NG(m:(List (List UInt8))->Option ((List (List UInt8)))):ax K:={f:=78,sh:=iu,R:=(List (List UInt8)),run:=fun x=>m x.1.1,dflt:=default,out:=fun r=>(Sh.enc D (.ah U.str) r,bh.encs D [] ())}
def Iw:Cx K:=aQ [] [] [(3,aae)]
theorem aag:aJ Iw:=aL aB _ ak
theorem ast:bn Iw (bc (bm Tryz.f78) 0) aae:=dY (cx:=Iw) (sh:=aaf) (run:=fun n x=>M.sG x.1.1 n x.1.2.2.1 x.2.2.1) (bu:=NH) aB aag cG (ed (by kernel_rfl)) (fun _=>rfl) (fun m x=>by kernel_rfl) (ae ⟨bD,fun _ _ _=>rfl⟩ ak) 0 af
theorem aah:aj (NG (M.vB)):=aH (cx:=Iw) true aag Tryz.func78 (hl1 ast) ⟨iu,fun x=>x.1.1⟩ (fun x=>by kernel_rfl)
def mS(m:M.aa->Option (M.aa)):ax K:={f:=208,sh:=gV,R:=M.aa,run:=fun x=>m x.1.1,dflt:=default,out:=fun r=>(Sh.enc D (.el U.Type) r,bh.encs D [] ())}
def aai(dZ:M.aa->Option (M.aa)):bo K:=bB D 0 23 1 [0,3,4] [3] aaj (fun x=>M.sH dZ x.1.1 af x.1.2.2.1 x.2.2.1) aak
def aal(m:(List M.aa)->Option ((List M.aa))):ax K:={f:=249,sh:=lM,R:=(List M.aa),run:=fun x=>m x.1.1,dflt:=default,out:=fun r=>(Sh.enc D (.ah U.Type) r,bh.encs D [] ())}
def Ix(dZ:M.aa->Option (M.aa)):Cx K:=aQ [(208,.cT)] [mS dZ] [(3,aai dZ)]
theorem aam(dZ:M.aa->Option (M.aa))(oY:aj (mS dZ)):aJ (Ix dZ):=aL aB _ (ae oY ak)
theorem asu(dZ:M.aa->Option (M.aa))(oY:aj (mS dZ)):bn (Ix dZ) (bc (bm Tryz.f249) 0) (aai dZ):=dY (cx:=Ix dZ) (sh:=aaj) (run:=fun n x=>M.sH dZ x.1.1 n x.1.2.2.1 x.2.2.1) (bu:=aan) aB (aam dZ oY) cG (ed (by kernel_rfl)) (fun _=>rfl) (fun m x=>by kernel_rfl) (ae ⟨bD,fun _ _ _=>rfl⟩ ak) 0 af
theorem asv(dZ:M.aa->Option (M.aa))(oY:aj (mS dZ)):aj (aal (M.CY dZ)):=eR (cx:=Ix dZ) (fz:=true) aB (aam dZ oY) cG ⟨Tryz.func249,by kernel_rfl⟩ (hl1 (asu dZ oY)) ⟨lM,fun x=>x.1.1⟩ (fun x=>rfl) (fun x=>by kernel_rfl)
def aao(dZ:M.aa->Option (M.aa)):Cx K:=aQ [(78,.cT),(249,.cT)] [NG M.vB,aal (M.CY dZ)] []
theorem asw(dZ:M.aa->Option (M.aa))(oY:aj (mS dZ)):aJ (aao dZ):=aL aB _ (ae aah (ae (asv dZ oY) ak))
theorem asx(dZ:M.aa->Option (M.aa))(oY:aj (mS dZ)):aj (mS (M.Iy dZ)):=eR (cx:=aao dZ) (fz:=true) aB (asw dZ oY) cG ⟨Tryz.func208,by kernel_rfl⟩ hq ⟨gV,fun x=>x.1.1⟩ (fun x=>rfl) (fun x=>by kernel_rfl)
theorem aap:∀n,aj (mS (M.vC n))|0=>ia fun _=>rfl|n+1=>asx (M.vC n) (aap n)
theorem aaq:aj (mS (M.yO)):=aap af
def aar(m:M.aw->Option (M.aw)):ax K:={f:=248,sh:=⟨[.el U.Param],[]⟩,R:=M.aw,run:=fun x=>m x.1.1,dflt:=default,out:=fun r=>(Sh.enc D (.el U.Param) r,bh.encs D [] ())}
def aas:Cx K:=aQ [(208,.cT)] [mS M.yO] []
theorem asy:aJ aas:=aL aB _ (ae aaq ak)
theorem asz:aj (aar (M.CZ)):=aH (cx:=aas) true asy Tryz.func248 hq ⟨⟨[.el U.Param],[]⟩,fun x=>x.1.1⟩ (fun x=>by kernel_rfl)
def asA(y:(List M.aw)){R:Type}(k:KT R):R:=match y with|a0=>kk k (Ex.exit 0) ⟨[.own 1],[.dead,.arr U.Param]⟩ (((),()),((),(a0,())))
def asB:List (cq K ((List M.aw))):=[⟨(Ex.exit 0),⟨[.own 1],[.dead,.arr U.Param]⟩,fun x=>x.2.2.1⟩]
def aat:bo K:=bB D 0 23 1 [0,3,4] [3] aau (fun x=>M.sJ x.1.1 af x.1.2.2.1 x.2.2.1) asA
def aav(m:(List M.aw)->Option ((List M.aw))):ax K:={f:=207,sh:=⟨[.ah U.Param],[]⟩,R:=(List M.aw),run:=fun x=>m x.1.1,dflt:=default,out:=fun r=>(Sh.enc D (.ah U.Param) r,bh.encs D [] ())}
def Iz:Cx K:=aQ [(248,.cT)] [aar M.CZ] [(3,aat)]
theorem aaw:aJ Iz:=aL aB _ (ae asz ak)
theorem asC:bn Iz (bc (bm Tryz.f207) 0) aat:=dY (cx:=Iz) (sh:=aau) (run:=fun n x=>M.sJ x.1.1 n x.1.2.2.1 x.2.2.1) (bu:=asB) aB aaw cG (ed (by kernel_rfl)) (fun _=>rfl) (fun m x=>by kernel_rfl) (ae ⟨bD,fun _ _ _=>rfl⟩ ak) 0 af
theorem asD:aj (aav (M.C0)):=aH (cx:=Iz) true aaw Tryz.func207 (hl1 asC) ⟨⟨[.ah U.Param],[]⟩,fun x=>x.1.1⟩ (fun x=>by kernel_rfl)
def aax(m:M.ay->Option (M.ay)):ax K:={f:=161,sh:=lL,R:=M.ay,run:=fun x=>m x.1.1,dflt:=default,out:=fun r=>(Sh.enc D (.el U.fO) r,bh.encs D [] ())}
def aay:Cx K:=aQ [(207,.cT),(208,.cT)] [aav M.C0,mS M.yO] []
theorem asE:aJ aay:=aL aB _ (ae asD (ae aaq ak))
theorem asF:aj (aax (M.C2)):=aH (cx:=aay) true asE Tryz.func161 hq ⟨lL,fun x=>x.1.1⟩ (fun x=>by kernel_rfl)
def aaz(m:M.aF->Option (M.aF)):ax K:={f:=123,sh:=⟨[.el U.Func],[]⟩,R:=M.aF,run:=fun x=>m x.1.1,dflt:=default,out:=fun r=>(Sh.enc D (.el U.Func) r,bh.encs D [] ())}
def aaA:Cx K:=aQ [(161,.cT)] [aax M.C2] []
theorem asG:aJ aaA:=aL aB _ (ae asF ak)
theorem asH:aj (aaz (M.C3)):=aH (cx:=aaA) true asG Tryz.func123 hq ⟨⟨[.el U.Func],[]⟩,fun x=>x.1.1⟩ (fun x=>by kernel_rfl)
def asI(y:(List M.aF)){R:Type}(k:KT R):R:=match y with|a0=>kk k (Ex.exit 0) ⟨[.own 1],[.dead,.arr U.Func]⟩ (((),()),((),(a0,())))
def asJ:List (cq K ((List M.aF))):=[⟨(Ex.exit 0),⟨[.own 1],[.dead,.arr U.Func]⟩,fun x=>x.2.2.1⟩]
def aaB:bo K:=bB D 0 23 1 [0,3,4] [3] aaC (fun x=>M.sK x.1.1 af x.1.2.2.1 x.2.2.1) asI
def aaD(m:(List M.aF)->Option ((List M.aF))):ax K:={f:=79,sh:=⟨[.ah U.Func],[]⟩,R:=(List M.aF),run:=fun x=>m x.1.1,dflt:=default,out:=fun r=>(Sh.enc D (.ah U.Func) r,bh.encs D [] ())}
def IA:Cx K:=aQ [(123,.cT)] [aaz M.C3] [(3,aaB)]
theorem aaE:aJ IA:=aL aB _ (ae asH ak)
theorem asK:bn IA (bc (bm Tryz.f79) 0) aaB:=dY (cx:=IA) (sh:=aaC) (run:=fun n x=>M.sK x.1.1 n x.1.2.2.1 x.2.2.1) (bu:=asJ) aB aaE cG (ed (by kernel_rfl)) (fun _=>rfl) (fun m x=>by kernel_rfl) (ae ⟨bD,fun _ _ _=>rfl⟩ ak) 0 af
theorem asL:aj (aaD (M.C4)):=aH (cx:=IA) true aaE Tryz.func79 (hl1 asK) ⟨⟨[.ah U.Func],[]⟩,fun x=>x.1.1⟩ (fun x=>by kernel_rfl)
def aaF(m:M.ar->Option (M.ar)):ax K:={f:=43,sh:=yP,R:=M.ar,run:=fun x=>m x.1.1,dflt:=default,out:=fun r=>(Sh.enc D (.el U.aT) r,bh.encs D [] ())}
def aaG:Cx K:=aQ [(78,.cT),(79,.cT)] [NG M.vB,aaD M.C4] []
theorem asM:aJ aaG:=aL aB _ (ae aah (ae asL ak))
theorem asN:aj (aaF (M.C5)):=aH (cx:=aaG) true asM Tryz.func43 hq ⟨yP,fun x=>x.1.1⟩ (fun x=>by kernel_rfl)
def asO(y:(List M.ar)){R:Type}(k:KT R):R:=match y with|a0=>kk k (Ex.exit 0) ⟨[.own 1],[.dead,.arr U.aT]⟩ (((),()),((),(a0,())))
def asP:List (cq K ((List M.ar))):=[⟨(Ex.exit 0),⟨[.own 1],[.dead,.arr U.aT]⟩,fun x=>x.2.2.1⟩]
def aaH:bo K:=bB D 0 23 1 [0,3,4] [3] aaI (fun x=>M.sL x.1.1 af x.1.2.2.1 x.2.2.1) asO
def aaJ(m:(List M.ar)->Option ((List M.ar))):ax K:={f:=17,sh:=B9,R:=(List M.ar),run:=fun x=>m x.1.1,dflt:=default,out:=fun r=>(Sh.enc D (.ah U.aT) r,bh.encs D [] ())}
def IB:Cx K:=aQ [(43,.cT)] [aaF M.C5] [(3,aaH)]
theorem aaK:aJ IB:=aL aB _ (ae asN ak)
theorem asQ:bn IB (bc (bm Tryz.f17) 0) aaH:=dY (cx:=IB) (sh:=aaI) (run:=fun n x=>M.sL x.1.1 n x.1.2.2.1 x.2.2.1) (bu:=asP) aB aaK cG (ed (by kernel_rfl)) (fun _=>rfl) (fun m x=>by kernel_rfl) (ae ⟨bD,fun _ _ _=>rfl⟩ ak) 0 af
theorem asR:aj (aaJ (M.yQ)):=aH (cx:=IB) true aaK Tryz.func17 (hl1 asQ) ⟨B9,fun x=>x.1.1⟩ (fun x=>by kernel_rfl)
def aaL(m:M.aN->Option (M.aN)):ax K:={f:=80,sh:=⟨[.el U.Import],[]⟩,R:=M.aN,run:=fun x=>m x.1.1,dflt:=default,out:=fun r=>(Sh.enc D (.el U.Import) r,bh.encs D [] ())}
theorem asT:aj (aaL (M.IC)):=aH (cx:=di) true dk Tryz.func80 hq ⟨⟨[.el U.Import],[]⟩,fun x=>x.1.1⟩ (fun x=>by kernel_rfl)
def asU(y:(List M.aN)){R:Type}(k:KT R):R:=match y with|a0=>kk k (Ex.exit 0) ⟨[.own 1],[.dead,.arr U.Import]⟩ (((),()),((),(a0,())))
def asV:List (cq K ((List M.aN))):=[⟨(Ex.exit 0),⟨[.own 1],[.dead,.arr U.Import]⟩,fun x=>x.2.2.1⟩]
def aaM:bo K:=bB D 0 23 1 [0,3,4] [3] aaN (fun x=>M.sM x.1.1 af x.1.2.2.1 x.2.2.1) asU
def aaO(m:(List M.aN)->Option ((List M.aN))):ax K:={f:=44,sh:=NI,R:=(List M.aN),run:=fun x=>m x.1.1,dflt:=default,out:=fun r=>(Sh.enc D (.ah U.Import) r,bh.encs D [] ())}
def ID:Cx K:=aQ [(80,.plain)] [aaL M.IC] [(3,aaM)]
theorem aaP:aJ ID:=aL aB _ (ae asT ak)
theorem asW:bn ID (bc (bm Tryz.f44) 0) aaM:=dY (cx:=ID) (sh:=aaN) (run:=fun n x=>M.sM x.1.1 n x.1.2.2.1 x.2.2.1) (bu:=asV) aB aaP cG (ed (by kernel_rfl)) (fun _=>rfl) (fun m x=>by kernel_rfl) (ae ⟨bD,fun _ _ _=>rfl⟩ ak) 0 af
theorem asX:aj (aaO (M.C6)):=aH (cx:=ID) true aaP Tryz.func44 (hl1 asW) ⟨NI,fun x=>x.1.1⟩ (fun x=>by kernel_rfl)
def aaQ(m:M.aG->Option (M.aG)):ax K:={f:=162,sh:=vf,R:=M.aG,run:=fun x=>m x.1.1,dflt:=default,out:=fun r=>(Sh.enc D (.el U.Ins) r,bh.encs D [] ())}
theorem asY:aj (aaQ (M.IE)):=aH (cx:=di) true dk Tryz.func162 hq ⟨vf,fun x=>x.1.1⟩ (fun x=>by kernel_rfl)
def asZ(y:(List M.aG)){R:Type}(k:KT R):R:=match y with|a0=>kk k (Ex.exit 0) ⟨[.own 1],[.dead,.arr U.Ins]⟩ (((),()),((),(a0,())))
def as1:List (cq K ((List M.aG))):=[⟨(Ex.exit 0),⟨[.own 1],[.dead,.arr U.Ins]⟩,fun x=>x.2.2.1⟩]
def aaR:bo K:=bB D 0 23 1 [0,3,4] [3] aaS (fun x=>M.sN x.1.1 af x.1.2.2.1 x.2.2.1) asZ
def aaT(m:(List M.aG)->Option ((List M.aG))):ax K:={f:=124,sh:=⟨[.ah U.Ins],[]⟩,R:=(List M.aG),run:=fun x=>m x.1.1,dflt:=default,out:=fun r=>(Sh.enc D (.ah U.Ins) r,bh.encs D [] ())}
def IF:Cx K:=aQ [(162,.plain)] [aaQ M.IE] [(3,aaR)]
theorem aaU:aJ IF:=aL aB _ (ae asY ak)
theorem as2:bn IF (bc (bm Tryz.f124) 0) aaR:=dY (cx:=IF) (sh:=aaS) (run:=fun n x=>M.sN x.1.1 n x.1.2.2.1 x.2.2.1) (bu:=as1) aB aaU cG (ed (by kernel_rfl)) (fun _=>rfl) (fun m x=>by kernel_rfl) (ae ⟨bD,fun _ _ _=>rfl⟩ ak) 0 af
theorem as3:aj (aaT (M.C7)):=aH (cx:=IF) true aaU Tryz.func124 (hl1 as2) ⟨⟨[.ah U.Ins],[]⟩,fun x=>x.1.1⟩ (fun x=>by kernel_rfl)
def aaV(m:M.an->Option (M.an)):ax K:={f:=81,sh:=yb,R:=M.an,run:=fun x=>m x.1.1,dflt:=default,out:=fun r=>(Sh.enc D (.el U.Core) r,bh.encs D [] ())}
def aaW:Cx K:=aQ [(124,.cT)] [aaT M.C7] []
theorem as4:aJ aaW:=aL aB _ (ae as3 ak)
theorem as5:aj (aaV (M.C9)):=aH (cx:=aaW) true as4 Tryz.func81 hq ⟨yb,fun x=>x.1.1⟩ (fun x=>by kernel_rfl)
def as6(y:(List M.an)){R:Type}(k:KT R):R:=match y with|a0=>kk k (Ex.exit 0) ⟨[.own 1],[.dead,.arr U.Core]⟩ (((),()),((),(a0,())))
def as7:List (cq K ((List M.an))):=[⟨(Ex.exit 0),⟨[.own 1],[.dead,.arr U.Core]⟩,fun x=>x.2.2.1⟩]
def aaX:bo K:=bB D 0 23 1 [0,3,4] [3] aaY (fun x=>M.sO x.1.1 af x.1.2.2.1 x.2.2.1) as6
def aaZ(m:(List M.an)->Option ((List M.an))):ax K:={f:=45,sh:=⟨[.ah U.Core],[]⟩,R:=(List M.an),run:=fun x=>m x.1.1,dflt:=default,out:=fun r=>(Sh.enc D (.ah U.Core) r,bh.encs D [] ())}
def IG:Cx K:=aQ [(81,.cT)] [aaV M.C9] [(3,aaX)]
theorem aa0:aJ IG:=aL aB _ (ae as5 ak)
theorem as8:bn IG (bc (bm Tryz.f45) 0) aaX:=dY (cx:=IG) (sh:=aaY) (run:=fun n x=>M.sO x.1.1 n x.1.2.2.1 x.2.2.1) (bu:=as7) aB aa0 cG (ed (by kernel_rfl)) (fun _=>rfl) (fun m x=>by kernel_rfl) (ae ⟨bD,fun _ _ _=>rfl⟩ ak) 0 af
theorem as9:aj (aaZ (M.Da)):=aH (cx:=IG) true aa0 Tryz.func45 (hl1 as8) ⟨⟨[.ah U.Core],[]⟩,fun x=>x.1.1⟩ (fun x=>by kernel_rfl)
def aa1(m:M.aM->Option (M.aM)):ax K:={f:=18,sh:=lK,R:=M.aM,run:=fun x=>m x.1.1,dflt:=default,out:=fun r=>(Sh.enc D (.el U.Module) r,bh.encs D [] ())}
def aa2:Cx K:=aQ [(44,.cT),(45,.cT)] [aaO M.C6,aaZ M.Da] []
theorem ata:aJ aa2:=aL aB _ (ae asX (ae as9 ak))
theorem atb:aj (aa1 (M.Db)):=aH (cx:=aa2) true ata Tryz.func18 hq ⟨lK,fun x=>x.1.1⟩ (fun x=>by kernel_rfl)
def aa3(m:M.bK->Option (M.bK)):ax K:={f:=46,sh:=⟨[.el U.ef],[]⟩,R:=M.bK,run:=fun x=>m x.1.1,dflt:=default,out:=fun r=>(Sh.enc D (.el U.ef) r,bh.encs D [] ())}
theorem atc:aj (aa3 (M.IH)):=aH (cx:=di) true dk Tryz.func46 hq ⟨⟨[.el U.ef],[]⟩,fun x=>x.1.1⟩ (fun x=>by kernel_rfl)
def atd(y:(List M.bK)){R:Type}(k:KT R):R:=match y with|a0=>kk k (Ex.exit 0) ⟨[.own 1],[.dead,.arr U.ef]⟩ (((),()),((),(a0,())))
def ate:List (cq K ((List M.bK))):=[⟨(Ex.exit 0),⟨[.own 1],[.dead,.arr U.ef]⟩,fun x=>x.2.2.1⟩]
def aa4:bo K:=bB D 0 23 1 [0,3,4] [3] aa5 (fun x=>M.sP x.1.1 af x.1.2.2.1 x.2.2.1) atd
def aa6(m:(List M.bK)->Option ((List M.bK))):ax K:={f:=19,sh:=⟨[.ah U.ef],[]⟩,R:=(List M.bK),run:=fun x=>m x.1.1,dflt:=default,out:=fun r=>(Sh.enc D (.ah U.ef) r,bh.encs D [] ())}
def II:Cx K:=aQ [(46,.plain)] [aa3 M.IH] [(3,aa4)]
theorem aa7:aJ II:=aL aB _ (ae atc ak)
theorem atf:bn II (bc (bm Tryz.f19) 0) aa4:=dY (cx:=II) (sh:=aa5) (run:=fun n x=>M.sP x.1.1 n x.1.2.2.1 x.2.2.1) (bu:=ate) aB aa7 cG (ed (by kernel_rfl)) (fun _=>rfl) (fun m x=>by kernel_rfl) (ae ⟨bD,fun _ _ _=>rfl⟩ ak) 0 af
theorem atg:aj (aa6 (M.Dc)):=aH (cx:=II) true aa7 Tryz.func19 (hl1 atf) ⟨⟨[.ah U.ef],[]⟩,fun x=>x.1.1⟩ (fun x=>by kernel_rfl)
def aa8(m:M.bH->Option (M.bH)):ax K:={f:=47,sh:=⟨[.el U.Lower],[]⟩,R:=M.bH,run:=fun x=>m x.1.1,dflt:=default,out:=fun r=>(Sh.enc D (.el U.Lower) r,bh.encs D [] ())}
theorem ath:aj (aa8 (M.IJ)):=aH (cx:=di) true dk Tryz.func47 hq ⟨⟨[.el U.Lower],[]⟩,fun x=>x.1.1⟩ (fun x=>by kernel_rfl)
def ati(y:(List M.bH)){R:Type}(k:KT R):R:=match y with|a0=>kk k (Ex.exit 0) ⟨[.own 1],[.dead,.arr U.Lower]⟩ (((),()),((),(a0,())))
def atj:List (cq K ((List M.bH))):=[⟨(Ex.exit 0),⟨[.own 1],[.dead,.arr U.Lower]⟩,fun x=>x.2.2.1⟩]
def aa9:bo K:=bB D 0 23 1 [0,3,4] [3] aba (fun x=>M.sQ x.1.1 af x.1.2.2.1 x.2.2.1) ati
def abb(m:(List M.bH)->Option ((List M.bH))):ax K:={f:=20,sh:=⟨[.ah U.Lower],[]⟩,R:=(List M.bH),run:=fun x=>m x.1.1,dflt:=default,out:=fun r=>(Sh.enc D (.ah U.Lower) r,bh.encs D [] ())}
def IK:Cx K:=aQ [(47,.plain)] [aa8 M.IJ] [(3,aa9)]
theorem abd:aJ IK:=aL aB _ (ae ath ak)
theorem atl:bn IK (bc (bm Tryz.f20) 0) aa9:=dY (cx:=IK) (sh:=aba) (run:=fun n x=>M.sQ x.1.1 n x.1.2.2.1 x.2.2.1) (bu:=atj) aB abd cG (ed (by kernel_rfl)) (fun _=>rfl) (fun m x=>by kernel_rfl) (ae ⟨bD,fun _ _ _=>rfl⟩ ak) 0 af
theorem atm:aj (abb (M.Df)):=aH (cx:=IK) true abd Tryz.func20 (hl1 atl) ⟨⟨[.ah U.Lower],[]⟩,fun x=>x.1.1⟩ (fun x=>by kernel_rfl)
def abe(m:M.bF->Option (M.bF)):ax K:={f:=48,sh:=⟨[.el U.Builtin],[]⟩,R:=M.bF,run:=fun x=>m x.1.1,dflt:=default,out:=fun r=>(Sh.enc D (.el U.Builtin) r,bh.encs D [] ())}
theorem atn:aj (abe (M.IL)):=aH (cx:=di) true dk Tryz.func48 hq ⟨⟨[.el U.Builtin],[]⟩,fun x=>x.1.1⟩ (fun x=>by kernel_rfl)
def ato(y:(List M.bF)){R:Type}(k:KT R):R:=match y with|a0=>kk k (Ex.exit 0) ⟨[.own 1],[.dead,.arr U.Builtin]⟩ (((),()),((),(a0,())))
def atp:List (cq K ((List M.bF))):=[⟨(Ex.exit 0),⟨[.own 1],[.dead,.arr U.Builtin]⟩,fun x=>x.2.2.1⟩]
def abf:bo K:=bB D 0 23 1 [0,3,4] [3] abg (fun x=>M.sR x.1.1 af x.1.2.2.1 x.2.2.1) ato
def abh(m:(List M.bF)->Option ((List M.bF))):ax K:={f:=21,sh:=⟨[.ah U.Builtin],[]⟩,R:=(List M.bF),run:=fun x=>m x.1.1,dflt:=default,out:=fun r=>(Sh.enc D (.ah U.Builtin) r,bh.encs D [] ())}
def IM:Cx K:=aQ [(48,.plain)] [abe M.IL] [(3,abf)]
theorem abj:aJ IM:=aL aB _ (ae atn ak)
theorem atq:bn IM (bc (bm Tryz.f21) 0) abf:=dY (cx:=IM) (sh:=abg) (run:=fun n x=>M.sR x.1.1 n x.1.2.2.1 x.2.2.1) (bu:=atp) aB abj cG (ed (by kernel_rfl)) (fun _=>rfl) (fun m x=>by kernel_rfl) (ae ⟨bD,fun _ _ _=>rfl⟩ ak) 0 af
theorem atr:aj (abh (M.Dh)):=aH (cx:=IM) true abj Tryz.func21 (hl1 atq) ⟨⟨[.ah U.Builtin],[]⟩,fun x=>x.1.1⟩ (fun x=>by kernel_rfl)
def abk(m:M.aP->Option (M.aP)):ax K:={f:=6,sh:=kR,R:=M.aP,run:=fun x=>m x.1.1,dflt:=default,out:=fun r=>(Sh.enc D (.el U.eG) r,bh.encs D [] ())}
def abl:Cx K:=aQ [(17,.cT),(18,.cT),(19,.cT),(20,.cT),(21,.cT)] [aaJ M.yQ,aa1 M.Db,aa6 M.Dc,abb M.Df,abh M.Dh] []
theorem att:aJ abl:=aL aB _ (ae asR (ae atb (ae atg (ae atm (ae atr ak)))))
theorem atu:aj (abk (M.Di)):=aH (cx:=abl) true att Tryz.func6 hq ⟨kR,fun x=>x.1.1⟩ (fun x=>by kernel_rfl)
def abm(m:M.aP->Option Bool):ax K:=cB 3 kR (fun x=>m x.1.1)
def abn:Cx K:=aQ [(4,.plain),(6,.cT),(5,.plain),(7,.plain),(8,.plain)] [Us M.Bo,abk M.Di,Zt M.CL,aac M.CX,WT M.BW] []
theorem atv:aJ abn:=aL aB _ (ae anD (ae atu (ae art (ae ass (ae apb ak)))))
theorem atw:aj (abm (M.Dj)):=aH (cx:=abn) true atv Tryz.func3 hq ⟨zs0,fun x=>x.1.1⟩ (fun x=>by kernel_rfl)
