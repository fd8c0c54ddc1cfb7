/-
  Part of the proof of the claim.
-/
import Derived.Test.YtghkckfhaljjjaaGreatDoorXYCCa
import Derived.Test.YtghkckfhaljjjaaGreatDoorXYCM
import Derived.Test.YtghkckfhaljjjaaGreatDoorXXHdA
import Derived.Test.YtghkckfhaljjjaaGreatDoorXXHdI
import Derived.Test.YtghkckfhaljjjaaGreatDoorXXHdJ2
import Derived.Test.YtghkckfhaljjjaaGreatDoorXXHdV
import Derived.Test.YtghkckfhaljjjaaGreatDoorXWor
import Derived.Test.YtghkckfhaljjjaaGreatDoorProg
set_option linter.unusedVariables false
set_option maxRecDepth 100000
open Go Go.Proofs
open Go.V
noncomputable section
def akE:List (cz K (Int×M.aE×(List (List UInt8))×(List (List UInt8)))):=[⟨(Ex.exit 3),UP,fun x=>(x.1.2.2.2.1,x.2.1,x.2.2.2.2.2.1,x.2.2.2.2.2.2.1)⟩]
def Uf:bE K:=bJ D false 60 4 [1,4,5,6,7,8] [1,4,5,6] UX (fun x=>M.xq x.1.2.2.2.1 x.2.1 x.2.2.2.2.2.2.1 ad x.1.2.2.2.2.2.1 x.2.2.2.2.1 x.2.2.2.2.2.1) akD
def akF(y:(List (List UInt8))×(List (List UInt8))){R:Type}(k:KT R):R:=match y with|a0=>kk k (Ex.exit 0) FG (((),((),())),((),((),((),(a0.1,(a0.2,()))))))
def akG:List (cz K ((List (List UInt8))×(List (List UInt8)))):=[⟨(Ex.exit 0),FG,fun x=>(x.2.2.2.2.1,x.2.2.2.2.2.1)⟩]
def Uh:bE K:=bJ D false 60 3 [1,4,5,6] [4,5] U3 (fun x=>M.qE ad x.1.2.2.2.1 x.2.1 x.2.2.2.2.1 x.2.2.2.2.2.1) akF
def Uj(m:M.aE->Option ((List (List UInt8))×(List (List UInt8)))):aG K:={f:=100,sh:=⟨[.el U.cD],[]⟩,R:=(List (List UInt8))×(List (List UInt8)),run:=fun x=>m x.1.1,dflt:=default,out:=fun r=>(Sh.enc D (.bC [.an U.str,.an U.str]) (r.1,(r.2,())),aW.encs D [] ())}
def x8:Cx K:=bp [(142,.plain)] [Ud M.Af] [(15,Uf),(4,Uh)]
theorem MJ:aP x8:=aV ar _ (af akC aA)
theorem akH:bF x8 (bq (bq (bI Tryz.f100) 0) 0) Uf:=lk (cx:=x8) (sh:=UX) (run:=fun n x=>M.xq x.1.2.2.2.1 x.2.1 x.2.2.2.2.2.2.1 n x.1.2.2.2.2.2.1 x.2.2.2.2.1 x.2.2.2.2.2.1) (bG:=akE) MJ (fun m x=>by kernel_rfl) (af ⟨bL,fun _ _ _=>rfl⟩ aA)
theorem akI:bF x8 (bq (bI Tryz.f100) 0) Uh:=lk (cx:=x8) (sh:=U3) (run:=fun n x=>M.qE n x.1.2.2.2.1 x.2.1 x.2.2.2.2.1 x.2.2.2.2.2.1) (bG:=akG) MJ (fun m x=>by kernel_rfl) (af ⟨bL,fun _ _ _=>rfl⟩ aA) (hl:=(bP 1 (by kernel_rfl) (bQ (.mk (by kernel_rfl) akH))))
theorem akJ:ax (Uj (M.Ah)):=aX (cx:=x8) true MJ Tryz.func100 (hl1 akI) ⟨⟨[.bC [.an U.str,.an U.str]],[]⟩,fun x=>(x.1.1.1,x.1.1.2.1)⟩ (fun x=>by kernel_rfl)
def akK(y:Bool⊕((List (List UInt8))×Int)){R:Type}(k:KT R):R:=match y with|.inl a0=>kk k Ex.ret ⟨[.any,.any,.bool],[]⟩ (((),((),(a0,()))),())|.inr a1=>kk k (Ex.exit 2) ⟨[.an U.str,iq0,.any],[]⟩ ((a1.1,(a1.2,((),()))),())
def akL:List (cz K ((Bool)⊕((List (List UInt8))×Int))):=[⟨Ex.ret,⟨[.any,.any,.bool],[]⟩,fun x=>.inl x.1.2.2.1⟩,⟨(Ex.exit 2),⟨[.an U.str,iq0,.any],[]⟩,fun x=>.inr ((x.1.1,x.1.2.1))⟩]
def Uk:bE K:=bJ D false 25 0 [0,3,4] [0,3,2] Hh (fun x=>M.uW x.1.1 x.1.2.1 ad x.1.2.2.1) akK
def Ul:bE K:=bJ D false 25 0 [0,3] [2] Ni (fun x=>M.uX ad x.1.1 x.1.2.1) iU
def Um(m:(List (List UInt8))->Option Bool):aG K:=cB 101 yp (fun x=>m x.1.1)
def ya:Cx K:=bp [] [] [(5,Uk),(2,Ul)]
theorem ML:aP ya:=aV ar _ aA
theorem akM:bF ya (bq (bq (bI Tryz.f101) 0) 0) Uk:=lk (cx:=ya) (sh:=Hh) (run:=fun n x=>M.uW x.1.1 x.1.2.1 n x.1.2.2.1) (bG:=akL) ML (fun m x=>by kernel_rfl) (af ⟨cO,fun _ _ _=>rfl⟩ (af ⟨bL,fun _ _ _=>rfl⟩ aA))
theorem akN:bF ya (bq (bI Tryz.f101) 0) Ul:=lk (cx:=ya) (sh:=Ni) (run:=fun n x=>M.uX n x.1.1 x.1.2.1) (bG:=iV) ML (fun m x=>by kernel_rfl) (af ⟨cO,fun _ _ _=>rfl⟩ (af ⟨bL,fun _ _ _=>rfl⟩ aA)) (hl:=(bP 1 (by kernel_rfl) (bQ (.mk (by kernel_rfl) akM))))
theorem akO:ax (Um (M.su)):=aX (cx:=ya) true ML Tryz.func101 (hl1 akN) ⟨zs0,fun x=>x.1.1⟩ (fun x=>by kernel_rfl)
def Un:bE K:=bJ D false 66 3 [1,3,4,5] [1,3,4,2] FT (fun x=>M.xw x.2.1 x.2.2.2.2.2.1 ad x.1.2.2.2.1 x.2.2.2.2.1) Uo
def akP(y:(List (List UInt8))×(List (List UInt8))){R:Type}(k:KT R):R:=match y with|a0=>kk k (Ex.exit 2) FG (((),((),())),((),((),((),(a0.1,(a0.2,()))))))
def akQ:List (cz K ((List (List UInt8))×(List (List UInt8)))):=[⟨(Ex.exit 2),FG,fun x=>(x.2.2.2.2.1,x.2.2.2.2.2.1)⟩]
def Up:bE K:=bJ D false 66 3 [1,3,4,8] [3,4] FT (fun x=>M.xx x.2.1 x.2.2.2.2.1 ad x.1.2.2.2.1 x.2.2.2.2.2.1) akP
def Ur(m:M.aj->Option Bool):aG K:=cB 60 qV (fun x=>m x.1.1)
def yb:Cx K:=bp [(100,.jH),(101,.plain)] [Uj M.Ah,Um M.su] [(4,Un),(11,Up)]
theorem MM:aP yb:=aV ar _ (af akJ (af akO aA))
theorem akR:bF yb (bq (bI Tryz.f60) 0) Un:=lk (cx:=yb) (sh:=FT) (run:=fun n x=>M.xw x.2.1 x.2.2.2.2.2.1 n x.1.2.2.2.1 x.2.2.2.2.1) (bG:=Us) MM (fun m x=>by kernel_rfl) (af ⟨cO,fun _ _ _=>rfl⟩ (af ⟨bL,fun _ _ _=>rfl⟩ aA))
theorem akS:bF yb (bq (bI Tryz.f60) 1) Up:=lk (cx:=yb) (sh:=FT) (run:=fun n x=>M.xx x.2.1 x.2.2.2.2.1 n x.1.2.2.2.1 x.2.2.2.2.2.1) (bG:=akQ) MM (fun m x=>by kernel_rfl) (af ⟨bL,fun _ _ _=>rfl⟩ aA)
theorem akT:ax (Ur (M.xo)):=aX (cx:=yb) true MM Tryz.func60 (hl2 akR akS) ⟨zs0,fun x=>x.1.1⟩ (fun x=>by kernel_rfl)
def Ut(m:(List UInt8)->Option (M.aj×Int×Int)):aG K:={f:=40,sh:=eY,R:=M.aj×Int×Int,run:=fun x=>m x.1.1,dflt:=default,out:=fun r=>(Sh.enc D (.bC [.el U.ba,iq0,iq0]) (r.1,(r.2.1,(r.2.2,()))),aW.encs D [] ())}
def Uu:Cx K:=bp [(57,.jH),(58,.bg),(59,.bg),(60,.plain)] [Uw M.zC,Uc M.xn,vq M.kL,Ur M.xo] []
theorem akU:aP Uu:=aV ar _ (af akV (af akB (af x7 (af akT aA))))
theorem akW:ax (Ut (M.sr)):=aX (cx:=Uu) true akU Tryz.func40 hq ⟨aaw,fun x=>(x.1.1.1,x.1.1.2.1,x.1.1.2.2.1)⟩ (fun x=>by kernel_rfl)
def tf(m:M.aa->Int->Option Int):aG K:=cI 91 M9 (fun x=>m x.1.1 x.1.2.1)
def akX(y:Int⊕Int){R:Type}(k:KT R):R:=match y with|.inl a0=>kk k Ex.ret ⟨[.any,iq0],[.dead]⟩ (((),(a0,())),((),()))|.inr a1=>kk k (Ex.exit 1) ⟨[iq0,.any],[.dead]⟩ ((a1,((),())),((),()))
def akY:List (cz K ((Int)⊕Int)):=[⟨Ex.ret,⟨[.any,iq0],[.dead]⟩,fun x=>.inl x.1.2.1⟩,⟨(Ex.exit 1),⟨[iq0,.any],[.dead]⟩,fun x=>.inr (x.1.1)⟩]
def Uy(fS:M.aa->Int->Option Int):bE K:=bJ D false 114 1 [1,2,8,9] [8,4] U9 (fun x=>M.va fS x.1.1 ad x.1.2.2.1 x.1.2.2.2.1 x.2.1) akX
def FA(fS:M.aa->Int->Option Int):Cx K:=bp [(50,.plain),(91,.plain)] [Bh M.Bi,tf fS] [(22,Uy fS)]
theorem UA(fS:M.aa->Int->Option Int)(yc:ax (tf fS)):aP (FA fS):=aV ar _ (af FB (af yc aA))
theorem akZ(fS:M.aa->Int->Option Int)(yc:ax (tf fS)):bF (FA fS) (bq (bI Tryz.f91) 0) (Uy fS):=lk (cx:=FA fS) (sh:=U9) (run:=fun n x=>M.va fS x.1.1 n x.1.2.2.1 x.1.2.2.2.1 x.2.1) (bG:=akY) (UA fS yc) (fun m x=>by kernel_rfl) (af ⟨cO,fun _ _ _=>rfl⟩ (af ⟨bL,fun _ _ _=>rfl⟩ aA))
theorem ak0(fS:M.aa->Int->Option Int)(yc:ax (tf fS)):ax (tf (M.E5 fS)):=fP (cx:=FA fS) (fz:=true) ar (UA fS yc) bm ⟨Tryz.func91,by kernel_rfl⟩ (hl1 (akZ fS yc)) ⟨zs2,fun x=>x.1.1⟩ (fun x=>rfl) (fun x=>by kernel_rfl)
theorem UB:∀n,ax (tf (M.vc n))|0=>nw fun _=>rfl|n+1=>ak0 (M.vc n) (UB n)
theorem ak1:ax (tf (M.AM)):=UB ad
def jO(m:M.aa->Option ((List UInt8))):aG K:=cS 102 ⟨[.el U.Term],[]⟩ (fun x=>m x.1.1)
def ak2(y:(List UInt8)){R:Type}(k:KT R):R:=match y with|a0=>kk k (Ex.exit 0) eY ((a0,()),())
def ak3:List (cz K ((List UInt8))):=[⟨(Ex.exit 0),eY,fun x=>x.1.1⟩]
def UC(cm:M.aa->Option ((List UInt8))):bE K:=bJ D false 23 0 [0,3,4] [3] ⟨[.an U.Term,.str,iq0],[]⟩ (fun x=>M.qL cm x.1.1 ad x.1.2.1 x.1.2.2.1) ak2
def UD(m:(List M.aa)->Option ((List UInt8))):aG K:=cS 145 ⟨[.an U.Term],[]⟩ (fun x=>m x.1.1)
def FC(cm:M.aa->Option ((List UInt8))):Cx K:=bp [(102,.plain)] [jO cm] [(3,UC cm)]
theorem UE(cm:M.aa->Option ((List UInt8)))(ig:ax (jO cm)):aP (FC cm):=aV ar _ (af ig aA)
theorem ak4(cm:M.aa->Option ((List UInt8)))(ig:ax (jO cm)):bF (FC cm) (bq (bI Tryz.f145) 0) (UC cm):=lk (cx:=FC cm) (sh:=⟨[.an U.Term,.str,iq0],[]⟩) (run:=fun n x=>M.qL cm x.1.1 n x.1.2.1 x.1.2.2.1) (bG:=ak3) (UE cm ig) (fun m x=>by kernel_rfl) (af ⟨bL,fun _ _ _=>rfl⟩ aA)
theorem ak5(cm:M.aa->Option ((List UInt8)))(ig:ax (jO cm)):ax (UD (M.AN cm)):=fP (cx:=FC cm) (fz:=true) ar (UE cm ig) bm ⟨Tryz.func145,by kernel_rfl⟩ (hl1 (ak4 cm ig)) ⟨eY,fun x=>x.1.1⟩ (fun x=>rfl) (fun x=>by kernel_rfl)
def UF(m:M.aa->M.aa->Option ((List UInt8))):aG K:=cS 146 ZQ (fun x=>m x.1.1 x.1.2.1)
def UG(cm:M.aa->Option ((List UInt8))):Cx K:=bp [(102,.plain)] [jO cm] []
theorem ak6(cm:M.aa->Option ((List UInt8)))(ig:ax (jO cm)):aP (UG cm):=aV ar _ (af ig aA)
theorem ak7(cm:M.aa->Option ((List UInt8)))(ig:ax (jO cm)):ax (UF (M.AP cm)):=fP (cx:=UG cm) (fz:=true) ar (ak6 cm ig) bm ⟨Tryz.func146,by kernel_rfl⟩ hq ⟨eY,fun x=>x.1.1⟩ (fun x=>rfl) (fun x=>by kernel_rfl)
def ak8(y:(List UInt8)){R:Type}(k:KT R):R:=match y with|a0=>kk k (Ex.exit 0) ye ((a0,()),((),()))
def ak9:List (cz K ((List UInt8))):=[⟨(Ex.exit 0),ye,fun x=>x.1.1⟩]
def UH(cm:M.aa->Option ((List UInt8))):bE K:=bJ D false 62 1 [1,3,4] [3] Vb (fun x=>M.qM cm ad x.1.2.1 x.1.2.2.1 x.2.1) ak8
def UJ(m:M.aa->Option ((List UInt8))):aG K:=cS 147 ⟨[.el U.Term],[]⟩ (fun x=>m x.1.1)
def FD(cm:M.aa->Option ((List UInt8))):Cx K:=bp [(102,.plain)] [jO cm] [(3,UH cm)]
theorem UK(cm:M.aa->Option ((List UInt8)))(ig:ax (jO cm)):aP (FD cm):=aV ar _ (af ig aA)
theorem ala(cm:M.aa->Option ((List UInt8)))(ig:ax (jO cm)):bF (FD cm) (bq (bI Tryz.f147) 0) (UH cm):=lk (cx:=FD cm) (sh:=Vb) (run:=fun n x=>M.qM cm n x.1.2.1 x.1.2.2.1 x.2.1) (bG:=ak9) (UK cm ig) (fun m x=>by kernel_rfl) (af ⟨bL,fun _ _ _=>rfl⟩ aA)
theorem alb(cm:M.aa->Option ((List UInt8)))(ig:ax (jO cm)):ax (UJ (M.AO cm)):=fP (cx:=FD cm) (fz:=true) ar (UK cm ig) bm ⟨Tryz.func147,by kernel_rfl⟩ (hl1 (ala cm ig)) ⟨eY,fun x=>x.1.1⟩ (fun x=>rfl) (fun x=>by kernel_rfl)
def UL(cm:M.aa->Option ((List UInt8))):Cx K:=bp [(143,.fresh),(144,.jH),(145,.plain),(146,.plain),(147,.plain)] [MP M.jw,MQ M.jx,UD (M.AN cm),UF (M.AP cm),UJ (M.AO cm)] []
theorem alc(cm:M.aa->Option ((List UInt8)))(ig:ax (jO cm)):aP (UL cm):=aV ar _ (af UM (af UN (af (ak5 cm ig) (af (ak7 cm ig) (af (alb cm ig) aA)))))
theorem ald(cm:M.aa->Option ((List UInt8)))(ig:ax (jO cm)):ax (jO (M.E8 cm)):=fP (cx:=UL cm) (fz:=true) ar (alc cm ig) bm ⟨Tryz.func102,by kernel_rfl⟩ hq ⟨eY,fun x=>x.1.1⟩ (fun x=>rfl) (fun x=>by kernel_rfl)
theorem UO:∀n,ax (jO (M.mT n))|0=>nw fun _=>rfl|n+1=>ald (M.mT n) (UO n)
theorem ale:ax (jO (M.xM)):=UO ad
def alf(y:Bool⊕(M.aa×M.aa)){R:Type}(k:KT R):R:=match y with|.inl a0=>kk k Ex.ret FH (((),((),(a0,()))),((),((),())))|.inr a1=>kk k (Ex.exit 0) Vf (((),((),((),()))),(a1.1,(a1.2,())))
def alg:List (cz K ((Bool)⊕(M.aa×M.aa))):=[⟨Ex.ret,FH,fun x=>.inl x.1.2.2.1⟩,⟨(Ex.exit 0),Vf,fun x=>.inr ((x.2.1,x.2.2.1))⟩]
def UQ:bE K:=bJ D false 74 2 [2,3,5] [2,3,4] FU (fun x=>M.sC ad x.1.2.2.1 x.2.1 x.2.2.1) alf
def qW(m:M.aa->M.aa->Option Bool):aG K:=cB 103 ZQ (fun x=>m x.1.1 x.1.2.1)
def UR(y:Bool⊕Unit){R:Type}(k:KT R):R:=match y with|.inl a0=>kk k Ex.ret FI ((a0,()),((),((),())))|.inr a1=>kk k (Ex.exit 2) CB (((),()),((),((),())))
def US:List (cz K ((Bool)⊕Unit)):=[⟨Ex.ret,FI,fun x=>.inl x.1.1⟩,⟨(Ex.exit 2),CB,fun x=>.inr (())⟩]
def UT(eZ:M.aa->M.aa->Option Bool):bE K:=bJ D false 74 2 [2,3,6] [4] FU (fun x=>M.sD eZ ad x.1.2.2.1 x.2.1 x.2.2.1) UR
def yf(eZ:M.aa->M.aa->Option Bool):Cx K:=bp [(103,.plain)] [qW eZ] [(4,UQ),(9,UT eZ)]
theorem MR(eZ:M.aa->M.aa->Option Bool)(qX:ax (qW eZ)):aP (yf eZ):=aV ar _ (af qX aA)
theorem alh(eZ:M.aa->M.aa->Option Bool)(qX:ax (qW eZ)):bF (yf eZ) (bq (bI Tryz.f103) 0) UQ:=lk (cx:=yf eZ) (sh:=FU) (run:=fun n x=>M.sC n x.1.2.2.1 x.2.1 x.2.2.1) (bG:=alg) (MR eZ qX) (fun m x=>by kernel_rfl) (af ⟨cO,fun _ _ _=>rfl⟩ (af ⟨bL,fun _ _ _=>rfl⟩ aA))
theorem ali(eZ:M.aa->M.aa->Option Bool)(qX:ax (qW eZ)):bF (yf eZ) (bq (bI Tryz.f103) 1) (UT eZ):=lk (cx:=yf eZ) (sh:=FU) (run:=fun n x=>M.sD eZ n x.1.2.2.1 x.2.1 x.2.2.1) (bG:=US) (MR eZ qX) (fun m x=>by kernel_rfl) (af ⟨cO,fun _ _ _=>rfl⟩ (af ⟨bL,fun _ _ _=>rfl⟩ aA))
theorem alj(eZ:M.aa->M.aa->Option Bool)(qX:ax (qW eZ)):ax (qW (M.ET eZ)):=fP (cx:=yf eZ) (fz:=true) ar (MR eZ qX) bm ⟨Tryz.func103,by kernel_rfl⟩ (hl2 (alh eZ qX) (ali eZ qX)) ⟨zs0,fun x=>x.1.1⟩ (fun x=>rfl) (fun x=>by kernel_rfl)
theorem UU:∀n,ax (qW (M.sB n))|0=>nw fun _=>rfl|n+1=>alj (M.sB n) (UU n)
theorem alk:ax (qW (M.AE)):=UU ad
def UW:bE K:=bJ D false 26 0 [0,1,12,13] [4] Vm (fun x=>M.xy x.1.1 x.1.2.1 x.1.2.2.1 ad x.1.2.2.2.1) iU
def UY(m:(List (List UInt8))->(List (List UInt8))->Option Bool):aG K:=cB 167 ⟨[.an U.str,.an U.str],[]⟩ (fun x=>m x.1.1 x.1.2.1)
def FK:Cx K:=bp [] [] [(4,UW)]
theorem UZ:aP FK:=aV ar _ aA
theorem alm:bF FK (bq (bI Tryz.f167) 0) UW:=lk (cx:=FK) (sh:=Vm) (run:=fun n x=>M.xy x.1.1 x.1.2.1 x.1.2.2.1 n x.1.2.2.2.1) (bG:=iV) UZ (fun m x=>by kernel_rfl) (af ⟨cO,fun _ _ _=>rfl⟩ (af ⟨bL,fun _ _ _=>rfl⟩ aA))
theorem aln:ax (UY (M.An)):=aX (cx:=FK) true UZ Tryz.func167 (hl1 alm) ⟨zs0,fun x=>x.1.1⟩ (fun x=>by kernel_rfl)
def mf(m:M.aa->M.aa->Int->Option Bool):aG K:=cB 118 ⟨[.el U.Term,.el U.Term,iq0],[]⟩ (fun x=>m x.1.1 x.1.2.1 x.1.2.2.1)
def U0(m:M.aa->M.aa->Int->Option Bool):aG K:=cB 169 ⟨[.el U.Term,.el U.Term,.rp U.i64 0],[]⟩ (fun x=>m x.1.1 x.1.2.1 x.1.2.2.1)
def U1(du:M.aa->M.aa->Int->Option Bool):Cx K:=bp [(118,.plain)] [mf du] []
theorem alo(du:M.aa->M.aa->Int->Option Bool)(lL:ax (mf du)):aP (U1 du):=aV ar _ (af lL aA)
theorem alp(du:M.aa->M.aa->Int->Option Bool)(lL:ax (mf du)):ax (U0 (M.ES du)):=fP (cx:=U1 du) (fz:=true) ar (alo du lL) bm ⟨Tryz.func169,by kernel_rfl⟩ hq ⟨zs0,fun x=>x.1.1⟩ (fun x=>rfl) (fun x=>by kernel_rfl)
def U2(du:M.aa->M.aa->Int->Option Bool):bE K:=bJ D false 32 0 [1,2,15,16,17] [6] Vo (fun x=>M.xz du x.1.1 x.1.2.1.1 x.1.2.2.1 x.1.2.2.2.1 ad x.1.2.2.2.2.1) iU
def U4(m:(List M.aa)->(List M.aa)->Int->Option Bool):aG K:=cB 168 ⟨[.an U.Term,.an U.Term,.fn 169 [.rp U.i64 0]],[]⟩ (fun x=>m x.1.1 x.1.2.1 x.1.2.2.1.1)
def FM(du:M.aa->M.aa->Int->Option Bool):Cx K:=bp [(169,.plain)] [U0 (M.ES du)] [(4,U2 du)]
theorem U5(du:M.aa->M.aa->Int->Option Bool)(lL:ax (mf du)):aP (FM du):=aV ar _ (af (alp du lL) aA)
theorem alq(du:M.aa->M.aa->Int->Option Bool)(lL:ax (mf du)):bF (FM du) (bq (bI Tryz.f168) 0) (U2 du):=lk (cx:=FM du) (sh:=Vo) (run:=fun n x=>M.xz du x.1.1 x.1.2.1.1 x.1.2.2.1 x.1.2.2.2.1 n x.1.2.2.2.2.1) (bG:=iV) (U5 du lL) (fun m x=>by kernel_rfl) (af ⟨cO,fun _ _ _=>rfl⟩ (af ⟨bL,fun _ _ _=>rfl⟩ aA))
theorem alr(du:M.aa->M.aa->Int->Option Bool)(lL:ax (mf du)):ax (U4 (M.Ao du)):=fP (cx:=FM du) (fz:=true) ar (U5 du lL) bm ⟨Tryz.func168,by kernel_rfl⟩ (hl1 (alq du lL)) ⟨zs0,fun x=>x.1.1⟩ (fun x=>rfl) (fun x=>by kernel_rfl)
def U6(du:M.aa->M.aa->Int->Option Bool):Cx K:=bp [(167,.plain),(168,.plain)] [UY M.An,U4 (M.Ao du)] []
theorem als(du:M.aa->M.aa->Int->Option Bool)(lL:ax (mf du)):aP (U6 du):=aV ar _ (af aln (af (alr du lL) aA))
theorem alu(du:M.aa->M.aa->Int->Option Bool)(lL:ax (mf du)):ax (mf (M.ER du)):=fP (cx:=U6 du) (fz:=true) ar (als du lL) bm ⟨Tryz.func118,by kernel_rfl⟩ hq ⟨zs0,fun x=>x.1.1⟩ (fun x=>rfl) (fun x=>by kernel_rfl)
theorem U7:∀n,ax (mf (M.u0 n))|0=>nw fun _=>rfl|n+1=>alu (M.u0 n) (U7 n)
theorem U8:ax (mf (M.xC)):=U7 ad
def tg(m:M.aa->Int->Option ((List UInt8))):aG K:=cS 107 M9 (fun x=>m x.1.1 x.1.2.1)
def alv(y:(List UInt8)×M.aa×(List (List UInt8))){R:Type}(k:KT R):R:=match y with|a0=>kk k (Ex.exit 0) Vq (((),(a0.1,((),()))),(a0.2.1,((),(a0.2.2,()))))
def alx:List (cz K ((List UInt8)×M.aa×(List (List UInt8)))):=[⟨(Ex.exit 0),Vq,fun x=>(x.1.2.1,x.2.1,x.2.2.2.1)⟩]
def Va(f6:M.aa->Int->Option ((List UInt8))):bE K:=bJ D false 83 2 [1,2,5,6,21,22,23] [2,5,6] Vs (fun x=>M.sP f6 x.1.1 x.1.2.2.1 x.1.2.2.2.2.1 x.1.2.2.2.2.2.1 ad x.1.2.2.2.2.2.2.1 x.2.1 x.2.2.2.1) alv
def Vd(m:M.aa->(List (List UInt8))->Option ((List UInt8))):aG K:=cS 154 ⟨[.el U.Term,.an U.str],[]⟩ (fun x=>m x.1.1 x.1.2.1)
theorem aly:ax (Vd (M.xI)):=aX (cx:=gG) true gX Tryz.func154 hq ⟨eY,fun x=>x.1.1⟩ (fun x=>by kernel_rfl)
def alz(y:(List (List UInt8))){R:Type}(k:KT R):R:=match y with|a0=>kk k (Ex.exit 0) ⟨[.own 2],[.dead,.dead,.arr U.str]⟩ (((),()),((),((),(a0,()))))
def alA:List (cz K ((List (List UInt8)))):=[⟨(Ex.exit 0),⟨[.own 2],[.dead,.dead,.arr U.str]⟩,fun x=>x.2.2.2.1⟩]
def Ve:bE K:=bJ D false 60 2 [1,2,5,10,11,12] [5] Vv (fun x=>M.qK x.1.1 x.1.2.2.2.1 x.1.2.2.2.2.1 ad x.1.2.2.2.2.2.1 x.2.1 x.2.2.2.1) alz
def Vg(m:M.aa->(List (List UInt8))->Option ((List (List UInt8)))):aG K:={f:=155,sh:=⟨[.el U.Term,.an U.str],[]⟩,R:=(List (List UInt8)),run:=fun x=>m x.1.1 x.1.2.1,dflt:=default,out:=fun r=>(Sh.enc D (.an U.str) r,aW.encs D [] ())}
def FN:Cx K:=bp [] [] [(3,Ve)]
theorem Vh:aP FN:=aV ar _ aA
theorem alB:bF FN (bq (bI Tryz.f155) 0) Ve:=lk (cx:=FN) (sh:=Vv) (run:=fun n x=>M.qK x.1.1 x.1.2.2.2.1 x.1.2.2.2.2.1 n x.1.2.2.2.2.2.1 x.2.1 x.2.2.2.1) (bG:=alA) Vh (fun m x=>by kernel_rfl) (af ⟨bL,fun _ _ _=>rfl⟩ aA)
theorem alC:ax (Vg (M.xJ)):=aX (cx:=FN) true Vh Tryz.func155 (hl1 alB) ⟨yp,fun x=>x.1.1⟩ (fun x=>by kernel_rfl)
def FO(f6:M.aa->Int->Option ((List UInt8))):Cx K:=bp [(69,.plain),(153,.jH),(107,.plain),(108,.plain),(154,.plain),(155,.jH)] [FP M.FQ,FR M.fL,tg f6,Ei M.strings_Join,Vd M.xI,Vg M.xJ] [(7,Va f6)]
theorem Vi(f6:M.aa->Int->Option ((List UInt8)))(yg:ax (tg f6)):aP (FO f6):=aV ar _ (af MS (af MU (af yg (af Re (af aly (af alC aA))))))
theorem alD(f6:M.aa->Int->Option ((List UInt8)))(yg:ax (tg f6)):bF (FO f6) (bq (bI Tryz.f107) 0) (Va f6):=lk (cx:=FO f6) (sh:=Vs) (run:=fun n x=>M.sP f6 x.1.1 x.1.2.2.1 x.1.2.2.2.2.1 x.1.2.2.2.2.2.1 n x.1.2.2.2.2.2.2.1 x.2.1 x.2.2.2.1) (bG:=alx) (Vi f6 yg) (fun m x=>by kernel_rfl) (af ⟨bL,fun _ _ _=>rfl⟩ aA)
theorem alE(f6:M.aa->Int->Option ((List UInt8)))(yg:ax (tg f6)):ax (tg (M.E4 f6)):=fP (cx:=FO f6) (fz:=true) ar (Vi f6 yg) bm ⟨Tryz.func107,by kernel_rfl⟩ (hl1 (alD f6 yg)) ⟨eY,fun x=>x.1.1⟩ (fun x=>rfl) (fun x=>by kernel_rfl)
theorem Vj:∀n,ax (tg (M.sS n))|0=>nw fun _=>rfl|n+1=>alE (M.sS n) (Vj n)
theorem alF:ax (tg (M.sU)):=Vj ad
def Vk(m:(List UInt8)->(List UInt8)->Option (Int×(List UInt8))):aG K:={f:=67,sh:=⟨[.ptr 0 0,.str],[.box [.np 0,.own 1],.arr U.u8]⟩,R:=Int×(List UInt8),run:=fun x=>m x.1.2.1 x.2.2.1,dflt:=default,out:=fun r=>(Sh.enc D (.bC [iq0,.any]) (r.1,((),())),aW.encs D [.box [.np 0,.own 2],.dead,.arr U.u8] (((),((),())),((),(r.2,()))))}
def Vl:Cx K:={eK with mode:=d6 .plain [(106,.bg)],mv:=true,call:=callOf D [KY M.K0],loop:=dR []}
theorem alG:aP Vl:=aV ar _ (af agJ aA)
theorem alH:ax (Vk (M.nN)):=aX (cx:=Vl) true alG Tryz.func67 hq ⟨⟨[.bC [iq0,.any]],[.box [.np 0,.own 2],.dead,.arr U.u8]⟩,fun x=>(x.1.1.1,x.2.2.2.1)⟩ (fun x=>by kernel_rfl)
def alI(y:M.ah×(List (List UInt8))){R:Type}(k:KT R):R:=match y with|a0=>kk k (Ex.exit 1) Vw (((),((),())),(a0.1,((),(a0.2,()))))
def alJ:List (cz K (M.ah×(List (List UInt8)))):=[⟨(Ex.exit 1),Vw,fun x=>(x.2.1,x.2.2.2.1)⟩]
def Vn:bE K:=bJ D false 105 2 [1,3,32,33,34] [1,3] Vz (fun x=>M.oV x.1.2.2.1 x.1.2.2.2.1 ad x.1.2.2.2.2.1 x.2.1 x.2.2.2.1) alI
def MV(m:M.bc->Option ((List UInt8))):aG K:=cS 70 FV (fun x=>m x.1.1)
theorem Vp:ax (MV (M.sN)):=aX (cx:=gG) true gX Tryz.func70 hq ⟨eY,fun x=>x.1.1⟩ (fun x=>by kernel_rfl)
def alK(y:(List UInt8)×M.ah×(List (List UInt8))){R:Type}(k:KT R):R:=match y with|a0=>kk k (Ex.exit 3) VA (((),((),(a0.1,()))),(a0.2.1,((),(a0.2.2,()))))
def alL:List (cz K ((List UInt8)×M.ah×(List (List UInt8)))):=[⟨(Ex.exit 3),VA,fun x=>(x.1.2.2.1,x.2.1,x.2.2.2.1)⟩]
def Vr:bE K:=bJ D false 105 2 [1,7,8,67,68,69] [1,7,8] VE (fun x=>M.oW x.1.2.2.1 x.1.2.2.2.1 x.1.2.2.2.2.1 ad x.1.2.2.2.2.2.1 x.2.1 x.2.2.2.1) alK
def Vt(m:M.ah->Option ((List UInt8))):aG K:=cS 68 FW (fun x=>m x.1.1)
def yh:Cx K:=bp [(107,.plain),(70,.plain),(108,.plain)] [tg M.sU,MV M.sN,Ei M.strings_Join] [(9,Vn),(19,Vr)]
theorem MW:aP yh:=aV ar _ (af alF (af Vp (af Re aA)))
theorem alM:bF yh (bq (bI Tryz.f68) 0) Vn:=lk (cx:=yh) (sh:=Vz) (run:=fun n x=>M.oV x.1.2.2.1 x.1.2.2.2.1 n x.1.2.2.2.2.1 x.2.1 x.2.2.2.1) (bG:=alJ) MW (fun m x=>by kernel_rfl) (af ⟨bL,fun _ _ _=>rfl⟩ aA)
theorem alN:bF yh (bq (bI Tryz.f68) 1) Vr:=lk (cx:=yh) (sh:=VE) (run:=fun n x=>M.oW x.1.2.2.1 x.1.2.2.2.1 x.1.2.2.2.2.1 n x.1.2.2.2.2.2.1 x.2.1 x.2.2.2.1) (bG:=alL) MW (fun m x=>by kernel_rfl) (af ⟨bL,fun _ _ _=>rfl⟩ aA)
theorem alO:ax (Vt (M.AT)):=aX (cx:=yh) true MW Tryz.func68 (hl2 alM alN) ⟨eY,fun x=>x.1.1⟩ (fun x=>by kernel_rfl)
def alP(y:(List M.aE)×Int×Int×M.aj×(List UInt8)){R:Type}(k:KT R):R:=match y with|a0=>kk k (Ex.exit 2) F6 (((),((),(a0.1,(a0.2.1,(a0.2.2.1,()))))),(a0.2.2.2.1,(((),((),())),((),(a0.2.2.2.2,())))))
def alQ:List (cz K ((List M.aE)×Int×Int×M.aj×(List UInt8))):=[⟨(Ex.exit 2),F6,fun x=>(x.1.2.2.1,x.1.2.2.2.1,x.1.2.2.2.2.1,x.2.1,x.2.2.2.2.1)⟩]
def Vu:bE K:=bJ D false 91 3 [1,3,24,25,26,36,37,38] [1,3,24,25,26] VI (fun x=>M.pd x.1.2.2.1 x.1.2.2.2.1 x.1.2.2.2.2.1 x.1.2.2.2.2.2.1 x.1.2.2.2.2.2.2.1 x.2.1 ad x.1.2.2.2.2.2.2.2.1 x.2.2.2.2.1) alP
def alR(y:M.aj×(List UInt8)){R:Type}(k:KT R):R:=match y with|a0=>kk k (Ex.exit 0) VL (((),((),())),(a0.1,(((),((),())),((),(a0.2,())))))
def alS:List (cz K (M.aj×(List UInt8))):=[⟨(Ex.exit 0),VL,fun x=>(x.2.1,x.2.2.2.2.1)⟩]
def Vx:bE K:=bJ D false 91 3 [1,3,24,25,26] [1,3] F6 (fun x=>M.pe ad x.1.2.2.1 x.1.2.2.2.1 x.1.2.2.2.2.1 x.2.1 x.2.2.2.2.1) alR
def alT(y:(List M.aJ)×Int×Int×(List (List UInt8))×(List UInt8)){R:Type}(k:KT R):R:=match y with|a0=>kk k (Ex.exit 6) F8 (((),((),(a0.1,(a0.2.1,(a0.2.2.1,()))))),(((),((),())),((),((),(a0.2.2.2.1,(a0.2.2.2.2,()))))))
def alU:List (cz K ((List M.aJ)×Int×Int×(List (List UInt8))×(List UInt8))):=[⟨(Ex.exit 6),F8,fun x=>(x.1.2.2.1,x.1.2.2.2.1,x.1.2.2.2.2.1,x.2.2.2.2.1,x.2.2.2.2.2.1)⟩]
def Vy:bE K:=bJ D false 91 3 [3,8,52,53,54,64,65,66] [3,8,52,53,54] VR (fun x=>M.pf x.1.2.2.1 x.1.2.2.2.1 x.1.2.2.2.2.1 x.1.2.2.2.2.2.1 x.1.2.2.2.2.2.2.1 x.2.2.2.2.1 ad x.1.2.2.2.2.2.2.2.1 x.2.2.2.2.2.1) alT
def alV(y:(List UInt8)){R:Type}(k:KT R):R:=match y with|a0=>kk k (Ex.exit 4) VX (((),()),(((),((),())),((),((),(a0,())))))
def alW:List (cz K ((List UInt8))):=[⟨(Ex.exit 4),VX,fun x=>x.2.2.2.2.1⟩]
def VB:bE K:=bJ D false 91 3 [3,8,52,53,54] [3] F8 (fun x=>M.pg ad x.1.2.2.1 x.1.2.2.2.1 x.1.2.2.2.2.1 x.2.2.2.2.1 x.2.2.2.2.2.1) alV
def VC(m:M.aj->Option ((List UInt8))):aG K:=cS 45 qV (fun x=>m x.1.1)
def pA:Cx K:=bp [(67,.bg),(68,.plain),(69,.plain),(70,.plain),(71,.bg)] [Vk M.nN,Vt M.AT,FP M.FQ,MV M.sN,KZ M.rS] [(8,Vu),(4,Vx),(20,Vy),(16,VB)]
theorem Bj:aP pA:=aV ar _ (af alH (af alO (af MS (af Vp (af agK aA)))))
theorem alX:bF pA (bq (bq (bI Tryz.f45) 0) 0) Vu:=lk (cx:=pA) (sh:=VI) (run:=fun n x=>M.pd x.1.2.2.1 x.1.2.2.2.1 x.1.2.2.2.2.1 x.1.2.2.2.2.2.1 x.1.2.2.2.2.2.2.1 x.2.1 n x.1.2.2.2.2.2.2.2.1 x.2.2.2.2.1) (bG:=alQ) Bj (fun m x=>by kernel_rfl) (af ⟨bL,fun _ _ _=>rfl⟩ aA)
theorem alY:bF pA (bq (bq (bI Tryz.f45) 1) 0) Vy:=lk (cx:=pA) (sh:=VR) (run:=fun n x=>M.pf x.1.2.2.1 x.1.2.2.2.1 x.1.2.2.2.2.1 x.1.2.2.2.2.2.1 x.1.2.2.2.2.2.2.1 x.2.2.2.2.1 n x.1.2.2.2.2.2.2.2.1 x.2.2.2.2.2.1) (bG:=alU) Bj (fun m x=>by kernel_rfl) (af ⟨bL,fun _ _ _=>rfl⟩ aA)
theorem alZ:bF pA (bq (bI Tryz.f45) 0) Vx:=lk (cx:=pA) (sh:=F6) (run:=fun n x=>M.pe n x.1.2.2.1 x.1.2.2.2.1 x.1.2.2.2.2.1 x.2.1 x.2.2.2.2.1) (bG:=alS) Bj (fun m x=>by kernel_rfl) (af ⟨bL,fun _ _ _=>rfl⟩ aA) (hl:=(bP 1 (by kernel_rfl) (bQ (.mk (by kernel_rfl) alX))))
theorem al0:bF pA (bq (bI Tryz.f45) 1) VB:=lk (cx:=pA) (sh:=F8) (run:=fun n x=>M.pg n x.1.2.2.1 x.1.2.2.2.1 x.1.2.2.2.2.1 x.2.2.2.2.1 x.2.2.2.2.2.1) (bG:=alW) Bj (fun m x=>by kernel_rfl) (af ⟨bL,fun _ _ _=>rfl⟩ aA) (hl:=(bP 1 (by kernel_rfl) (bQ (.mk (by kernel_rfl) alY))))
theorem al1:ax (VC (M.sL)):=aX (cx:=pA) true Bj Tryz.func45 (hl2 alZ al0) ⟨eY,fun x=>x.1.1⟩ (fun x=>by kernel_rfl)
def VD:bE K:=bJ D false 26 0 [0,1,12,13] [4] V1 (fun x=>M.xA x.1.1 x.1.2.1 x.1.2.2.1 ad x.1.2.2.2.1) iU
def VF(m:(List M.aM)->(List M.aM)->Option Bool):aG K:=cB 119 ⟨[.an U.dc,.an U.dc],[]⟩ (fun x=>m x.1.1 x.1.2.1)
def FX:Cx K:=bp [] [] [(4,VD)]
theorem VG:aP FX:=aV ar _ aA
theorem al2:bF FX (bq (bI Tryz.f119) 0) VD:=lk (cx:=FX) (sh:=V1) (run:=fun n x=>M.xA x.1.1 x.1.2.1 x.1.2.2.1 n x.1.2.2.2.1) (bG:=iV) VG (fun m x=>by kernel_rfl) (af ⟨cO,fun _ _ _=>rfl⟩ (af ⟨bL,fun _ _ _=>rfl⟩ aA))
theorem al3:ax (VF (M.Ap)):=aX (cx:=FX) true VG Tryz.func119 (hl1 al2) ⟨zs0,fun x=>x.1.1⟩ (fun x=>by kernel_rfl)
def VH(m:M.az->M.az->Option Bool):aG K:=cB 121 V3 (fun x=>m x.1.1 x.1.2.1)
def VJ:Cx K:=bp [(118,.plain)] [mf M.xC] []
theorem al4:aP VJ:=aV ar _ (af U8 aA)
theorem al5:ax (VH (M.Ar)):=aX (cx:=VJ) true al4 Tryz.func121 hq ⟨zs0,fun x=>x.1.1⟩ (fun x=>by kernel_rfl)
def VK:bE K:=bJ D false 32 0 [1,2,15,16,17] [6] V6 (fun x=>M.xE x.1.1 x.1.2.2.1 x.1.2.2.2.1 ad x.1.2.2.2.2.1) iU
def VM(m:(List M.az)->(List M.az)->Option Bool):aG K:=cB 120 ⟨[.an U.cY,.an U.cY,.fn 121 []],[]⟩ (fun x=>m x.1.1 x.1.2.1)
def FY:Cx K:=bp [(121,.plain)] [VH M.Ar] [(4,VK)]
theorem VN:aP FY:=aV ar _ (af al5 aA)
theorem al6:bF FY (bq (bI Tryz.f120) 0) VK:=lk (cx:=FY) (sh:=V6) (run:=fun n x=>M.xE x.1.1 x.1.2.2.1 x.1.2.2.2.1 n x.1.2.2.2.2.1) (bG:=iV) VN (fun m x=>by kernel_rfl) (af ⟨cO,fun _ _ _=>rfl⟩ (af ⟨bL,fun _ _ _=>rfl⟩ aA))
theorem al7:ax (VM (M.Au)):=aX (cx:=FY) true VN Tryz.func120 (hl1 al6) ⟨zs0,fun x=>x.1.1⟩ (fun x=>by kernel_rfl)
def VO(m:M.ah->M.ah->Option Bool):aG K:=cB 79 ZR (fun x=>m x.1.1 x.1.2.1)
def VP:Cx K:=bp [(118,.plain),(119,.plain),(120,.plain)] [mf M.xC,VF M.Ap,VM M.Au] []
theorem al8:aP VP:=aV ar _ (af U8 (af al3 (af al7 aA)))
theorem al9:ax (VO (M.Av)):=aX (cx:=VP) true al8 Tryz.func79 hq ⟨zs0,fun x=>x.1.1⟩ (fun x=>by kernel_rfl)
def VQ:bE K:=bJ D false 32 0 [1,2,15,16,17] [6] V9 (fun x=>M.xF x.1.1 x.1.2.2.1 x.1.2.2.2.1 ad x.1.2.2.2.2.1) iU
def VS(m:(List M.ah)->(List M.ah)->Option Bool):aG K:=cB 78 ⟨[.an U.Item,.an U.Item,.fn 79 []],[]⟩ (fun x=>m x.1.1 x.1.2.1)
def FZ:Cx K:=bp [(79,.plain)] [VO M.Av] [(4,VQ)]
theorem VT:aP FZ:=aV ar _ (af al9 aA)
theorem ama:bF FZ (bq (bI Tryz.f78) 0) VQ:=lk (cx:=FZ) (sh:=V9) (run:=fun n x=>M.xF x.1.1 x.1.2.2.1 x.1.2.2.2.1 n x.1.2.2.2.2.1) (bG:=iV) VT (fun m x=>by kernel_rfl) (af ⟨cO,fun _ _ _=>rfl⟩ (af ⟨bL,fun _ _ _=>rfl⟩ aA))
theorem amb:ax (VS (M.Aw)):=aX (cx:=FZ) true VT Tryz.func78 (hl1 ama) ⟨zs0,fun x=>x.1.1⟩ (fun x=>by kernel_rfl)
def VU(m:M.aE->M.aE->Option Bool):aG K:=cB 77 ⟨[.el U.cD,.el U.cD],[]⟩ (fun x=>m x.1.1 x.1.2.1)
def VV:Cx K:=bp [(78,.plain)] [VS M.Aw] []
theorem amc:aP VV:=aV ar _ (af amb aA)
theorem amd:ax (VU (M.Ax)):=aX (cx:=VV) true amc Tryz.func77 hq ⟨zs0,fun x=>x.1.1⟩ (fun x=>by kernel_rfl)
def VW:bE K:=bJ D false 32 0 [1,2,15,16,17] [6] WL (fun x=>M.xG x.1.1 x.1.2.2.1 x.1.2.2.2.1 ad x.1.2.2.2.2.1) iU
def VY(m:(List M.aE)->(List M.aE)->Option Bool):aG K:=cB 76 ⟨[.an U.cD,.an U.cD,.fn 77 []],[]⟩ (fun x=>m x.1.1 x.1.2.1)
def F3:Cx K:=bp [(77,.plain)] [VU M.Ax] [(4,VW)]
theorem VZ:aP F3:=aV ar _ (af amd aA)
theorem ame:bF F3 (bq (bI Tryz.f76) 0) VW:=lk (cx:=F3) (sh:=WL) (run:=fun n x=>M.xG x.1.1 x.1.2.2.1 x.1.2.2.2.1 n x.1.2.2.2.2.1) (bG:=iV) VZ (fun m x=>by kernel_rfl) (af ⟨cO,fun _ _ _=>rfl⟩ (af ⟨bL,fun _ _ _=>rfl⟩ aA))
theorem amf:ax (VY (M.Az)):=aX (cx:=F3) true VZ Tryz.func76 (hl1 ame) ⟨zs0,fun x=>x.1.1⟩ (fun x=>by kernel_rfl)
def V0:bE K:=bJ D false 26 0 [0,1,12,13] [4] WR (fun x=>M.xB x.1.1 x.1.2.1 x.1.2.2.1 ad x.1.2.2.2.1) iU
def V2(m:(List M.aH)->(List M.aH)->Option Bool):aG K:=cB 82 WZ (fun x=>m x.1.1 x.1.2.1)
def F4:Cx K:=bp [] [] [(4,V0)]
theorem V4:aP F4:=aV ar _ aA
theorem amg:bF F4 (bq (bI Tryz.f82) 0) V0:=lk (cx:=F4) (sh:=WR) (run:=fun n x=>M.xB x.1.1 x.1.2.1 x.1.2.2.1 n x.1.2.2.2.1) (bG:=iV) V4 (fun m x=>by kernel_rfl) (af ⟨cO,fun _ _ _=>rfl⟩ (af ⟨bL,fun _ _ _=>rfl⟩ aA))
theorem amh:ax (V2 (M.Aq)):=aX (cx:=F4) true V4 Tryz.func82 (hl1 amg) ⟨zs0,fun x=>x.1.1⟩ (fun x=>by kernel_rfl)
def V5(m:M.aJ->M.aJ->Option Bool):aG K:=cB 81 Xc (fun x=>m x.1.1 x.1.2.1)
def V7:Cx K:=bp [(82,.plain)] [V2 M.Aq] []
theorem ami:aP V7:=aV ar _ (af amh aA)
theorem amj:ax (V5 (M.AA)):=aX (cx:=V7) true ami Tryz.func81 hq ⟨zs0,fun x=>x.1.1⟩ (fun x=>by kernel_rfl)
def V8:bE K:=bJ D false 32 0 [1,2,15,16,17] [6] Xi (fun x=>M.xH x.1.1 x.1.2.2.1 x.1.2.2.2.1 ad x.1.2.2.2.2.1) iU
def Wa(m:(List M.aJ)->(List M.aJ)->Option Bool):aG K:=cB 80 ⟨[.an U.cX,.an U.cX,.fn 81 []],[]⟩ (fun x=>m x.1.1 x.1.2.1)
def F5:Cx K:=bp [(81,.plain)] [V5 M.AA] [(4,V8)]
theorem Wb:aP F5:=aV ar _ (af amj aA)
theorem amk:bF F5 (bq (bI Tryz.f80) 0) V8:=lk (cx:=F5) (sh:=Xi) (run:=fun n x=>M.xH x.1.1 x.1.2.2.1 x.1.2.2.2.1 n x.1.2.2.2.2.1) (bG:=iV) Wb (fun m x=>by kernel_rfl) (af ⟨cO,fun _ _ _=>rfl⟩ (af ⟨bL,fun _ _ _=>rfl⟩ aA))
theorem aml:ax (Wa (M.AB)):=aX (cx:=F5) true Wb Tryz.func80 (hl1 amk) ⟨zs0,fun x=>x.1.1⟩ (fun x=>by kernel_rfl)
def Wc(m:M.aj->M.aj->Option Bool):aG K:=cB 47 ZS (fun x=>m x.1.1 x.1.2.1)
def We:Cx K:=bp [(76,.plain),(80,.plain)] [VY M.Az,Wa M.AB] []
theorem amm:aP We:=aV ar _ (af amf (af aml aA))
theorem amn:ax (Wc (M.AD)):=aX (cx:=We) true amm Tryz.func47 hq ⟨zs0,fun x=>x.1.1⟩ (fun x=>by kernel_rfl)
def Wg(m:M.aj->Option ((List UInt8)×Bool)):aG K:={f:=27,sh:=qV,R:=(List UInt8)×Bool,run:=fun x=>m x.1.1,dflt:=default,out:=fun r=>(Sh.enc D (.bC [.str,.bool]) (r.1,(r.2,())),aW.encs D [] ())}
def Wh:Cx K:=bp [(45,.plain),(46,.jH),(47,.plain)] [VC M.sL,Wi M.Ak,Wc M.AD] []
theorem amo:aP Wh:=aV ar _ (af al1 (af amq (af amn aA)))
theorem amr:ax (Wg (M.AI)):=aX (cx:=Wh) true amo Tryz.func27 hq ⟨⟨[.bC [.str,.bool]],[]⟩,fun x=>(x.1.1.1,x.1.1.2.1)⟩ (fun x=>by kernel_rfl)
def Wj(m:M.aj->Option Bool):aG K:=cB 15 qV (fun x=>m x.1.1)
def Wl:Cx K:=bp [(27,.plain)] [Wg M.AI] []
theorem ams:aP Wl:=aV ar _ (af amr aA)
theorem amu:ax (Wj (M.u6)):=aX (cx:=Wl) true ams Tryz.func15 hq ⟨zs0,fun x=>x.1.1⟩ (fun x=>by kernel_rfl)
def amv(y:Bool⊕(M.ah)){R:Type}(k:KT R):R:=match y with|.inl a0=>kk k Ex.ret F9 (((),(a0,())),((),()))|.inr a1=>kk k (Ex.exit 0) ⟨[.ptr 0 0,.any],[.el U.Item]⟩ (((),((),())),(a1,()))
def amw:List (cz K ((Bool)⊕(M.ah))):=[⟨Ex.ret,F9,fun x=>.inl x.1.2.1⟩,⟨(Ex.exit 0),⟨[.ptr 0 0,.any],[.el U.Item]⟩,fun x=>.inr (x.2.1)⟩]
def Wm:bE K:=bJ D false 48 1 [1,3] [1,2] ⟨[.ptr 0 0,iq0],[.el U.Item]⟩ (fun x=>M.xN ad x.1.2.1 x.2.1) amv
def Wn(m:M.ah->Option Bool):aG K:=cB 56 FW (fun x=>m x.1.1)
def F7:Cx K:=bp [(91,.plain),(50,.plain)] [tf M.AM,Bh M.Bi] [(4,Wm)]
theorem Wp:aP F7:=aV ar _ (af ak1 (af FB aA))
theorem amx:bF F7 (bq (bI Tryz.f56) 0) Wm:=lk (cx:=F7) (sh:=⟨[.ptr 0 0,iq0],[.el U.Item]⟩) (run:=fun n x=>M.xN n x.1.2.1 x.2.1) (bG:=amw) Wp (fun m x=>by kernel_rfl) (af ⟨cO,fun _ _ _=>rfl⟩ (af ⟨bL,fun _ _ _=>rfl⟩ aA))
theorem amy:ax (Wn (M.AU)):=aX (cx:=F7) true Wp Tryz.func56 (hl1 amx) ⟨zs0,fun x=>x.1.1⟩ (fun x=>by kernel_rfl)
def amz(y:Bool⊕(Int×M.aj)){R:Type}(k:KT R):R:=match y with|.inl a0=>kk k Ex.ret Ge (((),((),(a0,()))),((),()))|.inr a1=>kk k (Ex.exit 2) Gf (((),(a1.1,((),()))),(a1.2,()))
def amA:List (cz K ((Bool)⊕(Int×M.aj))):=[⟨Ex.ret,Ge,fun x=>.inl x.1.2.2.1⟩,⟨(Ex.exit 2),Gf,fun x=>.inr ((x.1.2.1,x.2.1))⟩]
def Wq:bE K:=bJ D false 92 1 [1,3,4] [1,3,2] Gh (fun x=>M.xQ x.1.2.1 x.2.1 ad x.1.2.2.1) amz
def amB(y:Bool⊕(M.aj)){R:Type}(k:KT R):R:=match y with|.inl a0=>kk k Ex.ret F9 (((),(a0,())),((),()))|.inr a1=>kk k (Ex.exit 0) ⟨[.ptr 0 0,.any],[.el U.ba]⟩ (((),((),())),(a1,()))
def amC:List (cz K ((Bool)⊕(M.aj))):=[⟨Ex.ret,F9,fun x=>.inl x.1.2.1⟩,⟨(Ex.exit 0),⟨[.ptr 0 0,.any],[.el U.ba]⟩,fun x=>.inr (x.2.1)⟩]
def Ws:bE K:=bJ D false 92 1 [1,3] [1,2] Gi (fun x=>M.xR ad x.1.2.1 x.2.1) amB
def amD(y:Bool⊕(Int×M.aj)){R:Type}(k:KT R):R:=match y with|.inl a0=>kk k Ex.ret Ge (((),((),(a0,()))),((),()))|.inr a1=>kk k (Ex.exit 6) Gf (((),(a1.1,((),()))),(a1.2,()))
def amE:List (cz K ((Bool)⊕(Int×M.aj))):=[⟨Ex.ret,Ge,fun x=>.inl x.1.2.2.1⟩,⟨(Ex.exit 6),Gf,fun x=>.inr ((x.1.2.1,x.2.1))⟩]
def Wu:bE K:=bJ D false 92 1 [1,5,6] [1,5,2] Gh (fun x=>M.xU x.1.2.1 x.2.1 ad x.1.2.2.1) amD
def amF(y:Bool⊕Unit){R:Type}(k:KT R):R:=match y with|.inl a0=>kk k Ex.ret ⟨[.bool],[.dead]⟩ ((a0,()),((),()))|.inr a1=>kk k (Ex.exit 4) Hk (((),()),((),()))
def amG:List (cz K ((Bool)⊕Unit)):=[⟨Ex.ret,⟨[.bool],[.dead]⟩,fun x=>.inl x.1.1⟩,⟨(Ex.exit 4),Hk,fun x=>.inr (())⟩]
def Wv:bE K:=bJ D false 92 1 [1,5] [2] Gi (fun x=>M.xW ad x.1.2.1 x.2.1) amF
def Ww(m:M.aj->Option Bool):aG K:=cB 39 qV (fun x=>m x.1.1)
def pB:Cx K:=bp [(56,.plain),(50,.plain)] [Wn M.AU,Bh M.Bi] [(9,Wq),(4,Ws),(19,Wu),(14,Wv)]
theorem Bl:aP pB:=aV ar _ (af amy (af FB aA))
theorem amH:bF pB (bq (bq (bI Tryz.f39) 0) 0) Wq:=lk (cx:=pB) (sh:=Gh) (run:=fun n x=>M.xQ x.1.2.1 x.2.1 n x.1.2.2.1) (bG:=amA) Bl (fun m x=>by kernel_rfl) (af ⟨cO,fun _ _ _=>rfl⟩ (af ⟨bL,fun _ _ _=>rfl⟩ aA))
theorem amI:bF pB (bq (bq (bI Tryz.f39) 1) 0) Wu:=lk (cx:=pB) (sh:=Gh) (run:=fun n x=>M.xU x.1.2.1 x.2.1 n x.1.2.2.1) (bG:=amE) Bl (fun m x=>by kernel_rfl) (af ⟨cO,fun _ _ _=>rfl⟩ (af ⟨bL,fun _ _ _=>rfl⟩ aA))
theorem amJ:bF pB (bq (bI Tryz.f39) 0) Ws:=lk (cx:=pB) (sh:=Gi) (run:=fun n x=>M.xR n x.1.2.1 x.2.1) (bG:=amC) Bl (fun m x=>by kernel_rfl) (af ⟨cO,fun _ _ _=>rfl⟩ (af ⟨bL,fun _ _ _=>rfl⟩ aA)) (hl:=(bP 1 (by kernel_rfl) (bQ (.mk (by kernel_rfl) amH))))
theorem amK:bF pB (bq (bI Tryz.f39) 1) Wv:=lk (cx:=pB) (sh:=Gi) (run:=fun n x=>M.xW n x.1.2.1 x.2.1) (bG:=amG) Bl (fun m x=>by kernel_rfl) (af ⟨cO,fun _ _ _=>rfl⟩ (af ⟨bL,fun _ _ _=>rfl⟩ aA)) (hl:=(bP 1 (by kernel_rfl) (bQ (.mk (by kernel_rfl) amI))))
theorem amL:ax (Ww (M.sM)):=aX (cx:=pB) true Bl Tryz.func39 (hl2 amJ amK) ⟨zs0,fun x=>x.1.1⟩ (fun x=>by kernel_rfl)
def MZ(m:M.bc->Option ((List UInt8))):aG K:=cS 63 FV (fun x=>m x.1.1)
theorem Wx:ax (MZ (M.sO)):=aX (cx:=gG) true gX Tryz.func63 hq ⟨eY,fun x=>x.1.1⟩ (fun x=>by kernel_rfl)
def amM(y:(List UInt8)){R:Type}(k:KT R):R:=match y with|a0=>kk k (Ex.exit 1) ye ((a0,()),((),()))
def amN:List (cz K ((List UInt8))):=[⟨(Ex.exit 1),ye,fun x=>x.1.1⟩]
def Wy:bE K:=bJ D false 118 1 [1,3,4] [3] Gj (fun x=>M.oY ad x.1.2.1 x.1.2.2.1 x.2.1) amM
def amO(y:(List UInt8)×M.ah){R:Type}(k:KT R):R:=match y with|a0=>kk k (Ex.exit 3) ⟨[.ptr 0 0,.str],[.el U.Item]⟩ (((),(a0.1,())),(a0.2,()))
def amP:List (cz K ((List UInt8)×M.ah)):=[⟨(Ex.exit 3),⟨[.ptr 0 0,.str],[.el U.Item]⟩,fun x=>(x.1.2.1,x.2.1)⟩]
def WA:bE K:=bJ D false 118 1 [1,5,6] [1,5] Gj (fun x=>M.oZ ad x.1.2.1 x.1.2.2.1 x.2.1) amO
def WB(m:M.ah->Option ((List UInt8))):aG K:=cS 61 FW (fun x=>m x.1.1)
def yi:Cx K:=bp [(102,.plain),(63,.plain)] [jO M.xM,MZ M.sO] [(9,Wy),(22,WA)]
theorem M1:aP yi:=aV ar _ (af ale (af Wx aA))
theorem amQ:bF yi (bq (bI Tryz.f61) 0) Wy:=lk (cx:=yi) (sh:=Gj) (run:=fun n x=>M.oY n x.1.2.1 x.1.2.2.1 x.2.1) (bG:=amN) M1 (fun m x=>by kernel_rfl) (af ⟨bL,fun _ _ _=>rfl⟩ aA)
theorem amR:bF yi (bq (bI Tryz.f61) 1) WA:=lk (cx:=yi) (sh:=Gj) (run:=fun n x=>M.oZ n x.1.2.1 x.1.2.2.1 x.2.1) (bG:=amP) M1 (fun m x=>by kernel_rfl) (af ⟨bL,fun _ _ _=>rfl⟩ aA)
theorem amS:ax (WB (M.AW)):=aX (cx:=yi) true M1 Tryz.func61 (hl2 amQ amR) ⟨eY,fun x=>x.1.1⟩ (fun x=>by kernel_rfl)
def amT(y:(List UInt8)×Int×M.aj){R:Type}(k:KT R):R:=match y with|a0=>kk k (Ex.exit 2) tj (((),(a0.1,(a0.2.1,()))),(a0.2.2,()))
def amU:List (cz K ((List UInt8)×Int×M.aj)):=[⟨(Ex.exit 2),tj,fun x=>(x.1.2.1,x.1.2.2.1,x.2.1)⟩]
def WC:bE K:=bJ D false 116 1 [1,3,4,5] [1,3,4] Gk (fun x=>M.pj x.1.2.2.1 x.2.1 ad x.1.2.1 x.1.2.2.2.1) amT
def amV(y:(List UInt8)×M.aj){R:Type}(k:KT R):R:=match y with|a0=>kk k (Ex.exit 0) ⟨[.ptr 0 0,.str],[.el U.ba]⟩ (((),(a0.1,())),(a0.2,()))
def amW:List (cz K ((List UInt8)×M.aj)):=[⟨(Ex.exit 0),⟨[.ptr 0 0,.str],[.el U.ba]⟩,fun x=>(x.1.2.1,x.2.1)⟩]
def WE:bE K:=bJ D false 116 1 [1,3,4] [1,3] tj (fun x=>M.pn ad x.1.2.1 x.1.2.2.1 x.2.1) amV
def amX(y:(List UInt8)×Int×M.aj){R:Type}(k:KT R):R:=match y with|a0=>kk k (Ex.exit 6) tj (((),(a0.1,(a0.2.1,()))),(a0.2.2,()))
def amY:List (cz K ((List UInt8)×Int×M.aj)):=[⟨(Ex.exit 6),tj,fun x=>(x.1.2.1,x.1.2.2.1,x.2.1)⟩]
def WG:bE K:=bJ D false 116 1 [1,3,6,7] [1,3,6] Gk (fun x=>M.po x.1.2.2.1 x.2.1 ad x.1.2.1 x.1.2.2.2.1) amX
def amZ(y:(List UInt8)){R:Type}(k:KT R):R:=match y with|a0=>kk k (Ex.exit 4) ye ((a0,()),((),()))
def am0:List (cz K ((List UInt8))):=[⟨(Ex.exit 4),ye,fun x=>x.1.1⟩]
def WH:bE K:=bJ D false 116 1 [1,3,6] [3] tj (fun x=>M.pq ad x.1.2.1 x.1.2.2.1 x.2.1) amZ
def WI(m:M.aj->Option ((List UInt8))):aG K:=cS 41 qV (fun x=>m x.1.1)
def pC:Cx K:=bp [(61,.plain),(62,.jH),(63,.plain)] [WB M.AW,M3 M.jC,MZ M.sO] [(7,WC),(3,WE),(16,WG),(12,WH)]
theorem Bm:aP pC:=aV ar _ (af amS (af WJ (af Wx aA)))
theorem am1:bF pC (bq (bq (bI Tryz.f41) 0) 0) WC:=lk (cx:=pC) (sh:=Gk) (run:=fun n x=>M.pj x.1.2.2.1 x.2.1 n x.1.2.1 x.1.2.2.2.1) (bG:=amU) Bm (fun m x=>by kernel_rfl) (af ⟨bL,fun _ _ _=>rfl⟩ aA)
theorem am2:bF pC (bq (bq (bI Tryz.f41) 1) 0) WG:=lk (cx:=pC) (sh:=Gk) (run:=fun n x=>M.po x.1.2.2.1 x.2.1 n x.1.2.1 x.1.2.2.2.1) (bG:=amY) Bm (fun m x=>by kernel_rfl) (af ⟨bL,fun _ _ _=>rfl⟩ aA)
theorem am3:bF pC (bq (bI Tryz.f41) 0) WE:=lk (cx:=pC) (sh:=tj) (run:=fun n x=>M.pn n x.1.2.1 x.1.2.2.1 x.2.1) (bG:=amW) Bm (fun m x=>by kernel_rfl) (af ⟨bL,fun _ _ _=>rfl⟩ aA) (hl:=(bP 1 (by kernel_rfl) (bQ (.mk (by kernel_rfl) am1))))
theorem am4:bF pC (bq (bI Tryz.f41) 1) WH:=lk (cx:=pC) (sh:=tj) (run:=fun n x=>M.pq n x.1.2.1 x.1.2.2.1 x.2.1) (bG:=am0) Bm (fun m x=>by kernel_rfl) (af ⟨bL,fun _ _ _=>rfl⟩ aA) (hl:=(bP 1 (by kernel_rfl) (bQ (.mk (by kernel_rfl) am2))))
theorem am5:ax (WI (M.oR)):=aX (cx:=pC) true Bm Tryz.func41 (hl2 am3 am4) ⟨eY,fun x=>x.1.1⟩ (fun x=>by kernel_rfl)
def am6(y:Bool⊕(M.ah×M.ah)){R:Type}(k:KT R):R:=match y with|.inl a0=>kk k Ex.ret FH (((),((),(a0,()))),((),((),())))|.inr a1=>kk k (Ex.exit 0) Xo (((),((),((),()))),(a1.1,(a1.2,())))
def am7:List (cz K ((Bool)⊕(M.ah×M.ah))):=[⟨Ex.ret,FH,fun x=>.inl x.1.2.2.1⟩,⟨(Ex.exit 0),Xo,fun x=>.inr ((x.2.1,x.2.2.1))⟩]
def WM:bE K:=bJ D false 113 2 [2,3,5] [2,3,4] Gl (fun x=>M.sE ad x.1.2.2.1 x.2.1 x.2.2.1) am6
def WN:bE K:=bJ D false 113 2 [2,3,6] [4] Gl (fun x=>M.sF ad x.1.2.2.1 x.2.1 x.2.2.1) UR
def WO(m:M.ah->M.ah->Option Bool):aG K:=cB 64 ZR (fun x=>m x.1.1 x.1.2.1)
def yj:Cx K:=bp [(103,.plain)] [qW M.AE] [(4,WM),(9,WN)]
theorem M4:aP yj:=aV ar _ (af alk aA)
theorem am8:bF yj (bq (bI Tryz.f64) 0) WM:=lk (cx:=yj) (sh:=Gl) (run:=fun n x=>M.sE n x.1.2.2.1 x.2.1 x.2.2.1) (bG:=am7) M4 (fun m x=>by kernel_rfl) (af ⟨cO,fun _ _ _=>rfl⟩ (af ⟨bL,fun _ _ _=>rfl⟩ aA))
theorem am9:bF yj (bq (bI Tryz.f64) 1) WN:=lk (cx:=yj) (sh:=Gl) (run:=fun n x=>M.sF n x.1.2.2.1 x.2.1 x.2.2.1) (bG:=US) M4 (fun m x=>by kernel_rfl) (af ⟨cO,fun _ _ _=>rfl⟩ (af ⟨bL,fun _ _ _=>rfl⟩ aA))
theorem ana:ax (WO (M.AG)):=aX (cx:=yj) true M4 Tryz.func64 (hl2 am8 am9) ⟨zs0,fun x=>x.1.1⟩ (fun x=>by kernel_rfl)
def anb(y:Bool⊕(Int×M.aj×M.aj)){R:Type}(k:KT R):R:=match y with|.inl a0=>kk k Ex.ret Gm (((),((),((),(a0,())))),((),((),())))|.inr a1=>kk k (Ex.exit 2) Gn (((),((),(a1.1,((),())))),(a1.2.1,(a1.2.2,())))
def anc:List (cz K ((Bool)⊕(Int×M.aj×M.aj))):=[⟨Ex.ret,Gm,fun x=>.inl x.1.2.2.2.1⟩,⟨(Ex.exit 2),Gn,fun x=>.inr ((x.1.2.2.1,x.2.1,x.2.2.1))⟩]
def WQ:bE K:=bJ D false 174 2 [2,3,5,6] [2,3,5,4] G0 (fun x=>M.sH x.1.2.2.1 x.2.1 x.2.2.1 ad x.1.2.2.2.1) anb
def ane(y:Bool⊕(M.aj×M.aj)){R:Type}(k:KT R):R:=match y with|.inl a0=>kk k Ex.ret FH (((),((),(a0,()))),((),((),())))|.inr a1=>kk k (Ex.exit 0) Xu (((),((),((),()))),(a1.1,(a1.2,())))
def anf:List (cz K ((Bool)⊕(M.aj×M.aj))):=[⟨Ex.ret,FH,fun x=>.inl x.1.2.2.1⟩,⟨(Ex.exit 0),Xu,fun x=>.inr ((x.2.1,x.2.2.1))⟩]
def WS:bE K:=bJ D false 174 2 [2,3,5] [2,3,4] MK (fun x=>M.sG ad x.1.2.2.1 x.2.1 x.2.2.1) ane
def ang(y:Bool⊕(Int×M.aj×M.aj)){R:Type}(k:KT R):R:=match y with|.inl a0=>kk k Ex.ret Gm (((),((),((),(a0,())))),((),((),())))|.inr a1=>kk k (Ex.exit 6) Gn (((),((),(a1.1,((),())))),(a1.2.1,(a1.2.2,())))
def anh:List (cz K ((Bool)⊕(Int×M.aj×M.aj))):=[⟨Ex.ret,Gm,fun x=>.inl x.1.2.2.2.1⟩,⟨(Ex.exit 6),Gn,fun x=>.inr ((x.1.2.2.1,x.2.1,x.2.2.1))⟩]
def WT:bE K:=bJ D false 174 2 [2,3,7,8] [2,3,7,4] G0 (fun x=>M.sK x.1.2.2.1 x.2.1 x.2.2.1 ad x.1.2.2.2.1) ang
def ani(y:Bool⊕Unit){R:Type}(k:KT R):R:=match y with|.inl a0=>kk k Ex.ret FI ((a0,()),((),((),())))|.inr a1=>kk k (Ex.exit 4) CB (((),()),((),((),())))
def anj:List (cz K ((Bool)⊕Unit)):=[⟨Ex.ret,FI,fun x=>.inl x.1.1⟩,⟨(Ex.exit 4),CB,fun x=>.inr (())⟩]
def WU:bE K:=bJ D false 174 2 [2,3,7] [4] MK (fun x=>M.sJ ad x.1.2.2.1 x.2.1 x.2.2.1) ani
def WV(m:M.aj->M.aj->Option Bool):aG K:=cB 42 ZS (fun x=>m x.1.1 x.1.2.1)
def pD:Cx K:=bp [(64,.plain)] [WO M.AG] [(9,WQ),(4,WS),(19,WT),(14,WU)]
theorem Bn:aP pD:=aV ar _ (af ana aA)
theorem ank:bF pD (bq (bq (bI Tryz.f42) 0) 0) WQ:=lk (cx:=pD) (sh:=G0) (run:=fun n x=>M.sH x.1.2.2.1 x.2.1 x.2.2.1 n x.1.2.2.2.1) (bG:=anc) Bn (fun m x=>by kernel_rfl) (af ⟨cO,fun _ _ _=>rfl⟩ (af ⟨bL,fun _ _ _=>rfl⟩ aA))
theorem anl:bF pD (bq (bq (bI Tryz.f42) 1) 0) WT:=lk (cx:=pD) (sh:=G0) (run:=fun n x=>M.sK x.1.2.2.1 x.2.1 x.2.2.1 n x.1.2.2.2.1) (bG:=anh) Bn (fun m x=>by kernel_rfl) (af ⟨cO,fun _ _ _=>rfl⟩ (af ⟨bL,fun _ _ _=>rfl⟩ aA))
theorem anm:bF pD (bq (bI Tryz.f42) 0) WS:=lk (cx:=pD) (sh:=MK) (run:=fun n x=>M.sG n x.1.2.2.1 x.2.1 x.2.2.1) (bG:=anf) Bn (fun m x=>by kernel_rfl) (af ⟨cO,fun _ _ _=>rfl⟩ (af ⟨bL,fun _ _ _=>rfl⟩ aA)) (hl:=(bP 1 (by kernel_rfl) (bQ (.mk (by kernel_rfl) ank))))
theorem ann:bF pD (bq (bI Tryz.f42) 1) WU:=lk (cx:=pD) (sh:=MK) (run:=fun n x=>M.sJ n x.1.2.2.1 x.2.1 x.2.2.1) (bG:=anj) Bn (fun m x=>by kernel_rfl) (af ⟨cO,fun _ _ _=>rfl⟩ (af ⟨bL,fun _ _ _=>rfl⟩ aA)) (hl:=(bP 1 (by kernel_rfl) (bQ (.mk (by kernel_rfl) anl))))
theorem ano:ax (WV (M.AH)):=aX (cx:=pD) true Bn Tryz.func42 (hl2 anm ann) ⟨zs0,fun x=>x.1.1⟩ (fun x=>by kernel_rfl)
def WW(m:M.aj->Option Bool):aG K:=cB 24 qV (fun x=>m x.1.1)
def WX:Cx K:=bp [(39,.plain),(41,.plain),(40,.jH),(42,.plain)] [Ww M.sM,WI M.oR,Ut M.sr,WV M.AH] []
theorem anp:aP WX:=aV ar _ (af amL (af am5 (af akW (af ano aA))))
theorem anq:ax (WW (M.qJ)):=aX (cx:=WX) true anp Tryz.func24 hq ⟨zs0,fun x=>x.1.1⟩ (fun x=>by kernel_rfl)
def nR(m:M.aa->Int->Option Int):aG K:=cI 128 M9 (fun x=>m x.1.1 x.1.2.1)
def WY(dZ:M.aa->Int->Option Int):bE K:=bJ D false 27 0 [0,1,5] [1,4] XA (fun x=>M.vr dZ x.1.1 ad x.1.2.1 x.1.2.2.1) nS
def W0(m:(List M.aa)->Int->Option Int):aG K:=cI 181 ⟨[.an U.Term,iq0],[]⟩ (fun x=>m x.1.1 x.1.2.1)
def Gp(dZ:M.aa->Int->Option Int):Cx K:=bp [(128,.plain)] [nR dZ] [(5,WY dZ)]
theorem W4(dZ:M.aa->Int->Option Int)(pE:ax (nR dZ)):aP (Gp dZ):=aV ar _ (af pE aA)
theorem anr(dZ:M.aa->Int->Option Int)(pE:ax (nR dZ)):bF (Gp dZ) (bq (bI Tryz.f181) 0) (WY dZ):=lk (cx:=Gp dZ) (sh:=XA) (run:=fun n x=>M.vr dZ x.1.1 n x.1.2.1 x.1.2.2.1) (bG:=nU) (W4 dZ pE) (fun m x=>by kernel_rfl) (af ⟨cO,fun _ _ _=>rfl⟩ (af ⟨bL,fun _ _ _=>rfl⟩ aA))
theorem ant(dZ:M.aa->Int->Option Int)(pE:ax (nR dZ)):ax (W0 (M.Bo dZ)):=fP (cx:=Gp dZ) (fz:=true) ar (W4 dZ pE) bm ⟨Tryz.func181,by kernel_rfl⟩ (hl1 (anr dZ pE)) ⟨zs2,fun x=>x.1.1⟩ (fun x=>rfl) (fun x=>by kernel_rfl)
def W5(dZ:M.aa->Int->Option Int):Cx K:=bp [(180,.plain),(181,.plain)] [W6 M.Bq,W0 (M.Bo dZ)] []
theorem anu(dZ:M.aa->Int->Option Int)(pE:ax (nR dZ)):aP (W5 dZ):=aV ar _ (af anv (af (ant dZ pE) aA))
theorem anw(dZ:M.aa->Int->Option Int)(pE:ax (nR dZ)):ax (nR (M.Gq dZ)):=fP (cx:=W5 dZ) (fz:=true) ar (anu dZ pE) bm ⟨Tryz.func128,by kernel_rfl⟩ hq ⟨zs2,fun x=>x.1.1⟩ (fun x=>rfl) (fun x=>by kernel_rfl)
theorem W7:∀n,ax (nR (M.vt n))|0=>nw fun _=>rfl|n+1=>anw (M.vt n) (W7 n)
theorem W8:ax (nR (M.yk)):=W7 ad
def W9(m:M.az->Int->Option Int):aG K:=cI 182 ⟨[.el U.cY,iq0],[]⟩ (fun x=>m x.1.1 x.1.2.1)
def Xa:Cx K:=bp [(128,.plain)] [nR M.yk] []
theorem anx:aP Xa:=aV ar _ (af W8 aA)
theorem anz:ax (W9 (M.Br)):=aX (cx:=Xa) true anx Tryz.func182 hq ⟨zs2,fun x=>x.1.1⟩ (fun x=>by kernel_rfl)
def Xb:bE K:=bJ D false 27 0 [0,1,5] [1,4] XG (fun x=>M.vu x.1.1 ad x.1.2.1 x.1.2.2.1) nS
def Xd(m:(List M.az)->Int->Option Int):aG K:=cI 129 ⟨[.an U.cY,iq0],[]⟩ (fun x=>m x.1.1 x.1.2.1)
def Gs:Cx K:=bp [(182,.plain)] [W9 M.Br] [(5,Xb)]
theorem Xe:aP Gs:=aV ar _ (af anz aA)
theorem anA:bF Gs (bq (bI Tryz.f129) 0) Xb:=lk (cx:=Gs) (sh:=XG) (run:=fun n x=>M.vu x.1.1 n x.1.2.1 x.1.2.2.1) (bG:=nU) Xe (fun m x=>by kernel_rfl) (af ⟨cO,fun _ _ _=>rfl⟩ (af ⟨bL,fun _ _ _=>rfl⟩ aA))
theorem anB:ax (Xd (M.Bt)):=aX (cx:=Gs) true Xe Tryz.func129 (hl1 anA) ⟨zs2,fun x=>x.1.1⟩ (fun x=>by kernel_rfl)
def M5(m:M.bc->Int->Option Int):aG K:=cI 130 ⟨[.el U.Path,iq0],[]⟩ (fun x=>m x.1.1 x.1.2.1)
theorem Xf:ax (M5 (M.vv)):=aX (cx:=gG) true gX Tryz.func130 hq ⟨zs2,fun x=>x.1.1⟩ (fun x=>by kernel_rfl)
def Xg(m:M.aM->Int->Option Int):aG K:=cI 183 ⟨[.el U.dc,iq0],[]⟩ (fun x=>m x.1.1 x.1.2.1)
theorem anC:ax (Xg (M.Bv)):=aX (cx:=gG) true gX Tryz.func183 hq ⟨zs2,fun x=>x.1.1⟩ (fun x=>by kernel_rfl)
def Xh:bE K:=bJ D false 27 0 [0,1,5] [1,4] XM (fun x=>M.vx x.1.1 ad x.1.2.1 x.1.2.2.1) nS
def Xj(m:(List M.aM)->Int->Option Int):aG K:=cI 131 ⟨[.an U.dc,iq0],[]⟩ (fun x=>m x.1.1 x.1.2.1)
def Gt:Cx K:=bp [(183,.plain)] [Xg M.Bv] [(5,Xh)]
theorem Xk:aP Gt:=aV ar _ (af anC aA)
theorem anD:bF Gt (bq (bI Tryz.f131) 0) Xh:=lk (cx:=Gt) (sh:=XM) (run:=fun n x=>M.vx x.1.1 n x.1.2.1 x.1.2.2.1) (bG:=nU) Xk (fun m x=>by kernel_rfl) (af ⟨cO,fun _ _ _=>rfl⟩ (af ⟨bL,fun _ _ _=>rfl⟩ aA))
theorem anE:ax (Xj (M.By)):=aX (cx:=Gt) true Xk Tryz.func131 (hl1 anD) ⟨zs2,fun x=>x.1.1⟩ (fun x=>by kernel_rfl)
def Xl(m:M.ah->Int->Option Int):aG K:=cI 89 ⟨[.el U.Item,iq0],[]⟩ (fun x=>m x.1.1 x.1.2.1)
def Xm:Cx K:=bp [(128,.plain),(129,.plain),(130,.plain),(131,.plain)] [nR M.yk,Xd M.Bt,M5 M.vv,Xj M.By] []
theorem anF:aP Xm:=aV ar _ (af W8 (af anB (af Xf (af anE aA))))
theorem anG:ax (Xl (M.Bz)):=aX (cx:=Xm) true anF Tryz.func89 hq ⟨zs2,fun x=>x.1.1⟩ (fun x=>by kernel_rfl)
def Xn:bE K:=bJ D false 27 0 [0,1,5] [1,4] XW (fun x=>M.vy x.1.1 ad x.1.2.1 x.1.2.2.1) nS
def Xp(m:(List M.ah)->Int->Option Int):aG K:=cI 54 ⟨[.an U.Item,iq0],[]⟩ (fun x=>m x.1.1 x.1.2.1)
def Gu:Cx K:=bp [(89,.plain)] [Xl M.Bz] [(5,Xn)]
theorem Xq:aP Gu:=aV ar _ (af anG aA)
theorem anH:bF Gu (bq (bI Tryz.f54) 0) Xn:=lk (cx:=Gu) (sh:=XW) (run:=fun n x=>M.vy x.1.1 n x.1.2.1 x.1.2.2.1) (bG:=nU) Xq (fun m x=>by kernel_rfl) (af ⟨cO,fun _ _ _=>rfl⟩ (af ⟨bL,fun _ _ _=>rfl⟩ aA))
theorem anI:ax (Xp (M.BB)):=aX (cx:=Gu) true Xq Tryz.func54 (hl1 anH) ⟨zs2,fun x=>x.1.1⟩ (fun x=>by kernel_rfl)
def Xr(m:M.aE->Int->Option Int):aG K:=cI 37 ⟨[.el U.cD,iq0],[]⟩ (fun x=>m x.1.1 x.1.2.1)
def Xs:Cx K:=bp [(54,.plain)] [Xp M.BB] []
theorem anJ:aP Xs:=aV ar _ (af anI aA)
theorem anK:ax (Xr (M.BC)):=aX (cx:=Xs) true anJ Tryz.func37 hq ⟨zs2,fun x=>x.1.1⟩ (fun x=>by kernel_rfl)
def Xt:bE K:=bJ D false 27 0 [0,1,5] [1,4] X3 (fun x=>M.vz x.1.1 ad x.1.2.1 x.1.2.2.1) nS
def Xv(m:(List M.aE)->Int->Option Int):aG K:=cI 22 ⟨[.an U.cD,iq0],[]⟩ (fun x=>m x.1.1 x.1.2.1)
def Gv:Cx K:=bp [(37,.plain)] [Xr M.BC] [(5,Xt)]
theorem Xw:aP Gv:=aV ar _ (af anK aA)
theorem anL:bF Gv (bq (bI Tryz.f22) 0) Xt:=lk (cx:=Gv) (sh:=X3) (run:=fun n x=>M.vz x.1.1 n x.1.2.1 x.1.2.2.1) (bG:=nU) Xw (fun m x=>by kernel_rfl) (af ⟨cO,fun _ _ _=>rfl⟩ (af ⟨bL,fun _ _ _=>rfl⟩ aA))
theorem anM:ax (Xv (M.BD)):=aX (cx:=Gv) true Xw Tryz.func22 (hl1 anL) ⟨zs2,fun x=>x.1.1⟩ (fun x=>by kernel_rfl)
def Xx(m:M.aH->Int->Option Int):aG K:=cI 90 ⟨[.el U.dr,iq0],[]⟩ (fun x=>m x.1.1 x.1.2.1)
def Xy:Cx K:=bp [(130,.plain)] [M5 M.vv] []
theorem anN:aP Xy:=aV ar _ (af Xf aA)
theorem anO:ax (Xx (M.BE)):=aX (cx:=Xy) true anN Tryz.func90 hq ⟨zs2,fun x=>x.1.1⟩ (fun x=>by kernel_rfl)
def Xz:bE K:=bJ D false 27 0 [0,1,5] [1,4] X9 (fun x=>M.vA x.1.1 ad x.1.2.1 x.1.2.2.1) nS
def XB(m:(List M.aH)->Int->Option Int):aG K:=cI 55 ⟨[.an U.dr,iq0],[]⟩ (fun x=>m x.1.1 x.1.2.1)
def Gw:Cx K:=bp [(90,.plain)] [Xx M.BE] [(5,Xz)]
theorem XC:aP Gw:=aV ar _ (af anO aA)
theorem anP:bF Gw (bq (bI Tryz.f55) 0) Xz:=lk (cx:=Gw) (sh:=X9) (run:=fun n x=>M.vA x.1.1 n x.1.2.1 x.1.2.2.1) (bG:=nU) XC (fun m x=>by kernel_rfl) (af ⟨cO,fun _ _ _=>rfl⟩ (af ⟨bL,fun _ _ _=>rfl⟩ aA))
theorem anQ:ax (XB (M.BF)):=aX (cx:=Gw) true XC Tryz.func55 (hl1 anP) ⟨zs2,fun x=>x.1.1⟩ (fun x=>by kernel_rfl)
def XD(m:M.aJ->Int->Option Int):aG K:=cI 38 ⟨[.el U.cX,iq0],[]⟩ (fun x=>m x.1.1 x.1.2.1)
def XE:Cx K:=bp [(55,.plain)] [XB M.BF] []
theorem anR:aP XE:=aV ar _ (af anQ aA)
theorem anS:ax (XD (M.BG)):=aX (cx:=XE) true anR Tryz.func38 hq ⟨zs2,fun x=>x.1.1⟩ (fun x=>by kernel_rfl)
def XF:bE K:=bJ D false 27 0 [0,1,5] [1,4] Yf (fun x=>M.vB x.1.1 ad x.1.2.1 x.1.2.2.1) nS
def XH(m:(List M.aJ)->Int->Option Int):aG K:=cI 23 ⟨[.an U.cX,iq0],[]⟩ (fun x=>m x.1.1 x.1.2.1)
def Gx:Cx K:=bp [(38,.plain)] [XD M.BG] [(5,XF)]
theorem XI:aP Gx:=aV ar _ (af anS aA)
theorem anT:bF Gx (bq (bI Tryz.f23) 0) XF:=lk (cx:=Gx) (sh:=Yf) (run:=fun n x=>M.vB x.1.1 n x.1.2.1 x.1.2.2.1) (bG:=nU) XI (fun m x=>by kernel_rfl) (af ⟨cO,fun _ _ _=>rfl⟩ (af ⟨bL,fun _ _ _=>rfl⟩ aA))
theorem anU:ax (XH (M.BH)):=aX (cx:=Gx) true XI Tryz.func23 (hl1 anT) ⟨zs2,fun x=>x.1.1⟩ (fun x=>by kernel_rfl)
def XJ(m:M.aj->Int->Option Int):aG K:=cI 12 ⟨[.el U.ba,iq0],[]⟩ (fun x=>m x.1.1 x.1.2.1)
def XK:Cx K:=bp [(22,.plain),(23,.plain)] [Xv M.BD,XH M.BH] []
theorem anV:aP XK:=aV ar _ (af anM (af anU aA))
theorem anW:ax (XJ (M.BI)):=aX (cx:=XK) true anV Tryz.func12 hq ⟨zs2,fun x=>x.1.1⟩ (fun x=>by kernel_rfl)
def nV(m:M.aa->Option (Int×(List UInt8)×(List (List UInt8))×(List M.aa))):aG K:={f:=148,sh:=⟨[.el U.Term],[]⟩,R:=Int×(List UInt8)×(List (List UInt8))×(List M.aa),run:=fun x=>m x.1.1,dflt:=default,out:=fun r=>(Sh.enc D (.agg [iq0,.str,.own 0,.own 1]) (r.1,(r.2.1,((),((),())))),aW.encs D [.arr U.str,.tree U.Term] (r.2.2.1,(r.2.2.2,())))}
def anX(y:(List M.aa)){R:Type}(k:KT R):R:=match y with|a0=>kk k (Ex.exit 0) ⟨[.own 1],[.dead,.tree U.Term]⟩ (((),()),((),(a0,())))
def anY:List (cz K ((List M.aa))):=[⟨(Ex.exit 0),⟨[.own 1],[.dead,.tree U.Term]⟩,fun x=>x.2.2.1⟩]
def XL(ee:M.aa->Option (Int×(List UInt8)×(List (List UInt8))×(List M.aa))):bE K:=bJ D false 23 1 [0,3,4] [3] Yl (fun x=>M.tl ee x.1.1 ad x.1.2.2.1 x.2.2.1) anX
def XN(m:(List M.aa)->Option ((List M.aa))):aG K:={f:=190,sh:=⟨[.an U.Term],[]⟩,R:=(List M.aa),run:=fun x=>m x.1.1,dflt:=default,out:=fun r=>(Sh.enc D (.own 0) (),aW.encs D [.tree U.Term] (r,()))}
def Gy(ee:M.aa->Option (Int×(List UInt8)×(List (List UInt8))×(List M.aa))):Cx K:={eK with mode:=d6 .plain [(148,.fresh)],iq:=[[some U.Term]],deep:=fun c=>eI (D.cells c (K.zero c)),call:=callOf D [nV ee],loop:=dR [(3,XL ee)]}
theorem XO(ee:M.aa->Option (Int×(List UInt8)×(List (List UInt8))×(List M.aa)))(pF:ax (nV ee)):aP (Gy ee):=aV ar _ (af pF aA)
theorem anZ(ee:M.aa->Option (Int×(List UInt8)×(List (List UInt8))×(List M.aa)))(pF:ax (nV ee)):bF (Gy ee) (bq (bI Tryz.f190) 0) (XL ee):=lk (cx:=Gy ee) (sh:=Yl) (run:=fun n x=>M.tl ee x.1.1 n x.1.2.2.1 x.2.2.1) (bG:=anY) (XO ee pF) (fun m x=>by kernel_rfl) (af ⟨bL,fun _ _ _=>rfl⟩ aA)
theorem an0(ee:M.aa->Option (Int×(List UInt8)×(List (List UInt8))×(List M.aa)))(pF:ax (nV ee)):ax (XN (M.BJ ee)):=fP (cx:=Gy ee) (fz:=false) ar (XO ee pF) bm ⟨Tryz.func190,by kernel_rfl⟩ (hl1 (anZ ee pF)) ⟨⟨[.own 0],[.tree U.Term]⟩,fun x=>x.2.1⟩ (fun x=>rfl) (fun x=>by kernel_rfl)
def XP(ee:M.aa->Option (Int×(List UInt8)×(List (List UInt8))×(List M.aa))):Cx K:={eK with mode:=d6 .plain [(189,.fresh),(190,.fresh)],iq:=[[none,none,some U.str,some U.Term]],deep:=fun c=>eI (D.cells c (K.zero c)),call:=callOf D [XQ M.BK,XN (M.BJ ee)],loop:=dR []}
theorem an1(ee:M.aa->Option (Int×(List UInt8)×(List (List UInt8))×(List M.aa)))(pF:ax (nV ee)):aP (XP ee):=aV ar _ (af an2 (af (an0 ee pF) aA))
theorem an3(ee:M.aa->Option (Int×(List UInt8)×(List (List UInt8))×(List M.aa)))(pF:ax (nV ee)):ax (nV (M.Gz ee)):=fP (cx:=XP ee) (fz:=false) ar (an1 ee pF) bm ⟨Tryz.func148,by kernel_rfl⟩ hq ⟨⟨[.agg [iq0,.str,.own 0,.own 1]],[.arr U.str,.tree U.Term]⟩,fun x=>(x.1.1.1,x.1.1.2.1,x.2.1,x.2.2.1)⟩ (fun x=>rfl) (fun x=>by kernel_rfl)
theorem XR:∀n,ax (nV (M.vC n))|0=>nw fun _=>rfl|n+1=>an3 (M.vC n) (XR n)
theorem XS:ax (nV (M.yl)):=XR ad
def XT(m:M.az->Option ((List UInt8)×Int×(List UInt8)×(List (List UInt8))×(List M.aa))):aG K:={f:=191,sh:=⟨[.el U.cY],[]⟩,R:=(List UInt8)×Int×(List UInt8)×(List (List UInt8))×(List M.aa),run:=fun x=>m x.1.1,dflt:=default,out:=fun r=>(Sh.enc D (.agg [.str,iq0,.str,.own 0,.own 1]) (r.1,(r.2.1,(r.2.2.1,((),((),()))))),aW.encs D [.arr U.str,.tree U.Term] (r.2.2.2.1,(r.2.2.2.2,())))}
def XU:Cx K:={eK with mode:=d6 .plain [(148,.fresh)],iq:=[[none,none,none,some U.str,some U.Term]],deep:=fun c=>eI (D.cells c (K.zero c)),call:=callOf D [nV M.yl],loop:=dR []}
theorem an4:aP XU:=aV ar _ (af XS aA)
theorem an5:ax (XT (M.BL)):=aX (cx:=XU) false an4 Tryz.func191 hq ⟨⟨[.agg [.str,iq0,.str,.own 0,.own 1]],[.arr U.str,.tree U.Term]⟩,fun x=>(x.1.1.1,x.1.1.2.1,x.1.1.2.2.1,x.2.1,x.2.2.1)⟩ (fun x=>by kernel_rfl)
def an6(y:(List M.az)){R:Type}(k:KT R):R:=match y with|a0=>kk k (Ex.exit 0) ⟨[.own 1],[.dead,.tree U.cY]⟩ (((),()),((),(a0,())))
def an7:List (cz K ((List M.az))):=[⟨(Ex.exit 0),⟨[.own 1],[.dead,.tree U.cY]⟩,fun x=>x.2.2.1⟩]
def XV:bE K:=bJ D false 23 1 [0,3,4] [3] Yr (fun x=>M.tn x.1.1 ad x.1.2.2.1 x.2.2.1) an6
def XX(m:(List M.az)->Option ((List M.az))):aG K:={f:=149,sh:=⟨[.an U.cY],[]⟩,R:=(List M.az),run:=fun x=>m x.1.1,dflt:=default,out:=fun r=>(Sh.enc D (.own 0) (),aW.encs D [.tree U.cY] (r,()))}
def GF:Cx K:={eK with mode:=d6 .plain [(191,.fresh)],iq:=[[some U.cY]],deep:=fun c=>eI (D.cells c (K.zero c)),call:=callOf D [XT M.BL],loop:=dR [(3,XV)]}
theorem XY:aP GF:=aV ar _ (af an5 aA)
theorem an8:bF GF (bq (bI Tryz.f149) 0) XV:=lk (cx:=GF) (sh:=Yr) (run:=fun n x=>M.tn x.1.1 n x.1.2.2.1 x.2.2.1) (bG:=an7) XY (fun m x=>by kernel_rfl) (af ⟨bL,fun _ _ _=>rfl⟩ aA)
theorem an9:ax (XX (M.BM)):=aX (cx:=GF) false XY Tryz.func149 (hl1 an8) ⟨⟨[.own 0],[.tree U.cY]⟩,fun x=>x.2.1⟩ (fun x=>by kernel_rfl)
def M6(m:M.bc->Option (M.bc)):aG K:={f:=150,sh:=FV,R:=M.bc,run:=fun x=>m x.1.1,dflt:=default,out:=fun r=>(Sh.enc D (.el U.Path) r,aW.encs D [] ())}
def M7:Cx K:={eK with mode:=d6 .plain [],iq:=[[]],deep:=fun c=>eI (D.cells c (K.zero c)),call:=callOf D [],loop:=dR []}
theorem XZ:aP M7:=aV ar _ aA
theorem X0:ax (M6 (M.BN)):=aX (cx:=M7) false XZ Tryz.func150 hq ⟨FV,fun x=>x.1.1⟩ (fun x=>by kernel_rfl)
def X1(m:M.aM->Option (M.aM)):aG K:={f:=192,sh:=ZO,R:=M.aM,run:=fun x=>m x.1.1,dflt:=default,out:=fun r=>(Sh.enc D (.el U.dc) r,aW.encs D [] ())}
theorem aoa:ax (X1 (M.GG)):=aX (cx:=M7) false XZ Tryz.func192 hq ⟨ZO,fun x=>x.1.1⟩ (fun x=>by kernel_rfl)
def aob(y:(List M.aM)){R:Type}(k:KT R):R:=match y with|a0=>kk k (Ex.exit 0) ⟨[.own 1],[.dead,.arr U.dc]⟩ (((),()),((),(a0,())))
def aoc:List (cz K ((List M.aM))):=[⟨(Ex.exit 0),⟨[.own 1],[.dead,.arr U.dc]⟩,fun x=>x.2.2.1⟩]
def X2:bE K:=bJ D false 23 1 [0,3,4] [3] Yx (fun x=>M.tp x.1.1 ad x.1.2.2.1 x.2.2.1) aob
def X4(m:(List M.aM)->Option ((List M.aM))):aG K:={f:=151,sh:=⟨[.an U.dc],[]⟩,R:=(List M.aM),run:=fun x=>m x.1.1,dflt:=default,out:=fun r=>(Sh.enc D (.own 0) (),aW.encs D [.arr U.dc] (r,()))}
def GH:Cx K:={eK with mode:=d6 .plain [(192,.fresh)],iq:=[[some U.dc]],deep:=fun c=>eI (D.cells c (K.zero c)),call:=callOf D [X1 M.GG],loop:=dR [(3,X2)]}
theorem X5:aP GH:=aV ar _ (af aoa aA)
theorem aod:bF GH (bq (bI Tryz.f151) 0) X2:=lk (cx:=GH) (sh:=Yx) (run:=fun n x=>M.tp x.1.1 n x.1.2.2.1 x.2.2.1) (bG:=aoc) X5 (fun m x=>by kernel_rfl) (af ⟨bL,fun _ _ _=>rfl⟩ aA)
theorem aoe:ax (X4 (M.BO)):=aX (cx:=GH) false X5 Tryz.func151 (hl1 aod) ⟨⟨[.own 0],[.arr U.dc]⟩,fun x=>x.2.1⟩ (fun x=>by kernel_rfl)
def X6(m:M.ah->Option (Int×(List UInt8)×Int×(List UInt8)×Bool×(List UInt8)×(List UInt8)×(List UInt8)×(List (List UInt8))×(List M.aa)×(List M.az)×(List M.aM))):aG K:={f:=104,sh:=FW,R:=Int×(List UInt8)×Int×(List UInt8)×Bool×(List UInt8)×(List UInt8)×(List UInt8)×(List (List UInt8))×(List M.aa)×(List M.az)×(List M.aM),run:=fun x=>m x.1.1,dflt:=default,out:=fun r=>(Sh.enc D (.agg [iq0,.str,iq0,.str,.own 0,.own 1,.own 2,.bool,.str,.str,.str,.own 3]) (r.1,(r.2.1,(r.2.2.1,(r.2.2.2.1,((),((),((),(r.2.2.2.2.1,(r.2.2.2.2.2.1,(r.2.2.2.2.2.2.1,(r.2.2.2.2.2.2.2.1,((),())))))))))))),aW.encs D [.arr U.str,.tree U.Term,.tree U.cY,.arr U.dc] (r.2.2.2.2.2.2.2.2.1,(r.2.2.2.2.2.2.2.2.2.1,(r.2.2.2.2.2.2.2.2.2.2.1,(r.2.2.2.2.2.2.2.2.2.2.2,())))))}
def X7:Cx K:={eK with mode:=d6 .plain [(148,.fresh),(149,.fresh),(150,.fresh),(151,.fresh)],iq:=[[none,none,none,none,some U.str,some U.Term,some U.cY,none,none,none,none,some U.dc]],deep:=fun c=>eI (D.cells c (K.zero c)),call:=callOf D [nV M.yl,XX M.BM,M6 M.BN,X4 M.BO],loop:=dR []}
theorem aof:aP X7:=aV ar _ (af XS (af an9 (af X0 (af aoe aA))))
theorem aog:ax (X6 (M.BP)):=aX (cx:=X7) false aof Tryz.func104 hq ⟨⟨[.agg [iq0,.str,iq0,.str,.own 0,.own 1,.own 2,.bool,.str,.str,.str,.own 3]],[.arr U.str,.tree U.Term,.tree U.cY,.arr U.dc]⟩,fun x=>(x.1.1.1,x.1.1.2.1,x.1.1.2.2.1,x.1.1.2.2.2.1,x.1.1.2.2.2.2.2.2.2.1,x.1.1.2.2.2.2.2.2.2.2.1,x.1.1.2.2.2.2.2.2.2.2.2.1,x.1.1.2.2.2.2.2.2.2.2.2.2.1,x.2.1,x.2.2.1,x.2.2.2.1,x.2.2.2.2.1)⟩ (fun x=>by kernel_rfl)
def aoh(y:(List M.ah)){R:Type}(k:KT R):R:=match y with|a0=>kk k (Ex.exit 0) ⟨[.own 1],[.dead,.tree U.Item]⟩ (((),()),((),(a0,())))
def aoi:List (cz K ((List M.ah))):=[⟨(Ex.exit 0),⟨[.own 1],[.dead,.tree U.Item]⟩,fun x=>x.2.2.1⟩]
def X8:bE K:=bJ D false 23 1 [0,3,4] [3] YH (fun x=>M.tq x.1.1 ad x.1.2.2.1 x.2.2.1) aoh
def Ya(m:(List M.ah)->Option ((List M.ah))):aG K:={f:=65,sh:=⟨[.an U.Item],[]⟩,R:=(List M.ah),run:=fun x=>m x.1.1,dflt:=default,out:=fun r=>(Sh.enc D (.own 0) (),aW.encs D [.tree U.Item] (r,()))}
def GI:Cx K:={eK with mode:=d6 .plain [(104,.fresh)],iq:=[[some U.Item]],deep:=fun c=>eI (D.cells c (K.zero c)),call:=callOf D [X6 M.BP],loop:=dR [(3,X8)]}
theorem Yb:aP GI:=aV ar _ (af aog aA)
theorem aoj:bF GI (bq (bI Tryz.f65) 0) X8:=lk (cx:=GI) (sh:=YH) (run:=fun n x=>M.tq x.1.1 n x.1.2.2.1 x.2.2.1) (bG:=aoi) Yb (fun m x=>by kernel_rfl) (af ⟨bL,fun _ _ _=>rfl⟩ aA)
theorem aok:ax (Ya (M.BQ)):=aX (cx:=GI) false Yb Tryz.func65 (hl1 aoj) ⟨⟨[.own 0],[.tree U.Item]⟩,fun x=>x.2.1⟩ (fun x=>by kernel_rfl)
def Yc(m:M.aE->Option ((List UInt8)×(List M.ah))):aG K:={f:=43,sh:=⟨[.el U.cD],[]⟩,R:=(List UInt8)×(List M.ah),run:=fun x=>m x.1.1,dflt:=default,out:=fun r=>(Sh.enc D (.agg [.str,.own 0]) (r.1,((),())),aW.encs D [.tree U.Item] (r.2,()))}
def Yd:Cx K:={eK with mode:=d6 .plain [(65,.fresh)],iq:=[[none,some U.Item]],deep:=fun c=>eI (D.cells c (K.zero c)),call:=callOf D [Ya M.BQ],loop:=dR []}
theorem aol:aP Yd:=aV ar _ (af aok aA)
theorem aom:ax (Yc (M.BR)):=aX (cx:=Yd) false aol Tryz.func43 hq ⟨⟨[.agg [.str,.own 0]],[.tree U.Item]⟩,fun x=>(x.1.1.1,x.2.1)⟩ (fun x=>by kernel_rfl)
def aon(y:(List M.aE)){R:Type}(k:KT R):R:=match y with|a0=>kk k (Ex.exit 0) ⟨[.own 1],[.dead,.tree U.cD]⟩ (((),()),((),(a0,())))
def aoo:List (cz K ((List M.aE))):=[⟨(Ex.exit 0),⟨[.own 1],[.dead,.tree U.cD]⟩,fun x=>x.2.2.1⟩]
def Ye:bE K:=bJ D false 23 1 [0,3,4] [3] YN (fun x=>M.tu x.1.1 ad x.1.2.2.1 x.2.2.1) aon
def Yg(m:(List M.aE)->Option ((List M.aE))):aG K:={f:=25,sh:=⟨[.an U.cD],[]⟩,R:=(List M.aE),run:=fun x=>m x.1.1,dflt:=default,out:=fun r=>(Sh.enc D (.own 0) (),aW.encs D [.tree U.cD] (r,()))}
def GK:Cx K:={eK with mode:=d6 .plain [(43,.fresh)],iq:=[[some U.cD]],deep:=fun c=>eI (D.cells c (K.zero c)),call:=callOf D [Yc M.BR],loop:=dR [(3,Ye)]}
theorem Yh:aP GK:=aV ar _ (af aom aA)
theorem aop:bF GK (bq (bI Tryz.f25) 0) Ye:=lk (cx:=GK) (sh:=YN) (run:=fun n x=>M.tu x.1.1 n x.1.2.2.1 x.2.2.1) (bG:=aoo) Yh (fun m x=>by kernel_rfl) (af ⟨bL,fun _ _ _=>rfl⟩ aA)
theorem aoq:ax (Yg (M.BS)):=aX (cx:=GK) false Yh Tryz.func25 (hl1 aop) ⟨⟨[.own 0],[.tree U.cD]⟩,fun x=>x.2.1⟩ (fun x=>by kernel_rfl)
def Yi(m:M.aH->Option (M.aH)):aG K:={f:=105,sh:=⟨[.el U.dr],[]⟩,R:=M.aH,run:=fun x=>m x.1.1,dflt:=default,out:=fun r=>(Sh.enc D (.el U.dr) r,aW.encs D [] ())}
def Yj:Cx K:={eK with mode:=d6 .plain [(150,.fresh)],iq:=[[]],deep:=fun c=>eI (D.cells c (K.zero c)),call:=callOf D [M6 M.BN],loop:=dR []}
theorem aor:aP Yj:=aV ar _ (af X0 aA)
theorem aos:ax (Yi (M.GL)):=aX (cx:=Yj) false aor Tryz.func105 hq ⟨⟨[.el U.dr],[]⟩,fun x=>x.1.1⟩ (fun x=>by kernel_rfl)
def aot(y:(List M.aH)){R:Type}(k:KT R):R:=match y with|a0=>kk k (Ex.exit 0) ⟨[.own 1],[.dead,.arr U.dr]⟩ (((),()),((),(a0,())))
def aou:List (cz K ((List M.aH))):=[⟨(Ex.exit 0),⟨[.own 1],[.dead,.arr U.dr]⟩,fun x=>x.2.2.1⟩]
def Yk:bE K:=bJ D false 23 1 [0,3,4] [3] YT (fun x=>M.tw x.1.1 ad x.1.2.2.1 x.2.2.1) aot
def Ym(m:(List M.aH)->Option ((List M.aH))):aG K:={f:=66,sh:=⟨[.an U.dr],[]⟩,R:=(List M.aH),run:=fun x=>m x.1.1,dflt:=default,out:=fun r=>(Sh.enc D (.own 0) (),aW.encs D [.arr U.dr] (r,()))}
def GM:Cx K:={eK with mode:=d6 .plain [(105,.fresh)],iq:=[[some U.dr]],deep:=fun c=>eI (D.cells c (K.zero c)),call:=callOf D [Yi M.GL],loop:=dR [(3,Yk)]}
theorem Yn:aP GM:=aV ar _ (af aos aA)
theorem aov:bF GM (bq (bI Tryz.f66) 0) Yk:=lk (cx:=GM) (sh:=YT) (run:=fun n x=>M.tw x.1.1 n x.1.2.2.1 x.2.2.1) (bG:=aou) Yn (fun m x=>by kernel_rfl) (af ⟨bL,fun _ _ _=>rfl⟩ aA)
theorem aow:ax (Ym (M.BU)):=aX (cx:=GM) false Yn Tryz.func66 (hl1 aov) ⟨⟨[.own 0],[.arr U.dr]⟩,fun x=>x.2.1⟩ (fun x=>by kernel_rfl)
def Yo(m:M.aJ->Option ((List UInt8)×(List M.aH))):aG K:={f:=44,sh:=⟨[.el U.cX],[]⟩,R:=(List UInt8)×(List M.aH),run:=fun x=>m x.1.1,dflt:=default,out:=fun r=>(Sh.enc D (.agg [.str,.own 0]) (r.1,((),())),aW.encs D [.arr U.dr] (r.2,()))}
def Yp:Cx K:={eK with mode:=d6 .plain [(66,.fresh)],iq:=[[none,some U.dr]],deep:=fun c=>eI (D.cells c (K.zero c)),call:=callOf D [Ym M.BU],loop:=dR []}
theorem aox:aP Yp:=aV ar _ (af aow aA)
theorem aoy:ax (Yo (M.BV)):=aX (cx:=Yp) false aox Tryz.func44 hq ⟨⟨[.agg [.str,.own 0]],[.arr U.dr]⟩,fun x=>(x.1.1.1,x.2.1)⟩ (fun x=>by kernel_rfl)
def aoz(y:(List M.aJ)){R:Type}(k:KT R):R:=match y with|a0=>kk k (Ex.exit 0) ⟨[.own 1],[.dead,.tree U.cX]⟩ (((),()),((),(a0,())))
def aoA:List (cz K ((List M.aJ))):=[⟨(Ex.exit 0),⟨[.own 1],[.dead,.tree U.cX]⟩,fun x=>x.2.2.1⟩]
def Yq:bE K:=bJ D false 23 1 [0,3,4] [3] YZ (fun x=>M.tz x.1.1 ad x.1.2.2.1 x.2.2.1) aoz
def Ys(m:(List M.aJ)->Option ((List M.aJ))):aG K:={f:=26,sh:=⟨[.an U.cX],[]⟩,R:=(List M.aJ),run:=fun x=>m x.1.1,dflt:=default,out:=fun r=>(Sh.enc D (.own 0) (),aW.encs D [.tree U.cX] (r,()))}
def GN:Cx K:={eK with mode:=d6 .plain [(44,.fresh)],iq:=[[some U.cX]],deep:=fun c=>eI (D.cells c (K.zero c)),call:=callOf D [Yo M.BV],loop:=dR [(3,Yq)]}
theorem Yt:aP GN:=aV ar _ (af aoy aA)
theorem aoB:bF GN (bq (bI Tryz.f26) 0) Yq:=lk (cx:=GN) (sh:=YZ) (run:=fun n x=>M.tz x.1.1 n x.1.2.2.1 x.2.2.1) (bG:=aoA) Yt (fun m x=>by kernel_rfl) (af ⟨bL,fun _ _ _=>rfl⟩ aA)
theorem aoC:ax (Ys (M.BW)):=aX (cx:=GN) false Yt Tryz.func26 (hl1 aoB) ⟨⟨[.own 0],[.tree U.cX]⟩,fun x=>x.2.1⟩ (fun x=>by kernel_rfl)
def Yu(m:M.aj->Option ((List UInt8)×(List UInt8)×(List M.aE)×(List M.aJ))):aG K:={f:=14,sh:=qV,R:=(List UInt8)×(List UInt8)×(List M.aE)×(List M.aJ),run:=fun x=>m x.1.1,dflt:=default,out:=fun r=>(Sh.enc D (.agg [.str,.str,.own 0,.own 1]) (r.1,(r.2.1,((),((),())))),aW.encs D [.tree U.cD,.tree U.cX] (r.2.2.1,(r.2.2.2,())))}
def Yv:Cx K:={eK with mode:=d6 .plain [(25,.fresh),(26,.fresh)],iq:=[[none,none,some U.cD,some U.cX]],deep:=fun c=>eI (D.cells c (K.zero c)),call:=callOf D [Yg M.BS,Ys M.BW],loop:=dR []}
theorem aoD:aP Yv:=aV ar _ (af aoq (af aoC aA))
theorem aoE:ax (Yu (M.BX)):=aX (cx:=Yv) false aoD Tryz.func14 hq ⟨⟨[.agg [.str,.str,.own 0,.own 1]],[.tree U.cD,.tree U.cX]⟩,fun x=>(x.1.1.1,x.1.1.2.1,x.2.1,x.2.2.1)⟩ (fun x=>by kernel_rfl)
def nW(m:M.aa->M.aa->Option Bool):aG K:=cB 170 ZQ (fun x=>m x.1.1 x.1.2.1)
def Yw(adQ:M.aa->M.aa->Option Bool):bE K:=bJ D false 27 0 [0,1,5] [4] Y5 (fun x=>M.vD adQ x.1.1 x.1.2.1 ad x.1.2.2.1) iU
def Yy(m:(List M.aa)->(List M.aa)->Option Bool):aG K:=cB 208 ⟨[.an U.Term,.an U.Term],[]⟩ (fun x=>m x.1.1 x.1.2.1)
def GO(adQ:M.aa->M.aa->Option Bool):Cx K:=bp [(170,.plain)] [nW adQ] [(4,Yw adQ)]
theorem Yz(adQ:M.aa->M.aa->Option Bool)(pG:ax (nW adQ)):aP (GO adQ):=aV ar _ (af pG aA)
theorem aoF(adQ:M.aa->M.aa->Option Bool)(pG:ax (nW adQ)):bF (GO adQ) (bq (bI Tryz.f208) 0) (Yw adQ):=lk (cx:=GO adQ) (sh:=Y5) (run:=fun n x=>M.vD adQ x.1.1 x.1.2.1 n x.1.2.2.1) (bG:=iV) (Yz adQ pG) (fun m x=>by kernel_rfl) (af ⟨cO,fun _ _ _=>rfl⟩ (af ⟨bL,fun _ _ _=>rfl⟩ aA))
theorem aoG(adQ:M.aa->M.aa->Option Bool)(pG:ax (nW adQ)):ax (Yy (M.BY adQ)):=fP (cx:=GO adQ) (fz:=true) ar (Yz adQ pG) bm ⟨Tryz.func208,by kernel_rfl⟩ (hl1 (aoF adQ pG)) ⟨zs0,fun x=>x.1.1⟩ (fun x=>rfl) (fun x=>by kernel_rfl)
def YA(adQ:M.aa->M.aa->Option Bool):Cx K:=bp [(207,.plain),(208,.plain)] [YB M.BZ,Yy (M.BY adQ)] []
theorem aoH(adQ:M.aa->M.aa->Option Bool)(pG:ax (nW adQ)):aP (YA adQ):=aV ar _ (af aoI (af (aoG adQ pG) aA))
theorem aoJ(adQ:M.aa->M.aa->Option Bool)(pG:ax (nW adQ)):ax (nW (M.GQ adQ)):=fP (cx:=YA adQ) (fz:=true) ar (aoH adQ pG) bm ⟨Tryz.func170,by kernel_rfl⟩ hq ⟨zs0,fun x=>x.1.1⟩ (fun x=>rfl) (fun x=>by kernel_rfl)
theorem YC:∀n,ax (nW (M.vE n))|0=>nw fun _=>rfl|n+1=>aoJ (M.vE n) (YC n)
theorem YD:ax (nW (M.ym)):=YC ad
def YE(m:M.az->M.az->Option Bool):aG K:=cB 209 V3 (fun x=>m x.1.1 x.1.2.1)
def YF:Cx K:=bp [(170,.plain)] [nW M.ym] []
theorem aoK:aP YF:=aV ar _ (af YD aA)
theorem aoL:ax (YE (M.B0)):=aX (cx:=YF) true aoK Tryz.func209 hq ⟨zs0,fun x=>x.1.1⟩ (fun x=>by kernel_rfl)
def YG:bE K:=bJ D false 27 0 [0,1,5] [4] Zb (fun x=>M.vF x.1.1 x.1.2.1 ad x.1.2.2.1) iU
def YI(m:(List M.az)->(List M.az)->Option Bool):aG K:=cB 171 ⟨[.an U.cY,.an U.cY],[]⟩ (fun x=>m x.1.1 x.1.2.1)
def GR:Cx K:=bp [(209,.plain)] [YE M.B0] [(4,YG)]
theorem YJ:aP GR:=aV ar _ (af aoL aA)
theorem aoM:bF GR (bq (bI Tryz.f171) 0) YG:=lk (cx:=GR) (sh:=Zb) (run:=fun n x=>M.vF x.1.1 x.1.2.1 n x.1.2.2.1) (bG:=iV) YJ (fun m x=>by kernel_rfl) (af ⟨cO,fun _ _ _=>rfl⟩ (af ⟨bL,fun _ _ _=>rfl⟩ aA))
theorem aoN:ax (YI (M.B6)):=aX (cx:=GR) true YJ Tryz.func171 (hl1 aoM) ⟨zs0,fun x=>x.1.1⟩ (fun x=>by kernel_rfl)
def M8(m:M.bc->M.bc->Option Bool):aG K:=cB 172 ⟨[.el U.Path,.el U.Path],[]⟩ (fun x=>m x.1.1 x.1.2.1)
theorem YK:ax (M8 (M.vG)):=aX (cx:=gG) true gX Tryz.func172 hq ⟨zs0,fun x=>x.1.1⟩ (fun x=>by kernel_rfl)
def YL(m:M.aM->M.aM->Option Bool):aG K:=cB 210 ⟨[.el U.dc,.el U.dc],[]⟩ (fun x=>m x.1.1 x.1.2.1)
theorem aoO:ax (YL (M.B7)):=aX (cx:=gG) true gX Tryz.func210 hq ⟨zs0,fun x=>x.1.1⟩ (fun x=>by kernel_rfl)
def YM:bE K:=bJ D false 27 0 [0,1,5] [4] Zm (fun x=>M.vH x.1.1 x.1.2.1 ad x.1.2.2.1) iU
def YO(m:(List M.aM)->(List M.aM)->Option Bool):aG K:=cB 173 ⟨[.an U.dc,.an U.dc],[]⟩ (fun x=>m x.1.1 x.1.2.1)
def GU:Cx K:=bp [(210,.plain)] [YL M.B7] [(4,YM)]
theorem YP:aP GU:=aV ar _ (af aoO aA)
theorem aoP:bF GU (bq (bI Tryz.f173) 0) YM:=lk (cx:=GU) (sh:=Zm) (run:=fun n x=>M.vH x.1.1 x.1.2.1 n x.1.2.2.1) (bG:=iV) YP (fun m x=>by kernel_rfl) (af ⟨cO,fun _ _ _=>rfl⟩ (af ⟨bL,fun _ _ _=>rfl⟩ aA))
theorem aoQ:ax (YO (M.B8)):=aX (cx:=GU) true YP Tryz.func173 (hl1 aoP) ⟨zs0,fun x=>x.1.1⟩ (fun x=>by kernel_rfl)
def YQ(m:M.ah->M.ah->Option Bool):aG K:=cB 122 ZR (fun x=>m x.1.1 x.1.2.1)
def YR:Cx K:=bp [(170,.plain),(171,.plain),(172,.plain),(173,.plain)] [nW M.ym,YI M.B6,M8 M.vG,YO M.B8] []
theorem aoR:aP YR:=aV ar _ (af YD (af aoN (af YK (af aoQ aA))))
theorem aoS:ax (YQ (M.B9)):=aX (cx:=YR) true aoR Tryz.func122 hq ⟨zs0,fun x=>x.1.1⟩ (fun x=>by kernel_rfl)
def YS:bE K:=bJ D false 27 0 [0,1,5] [4] Zo (fun x=>M.vI x.1.1 x.1.2.1 ad x.1.2.2.1) iU
def YU(m:(List M.ah)->(List M.ah)->Option Bool):aG K:=cB 83 ⟨[.an U.Item,.an U.Item],[]⟩ (fun x=>m x.1.1 x.1.2.1)
def GV:Cx K:=bp [(122,.plain)] [YQ M.B9] [(4,YS)]
theorem YV:aP GV:=aV ar _ (af aoS aA)
theorem aoT:bF GV (bq (bI Tryz.f83) 0) YS:=lk (cx:=GV) (sh:=Zo) (run:=fun n x=>M.vI x.1.1 x.1.2.1 n x.1.2.2.1) (bG:=iV) YV (fun m x=>by kernel_rfl) (af ⟨cO,fun _ _ _=>rfl⟩ (af ⟨bL,fun _ _ _=>rfl⟩ aA))
theorem aoU:ax (YU (M.Cb)):=aX (cx:=GV) true YV Tryz.func83 (hl1 aoT) ⟨zs0,fun x=>x.1.1⟩ (fun x=>by kernel_rfl)
def YW(m:M.aE->M.aE->Option Bool):aG K:=cB 48 ⟨[.el U.cD,.el U.cD],[]⟩ (fun x=>m x.1.1 x.1.2.1)
def YX:Cx K:=bp [(83,.plain)] [YU M.Cb] []
theorem aoV:aP YX:=aV ar _ (af aoU aA)
theorem aoW:ax (YW (M.Cc)):=aX (cx:=YX) true aoV Tryz.func48 hq ⟨zs0,fun x=>x.1.1⟩ (fun x=>by kernel_rfl)
def YY:bE K:=bJ D false 27 0 [0,1,5] [4] Zt (fun x=>M.vJ x.1.1 x.1.2.1 ad x.1.2.2.1) iU
def Y0(m:(List M.aE)->(List M.aE)->Option Bool):aG K:=cB 29 ⟨[.an U.cD,.an U.cD],[]⟩ (fun x=>m x.1.1 x.1.2.1)
def GX:Cx K:=bp [(48,.plain)] [YW M.Cc] [(4,YY)]
theorem Y1:aP GX:=aV ar _ (af aoW aA)
theorem aoX:bF GX (bq (bI Tryz.f29) 0) YY:=lk (cx:=GX) (sh:=Zt) (run:=fun n x=>M.vJ x.1.1 x.1.2.1 n x.1.2.2.1) (bG:=iV) Y1 (fun m x=>by kernel_rfl) (af ⟨cO,fun _ _ _=>rfl⟩ (af ⟨bL,fun _ _ _=>rfl⟩ aA))
theorem aoY:ax (Y0 (M.Cd)):=aX (cx:=GX) true Y1 Tryz.func29 (hl1 aoX) ⟨zs0,fun x=>x.1.1⟩ (fun x=>by kernel_rfl)
def Y2(m:M.aH->M.aH->Option Bool):aG K:=cB 123 ⟨[.el U.dr,.el U.dr],[]⟩ (fun x=>m x.1.1 x.1.2.1)
def Y3:Cx K:=bp [(172,.plain)] [M8 M.vG] []
theorem aoZ:aP Y3:=aV ar _ (af YK aA)
theorem ao0:ax (Y2 (M.Ce)):=aX (cx:=Y3) true aoZ Tryz.func123 hq ⟨zs0,fun x=>x.1.1⟩ (fun x=>by kernel_rfl)
def Y4:bE K:=bJ D false 27 0 [0,1,5] [4] ZA (fun x=>M.vK x.1.1 x.1.2.1 ad x.1.2.2.1) iU
def Y6(m:(List M.aH)->(List M.aH)->Option Bool):aG K:=cB 84 WZ (fun x=>m x.1.1 x.1.2.1)
def GY:Cx K:=bp [(123,.plain)] [Y2 M.Ce] [(4,Y4)]
theorem Y7:aP GY:=aV ar _ (af ao0 aA)
theorem ao1:bF GY (bq (bI Tryz.f84) 0) Y4:=lk (cx:=GY) (sh:=ZA) (run:=fun n x=>M.vK x.1.1 x.1.2.1 n x.1.2.2.1) (bG:=iV) Y7 (fun m x=>by kernel_rfl) (af ⟨cO,fun _ _ _=>rfl⟩ (af ⟨bL,fun _ _ _=>rfl⟩ aA))
theorem ao2:ax (Y6 (M.Cf)):=aX (cx:=GY) true Y7 Tryz.func84 (hl1 ao1) ⟨zs0,fun x=>x.1.1⟩ (fun x=>by kernel_rfl)
def Y8(m:M.aJ->M.aJ->Option Bool):aG K:=cB 49 Xc (fun x=>m x.1.1 x.1.2.1)
def Y9:Cx K:=bp [(84,.plain)] [Y6 M.Cf] []
theorem ao3:aP Y9:=aV ar _ (af ao2 aA)
theorem ao4:ax (Y8 (M.Ci)):=aX (cx:=Y9) true ao3 Tryz.func49 hq ⟨zs0,fun x=>x.1.1⟩ (fun x=>by kernel_rfl)
def Za:bE K:=bJ D false 27 0 [0,1,5] [4] ZG (fun x=>M.vL x.1.1 x.1.2.1 ad x.1.2.2.1) iU
def Zc(m:(List M.aJ)->(List M.aJ)->Option Bool):aG K:=cB 30 ⟨[.an U.cX,.an U.cX],[]⟩ (fun x=>m x.1.1 x.1.2.1)
def GZ:Cx K:=bp [(49,.plain)] [Y8 M.Ci] [(4,Za)]
theorem Zd:aP GZ:=aV ar _ (af ao4 aA)
theorem ao5:bF GZ (bq (bI Tryz.f30) 0) Za:=lk (cx:=GZ) (sh:=ZG) (run:=fun n x=>M.vL x.1.1 x.1.2.1 n x.1.2.2.1) (bG:=iV) Zd (fun m x=>by kernel_rfl) (af ⟨cO,fun _ _ _=>rfl⟩ (af ⟨bL,fun _ _ _=>rfl⟩ aA))
theorem ao6:ax (Zc (M.Cj)):=aX (cx:=GZ) true Zd Tryz.func30 (hl1 ao5) ⟨zs0,fun x=>x.1.1⟩ (fun x=>by kernel_rfl)
def Ze(m:M.aj->M.aj->Option Bool):aG K:=cB 18 ZS (fun x=>m x.1.1 x.1.2.1)
def Zf:Cx K:=bp [(29,.plain),(30,.plain)] [Y0 M.Cd,Zc M.Cj] []
theorem ao7:aP Zf:=aV ar _ (af aoY (af ao6 aA))
theorem ao8:ax (Ze (M.Cm)):=aX (cx:=Zf) true ao7 Tryz.func18 hq ⟨zs0,fun x=>x.1.1⟩ (fun x=>by kernel_rfl)
def ao9(y:Int⊕((List M.aj)×Int)){R:Type}(k:KT R):R:=match y with|.inl a0=>kk k Ex.ret ⟨[.any,.any,iq0],[]⟩ (((),((),(a0,()))),())|.inr a1=>kk k (Ex.exit 2) ⟨[.an U.ba,iq0,.any],[]⟩ ((a1.1,(a1.2,((),()))),())
def apa:List (cz K ((Int)⊕((List M.aj)×Int))):=[⟨Ex.ret,⟨[.any,.any,iq0],[]⟩,fun x=>.inl x.1.2.2.1⟩,⟨(Ex.exit 2),⟨[.an U.ba,iq0,.any],[]⟩,fun x=>.inr ((x.1.1,x.1.2.1))⟩]
def Zg:bE K:=bJ D false 49 0 [0,3,4] [0,3,2] Nb (fun x=>M.vh x.1.1 x.1.2.1 ad x.1.2.2.1) ao9
def Zh:bE K:=bJ D false 49 0 [0,3] [2] ZT (fun x=>M.vi ad x.1.1 x.1.2.1) G5
def Zi(m:(List M.aj)->Option Int):aG K:=cI 13 ZU (fun x=>m x.1.1)
def yn:Cx K:=bp [(24,.plain)] [WW M.qJ] [(9,Zg),(4,Zh)]
theorem Na:aP yn:=aV ar _ (af anq aA)
theorem apb:bF yn (bq (bq (bI Tryz.f13) 0) 0) Zg:=lk (cx:=yn) (sh:=Nb) (run:=fun n x=>M.vh x.1.1 x.1.2.1 n x.1.2.2.1) (bG:=apa) Na (fun m x=>by kernel_rfl) (af ⟨cO,fun _ _ _=>rfl⟩ (af ⟨bL,fun _ _ _=>rfl⟩ aA))
theorem apc:bF yn (bq (bI Tryz.f13) 0) Zh:=lk (cx:=yn) (sh:=ZT) (run:=fun n x=>M.vi n x.1.1 x.1.2.1) (bG:=G6) Na (fun m x=>by kernel_rfl) (af ⟨cO,fun _ _ _=>rfl⟩ (af ⟨bL,fun _ _ _=>rfl⟩ aA)) (hl:=(bP 1 (by kernel_rfl) (bQ (.mk (by kernel_rfl) apb))))
theorem apd:ax (Zi (M.A5)):=aX (cx:=yn) true Na Tryz.func13 (hl1 apc) ⟨zs2,fun x=>x.1.1⟩ (fun x=>by kernel_rfl)
def Zj(m:M.aj->M.aj->Option Bool):aG K:=cB 17 ⟨[.el U.ba,.rp U.ba 0],[]⟩ (fun x=>m x.1.1 x.1.2.1)
theorem ape:ax (Zj (M.Zk)):=aX (cx:=gG) true gX Tryz.func17 hq ⟨zs0,fun x=>x.1.1⟩ (fun x=>by kernel_rfl)
def Zl:bE K:=bJ D false 19 0 [0,1,7,8] [4] aut (fun x=>M.xX x.1.1 x.1.2.1.1 x.1.2.2.1 ad x.1.2.2.2.1) G5
def Zn(m:(List M.aj)->M.aj->Option Int):aG K:=cI 28 auu (fun x=>m x.1.1 x.1.2.1.1)
def G7:Cx K:=bp [(17,.plain)] [Zj M.Zk] [(2,Zl)]
theorem Zp:aP G7:=aV ar _ (af ape aA)
theorem apf:bF G7 (bq (bI Tryz.f28) 0) Zl:=lk (cx:=G7) (sh:=aut) (run:=fun n x=>M.xX x.1.1 x.1.2.1.1 x.1.2.2.1 n x.1.2.2.2.1) (bG:=G6) Zp (fun m x=>by kernel_rfl) (af ⟨cO,fun _ _ _=>rfl⟩ (af ⟨bL,fun _ _ _=>rfl⟩ aA))
theorem apg:ax (Zn (M.Fg)):=aX (cx:=G7) true Zp Tryz.func28 (hl1 apf) ⟨zs2,fun x=>x.1.1⟩ (fun x=>by kernel_rfl)
def Zq(m:(List M.aj)->M.aj->Option Bool):aG K:=cB 16 auu (fun x=>m x.1.1 x.1.2.1.1)
def Zr:Cx K:=bp [(28,.plain)] [Zn M.Fg] []
theorem aph:aP Zr:=aV ar _ (af apg aA)
theorem api:ax (Zq (M.A3)):=aX (cx:=Zr) true aph Tryz.func16 hq ⟨zs0,fun x=>x.1.1⟩ (fun x=>by kernel_rfl)
def Zs:bE K:=bJ D false 26 0 [0,8,9,10] [2] auv (fun x=>M.vg x.1.1 x.1.2.1 x.1.2.2.1 ad x.1.2.2.2.1) G5
def Zu(m:(List M.aj)->Option Int):aG K:=cI 8 ZU (fun x=>m x.1.1)
def G8:Cx K:=bp [(15,.plain),(16,.plain)] [Wj M.u6,Zq M.A3] [(4,Zs)]
theorem Zv:aP G8:=aV ar _ (af amu (af api aA))
theorem apj:bF G8 (bq (bI Tryz.f8) 0) Zs:=lk (cx:=G8) (sh:=auv) (run:=fun n x=>M.vg x.1.1 x.1.2.1 x.1.2.2.1 n x.1.2.2.2.1) (bG:=G6) Zv (fun m x=>by kernel_rfl) (af ⟨cO,fun _ _ _=>rfl⟩ (af ⟨bL,fun _ _ _=>rfl⟩ aA))
theorem apk:ax (Zu (M.A4)):=aX (cx:=G8) true Zv Tryz.func8 (hl1 apj) ⟨zs2,fun x=>x.1.1⟩ (fun x=>by kernel_rfl)
def auw(m:(List UInt8)->(List UInt8)->Option Bool):aG K:=cB 32 yo (fun x=>m x.1.1 x.1.2.1)
theorem avt:ax (auw (M.ae8)):=aX (cx:=aaW) true apP Tryz.func32 hq ⟨zs0,fun x=>x.1.1⟩ (fun x=>by kernel_rfl)
def auy(m:(List UInt8)->(List UInt8)->Option (Int×Int)):aG K:={f:=33,sh:=yo,R:=Int×Int,run:=fun x=>m x.1.1 x.1.2.1,dflt:=default,out:=fun r=>(Sh.enc D (.bC [iq0,iq0]) (r.1,(r.2,())),aW.encs D [] ())}
theorem avu:ax (auy (M.afh)):=aX (cx:=aaW) true apP Tryz.func33 hq ⟨Gg,fun x=>(x.1.1.1,x.1.1.2.1)⟩ (fun x=>by kernel_rfl)
def auz(y:(List M.aj)×(List UInt8)×Int×Bool){R:Type}(k:KT R):R:=match y with|a0=>kk k (Ex.exit 0) Nc ((a0.1,(a0.2.1,(a0.2.2.1,(a0.2.2.2,())))),())
def auA:List (cz K ((List M.aj)×(List UInt8)×Int×Bool)):=[⟨(Ex.exit 0),Nc,fun x=>(x.1.1,x.1.2.1,x.1.2.2.1,x.1.2.2.2.1)⟩]
def auB:bE K:=bJ D false 78 0 [0,1,2,9,10,11] [0,2,9,10] auC (fun x=>M.adS x.1.1 x.1.2.1 x.1.2.2.1 ad x.1.2.2.2.1 x.1.2.2.2.2.1 x.1.2.2.2.2.2.1) auz
def auD(m:(List M.aj)->(List UInt8)->(List UInt8)->Option (Int×Int×Int)):aG K:={f:=20,sh:=Fv,R:=Int×Int×Int,run:=fun x=>m x.1.1 x.1.2.1 x.1.2.2.1,dflt:=default,out:=fun r=>(Sh.enc D (.bC [iq0,iq0,iq0]) (r.1,(r.2.1,(r.2.2,()))),aW.encs D [] ())}
def aug:Cx K:=bp [(32,.plain),(33,.plain)] [auw M.ae8,auy M.afh] [(4,auB)]
theorem auE:aP aug:=aV ar _ (af avt (af avu aA))
theorem avv:bF aug (bq (bI Tryz.f20) 0) auB:=lk (cx:=aug) (sh:=auC) (run:=fun n x=>M.adS x.1.1 x.1.2.1 x.1.2.2.1 n x.1.2.2.2.1 x.1.2.2.2.2.1 x.1.2.2.2.2.2.1) (bG:=auA) auE (fun m x=>by kernel_rfl) (af ⟨bL,fun _ _ _=>rfl⟩ aA)
theorem avw:ax (auD (M.afQ)):=aX (cx:=aug) true auE Tryz.func20 (hl1 avv) ⟨Nh,fun x=>(x.1.1.1,x.1.1.2.1,x.1.1.2.2.1)⟩ (fun x=>by kernel_rfl)
def auF(m:(List M.aj)->(List UInt8)->(List UInt8)->Option (Int×Int×Int)):aG K:={f:=10,sh:=Fv,R:=Int×Int×Int,run:=fun x=>m x.1.1 x.1.2.1 x.1.2.2.1,dflt:=default,out:=fun r=>(Sh.enc D (.bC [iq0,iq0,iq0]) (r.1,(r.2.1,(r.2.2,()))),aW.encs D [] ())}
def auG:Cx K:=bp [(13,.plain),(19,.plain),(20,.plain)] [Zi M.A5,aaV M.Be,auD M.afQ] []
theorem avx:aP auG:=aV ar _ (af apd (af apQ (af avw aA)))
theorem avy:ax (auF (M.ajx)):=aX (cx:=auG) true avx Tryz.func10 hq ⟨Nh,fun x=>(x.1.1.1,x.1.1.2.1,x.1.1.2.2.1)⟩ (fun x=>by kernel_rfl)
def auH(m:(List UInt8)->(List UInt8)->Option Bool):aG K:=cB 35 yo (fun x=>m x.1.1 x.1.2.1)
theorem avz:ax (auH (M.ae7)):=aX (cx:=aa1) true apV Tryz.func35 hq ⟨zs0,fun x=>x.1.1⟩ (fun x=>by kernel_rfl)
def auI(m:Int->Option Bool):aG K:=cB 127 zs2 (fun x=>m x.1.1)
theorem avA:ax (auI (M.auJ)):=aX (cx:=gG) true gX Tryz.func127 hq ⟨zs0,fun x=>x.1.1⟩ (fun x=>by kernel_rfl)
def auK(m:Int->Int->Option Int):aG K:=cI 88 ⟨[iq0,iq0],[]⟩ (fun x=>m x.1.1 x.1.2.1)
def auL:Cx K:=bp [(127,.plain)] [auI M.auJ] []
theorem avC:aP auL:=aV ar _ (af avA aA)
theorem avD:ax (auK (M.atO)):=aX (cx:=auL) true avC Tryz.func88 hq ⟨zs2,fun x=>x.1.1⟩ (fun x=>by kernel_rfl)
def auM(m:(List UInt8)->(List UInt8)->Option (Int×Int)):aG K:={f:=53,sh:=yo,R:=Int×Int,run:=fun x=>m x.1.1 x.1.2.1,dflt:=default,out:=fun r=>(Sh.enc D (.bC [iq0,iq0]) (r.1,(r.2,())),aW.encs D [] ())}
def auN:Cx K:=bp [(52,.plain),(88,.plain)] [aaY M.Ba,auK M.atO] []
theorem avE:aP auN:=aV ar _ (af apU (af avD aA))
theorem avF:ax (auM (M.atN)):=aX (cx:=auN) true avE Tryz.func53 hq ⟨Gg,fun x=>(x.1.1.1,x.1.1.2.1)⟩ (fun x=>by kernel_rfl)
def auO(m:(List UInt8)->(List UInt8)->Option Bool):aG K:=cB 36 yo (fun x=>m x.1.1 x.1.2.1)
def auP:Cx K:=bp [(53,.plain)] [auM M.atN] []
theorem avG:aP auP:=aV ar _ (af avF aA)
theorem avH:ax (auO (M.afg)):=aX (cx:=auP) true avG Tryz.func36 hq ⟨zs0,fun x=>x.1.1⟩ (fun x=>by kernel_rfl)
def auQ:bE K:=bJ D false 74 0 [0,1,2,9,10,20,21,22] [0,2,9,10] auR (fun x=>M.aei x.1.1 x.1.2.1 x.1.2.2.1 x.1.2.2.2.2.2.1 x.1.2.2.2.2.2.2.1 ad x.1.2.2.2.1 x.1.2.2.2.2.1 x.1.2.2.2.2.2.2.2.1) auz
def auS(m:(List M.aj)->(List UInt8)->(List UInt8)->Option (Int×Int×Int)):aG K:={f:=21,sh:=Fv,R:=Int×Int×Int,run:=fun x=>m x.1.1 x.1.2.1 x.1.2.2.1,dflt:=default,out:=fun r=>(Sh.enc D (.bC [iq0,iq0,iq0]) (r.1,(r.2.1,(r.2.2,()))),aW.encs D [] ())}
def auh:Cx K:=bp [(34,.plain),(35,.plain),(36,.plain)] [aa0 M.A9,auH M.ae7,auO M.afg] [(5,auQ)]
theorem auT:aP auh:=aV ar _ (af apW (af avz (af avH aA)))
theorem avI:bF auh (bq (bI Tryz.f21) 0) auQ:=lk (cx:=auh) (sh:=auR) (run:=fun n x=>M.aei x.1.1 x.1.2.1 x.1.2.2.1 x.1.2.2.2.2.2.1 x.1.2.2.2.2.2.2.1 n x.1.2.2.2.1 x.1.2.2.2.2.1 x.1.2.2.2.2.2.2.2.1) (bG:=auA) auT (fun m x=>by kernel_rfl) (af ⟨bL,fun _ _ _=>rfl⟩ aA)
theorem avJ:ax (auS (M.agZ)):=aX (cx:=auh) true auT Tryz.func21 (hl1 avI) ⟨Nh,fun x=>(x.1.1.1,x.1.1.2.1,x.1.1.2.2.1)⟩ (fun x=>by kernel_rfl)
def auU(m:(List M.aj)->(List UInt8)->(List UInt8)->Option (Int×Int×Int)):aG K:={f:=11,sh:=Fv,R:=Int×Int×Int,run:=fun x=>m x.1.1 x.1.2.1 x.1.2.2.1,dflt:=default,out:=fun r=>(Sh.enc D (.bC [iq0,iq0,iq0]) (r.1,(r.2.1,(r.2.2,()))),aW.encs D [] ())}
def auV:Cx K:=bp [(8,.plain),(21,.plain)] [Zu M.A4,auS M.agZ] []
theorem avK:aP auV:=aV ar _ (af apk (af avJ aA))
theorem avL:ax (auU (M.ajn)):=aX (cx:=auV) true avK Tryz.func11 hq ⟨Nh,fun x=>(x.1.1.1,x.1.1.2.1,x.1.1.2.2.1)⟩ (fun x=>by kernel_rfl)
def Zw:bE K:=bJ D false 27 0 [0,1,5] [1,4] Nb (fun x=>M.vM x.1.1 ad x.1.2.1 x.1.2.2.1) nS
def Zx(m:(List M.aj)->Int->Option Int):aG K:=cI 5 ZT (fun x=>m x.1.1 x.1.2.1)
def G9:Cx K:=bp [(12,.plain)] [XJ M.BI] [(5,Zw)]
theorem Zy:aP G9:=aV ar _ (af anW aA)
theorem apl:bF G9 (bq (bI Tryz.f5) 0) Zw:=lk (cx:=G9) (sh:=Nb) (run:=fun n x=>M.vM x.1.1 n x.1.2.1 x.1.2.2.1) (bG:=nU) Zy (fun m x=>by kernel_rfl) (af ⟨cO,fun _ _ _=>rfl⟩ (af ⟨bL,fun _ _ _=>rfl⟩ aA))
theorem apm:ax (Zx (M.CC)):=aX (cx:=G9) true Zy Tryz.func5 (hl1 apl) ⟨zs2,fun x=>x.1.1⟩ (fun x=>by kernel_rfl)
def apn(y:(List M.aj)){R:Type}(k:KT R):R:=match y with|a0=>kk k (Ex.exit 0) ⟨[.own 1],[.dead,.tree U.ba]⟩ (((),()),((),(a0,())))
def apo:List (cz K ((List M.aj))):=[⟨(Ex.exit 0),⟨[.own 1],[.dead,.tree U.ba]⟩,fun x=>x.2.2.1⟩]
def Zz:bE K:=bJ D false 23 1 [0,3,4] [3] auW (fun x=>M.tA x.1.1 ad x.1.2.2.1 x.2.2.1) apn
def ZB(m:(List M.aj)->Option ((List M.aj))):aG K:={f:=7,sh:=ZU,R:=(List M.aj),run:=fun x=>m x.1.1,dflt:=default,out:=fun r=>(Sh.enc D (.own 0) (),aW.encs D [.tree U.ba] (r,()))}
def Ha:Cx K:={eK with mode:=d6 .plain [(14,.fresh)],iq:=[[some U.ba]],deep:=fun c=>eI (D.cells c (K.zero c)),call:=callOf D [Yu M.BX],loop:=dR [(3,Zz)]}
theorem ZC:aP Ha:=aV ar _ (af aoE aA)
theorem apq:bF Ha (bq (bI Tryz.f7) 0) Zz:=lk (cx:=Ha) (sh:=auW) (run:=fun n x=>M.tA x.1.1 n x.1.2.2.1 x.2.2.1) (bG:=apo) ZC (fun m x=>by kernel_rfl) (af ⟨bL,fun _ _ _=>rfl⟩ aA)
theorem apr:ax (ZB (M.CE)):=aX (cx:=Ha) false ZC Tryz.func7 (hl1 apq) ⟨⟨[.own 0],[.tree U.ba]⟩,fun x=>x.2.1⟩ (fun x=>by kernel_rfl)
def ZF:bE K:=bJ D false 27 0 [0,1,5] [4] auX (fun x=>M.vN x.1.1 x.1.2.1 ad x.1.2.2.1) iU
def ZH(m:(List M.aj)->(List M.aj)->Option Bool):aG K:=cB 9 ⟨[.an U.ba,.an U.ba],[]⟩ (fun x=>m x.1.1 x.1.2.1)
def He:Cx K:=bp [(18,.plain)] [Ze M.Cm] [(4,ZF)]
theorem ZI:aP He:=aV ar _ (af ao8 aA)
theorem apu:bF He (bq (bI Tryz.f9) 0) ZF:=lk (cx:=He) (sh:=auX) (run:=fun n x=>M.vN x.1.1 x.1.2.1 n x.1.2.2.1) (bG:=iV) ZI (fun m x=>by kernel_rfl) (af ⟨cO,fun _ _ _=>rfl⟩ (af ⟨bL,fun _ _ _=>rfl⟩ aA))
theorem apv:ax (ZH (M.CG)):=aX (cx:=He) true ZI Tryz.func9 (hl1 apu) ⟨zs0,fun x=>x.1.1⟩ (fun x=>by kernel_rfl)
def auY(m:(List M.aj)->(List UInt8)->(List UInt8)->Option Bool):aG K:=cB 4 Fv (fun x=>m x.1.1 x.1.2.1 x.1.2.2.1)
def auZ:Cx K:={eK with mode:=d6 .plain [(5,.plain),(7,.fresh),(10,.plain),(11,.plain),(9,.plain)],deep:=fun c=>eI (D.cells c (K.zero c)),call:=callOf D [Zx M.CC,ZB M.CE,auF M.ajx,auU M.ajn,ZH M.CG],loop:=dR []}
theorem avM:aP auZ:=aV ar _ (af apm (af apr (af avy (af avL (af apv aA)))))
theorem avN:ax (auY (M.ajy)):=aX (cx:=auZ) true avM Tryz.func4 hq ⟨zs0,fun x=>x.1.1⟩ (fun x=>by kernel_rfl)
