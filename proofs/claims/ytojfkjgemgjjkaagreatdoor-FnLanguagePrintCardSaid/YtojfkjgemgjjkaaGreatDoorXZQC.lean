/-
  Part of the proof of the claim.
-/
import Derived.Test.YtojfkjgemgjjkaaGreatDoorXZQCa
import Derived.Test.YtojfkjgemgjjkaaGreatDoorXZQM
import Derived.Test.YtojfkjgemgjjkaaGreatDoorXXHdA
import Derived.Test.YtojfkjgemgjjkaaGreatDoorXXHdI
import Derived.Test.YtojfkjgemgjjkaaGreatDoorXXHdJ2
import Derived.Test.YtojfkjgemgjjkaaGreatDoorXXHdV
import Derived.Test.YtojfkjgemgjjkaaGreatDoorXWgD
import Derived.Test.YtojfkjgemgjjkaaGreatDoorProg
set_option linter.unusedVariables false
set_option maxRecDepth 100000
open Go Go.Proofs
open Go.V
noncomputable section
def Ut:bQ K:=bV D false 39 11 [0,2,3] [2,3] Uu (fun x=>M.mi x.2.2.1.1 x.2.2.1.2.1 x.2.2.1.2.2.1 x.2.2.1.2.2.2.1 x.2.2.1.2.2.2.2.2.2.2.1 x.2.2.1.2.2.2.2.2.2.2.2.1 x.2.2.1.2.2.2.2.2.2.2.2.2.1 x.2.2.1.2.2.2.2.2.2.2.2.2.2.1 x.2.2.2.1.1 x.2.2.2.1.2.1 x.2.2.2.1.2.2.1 x.2.2.2.1.2.2.2.1 x.2.2.2.1.2.2.2.2.2.2.2.1 x.2.2.2.1.2.2.2.2.2.2.2.2.1 x.2.2.2.1.2.2.2.2.2.2.2.2.2.1 x.2.2.2.1.2.2.2.2.2.2.2.2.2.2.1 x.2.2.2.2.2.2.2.2.2.2.2.2.1 x.2.2.2.2.2.2.2.2.2.2.2.2.2.1 x.2.2.2.2.2.2.2.2.2.2.2.2.2.2.1 x.2.2.2.2.2.2.2.2.2.2.2.2.2.2.2.1 x.2.2.2.2.2.2.2.2.2.2.2.2.2.2.2.2.1 x.2.2.2.2.2.2.2.2.2.2.2.2.2.2.2.2.2.1 x.2.2.2.2.2.2.2.2.2.2.2.2.2.2.2.2.2.2.1 ae x.2.1 x.2.2.2.2.2.2.2.2.2.2.2.2.2.2.2.2.2.2.2.1) ai8
def Uw(m:M.ay->Option (M.ai×M.ay)):aM K:={f:=153,sh:=oo,R:=M.ai×M.ay,run:=fun x=>m x.2.1,dflt:=default,out:=fun r=>(Sh.enc D (.el U.Item) r.1,aU.encs D [.el U.dm] (r.2,()))}
def FK:Cx K:=bK [(121,.aZ),(81,.aZ),(151,.aZ),(84,.aZ),(176,.aZ)] [MF M.mh,oq M.dE,FM M.nC,mZ M.dJ,CN M.ko] [(4,Ut)]
theorem Ux:ba FK:=bA aY _ (ah Uy (ah pv (ah MG (ah ot (ah FN aF)))))
theorem ai9:bR FK (bC (bP Tryz.f153) 0) Ut:=lk (cx:=FK) (sh:=Uu) (run:=fun n x=>M.mi x.2.2.1.1 x.2.2.1.2.1 x.2.2.1.2.2.1 x.2.2.1.2.2.2.1 x.2.2.1.2.2.2.2.2.2.2.1 x.2.2.1.2.2.2.2.2.2.2.2.1 x.2.2.1.2.2.2.2.2.2.2.2.2.1 x.2.2.1.2.2.2.2.2.2.2.2.2.2.1 x.2.2.2.1.1 x.2.2.2.1.2.1 x.2.2.2.1.2.2.1 x.2.2.2.1.2.2.2.1 x.2.2.2.1.2.2.2.2.2.2.2.1 x.2.2.2.1.2.2.2.2.2.2.2.2.1 x.2.2.2.1.2.2.2.2.2.2.2.2.2.1 x.2.2.2.1.2.2.2.2.2.2.2.2.2.2.1 x.2.2.2.2.2.2.2.2.2.2.2.2.1 x.2.2.2.2.2.2.2.2.2.2.2.2.2.1 x.2.2.2.2.2.2.2.2.2.2.2.2.2.2.1 x.2.2.2.2.2.2.2.2.2.2.2.2.2.2.2.1 x.2.2.2.2.2.2.2.2.2.2.2.2.2.2.2.2.1 x.2.2.2.2.2.2.2.2.2.2.2.2.2.2.2.2.2.1 x.2.2.2.2.2.2.2.2.2.2.2.2.2.2.2.2.2.2.1 n x.2.1 x.2.2.2.2.2.2.2.2.2.2.2.2.2.2.2.2.2.2.2.1) (bU:=aja) Ux (fun m x=>by kernel_rfl) (ah ⟨cf,fun _ _ _=>rfl⟩ aF)
theorem ajb:aB (Uw (M.A9)):=bw (cx:=FK) true Ux Tryz.func153 (hl1 ai9) ⟨MH,fun x=>(x.1.1,x.2.1)⟩ (fun x=>by kernel_rfl)
def Uz(m:M.ay->Option (M.ai×M.ay)):aM K:={f:=120,sh:=oo,R:=M.ai×M.ay,run:=fun x=>m x.2.1,dflt:=default,out:=fun r=>(Sh.enc D (.el U.Item) r.1,aU.encs D [.el U.dm] (r.2,()))}
def UA:Cx K:=bK [(82,.aZ),(84,.aZ),(150,.aZ),(151,.aZ),(81,.aZ),(152,.aZ),(153,.aZ)] [qE M.gh,mZ M.dJ,UB M.A7,oq M.dE,FM M.nC,kC M.tL,Uw M.A9] []
theorem ajc:ba UA:=bA aY _ (ah sn (ah ot (ah ajd (ah pv (ah MG (ah MI (ah ajb aF)))))))
theorem aje:aB (Uz (M.Ba)):=bw (cx:=UA) true ajc Tryz.func120 hq ⟨MH,fun x=>(x.1.1,x.2.1)⟩ (fun x=>by kernel_rfl)
def ajf(y:(List M.af)×Int×Bool×(List UInt8)×(List UInt8)×(List M.ai)×(List M.ai)){R:Type}(k:KT R):R:=match y with|a0=>kk k (Ex.exit 0) UC (((),((),())),((a0.1,(a0.2.1,(a0.2.2.1,()))),((a0.2.2.2.1,((),())),((a0.2.2.2.2.1,((),())),((),((),(a0.2.2.2.2.2.1,(a0.2.2.2.2.2.2,()))))))))
def ajg:List (cC K ((List M.af)×Int×Bool×(List UInt8)×(List UInt8)×(List M.ai)×(List M.ai))):=[⟨(Ex.exit 0),UC,fun x=>(x.2.1.1,x.2.1.2.1,x.2.1.2.2.1,x.2.2.1.1,x.2.2.2.1.1,x.2.2.2.2.2.2.1,x.2.2.2.2.2.2.2.1)⟩]
def UD:bQ K:=bV D false 34 5 [0,2,3] [2,3] UE (fun x=>M.tP x.2.2.1.1 x.2.2.2.1.1 x.2.2.2.2.2.2.1 ae x.2.1 x.2.2.2.2.2.2.2.1) ajf
def UF(m:M.ay->Option (M.aG×M.ay)):aM K:={f:=85,sh:=oo,R:=M.aG×M.ay,run:=fun x=>m x.2.1,dflt:=default,out:=fun r=>(Sh.enc D (.el U.dk) r.1,aU.encs D [.el U.dm] (r.2,()))}
def FO:Cx K:=bK [(82,.aZ),(81,.aZ),(84,.aZ),(120,.aZ)] [qE M.gh,oq M.dE,mZ M.dJ,Uz M.Ba] [(3,UD)]
theorem UG:ba FO:=bA aY _ (ah sn (ah pv (ah ot (ah aje aF))))
theorem ajh:bR FO (bC (bP Tryz.f85) 0) UD:=lk (cx:=FO) (sh:=UE) (run:=fun n x=>M.tP x.2.2.1.1 x.2.2.2.1.1 x.2.2.2.2.2.2.1 n x.2.1 x.2.2.2.2.2.2.2.1) (bU:=ajg) UG (fun m x=>by kernel_rfl) (ah ⟨cf,fun _ _ _=>rfl⟩ aF)
theorem aji:aB (UF (M.yl)):=bw (cx:=FO) true UG Tryz.func85 (hl1 ajh) ⟨⟨[.el U.dk],[.el U.dm]⟩,fun x=>(x.1.1,x.2.1)⟩ (fun x=>by kernel_rfl)
def MJ(m:Option ((List (List UInt8)))):aM K:={f:=55,sh:=⟨[],[]⟩,R:=(List (List UInt8)),run:=fun x=>m,dflt:=default,out:=fun r=>(Sh.enc D (.ax U.str) r,aU.encs D [] ())}
theorem UH:aB (MJ (M.kh)):=bw (cx:=iQ) true jh Tryz.func55 hq ⟨CO,fun x=>x.1.1⟩ (fun x=>by kernel_rfl)
def ajj(y:M.ay×(List UInt8)×(List UInt8)×M.aO×(List M.aO)×(List M.aO)){R:Type}(k:KT R):R:=match y with|a0=>kk k (Ex.exit 2) UI (((),((),((),((),())))),(a0.1,((a0.2.1,((),())),((a0.2.2.1,((),())),(a0.2.2.2.1,((),((),(a0.2.2.2.2.1,(a0.2.2.2.2.2,())))))))))
def ajk:List (cC K (M.ay×(List UInt8)×(List UInt8)×M.aO×(List M.aO)×(List M.aO))):=[⟨(Ex.exit 2),UI,fun x=>(x.2.1,x.2.2.1.1,x.2.2.2.1.1,x.2.2.2.2.1,x.2.2.2.2.2.2.2.1,x.2.2.2.2.2.2.2.2.1)⟩]
def UJ:bQ K:=bV D false 71 6 [0,2,3,4,5] [0,2,3,4] UK (fun x=>M.kY x.2.2.1.1 x.2.2.2.1.1 x.2.2.2.2.2.2.2.1 x.2.2.2.2.2.2.2.2.1 ae x.1.2.2.2.2.1 x.2.1 x.2.2.2.2.1) ajj
def ajl(y:(List M.af)×Int×Bool×(List UInt8)×(List UInt8)×(List M.aO)×(List M.aO)){R:Type}(k:KT R):R:=match y with|a0=>kk k (Ex.exit 0) UL (((),((),())),((a0.1,(a0.2.1,(a0.2.2.1,()))),((a0.2.2.2.1,((),())),((a0.2.2.2.2.1,((),())),((),((),(a0.2.2.2.2.2.1,(a0.2.2.2.2.2.2,()))))))))
def ajm:List (cC K ((List M.af)×Int×Bool×(List UInt8)×(List UInt8)×(List M.aO)×(List M.aO))):=[⟨(Ex.exit 0),UL,fun x=>(x.2.1.1,x.2.1.2.1,x.2.1.2.2.1,x.2.2.1.1,x.2.2.2.1.1,x.2.2.2.2.2.2.1,x.2.2.2.2.2.2.2.1)⟩]
def UM:bQ K:=bV D false 71 5 [0,2,3] [2,3] UN (fun x=>M.rO ae x.2.1 x.2.2.1.1 x.2.2.2.1.1 x.2.2.2.2.2.2.1 x.2.2.2.2.2.2.2.1) ajl
def UO(m:M.ay->Option (M.aQ×M.ay)):aM K:={f:=86,sh:=oo,R:=M.aQ×M.ay,run:=fun x=>m x.2.1,dflt:=default,out:=fun r=>(Sh.enc D (.el U.dN) r.1,aU.encs D [.el U.dm] (r.2,()))}
def zc:Cx K:=bK [(82,.aZ),(81,.aZ),(84,.aZ),(55,.jB),(121,.aZ)] [qE M.gh,oq M.dE,mZ M.dJ,MJ M.kh,MF M.mh] [(7,UJ),(3,UM)]
theorem MK:ba zc:=bA aY _ (ah sn (ah pv (ah ot (ah UH (ah Uy aF)))))
theorem ajn:bR zc (bC (bC (bP Tryz.f86) 0) 0) UJ:=lk (cx:=zc) (sh:=UK) (run:=fun n x=>M.kY x.2.2.1.1 x.2.2.2.1.1 x.2.2.2.2.2.2.2.1 x.2.2.2.2.2.2.2.2.1 n x.1.2.2.2.2.1 x.2.1 x.2.2.2.2.1) (bU:=ajk) MK (fun m x=>by kernel_rfl) (ah ⟨cf,fun _ _ _=>rfl⟩ aF)
theorem ajo:bR zc (bC (bP Tryz.f86) 0) UM:=lk (cx:=zc) (sh:=UN) (run:=fun n x=>M.rO n x.2.1 x.2.2.1.1 x.2.2.2.1.1 x.2.2.2.2.2.2.1 x.2.2.2.2.2.2.2.1) (bU:=ajm) MK (fun m x=>by kernel_rfl) (ah ⟨cf,fun _ _ _=>rfl⟩ aF) (hl:=(ja 1 (by kernel_rfl) (jr (.mk (by kernel_rfl) ajn))))
theorem ajp:aB (UO (M.vU)):=bw (cx:=zc) true MK Tryz.func86 (hl1 ajo) ⟨⟨[.el U.dN],[.el U.dm]⟩,fun x=>(x.1.1,x.2.1)⟩ (fun x=>by kernel_rfl)
def UP:bQ K:=bV D false 63 7 [0,2,3] [2,3] UQ (fun x=>M.ku x.2.2.1.1 x.2.2.1.2.1 x.2.2.2.1.1 x.2.2.2.1.2.1 x.2.2.2.2.2.2.2.2.1 x.2.2.2.2.2.2.2.2.2.1 ae x.2.1 x.2.2.2.2.2.2.2.2.2.2.1 x.2.2.2.2.2.2.2.2.2.2.2.1) UR
def US(m:M.ay->Option (M.aw×M.ay)):aM K:={f:=51,sh:=oo,R:=M.aw×M.ay,run:=fun x=>m x.2.1,dflt:=default,out:=fun r=>(Sh.enc D (.el U.bD) r.1,aU.encs D [.el U.dm] (r.2,()))}
def FP:Cx K:=bK [(81,.aZ),(82,.aZ),(83,.aZ),(52,.aZ),(84,.aZ),(85,.aZ),(86,.aZ)] [oq M.dE,qE M.gh,ML M.tG,wN M.lG,mZ M.dJ,UF M.yl,UO M.vU] [(6,UP)]
theorem UT:ba FP:=bA aY _ (ah pv (ah sn (ah UU (ah zd (ah ot (ah aji (ah ajp aF)))))))
theorem ajq:bR FP (bC (bP Tryz.f51) 0) UP:=lk (cx:=FP) (sh:=UQ) (run:=fun n x=>M.ku x.2.2.1.1 x.2.2.1.2.1 x.2.2.2.1.1 x.2.2.2.1.2.1 x.2.2.2.2.2.2.2.2.1 x.2.2.2.2.2.2.2.2.2.1 n x.2.1 x.2.2.2.2.2.2.2.2.2.2.1 x.2.2.2.2.2.2.2.2.2.2.2.1) (bU:=UW) UT (fun m x=>by kernel_rfl) (ah ⟨cf,fun _ _ _=>rfl⟩ aF)
theorem ajr:aB (US (M.ym)):=bw (cx:=FP) true UT Tryz.func51 (hl1 ajq) ⟨⟨[.el U.bD],[.el U.dm]⟩,fun x=>(x.1.1,x.2.1)⟩ (fun x=>by kernel_rfl)
def MM(m:M.aX->Option ((List UInt8))):aM K:=cS 45 ⟨[.el U.eg],[]⟩ (fun x=>m x.1.1)
theorem UX:aB (MM (M.nP)):=bw (cx:=iQ) true jh Tryz.func45 hq ⟨zs1,fun x=>x.1.1⟩ (fun x=>by kernel_rfl)
def ajs(y:Int×M.aG×(List (List UInt8))×(List (List UInt8))){R:Type}(k:KT R):R:=match y with|a0=>kk k (Ex.exit 3) UY (((),((),((),(a0.1,())))),(a0.2.1,((),((),((),(a0.2.2.1,(a0.2.2.2,())))))))
def ajt:List (cC K (Int×M.aG×(List (List UInt8))×(List (List UInt8)))):=[⟨(Ex.exit 3),UY,fun x=>(x.1.2.2.2.1,x.2.1,x.2.2.2.2.2.1,x.2.2.2.2.2.2.1)⟩]
def UZ:bQ K:=bV D false 60 4 [1,4,5,6,7,8] [1,4,5,6] U0 (fun x=>M.yp x.1.2.2.2.1 x.2.1 x.2.2.2.2.2.2.1 ae x.1.2.2.2.2.2.1 x.2.2.2.2.1 x.2.2.2.2.2.1) ajs
def aju(y:(List (List UInt8))×(List (List UInt8))){R:Type}(k:KT R):R:=match y with|a0=>kk k (Ex.exit 0) FQ (((),((),())),((),((),((),(a0.1,(a0.2,()))))))
def ajv:List (cC K ((List (List UInt8))×(List (List UInt8)))):=[⟨(Ex.exit 0),FQ,fun x=>(x.2.2.2.2.1,x.2.2.2.2.2.1)⟩]
def U1:bQ K:=bV D false 60 3 [1,4,5,6] [4,5] U2 (fun x=>M.rP ae x.1.2.2.2.1 x.2.1 x.2.2.2.2.1 x.2.2.2.2.2.1) aju
def U3(m:M.aG->Option ((List (List UInt8))×(List (List UInt8)))):aM K:={f:=87,sh:=⟨[.el U.dk],[]⟩,R:=(List (List UInt8))×(List (List UInt8)),run:=fun x=>m x.1.1,dflt:=default,out:=fun r=>(Sh.enc D (.bB [.ax U.str,.ax U.str]) (r.1,(r.2,())),aU.encs D [] ())}
def ze:Cx K:=bK [(45,.plain)] [MM M.nP] [(15,UZ),(4,U1)]
theorem MN:ba ze:=bA aY _ (ah UX aF)
theorem ajw:bR ze (bC (bC (bP Tryz.f87) 0) 0) UZ:=lk (cx:=ze) (sh:=U0) (run:=fun n x=>M.yp x.1.2.2.2.1 x.2.1 x.2.2.2.2.2.2.1 n x.1.2.2.2.2.2.1 x.2.2.2.2.1 x.2.2.2.2.2.1) (bU:=ajt) MN (fun m x=>by kernel_rfl) (ah ⟨cf,fun _ _ _=>rfl⟩ aF)
theorem ajx:bR ze (bC (bP Tryz.f87) 0) U1:=lk (cx:=ze) (sh:=U2) (run:=fun n x=>M.rP n x.1.2.2.2.1 x.2.1 x.2.2.2.2.1 x.2.2.2.2.2.1) (bU:=ajv) MN (fun m x=>by kernel_rfl) (ah ⟨cf,fun _ _ _=>rfl⟩ aF) (hl:=(ja 1 (by kernel_rfl) (jr (.mk (by kernel_rfl) ajw))))
theorem ajy:aB (U3 (M.Bh)):=bw (cx:=ze) true MN Tryz.func87 (hl1 ajx) ⟨⟨[.bB [.ax U.str,.ax U.str]],[]⟩,fun x=>(x.1.1.1,x.1.1.2.1)⟩ (fun x=>by kernel_rfl)
def ajz(y:Bool⊕((List (List UInt8))×Int)){R:Type}(k:KT R):R:=match y with|.inl a0=>kk k Ex.ret ⟨[.any,.any,.bool],[]⟩ (((),((),(a0,()))),())|.inr a1=>kk k (Ex.exit 2) ⟨[.ax U.str,iq0,.any],[]⟩ ((a1.1,(a1.2,((),()))),())
def ajA:List (cC K ((Bool)⊕((List (List UInt8))×Int))):=[⟨Ex.ret,⟨[.any,.any,.bool],[]⟩,fun x=>.inl x.1.2.2.1⟩,⟨(Ex.exit 2),⟨[.ax U.str,iq0,.any],[]⟩,fun x=>.inr ((x.1.1,x.1.2.1))⟩]
def U4:bQ K:=bV D false 25 0 [0,3,4] [0,3,2] U5 (fun x=>M.vV x.1.1 x.1.2.1 ae x.1.2.2.1) ajz
def U6:bQ K:=bV D false 25 0 [0,3] [2] ⟨[.ax U.str,iq0],[]⟩ (fun x=>M.vW ae x.1.1 x.1.2.1) pw
def U7(m:(List (List UInt8))->Option Bool):aM K:=cB 88 CO (fun x=>m x.1.1)
def zf:Cx K:=bK [] [] [(5,U4),(2,U6)]
theorem MO:ba zf:=bA aY _ aF
theorem ajB:bR zf (bC (bC (bP Tryz.f88) 0) 0) U4:=lk (cx:=zf) (sh:=U5) (run:=fun n x=>M.vV x.1.1 x.1.2.1 n x.1.2.2.1) (bU:=ajA) MO (fun m x=>by kernel_rfl) (ah ⟨dR,fun _ _ _=>rfl⟩ (ah ⟨cf,fun _ _ _=>rfl⟩ aF))
theorem ajC:bR zf (bC (bP Tryz.f88) 0) U6:=lk (cx:=zf) (sh:=⟨[.ax U.str,iq0],[]⟩) (run:=fun n x=>M.vW n x.1.1 x.1.2.1) (bU:=px) MO (fun m x=>by kernel_rfl) (ah ⟨dR,fun _ _ _=>rfl⟩ (ah ⟨cf,fun _ _ _=>rfl⟩ aF)) (hl:=(ja 1 (by kernel_rfl) (jr (.mk (by kernel_rfl) ajB))))
theorem ajD:aB (U7 (M.tR)):=bw (cx:=zf) true MO Tryz.func88 (hl1 ajC) ⟨zs0,fun x=>x.1.1⟩ (fun x=>by kernel_rfl)
def U8:bQ K:=bV D false 66 3 [1,3,4,5] [1,3,4,2] FR (fun x=>M.yv x.2.1 x.2.2.2.2.2.1 ae x.1.2.2.2.1 x.2.2.2.2.1) U9
def ajE(y:(List (List UInt8))×(List (List UInt8))){R:Type}(k:KT R):R:=match y with|a0=>kk k (Ex.exit 2) FQ (((),((),())),((),((),((),(a0.1,(a0.2,()))))))
def ajF:List (cC K ((List (List UInt8))×(List (List UInt8)))):=[⟨(Ex.exit 2),FQ,fun x=>(x.2.2.2.2.1,x.2.2.2.2.2.1)⟩]
def Va:bQ K:=bV D false 66 3 [1,3,4,8] [3,4] FR (fun x=>M.yw x.2.1 x.2.2.2.2.1 ae x.1.2.2.2.1 x.2.2.2.2.2.1) ajE
def Vb(m:M.aw->Option Bool):aM K:=cB 53 qF (fun x=>m x.1.1)
def zg:Cx K:=bK [(87,.jB),(88,.plain)] [U3 M.Bh,U7 M.tR] [(4,U8),(11,Va)]
theorem MP:ba zg:=bA aY _ (ah ajy (ah ajD aF))
theorem ajG:bR zg (bC (bP Tryz.f53) 0) U8:=lk (cx:=zg) (sh:=FR) (run:=fun n x=>M.yv x.2.1 x.2.2.2.2.2.1 n x.1.2.2.2.1 x.2.2.2.2.1) (bU:=Vd) MP (fun m x=>by kernel_rfl) (ah ⟨dR,fun _ _ _=>rfl⟩ (ah ⟨cf,fun _ _ _=>rfl⟩ aF))
theorem ajH:bR zg (bC (bP Tryz.f53) 1) Va:=lk (cx:=zg) (sh:=FR) (run:=fun n x=>M.yw x.2.1 x.2.2.2.2.1 n x.1.2.2.2.1 x.2.2.2.2.2.1) (bU:=ajF) MP (fun m x=>by kernel_rfl) (ah ⟨cf,fun _ _ _=>rfl⟩ aF)
theorem ajI:aB (Vb (M.yn)):=bw (cx:=zg) true MP Tryz.func53 (hl2 ajG ajH) ⟨zs0,fun x=>x.1.1⟩ (fun x=>by kernel_rfl)
def Ve(m:(List UInt8)->Option (M.aw×Int×Int)):aM K:={f:=24,sh:=zs1,R:=M.aw×Int×Int,run:=fun x=>m x.1.1,dflt:=default,out:=fun r=>(Sh.enc D (.bB [.el U.bD,iq0,iq0]) (r.1,(r.2.1,(r.2.2,()))),aU.encs D [] ())}
def Vf:Cx K:=bK [(50,.jB),(51,.aZ),(52,.aZ),(53,.plain)] [Vg M.AI,US M.ym,wN M.lG,Vb M.yn] []
theorem ajJ:ba Vf:=bA aY _ (ah ajK (ah ajr (ah zd (ah ajI aF))))
theorem ajL:aB (Ve (M.tQ)):=bw (cx:=Vf) true ajJ Tryz.func24 hq ⟨Vh,fun x=>(x.1.1.1,x.1.1.2.1,x.1.1.2.2.1)⟩ (fun x=>by kernel_rfl)
def uI(m:M.aa->Int->Option Int):aM K:=cI 78 ⟨[.el U.Term,iq0],[]⟩ (fun x=>m x.1.1 x.1.2.1)
def ajM(y:Int⊕Int){R:Type}(k:KT R):R:=match y with|.inl a0=>kk k Ex.ret ⟨[.any,iq0],[.dead]⟩ (((),(a0,())),((),()))|.inr a1=>kk k (Ex.exit 1) ⟨[iq0,.any],[.dead]⟩ ((a1,((),())),((),()))
def ajN:List (cC K ((Int)⊕Int)):=[⟨Ex.ret,⟨[.any,iq0],[.dead]⟩,fun x=>.inl x.1.2.1⟩,⟨(Ex.exit 1),⟨[iq0,.any],[.dead]⟩,fun x=>.inr (x.1.1)⟩]
def Vi(gm:M.aa->Int->Option Int):bQ K:=bV D false 114 1 [1,2,8,9] [8,4] Vj (fun x=>M.wa gm x.1.1 ae x.1.2.2.1 x.1.2.2.2.1 x.2.1) ajM
def FT(gm:M.aa->Int->Option Int):Cx K:=bK [(49,.plain),(78,.plain)] [CP M.CQ,uI gm] [(22,Vi gm)]
theorem Vk(gm:M.aa->Int->Option Int)(zh:aB (uI gm)):ba (FT gm):=bA aY _ (ah FU (ah zh aF))
theorem ajO(gm:M.aa->Int->Option Int)(zh:aB (uI gm)):bR (FT gm) (bC (bP Tryz.f78) 0) (Vi gm):=lk (cx:=FT gm) (sh:=Vj) (run:=fun n x=>M.wa gm x.1.1 n x.1.2.2.1 x.1.2.2.2.1 x.2.1) (bU:=ajN) (Vk gm zh) (fun m x=>by kernel_rfl) (ah ⟨dR,fun _ _ _=>rfl⟩ (ah ⟨cf,fun _ _ _=>rfl⟩ aF))
theorem ajP(gm:M.aa->Int->Option Int)(zh:aB (uI gm)):aB (uI (M.Fa gm)):=ij (cx:=FT gm) (fz:=true) aY (Vk gm zh) fg ⟨Tryz.func78,by kernel_rfl⟩ (hl1 (ajO gm zh)) ⟨mz,fun x=>x.1.1⟩ (fun x=>rfl) (fun x=>by kernel_rfl)
theorem Vl:∀n,aB (uI (M.wb n))|0=>pS fun _=>rfl|n+1=>ajP (M.wb n) (Vl n)
theorem ajQ:aB (uI (M.BM)):=Vl ae
def kD(m:M.aa->Option ((List UInt8))):aM K:=cS 89 ⟨[.el U.Term],[]⟩ (fun x=>m x.1.1)
def ajR(y:(List UInt8)){R:Type}(k:KT R):R:=match y with|a0=>kk k (Ex.exit 0) zs1 ((a0,()),())
def ajS:List (cC K ((List UInt8))):=[⟨(Ex.exit 0),zs1,fun x=>x.1.1⟩]
def Vm(cm:M.aa->Option ((List UInt8))):bQ K:=bV D false 23 0 [0,3,4] [3] ⟨[.ax U.Term,.str,iq0],[]⟩ (fun x=>M.rV cm x.1.1 ae x.1.2.1 x.1.2.2.1) ajR
def Vn(m:(List M.aa)->Option ((List UInt8))):aM K:=cS 124 ⟨[.ax U.Term],[]⟩ (fun x=>m x.1.1)
def FV(cm:M.aa->Option ((List UInt8))):Cx K:=bK [(89,.plain)] [kD cm] [(3,Vm cm)]
theorem Vo(cm:M.aa->Option ((List UInt8)))(iE:aB (kD cm)):ba (FV cm):=bA aY _ (ah iE aF)
theorem ajT(cm:M.aa->Option ((List UInt8)))(iE:aB (kD cm)):bR (FV cm) (bC (bP Tryz.f124) 0) (Vm cm):=lk (cx:=FV cm) (sh:=⟨[.ax U.Term,.str,iq0],[]⟩) (run:=fun n x=>M.rV cm x.1.1 n x.1.2.1 x.1.2.2.1) (bU:=ajS) (Vo cm iE) (fun m x=>by kernel_rfl) (ah ⟨cf,fun _ _ _=>rfl⟩ aF)
theorem ajU(cm:M.aa->Option ((List UInt8)))(iE:aB (kD cm)):aB (Vn (M.BN cm)):=ij (cx:=FV cm) (fz:=true) aY (Vo cm iE) fg ⟨Tryz.func124,by kernel_rfl⟩ (hl1 (ajT cm iE)) ⟨zs1,fun x=>x.1.1⟩ (fun x=>rfl) (fun x=>by kernel_rfl)
def Vp(m:M.aa->M.aa->Option ((List UInt8))):aM K:=cS 125 ⟨[.el U.Term,.el U.Term],[]⟩ (fun x=>m x.1.1 x.1.2.1)
def Vq(cm:M.aa->Option ((List UInt8))):Cx K:=bK [(89,.plain)] [kD cm] []
theorem ajV(cm:M.aa->Option ((List UInt8)))(iE:aB (kD cm)):ba (Vq cm):=bA aY _ (ah iE aF)
theorem ajW(cm:M.aa->Option ((List UInt8)))(iE:aB (kD cm)):aB (Vp (M.BP cm)):=ij (cx:=Vq cm) (fz:=true) aY (ajV cm iE) fg ⟨Tryz.func125,by kernel_rfl⟩ hq ⟨zs1,fun x=>x.1.1⟩ (fun x=>rfl) (fun x=>by kernel_rfl)
def ajX(y:(List UInt8)){R:Type}(k:KT R):R:=match y with|a0=>kk k (Ex.exit 0) zi ((a0,()),((),()))
def ajY:List (cC K ((List UInt8))):=[⟨(Ex.exit 0),zi,fun x=>x.1.1⟩]
def Vr(cm:M.aa->Option ((List UInt8))):bQ K:=bV D false 62 1 [1,3,4] [3] Vs (fun x=>M.rW cm ae x.1.2.1 x.1.2.2.1 x.2.1) ajX
def Vt(m:M.aa->Option ((List UInt8))):aM K:=cS 126 ⟨[.el U.Term],[]⟩ (fun x=>m x.1.1)
def FW(cm:M.aa->Option ((List UInt8))):Cx K:=bK [(89,.plain)] [kD cm] [(3,Vr cm)]
theorem Vu(cm:M.aa->Option ((List UInt8)))(iE:aB (kD cm)):ba (FW cm):=bA aY _ (ah iE aF)
theorem ajZ(cm:M.aa->Option ((List UInt8)))(iE:aB (kD cm)):bR (FW cm) (bC (bP Tryz.f126) 0) (Vr cm):=lk (cx:=FW cm) (sh:=Vs) (run:=fun n x=>M.rW cm n x.1.2.1 x.1.2.2.1 x.2.1) (bU:=ajY) (Vu cm iE) (fun m x=>by kernel_rfl) (ah ⟨cf,fun _ _ _=>rfl⟩ aF)
theorem aj0(cm:M.aa->Option ((List UInt8)))(iE:aB (kD cm)):aB (Vt (M.BO cm)):=ij (cx:=FW cm) (fz:=true) aY (Vu cm iE) fg ⟨Tryz.func126,by kernel_rfl⟩ (hl1 (ajZ cm iE)) ⟨zs1,fun x=>x.1.1⟩ (fun x=>rfl) (fun x=>by kernel_rfl)
def Vv(cm:M.aa->Option ((List UInt8))):Cx K:=bK [(122,.fresh),(123,.jB),(124,.plain),(125,.plain),(126,.plain)] [MQ M.jY,MR M.jZ,Vn (M.BN cm),Vp (M.BP cm),Vt (M.BO cm)] []
theorem aj1(cm:M.aa->Option ((List UInt8)))(iE:aB (kD cm)):ba (Vv cm):=bA aY _ (ah Vw (ah Vx (ah (ajU cm iE) (ah (ajW cm iE) (ah (aj0 cm iE) aF)))))
theorem aj2(cm:M.aa->Option ((List UInt8)))(iE:aB (kD cm)):aB (kD (M.Ff cm)):=ij (cx:=Vv cm) (fz:=true) aY (aj1 cm iE) fg ⟨Tryz.func89,by kernel_rfl⟩ hq ⟨zs1,fun x=>x.1.1⟩ (fun x=>rfl) (fun x=>by kernel_rfl)
theorem Vy:∀n,aB (kD (M.nX n))|0=>pS fun _=>rfl|n+1=>aj2 (M.nX n) (Vy n)
theorem aj3:aB (kD (M.yK)):=Vy ae
def aj6(y:Bool⊕(M.aa×M.aa)){R:Type}(k:KT R):R:=match y with|.inl a0=>kk k Ex.ret zj (((),((),(a0,()))),((),((),())))|.inr a1=>kk k (Ex.exit 0) Vz (((),((),((),()))),(a1.1,(a1.2,())))
def aj7:List (cC K ((Bool)⊕(M.aa×M.aa))):=[⟨Ex.ret,zj,fun x=>.inl x.1.2.2.1⟩,⟨(Ex.exit 0),Vz,fun x=>.inr ((x.2.1,x.2.2.1))⟩]
def VA:bQ K:=bV D false 74 2 [2,3,5] [2,3,4] FX (fun x=>M.tZ ae x.1.2.2.1 x.2.1 x.2.2.1) aj6
def so(m:M.aa->M.aa->Option Bool):aM K:=cB 90 ⟨[.el U.Term,.el U.Term],[]⟩ (fun x=>m x.1.1 x.1.2.1)
def VB(y:Bool⊕Unit){R:Type}(k:KT R):R:=match y with|.inl a0=>kk k Ex.ret FY ((a0,()),((),((),())))|.inr a1=>kk k (Ex.exit 2) FZ (((),()),((),((),())))
def VC:List (cC K ((Bool)⊕Unit)):=[⟨Ex.ret,FY,fun x=>.inl x.1.1⟩,⟨(Ex.exit 2),FZ,fun x=>.inr (())⟩]
def VD(fk:M.aa->M.aa->Option Bool):bQ K:=bV D false 74 2 [2,3,6] [4] FX (fun x=>M.ua fk ae x.1.2.2.1 x.2.1 x.2.2.1) VB
def zk(fk:M.aa->M.aa->Option Bool):Cx K:=bK [(90,.plain)] [so fk] [(4,VA),(9,VD fk)]
theorem MS(fk:M.aa->M.aa->Option Bool)(sq:aB (so fk)):ba (zk fk):=bA aY _ (ah sq aF)
theorem aj8(fk:M.aa->M.aa->Option Bool)(sq:aB (so fk)):bR (zk fk) (bC (bP Tryz.f90) 0) VA:=lk (cx:=zk fk) (sh:=FX) (run:=fun n x=>M.tZ n x.1.2.2.1 x.2.1 x.2.2.1) (bU:=aj7) (MS fk sq) (fun m x=>by kernel_rfl) (ah ⟨dR,fun _ _ _=>rfl⟩ (ah ⟨cf,fun _ _ _=>rfl⟩ aF))
theorem aj9(fk:M.aa->M.aa->Option Bool)(sq:aB (so fk)):bR (zk fk) (bC (bP Tryz.f90) 1) (VD fk):=lk (cx:=zk fk) (sh:=FX) (run:=fun n x=>M.ua fk n x.1.2.2.1 x.2.1 x.2.2.1) (bU:=VC) (MS fk sq) (fun m x=>by kernel_rfl) (ah ⟨dR,fun _ _ _=>rfl⟩ (ah ⟨cf,fun _ _ _=>rfl⟩ aF))
theorem aka(fk:M.aa->M.aa->Option Bool)(sq:aB (so fk)):aB (so (M.E1 fk)):=ij (cx:=zk fk) (fz:=true) aY (MS fk sq) fg ⟨Tryz.func90,by kernel_rfl⟩ (hl2 (aj8 fk sq) (aj9 fk sq)) ⟨zs0,fun x=>x.1.1⟩ (fun x=>rfl) (fun x=>by kernel_rfl)
theorem VE:∀n,aB (so (M.tY n))|0=>pS fun _=>rfl|n+1=>aka (M.tY n) (VE n)
theorem akb:aB (so (M.BE)):=VE ae
def VF:bQ K:=bV D false 26 0 [0,1,12,13] [4] VG (fun x=>M.yx x.1.1 x.1.2.1 x.1.2.2.1 ae x.1.2.2.2.1) pw
def VH(m:(List (List UInt8))->(List (List UInt8))->Option Bool):aM K:=cB 108 ⟨[.ax U.str,.ax U.str],[]⟩ (fun x=>m x.1.1 x.1.2.1)
def F3:Cx K:=bK [] [] [(4,VF)]
theorem VI:ba F3:=bA aY _ aF
theorem akc:bR F3 (bC (bP Tryz.f108) 0) VF:=lk (cx:=F3) (sh:=VG) (run:=fun n x=>M.yx x.1.1 x.1.2.1 x.1.2.2.1 n x.1.2.2.2.1) (bU:=px) VI (fun m x=>by kernel_rfl) (ah ⟨dR,fun _ _ _=>rfl⟩ (ah ⟨cf,fun _ _ _=>rfl⟩ aF))
theorem akd:aB (VH (M.Bm)):=bw (cx:=F3) true VI Tryz.func108 (hl1 akc) ⟨zs0,fun x=>x.1.1⟩ (fun x=>by kernel_rfl)
def m5(m:M.aa->M.aa->Int->Option Bool):aM K:=cB 74 ⟨[.el U.Term,.el U.Term,iq0],[]⟩ (fun x=>m x.1.1 x.1.2.1 x.1.2.2.1)
def VJ(m:M.aa->M.aa->Int->Option Bool):aM K:=cB 110 ⟨[.el U.Term,.el U.Term,.rp U.i64 0],[]⟩ (fun x=>m x.1.1 x.1.2.1 x.1.2.2.1)
def VK(dy:M.aa->M.aa->Int->Option Bool):Cx K:=bK [(74,.plain)] [m5 dy] []
theorem ake(dy:M.aa->M.aa->Int->Option Bool)(mC:aB (m5 dy)):ba (VK dy):=bA aY _ (ah mC aF)
theorem akf(dy:M.aa->M.aa->Int->Option Bool)(mC:aB (m5 dy)):aB (VJ (M.E0 dy)):=ij (cx:=VK dy) (fz:=true) aY (ake dy mC) fg ⟨Tryz.func110,by kernel_rfl⟩ hq ⟨zs0,fun x=>x.1.1⟩ (fun x=>rfl) (fun x=>by kernel_rfl)
def VL(dy:M.aa->M.aa->Int->Option Bool):bQ K:=bV D false 32 0 [1,2,15,16,17] [6] VM (fun x=>M.yy dy x.1.1 x.1.2.1.1 x.1.2.2.1 x.1.2.2.2.1 ae x.1.2.2.2.2.1) pw
def VN(m:(List M.aa)->(List M.aa)->Int->Option Bool):aM K:=cB 109 ⟨[.ax U.Term,.ax U.Term,.fn 110 [.rp U.i64 0]],[]⟩ (fun x=>m x.1.1 x.1.2.1 x.1.2.2.1.1)
def F4(dy:M.aa->M.aa->Int->Option Bool):Cx K:=bK [(110,.plain)] [VJ (M.E0 dy)] [(4,VL dy)]
theorem VO(dy:M.aa->M.aa->Int->Option Bool)(mC:aB (m5 dy)):ba (F4 dy):=bA aY _ (ah (akf dy mC) aF)
theorem akg(dy:M.aa->M.aa->Int->Option Bool)(mC:aB (m5 dy)):bR (F4 dy) (bC (bP Tryz.f109) 0) (VL dy):=lk (cx:=F4 dy) (sh:=VM) (run:=fun n x=>M.yy dy x.1.1 x.1.2.1.1 x.1.2.2.1 x.1.2.2.2.1 n x.1.2.2.2.2.1) (bU:=px) (VO dy mC) (fun m x=>by kernel_rfl) (ah ⟨dR,fun _ _ _=>rfl⟩ (ah ⟨cf,fun _ _ _=>rfl⟩ aF))
theorem akh(dy:M.aa->M.aa->Int->Option Bool)(mC:aB (m5 dy)):aB (VN (M.Bn dy)):=ij (cx:=F4 dy) (fz:=true) aY (VO dy mC) fg ⟨Tryz.func109,by kernel_rfl⟩ (hl1 (akg dy mC)) ⟨zs0,fun x=>x.1.1⟩ (fun x=>rfl) (fun x=>by kernel_rfl)
def VP(dy:M.aa->M.aa->Int->Option Bool):Cx K:=bK [(108,.plain),(109,.plain)] [VH M.Bm,VN (M.Bn dy)] []
theorem aki(dy:M.aa->M.aa->Int->Option Bool)(mC:aB (m5 dy)):ba (VP dy):=bA aY _ (ah akd (ah (akh dy mC) aF))
theorem akj(dy:M.aa->M.aa->Int->Option Bool)(mC:aB (m5 dy)):aB (m5 (M.EZ dy)):=ij (cx:=VP dy) (fz:=true) aY (aki dy mC) fg ⟨Tryz.func74,by kernel_rfl⟩ hq ⟨zs0,fun x=>x.1.1⟩ (fun x=>rfl) (fun x=>by kernel_rfl)
theorem VQ:∀n,aB (m5 (M.vZ n))|0=>pS fun _=>rfl|n+1=>akj (M.vZ n) (VQ n)
theorem VR:aB (m5 (M.yB)):=VQ ae
def uJ(m:M.aa->Int->Option ((List UInt8))):aM K:=cS 92 ⟨[.el U.Term,iq0],[]⟩ (fun x=>m x.1.1 x.1.2.1)
def akk(y:(List UInt8)×M.aa×(List (List UInt8))){R:Type}(k:KT R):R:=match y with|a0=>kk k (Ex.exit 0) VS (((),(a0.1,((),()))),(a0.2.1,((),(a0.2.2,()))))
def akl:List (cC K ((List UInt8)×M.aa×(List (List UInt8)))):=[⟨(Ex.exit 0),VS,fun x=>(x.1.2.1,x.2.1,x.2.2.2.1)⟩]
def VT(gB:M.aa->Int->Option ((List UInt8))):bQ K:=bV D false 83 2 [1,2,5,6,21,22,23] [2,5,6] VU (fun x=>M.um gB x.1.1 x.1.2.2.1 x.1.2.2.2.2.1 x.1.2.2.2.2.2.1 ae x.1.2.2.2.2.2.2.1 x.2.1 x.2.2.2.1) akk
def VV(m:M.aa->(List (List UInt8))->Option ((List UInt8))):aM K:=cS 129 ⟨[.el U.Term,.ax U.str],[]⟩ (fun x=>m x.1.1 x.1.2.1)
theorem akm:aB (VV (M.yH)):=bw (cx:=iQ) true jh Tryz.func129 hq ⟨zs1,fun x=>x.1.1⟩ (fun x=>by kernel_rfl)
def akn(y:(List (List UInt8))){R:Type}(k:KT R):R:=match y with|a0=>kk k (Ex.exit 0) ⟨[.own 2],[.dead,.dead,.arr U.str]⟩ (((),()),((),((),(a0,()))))
def ako:List (cC K ((List (List UInt8)))):=[⟨(Ex.exit 0),⟨[.own 2],[.dead,.dead,.arr U.str]⟩,fun x=>x.2.2.2.1⟩]
def VW:bQ K:=bV D false 60 2 [1,2,5,10,11,12] [5] VX (fun x=>M.rU x.1.1 x.1.2.2.2.1 x.1.2.2.2.2.1 ae x.1.2.2.2.2.2.1 x.2.1 x.2.2.2.1) akn
def VY(m:M.aa->(List (List UInt8))->Option ((List (List UInt8)))):aM K:={f:=130,sh:=⟨[.el U.Term,.ax U.str],[]⟩,R:=(List (List UInt8)),run:=fun x=>m x.1.1 x.1.2.1,dflt:=default,out:=fun r=>(Sh.enc D (.ax U.str) r,aU.encs D [] ())}
def F5:Cx K:=bK [] [] [(3,VW)]
theorem VZ:ba F5:=bA aY _ aF
theorem akp:bR F5 (bC (bP Tryz.f130) 0) VW:=lk (cx:=F5) (sh:=VX) (run:=fun n x=>M.rU x.1.1 x.1.2.2.2.1 x.1.2.2.2.2.1 n x.1.2.2.2.2.2.1 x.2.1 x.2.2.2.1) (bU:=ako) VZ (fun m x=>by kernel_rfl) (ah ⟨cf,fun _ _ _=>rfl⟩ aF)
theorem akq:aB (VY (M.yI)):=bw (cx:=F5) true VZ Tryz.func130 (hl1 akp) ⟨CO,fun x=>x.1.1⟩ (fun x=>by kernel_rfl)
def F6(gB:M.aa->Int->Option ((List UInt8))):Cx K:=bK [(60,.plain),(128,.jB),(92,.plain),(93,.plain),(129,.plain),(130,.jB)] [F7 M.F8,F9 M.f6,uJ gB,Et M.strings_Join,VV M.yH,VY M.yI] [(7,VT gB)]
theorem V0(gB:M.aa->Int->Option ((List UInt8)))(zl:aB (uJ gB)):ba (F6 gB):=bA aY _ (ah MU (ah MV (ah zl (ah Q6 (ah akm (ah akq aF))))))
theorem akr(gB:M.aa->Int->Option ((List UInt8)))(zl:aB (uJ gB)):bR (F6 gB) (bC (bP Tryz.f92) 0) (VT gB):=lk (cx:=F6 gB) (sh:=VU) (run:=fun n x=>M.um gB x.1.1 x.1.2.2.1 x.1.2.2.2.2.1 x.1.2.2.2.2.2.1 n x.1.2.2.2.2.2.2.1 x.2.1 x.2.2.2.1) (bU:=akl) (V0 gB zl) (fun m x=>by kernel_rfl) (ah ⟨cf,fun _ _ _=>rfl⟩ aF)
theorem aks(gB:M.aa->Int->Option ((List UInt8)))(zl:aB (uJ gB)):aB (uJ (M.E9 gB)):=ij (cx:=F6 gB) (fz:=true) aY (V0 gB zl) fg ⟨Tryz.func92,by kernel_rfl⟩ (hl1 (akr gB zl)) ⟨zs1,fun x=>x.1.1⟩ (fun x=>rfl) (fun x=>by kernel_rfl)
theorem V1:∀n,aB (uJ (M.uw n))|0=>pS fun _=>rfl|n+1=>aks (M.uw n) (V1 n)
theorem akt:aB (uJ (M.ux)):=V1 ae
def V2(m:(List UInt8)->(List UInt8)->Option (Int×(List UInt8))):aM K:={f:=58,sh:=⟨[.ptr 0 0,.str],[.box [.np 0,.own 1],.arr U.u8]⟩,R:=Int×(List UInt8),run:=fun x=>m x.1.2.1 x.2.2.1,dflt:=default,out:=fun r=>(Sh.enc D (.bB [iq0,.any]) (r.1,((),())),aU.encs D [.box [.np 0,.own 2],.dead,.arr U.u8] (((),((),())),((),(r.2,()))))}
def V3:Cx K:={jN with mode:=iK .plain [(91,.aZ)],mv:=true,call:=callOf D [KD M.KF],loop:=gW []}
theorem aku:ba V3:=bA aY _ (ah aeN aF)
theorem akv:aB (V2 (M.pg)):=bw (cx:=V3) true aku Tryz.func58 hq ⟨⟨[.bB [iq0,.any]],[.box [.np 0,.own 2],.dead,.arr U.u8]⟩,fun x=>(x.1.1.1,x.2.2.2.1)⟩ (fun x=>by kernel_rfl)
def akw(y:M.ai×(List (List UInt8))){R:Type}(k:KT R):R:=match y with|a0=>kk k (Ex.exit 1) V4 (((),((),())),(a0.1,((),(a0.2,()))))
def akx:List (cC K (M.ai×(List (List UInt8)))):=[⟨(Ex.exit 1),V4,fun x=>(x.2.1,x.2.2.2.1)⟩]
def V5:bQ K:=bV D false 105 2 [1,3,32,33,34] [1,3] V6 (fun x=>M.qk x.1.2.2.1 x.1.2.2.2.1 ae x.1.2.2.2.2.1 x.2.1 x.2.2.2.1) akw
def MW(m:M.aI->Option ((List UInt8))):aM K:=cS 61 ⟨[.el U.Path],[]⟩ (fun x=>m x.1.1)
theorem V7:aB (MW (M.uj)):=bw (cx:=iQ) true jh Tryz.func61 hq ⟨zs1,fun x=>x.1.1⟩ (fun x=>by kernel_rfl)
def aky(y:(List UInt8)×M.ai×(List (List UInt8))){R:Type}(k:KT R):R:=match y with|a0=>kk k (Ex.exit 3) V8 (((),((),(a0.1,()))),(a0.2.1,((),(a0.2.2,()))))
def akz:List (cC K ((List UInt8)×M.ai×(List (List UInt8)))):=[⟨(Ex.exit 3),V8,fun x=>(x.1.2.2.1,x.2.1,x.2.2.2.1)⟩]
def V9:bQ K:=bV D false 105 2 [1,7,8,67,68,69] [1,7,8] Wa (fun x=>M.ql x.1.2.2.1 x.1.2.2.2.1 x.1.2.2.2.2.1 ae x.1.2.2.2.2.2.1 x.2.1 x.2.2.2.1) aky
def Wb(m:M.ai->Option ((List UInt8))):aM K:=cS 59 ⟨[.el U.Item],[]⟩ (fun x=>m x.1.1)
def zm:Cx K:=bK [(92,.plain),(61,.plain),(93,.plain)] [uJ M.ux,MW M.uj,Et M.strings_Join] [(9,V5),(19,V9)]
theorem MX:ba zm:=bA aY _ (ah akt (ah V7 (ah Q6 aF)))
theorem akA:bR zm (bC (bP Tryz.f59) 0) V5:=lk (cx:=zm) (sh:=V6) (run:=fun n x=>M.qk x.1.2.2.1 x.1.2.2.2.1 n x.1.2.2.2.2.1 x.2.1 x.2.2.2.1) (bU:=akx) MX (fun m x=>by kernel_rfl) (ah ⟨cf,fun _ _ _=>rfl⟩ aF)
theorem akB:bR zm (bC (bP Tryz.f59) 1) V9:=lk (cx:=zm) (sh:=Wa) (run:=fun n x=>M.ql x.1.2.2.1 x.1.2.2.2.1 x.1.2.2.2.2.1 n x.1.2.2.2.2.2.1 x.2.1 x.2.2.2.1) (bU:=akz) MX (fun m x=>by kernel_rfl) (ah ⟨cf,fun _ _ _=>rfl⟩ aF)
theorem akC:aB (Wb (M.BS)):=bw (cx:=zm) true MX Tryz.func59 (hl2 akA akB) ⟨zs1,fun x=>x.1.1⟩ (fun x=>by kernel_rfl)
def akD(y:(List M.aG)×Int×Int×M.aw×(List UInt8)){R:Type}(k:KT R):R:=match y with|a0=>kk k (Ex.exit 2) Ge (((),((),(a0.1,(a0.2.1,(a0.2.2.1,()))))),(a0.2.2.2.1,(((),((),())),((),(a0.2.2.2.2,())))))
def akE:List (cC K ((List M.aG)×Int×Int×M.aw×(List UInt8))):=[⟨(Ex.exit 2),Ge,fun x=>(x.1.2.2.1,x.1.2.2.2.1,x.1.2.2.2.2.1,x.2.1,x.2.2.2.2.1)⟩]
def Wc:bQ K:=bV D false 91 3 [1,3,24,25,26,36,37,38] [1,3,24,25,26] We (fun x=>M.qo x.1.2.2.1 x.1.2.2.2.1 x.1.2.2.2.2.1 x.1.2.2.2.2.2.1 x.1.2.2.2.2.2.2.1 x.2.1 ae x.1.2.2.2.2.2.2.2.1 x.2.2.2.2.1) akD
def akF(y:M.aw×(List UInt8)){R:Type}(k:KT R):R:=match y with|a0=>kk k (Ex.exit 0) Wg (((),((),())),(a0.1,(((),((),())),((),(a0.2,())))))
def akG:List (cC K (M.aw×(List UInt8))):=[⟨(Ex.exit 0),Wg,fun x=>(x.2.1,x.2.2.2.2.1)⟩]
def Wh:bQ K:=bV D false 91 3 [1,3,24,25,26] [1,3] Ge (fun x=>M.qp ae x.1.2.2.1 x.1.2.2.2.1 x.1.2.2.2.2.1 x.2.1 x.2.2.2.2.1) akF
def akH(y:(List M.aQ)×Int×Int×(List (List UInt8))×(List UInt8)){R:Type}(k:KT R):R:=match y with|a0=>kk k (Ex.exit 6) Gf (((),((),(a0.1,(a0.2.1,(a0.2.2.1,()))))),(((),((),())),((),((),(a0.2.2.2.1,(a0.2.2.2.2,()))))))
def akI:List (cC K ((List M.aQ)×Int×Int×(List (List UInt8))×(List UInt8))):=[⟨(Ex.exit 6),Gf,fun x=>(x.1.2.2.1,x.1.2.2.2.1,x.1.2.2.2.2.1,x.2.2.2.2.1,x.2.2.2.2.2.1)⟩]
def Wi:bQ K:=bV D false 91 3 [3,8,52,53,54,64,65,66] [3,8,52,53,54] Wj (fun x=>M.qq x.1.2.2.1 x.1.2.2.2.1 x.1.2.2.2.2.1 x.1.2.2.2.2.2.1 x.1.2.2.2.2.2.2.1 x.2.2.2.2.1 ae x.1.2.2.2.2.2.2.2.1 x.2.2.2.2.2.1) akH
def akJ(y:(List UInt8)){R:Type}(k:KT R):R:=match y with|a0=>kk k (Ex.exit 4) Wl (((),()),(((),((),())),((),((),(a0,())))))
def akK:List (cC K ((List UInt8))):=[⟨(Ex.exit 4),Wl,fun x=>x.2.2.2.2.1⟩]
def Wm:bQ K:=bV D false 91 3 [3,8,52,53,54] [3] Gf (fun x=>M.qt ae x.1.2.2.1 x.1.2.2.2.1 x.1.2.2.2.2.1 x.2.2.2.2.1 x.2.2.2.2.2.1) akJ
def Wn(m:M.aw->Option ((List UInt8))):aM K:=cS 27 qF (fun x=>m x.1.1)
def qG:Cx K:=bK [(58,.aZ),(59,.plain),(60,.plain),(61,.plain),(62,.aZ)] [V2 M.pg,Wb M.BS,F7 M.F8,MW M.uj,KE M.tn] [(8,Wc),(4,Wh),(20,Wi),(16,Wm)]
theorem CS:ba qG:=bA aY _ (ah akv (ah akC (ah MU (ah V7 (ah aeO aF)))))
theorem akL:bR qG (bC (bC (bP Tryz.f27) 0) 0) Wc:=lk (cx:=qG) (sh:=We) (run:=fun n x=>M.qo x.1.2.2.1 x.1.2.2.2.1 x.1.2.2.2.2.1 x.1.2.2.2.2.2.1 x.1.2.2.2.2.2.2.1 x.2.1 n x.1.2.2.2.2.2.2.2.1 x.2.2.2.2.1) (bU:=akE) CS (fun m x=>by kernel_rfl) (ah ⟨cf,fun _ _ _=>rfl⟩ aF)
theorem akM:bR qG (bC (bC (bP Tryz.f27) 1) 0) Wi:=lk (cx:=qG) (sh:=Wj) (run:=fun n x=>M.qq x.1.2.2.1 x.1.2.2.2.1 x.1.2.2.2.2.1 x.1.2.2.2.2.2.1 x.1.2.2.2.2.2.2.1 x.2.2.2.2.1 n x.1.2.2.2.2.2.2.2.1 x.2.2.2.2.2.1) (bU:=akI) CS (fun m x=>by kernel_rfl) (ah ⟨cf,fun _ _ _=>rfl⟩ aF)
theorem akN:bR qG (bC (bP Tryz.f27) 0) Wh:=lk (cx:=qG) (sh:=Ge) (run:=fun n x=>M.qp n x.1.2.2.1 x.1.2.2.2.1 x.1.2.2.2.2.1 x.2.1 x.2.2.2.2.1) (bU:=akG) CS (fun m x=>by kernel_rfl) (ah ⟨cf,fun _ _ _=>rfl⟩ aF) (hl:=(ja 1 (by kernel_rfl) (jr (.mk (by kernel_rfl) akL))))
theorem akO:bR qG (bC (bP Tryz.f27) 1) Wm:=lk (cx:=qG) (sh:=Gf) (run:=fun n x=>M.qt n x.1.2.2.1 x.1.2.2.2.1 x.1.2.2.2.2.1 x.2.2.2.2.1 x.2.2.2.2.2.1) (bU:=akK) CS (fun m x=>by kernel_rfl) (ah ⟨cf,fun _ _ _=>rfl⟩ aF) (hl:=(ja 1 (by kernel_rfl) (jr (.mk (by kernel_rfl) akM))))
theorem akP:aB (Wn (M.uh)):=bw (cx:=qG) true CS Tryz.func27 (hl2 akN akO) ⟨zs1,fun x=>x.1.1⟩ (fun x=>by kernel_rfl)
def Wp:bQ K:=bV D false 26 0 [0,1,12,13] [4] Wq (fun x=>M.yz x.1.1 x.1.2.1 x.1.2.2.1 ae x.1.2.2.2.1) pw
def Ws(m:(List M.aX)->(List M.aX)->Option Bool):aM K:=cB 75 ⟨[.ax U.eg,.ax U.eg],[]⟩ (fun x=>m x.1.1 x.1.2.1)
def Gg:Cx K:=bK [] [] [(4,Wp)]
theorem Wu:ba Gg:=bA aY _ aF
theorem akQ:bR Gg (bC (bP Tryz.f75) 0) Wp:=lk (cx:=Gg) (sh:=Wq) (run:=fun n x=>M.yz x.1.1 x.1.2.1 x.1.2.2.1 n x.1.2.2.2.1) (bU:=px) Wu (fun m x=>by kernel_rfl) (ah ⟨dR,fun _ _ _=>rfl⟩ (ah ⟨cf,fun _ _ _=>rfl⟩ aF))
theorem akR:aB (Ws (M.Bo)):=bw (cx:=Gg) true Wu Tryz.func75 (hl1 akQ) ⟨zs0,fun x=>x.1.1⟩ (fun x=>by kernel_rfl)
def Wv(m:M.aV->M.aV->Option Bool):aM K:=cB 77 ⟨[.el U.d3,.el U.d3],[]⟩ (fun x=>m x.1.1 x.1.2.1)
def Ww:Cx K:=bK [(74,.plain)] [m5 M.yB] []
theorem akS:ba Ww:=bA aY _ (ah VR aF)
theorem akT:aB (Wv (M.Br)):=bw (cx:=Ww) true akS Tryz.func77 hq ⟨zs0,fun x=>x.1.1⟩ (fun x=>by kernel_rfl)
def Wx:bQ K:=bV D false 32 0 [1,2,15,16,17] [6] Wy (fun x=>M.yC x.1.1 x.1.2.2.1 x.1.2.2.2.1 ae x.1.2.2.2.2.1) pw
def WA(m:(List M.aV)->(List M.aV)->Option Bool):aM K:=cB 76 ⟨[.ax U.d3,.ax U.d3,.fn 77 []],[]⟩ (fun x=>m x.1.1 x.1.2.1)
def Gh:Cx K:=bK [(77,.plain)] [Wv M.Br] [(4,Wx)]
theorem WB:ba Gh:=bA aY _ (ah akT aF)
theorem akU:bR Gh (bC (bP Tryz.f76) 0) Wx:=lk (cx:=Gh) (sh:=Wy) (run:=fun n x=>M.yC x.1.1 x.1.2.2.1 x.1.2.2.2.1 n x.1.2.2.2.2.1) (bU:=px) WB (fun m x=>by kernel_rfl) (ah ⟨dR,fun _ _ _=>rfl⟩ (ah ⟨cf,fun _ _ _=>rfl⟩ aF))
theorem akV:aB (WA (M.Bt)):=bw (cx:=Gh) true WB Tryz.func76 (hl1 akU) ⟨zs0,fun x=>x.1.1⟩ (fun x=>by kernel_rfl)
def WC(m:M.ai->M.ai->Option Bool):aM K:=cB 40 ⟨[.el U.Item,.el U.Item],[]⟩ (fun x=>m x.1.1 x.1.2.1)
def WE:Cx K:=bK [(74,.plain),(75,.plain),(76,.plain)] [m5 M.yB,Ws M.Bo,WA M.Bt] []
theorem akW:ba WE:=bA aY _ (ah VR (ah akR (ah akV aF)))
theorem akX:aB (WC (M.Bv)):=bw (cx:=WE) true akW Tryz.func40 hq ⟨zs0,fun x=>x.1.1⟩ (fun x=>by kernel_rfl)
def WG:bQ K:=bV D false 32 0 [1,2,15,16,17] [6] WH (fun x=>M.yD x.1.1 x.1.2.2.1 x.1.2.2.2.1 ae x.1.2.2.2.2.1) pw
def WI(m:(List M.ai)->(List M.ai)->Option Bool):aM K:=cB 39 ⟨[.ax U.Item,.ax U.Item,.fn 40 []],[]⟩ (fun x=>m x.1.1 x.1.2.1)
def Gi:Cx K:=bK [(40,.plain)] [WC M.Bv] [(4,WG)]
theorem WJ:ba Gi:=bA aY _ (ah akX aF)
theorem akY:bR Gi (bC (bP Tryz.f39) 0) WG:=lk (cx:=Gi) (sh:=WH) (run:=fun n x=>M.yD x.1.1 x.1.2.2.1 x.1.2.2.2.1 n x.1.2.2.2.2.1) (bU:=px) WJ (fun m x=>by kernel_rfl) (ah ⟨dR,fun _ _ _=>rfl⟩ (ah ⟨cf,fun _ _ _=>rfl⟩ aF))
theorem akZ:aB (WI (M.By)):=bw (cx:=Gi) true WJ Tryz.func39 (hl1 akY) ⟨zs0,fun x=>x.1.1⟩ (fun x=>by kernel_rfl)
def WL(m:M.aG->M.aG->Option Bool):aM K:=cB 38 ⟨[.el U.dk,.el U.dk],[]⟩ (fun x=>m x.1.1 x.1.2.1)
def WM:Cx K:=bK [(39,.plain)] [WI M.By] []
theorem ak0:ba WM:=bA aY _ (ah akZ aF)
theorem ak1:aB (WL (M.Bz)):=bw (cx:=WM) true ak0 Tryz.func38 hq ⟨zs0,fun x=>x.1.1⟩ (fun x=>by kernel_rfl)
def WN:bQ K:=bV D false 32 0 [1,2,15,16,17] [6] WO (fun x=>M.yE x.1.1 x.1.2.2.1 x.1.2.2.2.1 ae x.1.2.2.2.2.1) pw
def WQ(m:(List M.aG)->(List M.aG)->Option Bool):aM K:=cB 37 ⟨[.ax U.dk,.ax U.dk,.fn 38 []],[]⟩ (fun x=>m x.1.1 x.1.2.1)
def Gj:Cx K:=bK [(38,.plain)] [WL M.Bz] [(4,WN)]
theorem WR:ba Gj:=bA aY _ (ah ak1 aF)
theorem ak2:bR Gj (bC (bP Tryz.f37) 0) WN:=lk (cx:=Gj) (sh:=WO) (run:=fun n x=>M.yE x.1.1 x.1.2.2.1 x.1.2.2.2.1 n x.1.2.2.2.2.1) (bU:=px) WR (fun m x=>by kernel_rfl) (ah ⟨dR,fun _ _ _=>rfl⟩ (ah ⟨cf,fun _ _ _=>rfl⟩ aF))
theorem ak3:aB (WQ (M.BB)):=bw (cx:=Gj) true WR Tryz.func37 (hl1 ak2) ⟨zs0,fun x=>x.1.1⟩ (fun x=>by kernel_rfl)
def WS:bQ K:=bV D false 26 0 [0,1,12,13] [4] WT (fun x=>M.yA x.1.1 x.1.2.1 x.1.2.2.1 ae x.1.2.2.2.1) pw
def WU(m:(List M.aO)->(List M.aO)->Option Bool):aM K:=cB 43 ⟨[.ax U.fD,.ax U.fD],[]⟩ (fun x=>m x.1.1 x.1.2.1)
def Gk:Cx K:=bK [] [] [(4,WS)]
theorem WV:ba Gk:=bA aY _ aF
theorem ak4:bR Gk (bC (bP Tryz.f43) 0) WS:=lk (cx:=Gk) (sh:=WT) (run:=fun n x=>M.yA x.1.1 x.1.2.1 x.1.2.2.1 n x.1.2.2.2.1) (bU:=px) WV (fun m x=>by kernel_rfl) (ah ⟨dR,fun _ _ _=>rfl⟩ (ah ⟨cf,fun _ _ _=>rfl⟩ aF))
theorem ak5:aB (WU (M.Bq)):=bw (cx:=Gk) true WV Tryz.func43 (hl1 ak4) ⟨zs0,fun x=>x.1.1⟩ (fun x=>by kernel_rfl)
def WW(m:M.aQ->M.aQ->Option Bool):aM K:=cB 42 ⟨[.el U.dN,.el U.dN],[]⟩ (fun x=>m x.1.1 x.1.2.1)
def WX:Cx K:=bK [(43,.plain)] [WU M.Bq] []
theorem ak6:ba WX:=bA aY _ (ah ak5 aF)
theorem ak7:aB (WW (M.BC)):=bw (cx:=WX) true ak6 Tryz.func42 hq ⟨zs0,fun x=>x.1.1⟩ (fun x=>by kernel_rfl)
def WY:bQ K:=bV D false 32 0 [1,2,15,16,17] [6] WZ (fun x=>M.yF x.1.1 x.1.2.2.1 x.1.2.2.2.1 ae x.1.2.2.2.2.1) pw
def W0(m:(List M.aQ)->(List M.aQ)->Option Bool):aM K:=cB 41 ⟨[.ax U.dN,.ax U.dN,.fn 42 []],[]⟩ (fun x=>m x.1.1 x.1.2.1)
def Gl:Cx K:=bK [(42,.plain)] [WW M.BC] [(4,WY)]
theorem W4:ba Gl:=bA aY _ (ah ak7 aF)
theorem ak8:bR Gl (bC (bP Tryz.f41) 0) WY:=lk (cx:=Gl) (sh:=WZ) (run:=fun n x=>M.yF x.1.1 x.1.2.2.1 x.1.2.2.2.1 n x.1.2.2.2.2.1) (bU:=px) W4 (fun m x=>by kernel_rfl) (ah ⟨dR,fun _ _ _=>rfl⟩ (ah ⟨cf,fun _ _ _=>rfl⟩ aF))
theorem ak9:aB (W0 (M.BD)):=bw (cx:=Gl) true W4 Tryz.func41 (hl1 ak8) ⟨zs0,fun x=>x.1.1⟩ (fun x=>by kernel_rfl)
def MY(m:M.aw->M.aw->Option Bool):aM K:=cB 17 MZ (fun x=>m x.1.1 x.1.2.1)
def W5:Cx K:=bK [(37,.plain),(41,.plain)] [WQ M.BB,W0 M.BD] []
theorem ala:ba W5:=bA aY _ (ah ak3 (ah ak9 aF))
theorem W6:aB (MY (M.v7)):=bw (cx:=W5) true ala Tryz.func17 hq ⟨zs0,fun x=>x.1.1⟩ (fun x=>by kernel_rfl)
def W7(m:M.aw->Option ((List UInt8)×Bool)):aM K:={f:=12,sh:=qF,R:=(List UInt8)×Bool,run:=fun x=>m x.1.1,dflt:=default,out:=fun r=>(Sh.enc D (.bB [.str,.bool]) (r.1,(r.2,())),aU.encs D [] ())}
def W8:Cx K:=bK [(27,.plain),(6,.jB),(17,.plain)] [Wn M.uh,M1 M.nQ,MY M.v7] []
theorem alb:ba W8:=bA aY _ (ah akP (ah W9 (ah W6 aF)))
theorem alc:aB (W7 (M.yG)):=bw (cx:=W8) true alb Tryz.func12 hq ⟨⟨[.bB [.str,.bool]],[]⟩,fun x=>(x.1.1.1,x.1.1.2.1)⟩ (fun x=>by kernel_rfl)
def M3(m:M.aw->Option Bool):aM K:=cB 7 qF (fun x=>m x.1.1)
def M4:Cx K:=bK [(12,.plain)] [W7 M.yG] []
theorem Xa:ba M4:=bA aY _ (ah alc aF)
theorem Xb:aB (M3 (M.nW)):=bw (cx:=M4) true Xa Tryz.func7 hq ⟨zs0,fun x=>x.1.1⟩ (fun x=>by kernel_rfl)
def ald(y:Bool⊕(M.ai)){R:Type}(k:KT R):R:=match y with|.inl a0=>kk k Ex.ret Gm (((),(a0,())),((),()))|.inr a1=>kk k (Ex.exit 0) ⟨[.ptr 0 0,.any],[.el U.Item]⟩ (((),((),())),(a1,()))
def ale:List (cC K ((Bool)⊕(M.ai))):=[⟨Ex.ret,Gm,fun x=>.inl x.1.2.1⟩,⟨(Ex.exit 0),⟨[.ptr 0 0,.any],[.el U.Item]⟩,fun x=>.inr (x.2.1)⟩]
def Xc:bQ K:=bV D false 48 1 [1,3] [1,2] ⟨[.ptr 0 0,iq0],[.el U.Item]⟩ (fun x=>M.yL ae x.1.2.1 x.2.1) ald
def Xd(m:M.ai->Option Bool):aM K:=cB 48 ⟨[.el U.Item],[]⟩ (fun x=>m x.1.1)
def Gn:Cx K:=bK [(78,.plain),(49,.plain)] [uI M.BM,CP M.CQ] [(4,Xc)]
theorem Xe:ba Gn:=bA aY _ (ah ajQ (ah FU aF))
theorem alf:bR Gn (bC (bP Tryz.f48) 0) Xc:=lk (cx:=Gn) (sh:=⟨[.ptr 0 0,iq0],[.el U.Item]⟩) (run:=fun n x=>M.yL n x.1.2.1 x.2.1) (bU:=ale) Xe (fun m x=>by kernel_rfl) (ah ⟨dR,fun _ _ _=>rfl⟩ (ah ⟨cf,fun _ _ _=>rfl⟩ aF))
theorem alg:aB (Xd (M.BU)):=bw (cx:=Gn) true Xe Tryz.func48 (hl1 alf) ⟨zs0,fun x=>x.1.1⟩ (fun x=>by kernel_rfl)
def alh(y:Bool⊕(Int×M.aw)){R:Type}(k:KT R):R:=match y with|.inl a0=>kk k Ex.ret Gp (((),((),(a0,()))),((),()))|.inr a1=>kk k (Ex.exit 2) Gq (((),(a1.1,((),()))),(a1.2,()))
def ali:List (cC K ((Bool)⊕(Int×M.aw))):=[⟨Ex.ret,Gp,fun x=>.inl x.1.2.2.1⟩,⟨(Ex.exit 2),Gq,fun x=>.inr ((x.1.2.1,x.2.1))⟩]
def Xf:bQ K:=bV D false 92 1 [1,3,4] [1,3,2] Gs (fun x=>M.yO x.1.2.1 x.2.1 ae x.1.2.2.1) alh
def alj(y:Bool⊕(M.aw)){R:Type}(k:KT R):R:=match y with|.inl a0=>kk k Ex.ret Gm (((),(a0,())),((),()))|.inr a1=>kk k (Ex.exit 0) ⟨[.ptr 0 0,.any],[.el U.bD]⟩ (((),((),())),(a1,()))
def alk:List (cC K ((Bool)⊕(M.aw))):=[⟨Ex.ret,Gm,fun x=>.inl x.1.2.1⟩,⟨(Ex.exit 0),⟨[.ptr 0 0,.any],[.el U.bD]⟩,fun x=>.inr (x.2.1)⟩]
def Xg:bQ K:=bV D false 92 1 [1,3] [1,2] Gt (fun x=>M.yP ae x.1.2.1 x.2.1) alj
def alm(y:Bool⊕(Int×M.aw)){R:Type}(k:KT R):R:=match y with|.inl a0=>kk k Ex.ret Gp (((),((),(a0,()))),((),()))|.inr a1=>kk k (Ex.exit 6) Gq (((),(a1.1,((),()))),(a1.2,()))
def aln:List (cC K ((Bool)⊕(Int×M.aw))):=[⟨Ex.ret,Gp,fun x=>.inl x.1.2.2.1⟩,⟨(Ex.exit 6),Gq,fun x=>.inr ((x.1.2.1,x.2.1))⟩]
def Xh:bQ K:=bV D false 92 1 [1,5,6] [1,5,2] Gs (fun x=>M.yQ x.1.2.1 x.2.1 ae x.1.2.2.1) alm
def alo(y:Bool⊕Unit){R:Type}(k:KT R):R:=match y with|.inl a0=>kk k Ex.ret ⟨[.bool],[.dead]⟩ ((a0,()),((),()))|.inr a1=>kk k (Ex.exit 4) Gu (((),()),((),()))
def alp:List (cC K ((Bool)⊕Unit)):=[⟨Ex.ret,⟨[.bool],[.dead]⟩,fun x=>.inl x.1.1⟩,⟨(Ex.exit 4),Gu,fun x=>.inr (())⟩]
def Xi:bQ K:=bV D false 92 1 [1,5] [2] Gt (fun x=>M.yR ae x.1.2.1 x.2.1) alo
def Xj(m:M.aw->Option Bool):aM K:=cB 23 qF (fun x=>m x.1.1)
def qH:Cx K:=bK [(48,.plain),(49,.plain)] [Xd M.BU,CP M.CQ] [(9,Xf),(4,Xg),(19,Xh),(14,Xi)]
theorem CU:ba qH:=bA aY _ (ah alg (ah FU aF))
theorem alq:bR qH (bC (bC (bP Tryz.f23) 0) 0) Xf:=lk (cx:=qH) (sh:=Gs) (run:=fun n x=>M.yO x.1.2.1 x.2.1 n x.1.2.2.1) (bU:=ali) CU (fun m x=>by kernel_rfl) (ah ⟨dR,fun _ _ _=>rfl⟩ (ah ⟨cf,fun _ _ _=>rfl⟩ aF))
theorem alr:bR qH (bC (bC (bP Tryz.f23) 1) 0) Xh:=lk (cx:=qH) (sh:=Gs) (run:=fun n x=>M.yQ x.1.2.1 x.2.1 n x.1.2.2.1) (bU:=aln) CU (fun m x=>by kernel_rfl) (ah ⟨dR,fun _ _ _=>rfl⟩ (ah ⟨cf,fun _ _ _=>rfl⟩ aF))
theorem als:bR qH (bC (bP Tryz.f23) 0) Xg:=lk (cx:=qH) (sh:=Gt) (run:=fun n x=>M.yP n x.1.2.1 x.2.1) (bU:=alk) CU (fun m x=>by kernel_rfl) (ah ⟨dR,fun _ _ _=>rfl⟩ (ah ⟨cf,fun _ _ _=>rfl⟩ aF)) (hl:=(ja 1 (by kernel_rfl) (jr (.mk (by kernel_rfl) alq))))
theorem alu:bR qH (bC (bP Tryz.f23) 1) Xi:=lk (cx:=qH) (sh:=Gt) (run:=fun n x=>M.yR n x.1.2.1 x.2.1) (bU:=alp) CU (fun m x=>by kernel_rfl) (ah ⟨dR,fun _ _ _=>rfl⟩ (ah ⟨cf,fun _ _ _=>rfl⟩ aF)) (hl:=(ja 1 (by kernel_rfl) (jr (.mk (by kernel_rfl) alr))))
theorem alv:aB (Xj (M.ui)):=bw (cx:=qH) true CU Tryz.func23 (hl2 als alu) ⟨zs0,fun x=>x.1.1⟩ (fun x=>by kernel_rfl)
def M5(m:M.aI->Option ((List UInt8))):aM K:=cS 56 ⟨[.el U.Path],[]⟩ (fun x=>m x.1.1)
theorem Xk:aB (M5 (M.uk)):=bw (cx:=iQ) true jh Tryz.func56 hq ⟨zs1,fun x=>x.1.1⟩ (fun x=>by kernel_rfl)
def alx(y:(List UInt8)){R:Type}(k:KT R):R:=match y with|a0=>kk k (Ex.exit 1) zi ((a0,()),((),()))
def aly:List (cC K ((List UInt8))):=[⟨(Ex.exit 1),zi,fun x=>x.1.1⟩]
def Xl:bQ K:=bV D false 118 1 [1,3,4] [3] Gv (fun x=>M.qm ae x.1.2.1 x.1.2.2.1 x.2.1) alx
def alz(y:(List UInt8)×M.ai){R:Type}(k:KT R):R:=match y with|a0=>kk k (Ex.exit 3) ⟨[.ptr 0 0,.str],[.el U.Item]⟩ (((),(a0.1,())),(a0.2,()))
def alA:List (cC K ((List UInt8)×M.ai)):=[⟨(Ex.exit 3),⟨[.ptr 0 0,.str],[.el U.Item]⟩,fun x=>(x.1.2.1,x.2.1)⟩]
def Xm:bQ K:=bV D false 118 1 [1,5,6] [1,5] Gv (fun x=>M.qn ae x.1.2.1 x.1.2.2.1 x.2.1) alz
def Xn(m:M.ai->Option ((List UInt8))):aM K:=cS 54 ⟨[.el U.Item],[]⟩ (fun x=>m x.1.1)
def zn:Cx K:=bK [(89,.plain),(56,.plain)] [kD M.yK,M5 M.uk] [(9,Xl),(22,Xm)]
theorem M6:ba zn:=bA aY _ (ah aj3 (ah Xk aF))
theorem alB:bR zn (bC (bP Tryz.f54) 0) Xl:=lk (cx:=zn) (sh:=Gv) (run:=fun n x=>M.qm n x.1.2.1 x.1.2.2.1 x.2.1) (bU:=aly) M6 (fun m x=>by kernel_rfl) (ah ⟨cf,fun _ _ _=>rfl⟩ aF)
theorem alC:bR zn (bC (bP Tryz.f54) 1) Xm:=lk (cx:=zn) (sh:=Gv) (run:=fun n x=>M.qn n x.1.2.1 x.1.2.2.1 x.2.1) (bU:=alA) M6 (fun m x=>by kernel_rfl) (ah ⟨cf,fun _ _ _=>rfl⟩ aF)
theorem alD:aB (Xn (M.BV)):=bw (cx:=zn) true M6 Tryz.func54 (hl2 alB alC) ⟨zs1,fun x=>x.1.1⟩ (fun x=>by kernel_rfl)
def alE(y:(List UInt8)×Int×M.aw){R:Type}(k:KT R):R:=match y with|a0=>kk k (Ex.exit 2) uK (((),(a0.1,(a0.2.1,()))),(a0.2.2,()))
def alF:List (cC K ((List UInt8)×Int×M.aw)):=[⟨(Ex.exit 2),uK,fun x=>(x.1.2.1,x.1.2.2.1,x.2.1)⟩]
def Xo:bQ K:=bV D false 116 1 [1,3,4,5] [1,3,4] Gw (fun x=>M.qu x.1.2.2.1 x.2.1 ae x.1.2.1 x.1.2.2.2.1) alE
def alG(y:(List UInt8)×M.aw){R:Type}(k:KT R):R:=match y with|a0=>kk k (Ex.exit 0) ⟨[.ptr 0 0,.str],[.el U.bD]⟩ (((),(a0.1,())),(a0.2,()))
def alH:List (cC K ((List UInt8)×M.aw)):=[⟨(Ex.exit 0),⟨[.ptr 0 0,.str],[.el U.bD]⟩,fun x=>(x.1.2.1,x.2.1)⟩]
def Xp:bQ K:=bV D false 116 1 [1,3,4] [1,3] uK (fun x=>M.qw ae x.1.2.1 x.1.2.2.1 x.2.1) alG
def alI(y:(List UInt8)×Int×M.aw){R:Type}(k:KT R):R:=match y with|a0=>kk k (Ex.exit 6) uK (((),(a0.1,(a0.2.1,()))),(a0.2.2,()))
def alJ:List (cC K ((List UInt8)×Int×M.aw)):=[⟨(Ex.exit 6),uK,fun x=>(x.1.2.1,x.1.2.2.1,x.2.1)⟩]
def Xq:bQ K:=bV D false 116 1 [1,3,6,7] [1,3,6] Gw (fun x=>M.qx x.1.2.2.1 x.2.1 ae x.1.2.1 x.1.2.2.2.1) alI
def alK(y:(List UInt8)){R:Type}(k:KT R):R:=match y with|a0=>kk k (Ex.exit 4) zi ((a0,()),((),()))
def alL:List (cC K ((List UInt8))):=[⟨(Ex.exit 4),zi,fun x=>x.1.1⟩]
def Xr:bQ K:=bV D false 116 1 [1,3,6] [3] uK (fun x=>M.qy ae x.1.2.1 x.1.2.2.1 x.2.1) alK
def Xs(m:M.aw->Option ((List UInt8))):aM K:=cS 25 qF (fun x=>m x.1.1)
def qI:Cx K:=bK [(54,.plain),(55,.jB),(56,.plain)] [Xn M.BV,MJ M.kh,M5 M.uk] [(7,Xo),(3,Xp),(16,Xq),(12,Xr)]
theorem CV:ba qI:=bA aY _ (ah alD (ah UH (ah Xk aF)))
theorem alM:bR qI (bC (bC (bP Tryz.f25) 0) 0) Xo:=lk (cx:=qI) (sh:=Gw) (run:=fun n x=>M.qu x.1.2.2.1 x.2.1 n x.1.2.1 x.1.2.2.2.1) (bU:=alF) CV (fun m x=>by kernel_rfl) (ah ⟨cf,fun _ _ _=>rfl⟩ aF)
theorem alN:bR qI (bC (bC (bP Tryz.f25) 1) 0) Xq:=lk (cx:=qI) (sh:=Gw) (run:=fun n x=>M.qx x.1.2.2.1 x.2.1 n x.1.2.1 x.1.2.2.2.1) (bU:=alJ) CV (fun m x=>by kernel_rfl) (ah ⟨cf,fun _ _ _=>rfl⟩ aF)
theorem alO:bR qI (bC (bP Tryz.f25) 0) Xp:=lk (cx:=qI) (sh:=uK) (run:=fun n x=>M.qw n x.1.2.1 x.1.2.2.1 x.2.1) (bU:=alH) CV (fun m x=>by kernel_rfl) (ah ⟨cf,fun _ _ _=>rfl⟩ aF) (hl:=(ja 1 (by kernel_rfl) (jr (.mk (by kernel_rfl) alM))))
theorem alP:bR qI (bC (bP Tryz.f25) 1) Xr:=lk (cx:=qI) (sh:=uK) (run:=fun n x=>M.qy n x.1.2.1 x.1.2.2.1 x.2.1) (bU:=alL) CV (fun m x=>by kernel_rfl) (ah ⟨cf,fun _ _ _=>rfl⟩ aF) (hl:=(ja 1 (by kernel_rfl) (jr (.mk (by kernel_rfl) alN))))
theorem alQ:aB (Xs (M.qi)):=bw (cx:=qI) true CV Tryz.func25 (hl2 alO alP) ⟨zs1,fun x=>x.1.1⟩ (fun x=>by kernel_rfl)
def alR(y:Bool⊕(M.ai×M.ai)){R:Type}(k:KT R):R:=match y with|.inl a0=>kk k Ex.ret zj (((),((),(a0,()))),((),((),())))|.inr a1=>kk k (Ex.exit 0) Xt (((),((),((),()))),(a1.1,(a1.2,())))
def alS:List (cC K ((Bool)⊕(M.ai×M.ai))):=[⟨Ex.ret,zj,fun x=>.inl x.1.2.2.1⟩,⟨(Ex.exit 0),Xt,fun x=>.inr ((x.2.1,x.2.2.1))⟩]
def Xu:bQ K:=bV D false 113 2 [2,3,5] [2,3,4] Gx (fun x=>M.ub ae x.1.2.2.1 x.2.1 x.2.2.1) alR
def Xv:bQ K:=bV D false 113 2 [2,3,6] [4] Gx (fun x=>M.uc ae x.1.2.2.1 x.2.1 x.2.2.1) VB
def Xw(m:M.ai->M.ai->Option Bool):aM K:=cB 57 ⟨[.el U.Item,.el U.Item],[]⟩ (fun x=>m x.1.1 x.1.2.1)
def zo:Cx K:=bK [(90,.plain)] [so M.BE] [(4,Xu),(9,Xv)]
theorem M7:ba zo:=bA aY _ (ah akb aF)
theorem alT:bR zo (bC (bP Tryz.f57) 0) Xu:=lk (cx:=zo) (sh:=Gx) (run:=fun n x=>M.ub n x.1.2.2.1 x.2.1 x.2.2.1) (bU:=alS) M7 (fun m x=>by kernel_rfl) (ah ⟨dR,fun _ _ _=>rfl⟩ (ah ⟨cf,fun _ _ _=>rfl⟩ aF))
theorem alU:bR zo (bC (bP Tryz.f57) 1) Xv:=lk (cx:=zo) (sh:=Gx) (run:=fun n x=>M.uc n x.1.2.2.1 x.2.1 x.2.2.1) (bU:=VC) M7 (fun m x=>by kernel_rfl) (ah ⟨dR,fun _ _ _=>rfl⟩ (ah ⟨cf,fun _ _ _=>rfl⟩ aF))
theorem alV:aB (Xw (M.BF)):=bw (cx:=zo) true M7 Tryz.func57 (hl2 alT alU) ⟨zs0,fun x=>x.1.1⟩ (fun x=>by kernel_rfl)
def alW(y:Bool⊕(Int×M.aw×M.aw)){R:Type}(k:KT R):R:=match y with|.inl a0=>kk k Ex.ret Gy (((),((),((),(a0,())))),((),((),())))|.inr a1=>kk k (Ex.exit 2) Gz (((),((),(a1.1,((),())))),(a1.2.1,(a1.2.2,())))
def alX:List (cC K ((Bool)⊕(Int×M.aw×M.aw))):=[⟨Ex.ret,Gy,fun x=>.inl x.1.2.2.2.1⟩,⟨(Ex.exit 2),Gz,fun x=>.inr ((x.1.2.2.1,x.2.1,x.2.2.1))⟩]
def Xx:bQ K:=bV D false 174 2 [2,3,5,6] [2,3,5,4] GF (fun x=>M.ue x.1.2.2.1 x.2.1 x.2.2.1 ae x.1.2.2.2.1) alW
def alY(y:Bool⊕(M.aw×M.aw)){R:Type}(k:KT R):R:=match y with|.inl a0=>kk k Ex.ret zj (((),((),(a0,()))),((),((),())))|.inr a1=>kk k (Ex.exit 0) Xy (((),((),((),()))),(a1.1,(a1.2,())))
def alZ:List (cC K ((Bool)⊕(M.aw×M.aw))):=[⟨Ex.ret,zj,fun x=>.inl x.1.2.2.1⟩,⟨(Ex.exit 0),Xy,fun x=>.inr ((x.2.1,x.2.2.1))⟩]
def Xz:bQ K:=bV D false 174 2 [2,3,5] [2,3,4] GG (fun x=>M.ud ae x.1.2.2.1 x.2.1 x.2.2.1) alY
def al0(y:Bool⊕(Int×M.aw×M.aw)){R:Type}(k:KT R):R:=match y with|.inl a0=>kk k Ex.ret Gy (((),((),((),(a0,())))),((),((),())))|.inr a1=>kk k (Ex.exit 6) Gz (((),((),(a1.1,((),())))),(a1.2.1,(a1.2.2,())))
def al1:List (cC K ((Bool)⊕(Int×M.aw×M.aw))):=[⟨Ex.ret,Gy,fun x=>.inl x.1.2.2.2.1⟩,⟨(Ex.exit 6),Gz,fun x=>.inr ((x.1.2.2.1,x.2.1,x.2.2.1))⟩]
def XA:bQ K:=bV D false 174 2 [2,3,7,8] [2,3,7,4] GF (fun x=>M.ug x.1.2.2.1 x.2.1 x.2.2.1 ae x.1.2.2.2.1) al0
def al2(y:Bool⊕Unit){R:Type}(k:KT R):R:=match y with|.inl a0=>kk k Ex.ret FY ((a0,()),((),((),())))|.inr a1=>kk k (Ex.exit 4) FZ (((),()),((),((),())))
def al3:List (cC K ((Bool)⊕Unit)):=[⟨Ex.ret,FY,fun x=>.inl x.1.1⟩,⟨(Ex.exit 4),FZ,fun x=>.inr (())⟩]
def XB:bQ K:=bV D false 174 2 [2,3,7] [4] GG (fun x=>M.uf ae x.1.2.2.1 x.2.1 x.2.2.1) al2
def XC(m:M.aw->M.aw->Option Bool):aM K:=cB 26 MZ (fun x=>m x.1.1 x.1.2.1)
def qJ:Cx K:=bK [(57,.plain)] [Xw M.BF] [(9,Xx),(4,Xz),(19,XA),(14,XB)]
theorem CW:ba qJ:=bA aY _ (ah alV aF)
theorem al4:bR qJ (bC (bC (bP Tryz.f26) 0) 0) Xx:=lk (cx:=qJ) (sh:=GF) (run:=fun n x=>M.ue x.1.2.2.1 x.2.1 x.2.2.1 n x.1.2.2.2.1) (bU:=alX) CW (fun m x=>by kernel_rfl) (ah ⟨dR,fun _ _ _=>rfl⟩ (ah ⟨cf,fun _ _ _=>rfl⟩ aF))
theorem al5:bR qJ (bC (bC (bP Tryz.f26) 1) 0) XA:=lk (cx:=qJ) (sh:=GF) (run:=fun n x=>M.ug x.1.2.2.1 x.2.1 x.2.2.1 n x.1.2.2.2.1) (bU:=al1) CW (fun m x=>by kernel_rfl) (ah ⟨dR,fun _ _ _=>rfl⟩ (ah ⟨cf,fun _ _ _=>rfl⟩ aF))
theorem al6:bR qJ (bC (bP Tryz.f26) 0) Xz:=lk (cx:=qJ) (sh:=GG) (run:=fun n x=>M.ud n x.1.2.2.1 x.2.1 x.2.2.1) (bU:=alZ) CW (fun m x=>by kernel_rfl) (ah ⟨dR,fun _ _ _=>rfl⟩ (ah ⟨cf,fun _ _ _=>rfl⟩ aF)) (hl:=(ja 1 (by kernel_rfl) (jr (.mk (by kernel_rfl) al4))))
theorem al7:bR qJ (bC (bP Tryz.f26) 1) XB:=lk (cx:=qJ) (sh:=GG) (run:=fun n x=>M.uf n x.1.2.2.1 x.2.1 x.2.2.1) (bU:=al3) CW (fun m x=>by kernel_rfl) (ah ⟨dR,fun _ _ _=>rfl⟩ (ah ⟨cf,fun _ _ _=>rfl⟩ aF)) (hl:=(ja 1 (by kernel_rfl) (jr (.mk (by kernel_rfl) al5))))
theorem al8:aB (XC (M.BG)):=bw (cx:=qJ) true CW Tryz.func26 (hl2 al6 al7) ⟨zs0,fun x=>x.1.1⟩ (fun x=>by kernel_rfl)
def XD(m:M.aw->Option Bool):aM K:=cB 11 qF (fun x=>m x.1.1)
def XE:Cx K:=bK [(23,.plain),(25,.plain),(24,.jB),(26,.plain)] [Xj M.ui,Xs M.qi,Ve M.tQ,XC M.BG] []
theorem al9:ba XE:=bA aY _ (ah alv (ah alQ (ah ajL (ah al8 aF))))
theorem ama:aB (XD (M.rT)):=bw (cx:=XE) true al9 Tryz.func11 hq ⟨zs0,fun x=>x.1.1⟩ (fun x=>by kernel_rfl)
def XF(m:M.aw->M.aw->Option Bool):aM K:=cB 8 MZ (fun x=>m x.1.1 x.1.2.1)
def XG:Cx K:=bK [(7,.plain),(17,.plain)] [M3 M.nW,MY M.v7] []
theorem amb:ba XG:=bA aY _ (ah Xb (ah W6 aF))
theorem amc:aB (XF (M.yY)):=bw (cx:=XG) true amb Tryz.func8 hq ⟨zs0,fun x=>x.1.1⟩ (fun x=>by kernel_rfl)
def XH(m:M.aw->Option ((List UInt8))):aM K:=cS 5 qF (fun x=>m x.1.1)
theorem amd:aB (XH (M.Cm)):=bw (cx:=M4) true Xa Tryz.func5 hq ⟨zs1,fun x=>x.1.1⟩ (fun x=>by kernel_rfl)
def XI(m:M.aR->Option (Int×M.aR)):aM K:={f:=44,sh:=⟨[.ptr 0 0],[.el U.dP]⟩,R:=Int×M.aR,run:=fun x=>m x.2.1,dflt:=default,out:=fun r=>(Sh.enc D (.int .i64) r.1,aU.encs D [.el U.dP] (r.2,()))}
theorem ame:aB (XI (M.wi)):=bw (cx:=iQ) true jh Tryz.func44 hq ⟨M8,fun x=>(x.1.1,x.2.1)⟩ (fun x=>by kernel_rfl)
def CX(m:Int->M.aR->Option (Int×M.aR)):aM K:={f:=18,sh:=⟨[.ptr 0 0,iq0],[.el U.dP]⟩,R:=Int×M.aR,run:=fun x=>m x.1.2.1 x.2.1,dflt:=default,out:=fun r=>(Sh.enc D (.int .i64) r.1,aU.encs D [.el U.dP] (r.2,()))}
def XJ:Cx K:=bK [(44,.aZ)] [XI M.wi] []
theorem amf:ba XJ:=bA aY _ (ah ame aF)
theorem GH:aB (CX (M.dj)):=bw (cx:=XJ) true amf Tryz.func18 hq ⟨M8,fun x=>(x.1.1,x.2.1)⟩ (fun x=>by kernel_rfl)
def GI(m:Int->M.aR->Option (Bool×M.aR)):aM K:={f:=21,sh:=⟨[.ptr 0 0,iq0],[.el U.dP]⟩,R:=Bool×M.aR,run:=fun x=>m x.1.2.1 x.2.1,dflt:=default,out:=fun r=>(Sh.enc D (.bool) r.1,aU.encs D [.el U.dP] (r.2,()))}
def CY:Cx K:=bK [(18,.aZ)] [CX M.dj] []
theorem GK:ba CY:=bA aY _ (ah GH aF)
theorem M9:aB (GI (M.jg)):=bw (cx:=CY) true GK Tryz.func21 hq ⟨⟨[.bool],[.el U.dP]⟩,fun x=>(x.1.1,x.2.1)⟩ (fun x=>by kernel_rfl)
def Na(m:M.aR->(List (List UInt8))->Option ((List UInt8)×M.aR×(List (List UInt8)))):aM K:={f:=19,sh:=⟨[.ptr 0 0,.own 1],[.el U.dP,.arr U.str]⟩,R:=(List UInt8)×M.aR×(List (List UInt8)),run:=fun x=>m x.2.1 x.2.2.1,dflt:=default,out:=fun r=>(Sh.enc D (.str) r.1,aU.encs D [.el U.dP,.arr U.str] (r.2.1,(r.2.2,())))}
theorem XK:aB (Na (M.sd)):=bw (cx:=CY) true GK Tryz.func19 hq ⟨⟨[.str],[.el U.dP,.arr U.str]⟩,fun x=>(x.1.1,x.2.1,x.2.2.1)⟩ (fun x=>by kernel_rfl)
def wO(m:Int->Option ((List UInt8))):aM K:=cS 46 mz (fun x=>m x.1.1)
def XL(mD:Int->Option ((List UInt8))):Cx K:=bK [(46,.plain)] [wO mD] []
theorem amg(mD:Int->Option ((List UInt8)))(Nb:aB (wO mD)):ba (XL mD):=bA aY _ (ah Nb aF)
theorem amh(mD:Int->Option ((List UInt8)))(Nb:aB (wO mD)):aB (wO (M.XM mD)):=ij (cx:=XL mD) (fz:=true) aY (amg mD Nb) fg ⟨Tryz.func46,by kernel_rfl⟩ hq ⟨zs1,fun x=>x.1.1⟩ (fun x=>rfl) (fun x=>by kernel_rfl)
theorem XN:∀n,aB (wO (M.GL n))|0=>pS fun _=>rfl|n+1=>amh (M.GL n) (XN n)
theorem ami:aB (wO (M.wo)):=XN ae
def Nc(m:(List Int)->M.aR->Option (Int×M.aR)):aM K:={f:=22,sh:=⟨[.ptr 0 0,.ax U.i64],[.el U.dP]⟩,R:=Int×M.aR,run:=fun x=>m x.1.2.1 x.2.1,dflt:=default,out:=fun r=>(Sh.enc D (.int .i64) r.1,aU.encs D [.el U.dP] (r.2,()))}
theorem XO:aB (Nc (M.wk)):=bw (cx:=CY) true GK Tryz.func22 hq ⟨M8,fun x=>(x.1.1,x.2.1)⟩ (fun x=>by kernel_rfl)
def qK(m:Int->M.aR->(List (List UInt8))->Option (Int×(List UInt8)×M.aR×(List (List UInt8))×(List (List UInt8))×(List M.aa))):aM K:={f:=47,sh:=⟨[.ptr 0 0,.own 1,iq0],[.el U.dP,.arr U.str]⟩,R:=Int×(List UInt8)×M.aR×(List (List UInt8))×(List (List UInt8))×(List M.aa),run:=fun x=>m x.1.2.2.1 x.2.1 x.2.2.1,dflt:=default,out:=fun r=>(Sh.enc D (.agg [iq0,.str,.own 2,.own 3]) (r.1,(r.2.1,((),((),())))),aU.encs D [.el U.dP,.arr U.str,.arr U.str,.arr U.Term] (r.2.2.1,(r.2.2.2.1,(r.2.2.2.2.1,(r.2.2.2.2.2,())))))}
def amj(y:(List UInt8)×Int×Int×(List (List UInt8))×Int×(List UInt8)×Int×(List UInt8)×(List (List UInt8))×(List M.aa)×(List (List UInt8))×(List M.aa)){R:Type}(k:KT R):R:=match y with|a0=>kk k (Ex.exit 1) zp (((),((),())),((a0.1,(a0.2.1,(a0.2.2.1,()))),(a0.2.2.2.1,((a0.2.2.2.2.1,(a0.2.2.2.2.2.1,((),((),())))),((a0.2.2.2.2.2.2.1,(a0.2.2.2.2.2.2.2.1,((),((),())))),((),((),((),((),(a0.2.2.2.2.2.2.2.2.1,(a0.2.2.2.2.2.2.2.2.2.1,(a0.2.2.2.2.2.2.2.2.2.2.1,(a0.2.2.2.2.2.2.2.2.2.2.2,())))))))))))))
def amk:List (cC K ((List UInt8)×Int×Int×(List (List UInt8))×Int×(List UInt8)×Int×(List UInt8)×(List (List UInt8))×(List M.aa)×(List (List UInt8))×(List M.aa))):=[⟨(Ex.exit 1),zp,fun x=>(x.2.1.1,x.2.1.2.1,x.2.1.2.2.1,x.2.2.1,x.2.2.2.1.1,x.2.2.2.1.2.1,x.2.2.2.2.1.1,x.2.2.2.2.1.2.1,x.2.2.2.2.2.2.2.2.2.1,x.2.2.2.2.2.2.2.2.2.2.1,x.2.2.2.2.2.2.2.2.2.2.2.1,x.2.2.2.2.2.2.2.2.2.2.2.2.1)⟩]
def XP(cO:Int->M.aR->(List (List UInt8))->Option (Int×(List UInt8)×M.aR×(List (List UInt8))×(List (List UInt8))×(List M.aa))):bQ K:=bV D 4 134 8 [0,1,2,6,7,10] [6,7] XQ (fun x=>M.sf cO x.1.2.2.1 x.2.2.2.1.1 x.2.2.2.1.2.1 x.2.2.2.2.1.1 x.2.2.2.2.1.2.1 x.2.2.2.2.2.2.2.2.2.1 x.2.2.2.2.2.2.2.2.2.2.1 x.2.2.2.2.2.2.2.2.2.2.2.1 ae x.1.2.2.2.2.2.1 x.2.1 x.2.2.1 x.2.2.2.2.2.2.2.2.2.2.2.2.1) amj
def aml(y:(List UInt8)×Int×Int×(List (List UInt8))×Int×(List UInt8)×Int×(List UInt8)×(List (List UInt8))×(List M.aa)×(List (List UInt8))×(List M.aa)){R:Type}(k:KT R):R:=match y with|a0=>kk k (Ex.exit 3) zp (((),((),())),((a0.1,(a0.2.1,(a0.2.2.1,()))),(a0.2.2.2.1,((a0.2.2.2.2.1,(a0.2.2.2.2.2.1,((),((),())))),((a0.2.2.2.2.2.2.1,(a0.2.2.2.2.2.2.2.1,((),((),())))),((),((),((),((),(a0.2.2.2.2.2.2.2.2.1,(a0.2.2.2.2.2.2.2.2.2.1,(a0.2.2.2.2.2.2.2.2.2.2.1,(a0.2.2.2.2.2.2.2.2.2.2.2,())))))))))))))
def amm:List (cC K ((List UInt8)×Int×Int×(List (List UInt8))×Int×(List UInt8)×Int×(List UInt8)×(List (List UInt8))×(List M.aa)×(List (List UInt8))×(List M.aa))):=[⟨(Ex.exit 3),zp,fun x=>(x.2.1.1,x.2.1.2.1,x.2.1.2.2.1,x.2.2.1,x.2.2.2.1.1,x.2.2.2.1.2.1,x.2.2.2.2.1.1,x.2.2.2.2.1.2.1,x.2.2.2.2.2.2.2.2.2.1,x.2.2.2.2.2.2.2.2.2.2.1,x.2.2.2.2.2.2.2.2.2.2.2.1,x.2.2.2.2.2.2.2.2.2.2.2.2.1)⟩]
def XR(cO:Int->M.aR->(List (List UInt8))->Option (Int×(List UInt8)×M.aR×(List (List UInt8))×(List (List UInt8))×(List M.aa))):bQ K:=bV D 4 134 8 [0,1,2,6,7,8,11] [6,7] GM (fun x=>M.uE cO x.1.2.2.1 x.1.2.2.2.2.2.1 x.2.2.2.1.1 x.2.2.2.1.2.1 x.2.2.2.2.1.1 x.2.2.2.2.1.2.1 x.2.2.2.2.2.2.2.2.2.1 x.2.2.2.2.2.2.2.2.2.2.1 x.2.2.2.2.2.2.2.2.2.2.2.1 ae x.1.2.2.2.2.2.2.1 x.2.1 x.2.2.1 x.2.2.2.2.2.2.2.2.2.2.2.2.1) aml
def amn(y:(List UInt8)×Int×Int×(List (List UInt8))×Int×(List UInt8)×Int×(List UInt8)×(List (List UInt8))×(List M.aa)×(List (List UInt8))×(List M.aa)){R:Type}(k:KT R):R:=match y with|a0=>kk k (Ex.exit 5) zp (((),((),())),((a0.1,(a0.2.1,(a0.2.2.1,()))),(a0.2.2.2.1,((a0.2.2.2.2.1,(a0.2.2.2.2.2.1,((),((),())))),((a0.2.2.2.2.2.2.1,(a0.2.2.2.2.2.2.2.1,((),((),())))),((),((),((),((),(a0.2.2.2.2.2.2.2.2.1,(a0.2.2.2.2.2.2.2.2.2.1,(a0.2.2.2.2.2.2.2.2.2.2.1,(a0.2.2.2.2.2.2.2.2.2.2.2,())))))))))))))
def amo:List (cC K ((List UInt8)×Int×Int×(List (List UInt8))×Int×(List UInt8)×Int×(List UInt8)×(List (List UInt8))×(List M.aa)×(List (List UInt8))×(List M.aa))):=[⟨(Ex.exit 5),zp,fun x=>(x.2.1.1,x.2.1.2.1,x.2.1.2.2.1,x.2.2.1,x.2.2.2.1.1,x.2.2.2.1.2.1,x.2.2.2.2.1.1,x.2.2.2.2.1.2.1,x.2.2.2.2.2.2.2.2.2.1,x.2.2.2.2.2.2.2.2.2.2.1,x.2.2.2.2.2.2.2.2.2.2.2.1,x.2.2.2.2.2.2.2.2.2.2.2.2.1)⟩]
def XS(cO:Int->M.aR->(List (List UInt8))->Option (Int×(List UInt8)×M.aR×(List (List UInt8))×(List (List UInt8))×(List M.aa))):bQ K:=bV D 4 134 8 [0,1,2,6,7,8,12] [6,7] GM (fun x=>M.po cO x.1.2.2.1 x.1.2.2.2.2.2.1 x.2.2.2.1.1 x.2.2.2.1.2.1 x.2.2.2.2.1.1 x.2.2.2.2.1.2.1 x.2.2.2.2.2.2.2.2.2.1 x.2.2.2.2.2.2.2.2.2.2.1 x.2.2.2.2.2.2.2.2.2.2.2.1 ae x.1.2.2.2.2.2.2.1 x.2.1 x.2.2.1 x.2.2.2.2.2.2.2.2.2.2.2.2.1) amn
def uL(cO:Int->M.aR->(List (List UInt8))->Option (Int×(List UInt8)×M.aR×(List (List UInt8))×(List (List UInt8))×(List M.aa))):Cx K:={jN with mode:=iK .plain [(21,.aZ),(19,.pass),(18,.aZ),(22,.aZ),(47,.pass)],xb:=[[none,none,some U.str,some U.Term]],call:=callOf D [GI M.jg,Na M.sd,CX M.dj,Nc M.wk,qK cO],loop:=gW [(13,XP cO),(19,XR cO),(26,XS cO)]}
theorem GN(cO:Int->M.aR->(List (List UInt8))->Option (Int×(List UInt8)×M.aR×(List (List UInt8))×(List (List UInt8))×(List M.aa)))(ou:aB (qK cO)):ba (uL cO):=bA aY _ (ah M9 (ah XK (ah GH (ah XO (ah ou aF)))))
theorem amq(cO:Int->M.aR->(List (List UInt8))->Option (Int×(List UInt8)×M.aR×(List (List UInt8))×(List (List UInt8))×(List M.aa)))(ou:aB (qK cO)):bR (uL cO) (bC (bP Tryz.f47) 0) (XP cO):=pR (cx:=uL cO) (sh:=XQ) (run:=fun n x=>M.sf cO x.1.2.2.1 x.2.2.2.1.1 x.2.2.2.1.2.1 x.2.2.2.2.1.1 x.2.2.2.2.1.2.1 x.2.2.2.2.2.2.2.2.2.1 x.2.2.2.2.2.2.2.2.2.2.1 x.2.2.2.2.2.2.2.2.2.2.2.1 n x.1.2.2.2.2.2.1 x.2.1 x.2.2.1 x.2.2.2.2.2.2.2.2.2.2.2.2.1) (bU:=amk) aY (GN cO ou) fg (ry (by kernel_rfl)) (fun _=>rfl) (fun m x=>by kernel_rfl) (ah ⟨cf,fun _ _ _=>rfl⟩ aF) 4 ae
theorem amr(cO:Int->M.aR->(List (List UInt8))->Option (Int×(List UInt8)×M.aR×(List (List UInt8))×(List (List UInt8))×(List M.aa)))(ou:aB (qK cO)):bR (uL cO) (bC (bP Tryz.f47) 1) (XR cO):=pR (cx:=uL cO) (sh:=GM) (run:=fun n x=>M.uE cO x.1.2.2.1 x.1.2.2.2.2.2.1 x.2.2.2.1.1 x.2.2.2.1.2.1 x.2.2.2.2.1.1 x.2.2.2.2.1.2.1 x.2.2.2.2.2.2.2.2.2.1 x.2.2.2.2.2.2.2.2.2.2.1 x.2.2.2.2.2.2.2.2.2.2.2.1 n x.1.2.2.2.2.2.2.1 x.2.1 x.2.2.1 x.2.2.2.2.2.2.2.2.2.2.2.2.1) (bU:=amm) aY (GN cO ou) fg (ry (by kernel_rfl)) (fun _=>rfl) (fun m x=>by kernel_rfl) (ah ⟨cf,fun _ _ _=>rfl⟩ aF) 4 ae
theorem ams(cO:Int->M.aR->(List (List UInt8))->Option (Int×(List UInt8)×M.aR×(List (List UInt8))×(List (List UInt8))×(List M.aa)))(ou:aB (qK cO)):bR (uL cO) (bC (bP Tryz.f47) 2) (XS cO):=pR (cx:=uL cO) (sh:=GM) (run:=fun n x=>M.po cO x.1.2.2.1 x.1.2.2.2.2.2.1 x.2.2.2.1.1 x.2.2.2.1.2.1 x.2.2.2.2.1.1 x.2.2.2.2.1.2.1 x.2.2.2.2.2.2.2.2.2.1 x.2.2.2.2.2.2.2.2.2.2.1 x.2.2.2.2.2.2.2.2.2.2.2.1 n x.1.2.2.2.2.2.2.1 x.2.1 x.2.2.1 x.2.2.2.2.2.2.2.2.2.2.2.2.1) (bU:=amo) aY (GN cO ou) fg (ry (by kernel_rfl)) (fun _=>rfl) (fun m x=>by kernel_rfl) (ah ⟨cf,fun _ _ _=>rfl⟩ aF) 4 ae
theorem amu(cO:Int->M.aR->(List (List UInt8))->Option (Int×(List UInt8)×M.aR×(List (List UInt8))×(List (List UInt8))×(List M.aa)))(ou:aB (qK cO)):aB (qK (M.yW cO)):=ij (cx:=uL cO) (fz:=false) aY (GN cO ou) fg ⟨Tryz.func47,by kernel_rfl⟩ (Es (ja 3 (by kernel_rfl) (lt_succ (lt_succ (jr (.mk (by kernel_rfl) (amq cO ou))) (.mk (by kernel_rfl) (amr cO ou))) (.mk (by kernel_rfl) (ams cO ou))))) ⟨⟨[.agg [iq0,.str,.own 2,.own 3]],[.el U.dP,.arr U.str,.arr U.str,.arr U.Term]⟩,fun x=>(x.1.1.1,x.1.1.2.1,x.2.1,x.2.2.1,x.2.2.2.1,x.2.2.2.2.1)⟩ (fun x=>rfl) (fun x=>by kernel_rfl)
theorem XT:∀n,aB (qK (M.B9 n))|0=>pS fun _=>rfl|n+1=>amu (M.B9 n) (XT n)
theorem amv:aB (qK (M.wm)):=XT ae
def amw(y:M.aR×(List UInt8)×(List UInt8)×(List (List UInt8))×(List M.ai)×(List M.ai)){R:Type}(k:KT R):R:=match y with|a0=>kk k (Ex.exit 0) XU (((),((),((),((),())))),(a0.1,((a0.2.1,((),())),((a0.2.2.1,((),())),((),((),((),(a0.2.2.2.1,(a0.2.2.2.2.1,(a0.2.2.2.2.2,()))))))))))
def amx:List (cC K (M.aR×(List UInt8)×(List UInt8)×(List (List UInt8))×(List M.ai)×(List M.ai))):=[⟨(Ex.exit 0),XU,fun x=>(x.2.1,x.2.2.1.1,x.2.2.2.1.1,x.2.2.2.2.2.2.2.1,x.2.2.2.2.2.2.2.2.1,x.2.2.2.2.2.2.2.2.2.1)⟩]
def XV:bQ K:=bV D 0 140 6 [0,8,9,10,12] [0,8,9,10] GO (fun x=>M.kz x.2.2.1.1 x.2.2.2.1.1 x.2.2.2.2.2.2.2.2.1 ae x.1.2.2.2.2.1 x.2.1 x.2.2.2.2.2.2.2.1 x.2.2.2.2.2.2.2.2.2.1) amw
def amy(y:Int×M.aR×(List UInt8)×(List UInt8)×Int×(List UInt8)×Int×(List UInt8)×Bool×(List UInt8)×(List UInt8)×(List UInt8)×(List (List UInt8))×(List M.ai)×(List M.ai)×(List (List UInt8))×(List M.aa)×(List M.aV)×(List M.aX)){R:Type}(k:KT R):R:=match y with|a0=>kk k (Ex.exit 4) XW (((),((),((),((),(a0.1,((),())))))),(a0.2.1,((a0.2.2.1,((),())),((a0.2.2.2.1,((),())),((),((a0.2.2.2.2.1,(a0.2.2.2.2.2.1,(a0.2.2.2.2.2.2.1,(a0.2.2.2.2.2.2.2.1,((),((),((),(a0.2.2.2.2.2.2.2.2.1,(a0.2.2.2.2.2.2.2.2.2.1,(a0.2.2.2.2.2.2.2.2.2.2.1,(a0.2.2.2.2.2.2.2.2.2.2.2.1,((),())))))))))))),((),((),((),((),((),((),(a0.2.2.2.2.2.2.2.2.2.2.2.2.1,(a0.2.2.2.2.2.2.2.2.2.2.2.2.2.1,(a0.2.2.2.2.2.2.2.2.2.2.2.2.2.2.1,(a0.2.2.2.2.2.2.2.2.2.2.2.2.2.2.2.1,(a0.2.2.2.2.2.2.2.2.2.2.2.2.2.2.2.2.1,(a0.2.2.2.2.2.2.2.2.2.2.2.2.2.2.2.2.2.1,(a0.2.2.2.2.2.2.2.2.2.2.2.2.2.2.2.2.2.2,())))))))))))))))))))
def amz:List (cC K (Int×M.aR×(List UInt8)×(List UInt8)×Int×(List UInt8)×Int×(List UInt8)×Bool×(List UInt8)×(List UInt8)×(List UInt8)×(List (List UInt8))×(List M.ai)×(List M.ai)×(List (List UInt8))×(List M.aa)×(List M.aV)×(List M.aX))):=[⟨(Ex.exit 4),XW,fun x=>(x.1.2.2.2.2.1,x.2.1,x.2.2.1.1,x.2.2.2.1.1,x.2.2.2.2.2.1.1,x.2.2.2.2.2.1.2.1,x.2.2.2.2.2.1.2.2.1,x.2.2.2.2.2.1.2.2.2.1,x.2.2.2.2.2.1.2.2.2.2.2.2.2.1,x.2.2.2.2.2.1.2.2.2.2.2.2.2.2.1,x.2.2.2.2.2.1.2.2.2.2.2.2.2.2.2.1,x.2.2.2.2.2.1.2.2.2.2.2.2.2.2.2.2.1,x.2.2.2.2.2.2.2.2.2.2.2.2.1,x.2.2.2.2.2.2.2.2.2.2.2.2.2.1,x.2.2.2.2.2.2.2.2.2.2.2.2.2.2.1,x.2.2.2.2.2.2.2.2.2.2.2.2.2.2.2.1,x.2.2.2.2.2.2.2.2.2.2.2.2.2.2.2.2.1,x.2.2.2.2.2.2.2.2.2.2.2.2.2.2.2.2.2.1,x.2.2.2.2.2.2.2.2.2.2.2.2.2.2.2.2.2.2.1)⟩]
def XX:bQ K:=bV D 0 140 11 [0,8,9,10,14,15,16] [0,8,9,10,14,15] XY (fun x=>M.wq x.1.2.2.2.2.1 x.2.2.1.1 x.2.2.2.1.1 x.2.2.2.2.2.1.1 x.2.2.2.2.2.1.2.1 x.2.2.2.2.2.1.2.2.1 x.2.2.2.2.2.1.2.2.2.1 x.2.2.2.2.2.1.2.2.2.2.2.2.2.1 x.2.2.2.2.2.1.2.2.2.2.2.2.2.2.1 x.2.2.2.2.2.1.2.2.2.2.2.2.2.2.2.1 x.2.2.2.2.2.1.2.2.2.2.2.2.2.2.2.2.1 x.2.2.2.2.2.2.2.2.2.2.2.2.2.1 x.2.2.2.2.2.2.2.2.2.2.2.2.2.2.1 x.2.2.2.2.2.2.2.2.2.2.2.2.2.2.2.1 x.2.2.2.2.2.2.2.2.2.2.2.2.2.2.2.2.1 x.2.2.2.2.2.2.2.2.2.2.2.2.2.2.2.2.2.2.1 ae x.1.2.2.2.2.2.2.1 x.2.1 x.2.2.2.2.2.2.2.2.2.2.2.2.1 x.2.2.2.2.2.2.2.2.2.2.2.2.2.2.2.2.2.1) amy
def amA(y:(List UInt8)×Int×Int×(List UInt8)×(List UInt8)×(List M.ai)×(List M.ai)){R:Type}(k:KT R):R:=match y with|a0=>kk k (Ex.exit 2) XZ (((),((),())),((a0.1,(a0.2.1,(a0.2.2.1,()))),((a0.2.2.2.1,((),())),((a0.2.2.2.2.1,((),())),((),((),((),(a0.2.2.2.2.2.1,(a0.2.2.2.2.2.2,())))))))))
def amB:List (cC K ((List UInt8)×Int×Int×(List UInt8)×(List UInt8)×(List M.ai)×(List M.ai))):=[⟨(Ex.exit 2),XZ,fun x=>(x.2.1.1,x.2.1.2.1,x.2.1.2.2.1,x.2.2.1.1,x.2.2.2.1.1,x.2.2.2.2.2.2.2.1,x.2.2.2.2.2.2.2.2.1)⟩]
def X0:bQ K:=bV D 0 140 6 [0,8,9,10,14] [8,9] GO (fun x=>M.jM ae x.1.2.2.2.2.1 x.2.1 x.2.2.1.1 x.2.2.2.1.1 x.2.2.2.2.2.2.2.1 x.2.2.2.2.2.2.2.2.1 x.2.2.2.2.2.2.2.2.2.1) amA
def X1(m:(List UInt8)->M.aR->(List M.aI)->(List (List UInt8))->Option (M.aG×M.aR×(List M.aI)×(List (List UInt8)))):aM K:={f:=20,sh:=⟨[.ptr 0 0,.str,.own 1,.own 2],[.el U.dP,.arr U.Path,.arr U.str]⟩,R:=M.aG×M.aR×(List M.aI)×(List (List UInt8)),run:=fun x=>m x.1.2.1 x.2.1 x.2.2.1 x.2.2.2.1,dflt:=default,out:=fun r=>(Sh.enc D (.el U.dk) r.1,aU.encs D [.el U.dP,.arr U.Path,.arr U.str] (r.2.1,(r.2.2.1,(r.2.2.2,()))))}
def uM:Cx K:=bK [(21,.aZ),(19,.pass),(45,.plain),(18,.aZ),(46,.plain),(47,.pass)] [GI M.jg,Na M.sd,MM M.nP,CX M.dj,wO M.wo,qK M.wm] [(14,XV),(24,XX),(20,X0)]
theorem GQ:ba uM:=bA aY _ (ah M9 (ah XK (ah UX (ah GH (ah ami (ah amv aF))))))
theorem amC:bR uM (bC (bC (bP Tryz.f20) 1) 0) XX:=pR (cx:=uM) (sh:=XY) (run:=fun n x=>M.wq x.1.2.2.2.2.1 x.2.2.1.1 x.2.2.2.1.1 x.2.2.2.2.2.1.1 x.2.2.2.2.2.1.2.1 x.2.2.2.2.2.1.2.2.1 x.2.2.2.2.2.1.2.2.2.1 x.2.2.2.2.2.1.2.2.2.2.2.2.2.1 x.2.2.2.2.2.1.2.2.2.2.2.2.2.2.1 x.2.2.2.2.2.1.2.2.2.2.2.2.2.2.2.1 x.2.2.2.2.2.1.2.2.2.2.2.2.2.2.2.2.1 x.2.2.2.2.2.2.2.2.2.2.2.2.2.1 x.2.2.2.2.2.2.2.2.2.2.2.2.2.2.1 x.2.2.2.2.2.2.2.2.2.2.2.2.2.2.2.1 x.2.2.2.2.2.2.2.2.2.2.2.2.2.2.2.2.1 x.2.2.2.2.2.2.2.2.2.2.2.2.2.2.2.2.2.2.1 n x.1.2.2.2.2.2.2.1 x.2.1 x.2.2.2.2.2.2.2.2.2.2.2.2.1 x.2.2.2.2.2.2.2.2.2.2.2.2.2.2.2.2.2.1) (bU:=amz) aY GQ fg (ry (by kernel_rfl)) (fun _=>rfl) (fun m x=>by kernel_rfl) (ah ⟨cf,fun _ _ _=>rfl⟩ aF) 0 ae
theorem amD:bR uM (bC (bP Tryz.f20) 0) XV:=pR (cx:=uM) (sh:=GO) (run:=fun n x=>M.kz x.2.2.1.1 x.2.2.2.1.1 x.2.2.2.2.2.2.2.2.1 n x.1.2.2.2.2.1 x.2.1 x.2.2.2.2.2.2.2.1 x.2.2.2.2.2.2.2.2.2.1) (bU:=amx) aY GQ fg (ry (by kernel_rfl)) (fun _=>rfl) (fun m x=>by kernel_rfl) (ah ⟨cf,fun _ _ _=>rfl⟩ aF) 0 ae
theorem amE:bR uM (bC (bP Tryz.f20) 1) X0:=pR (cx:=uM) (sh:=GO) (run:=fun n x=>M.jM n x.1.2.2.2.2.1 x.2.1 x.2.2.1.1 x.2.2.2.1.1 x.2.2.2.2.2.2.2.1 x.2.2.2.2.2.2.2.2.1 x.2.2.2.2.2.2.2.2.2.1) (bU:=amB) aY GQ fg (ja 1 (by kernel_rfl) (jr (.mk (by kernel_rfl) amC))) (fun _=>rfl) (fun m x=>by kernel_rfl) (ah ⟨cf,fun _ _ _=>rfl⟩ aF) 0 ae
theorem amF:aB (X1 (M.yX)):=bw (cx:=uM) true GQ Tryz.func20 (hl2 amD amE) ⟨⟨[.el U.dk],[.el U.dP,.arr U.Path,.arr U.str]⟩,fun x=>(x.1.1,x.2.1,x.2.2.1,x.2.2.2.1)⟩ (fun x=>by kernel_rfl)
def X2(m:(List UInt8)->Option ((List UInt8)×Int×Int)):aM K:={f:=10,sh:=⟨[.ax U.u8],[]⟩,R:=(List UInt8)×Int×Int,run:=fun x=>m x.1.1,dflt:=default,out:=fun r=>(Sh.enc D (.ptr 0 0) (),aU.encs D [.box [.ax U.u8,iq0,.int .u64]] ((r.1,(r.2.1,(r.2.2,()))),()))}
theorem amG:aB (X2 (M.X3)):=bw (cx:=iQ) true jh Tryz.func10 hq ⟨⟨[.ptr 0 0],[.box [.ax U.u8,iq0,.int .u64]]⟩,fun x=>(x.2.1.1,x.2.1.2.1,x.2.1.2.2.1)⟩ (fun x=>by kernel_rfl)
def X4(m:(List (List UInt8))->M.aR->Option ((List UInt8)×M.aR)):aM K:={f:=19,sh:=⟨[.ptr 0 0,.ax U.str],[.el U.dP]⟩,R:=(List UInt8)×M.aR,run:=fun x=>m x.1.2.1 x.2.1,dflt:=default,out:=fun r=>(Sh.enc D (.str) r.1,aU.encs D [.el U.dP] (r.2,()))}
theorem amH:aB (X4 (M.mX)):=bw (cx:=CY) true GK Tryz.func19 hq ⟨⟨[.str],[.el U.dP]⟩,fun x=>(x.1.1,x.2.1)⟩ (fun x=>by kernel_rfl)
def amI(y:Int×M.aR×(List UInt8)×(List UInt8)×(List M.aw)×(List M.aI)×(List M.aG)×(List M.aQ)){R:Type}(k:KT R):R:=match y with|a0=>kk k (Ex.exit 2) X5 (((),((),(a0.1,((),((),()))))),(a0.2.1,((),((a0.2.2.1,(a0.2.2.2.1,((),((),())))),((),((),((),(a0.2.2.2.2.1,(a0.2.2.2.2.2.1,(a0.2.2.2.2.2.2.1,(a0.2.2.2.2.2.2.2,())))))))))))
def amJ:List (cC K (Int×M.aR×(List UInt8)×(List UInt8)×(List M.aw)×(List M.aI)×(List M.aG)×(List M.aQ))):=[⟨(Ex.exit 2),X5,fun x=>(x.1.2.2.1,x.2.1,x.2.2.2.1.1,x.2.2.2.1.2.1,x.2.2.2.2.2.2.2.1,x.2.2.2.2.2.2.2.2.1,x.2.2.2.2.2.2.2.2.2.1,x.2.2.2.2.2.2.2.2.2.2.1)⟩]
def X6:bQ K:=bV D 0 134 6 [0,3,4,5,6,7] [0,3,4,5,6] X7 (fun x=>M.uF x.1.2.2.1 x.2.2.2.1.1 x.2.2.2.1.2.1 x.2.2.2.2.2.2.2.1 x.2.2.2.2.2.2.2.2.2.1 x.2.2.2.2.2.2.2.2.2.2.1 ae x.1.2.2.2.2.2.1 x.2.1 x.2.2.2.2.2.2.2.2.1) amI
def amK(y:Int×M.aR×(List UInt8)×(List UInt8)×(List UInt8)×(List M.aw)×(List M.aG)×(List M.aQ)×(List M.aO)){R:Type}(k:KT R):R:=match y with|a0=>kk k (Ex.exit 4) X8 (((),((),(a0.1,((),((),()))))),(a0.2.1,((),((a0.2.2.1,(a0.2.2.2.1,((),((),())))),((a0.2.2.2.2.1,((),())),((),((),((),(a0.2.2.2.2.2.1,(a0.2.2.2.2.2.2.1,(a0.2.2.2.2.2.2.2.1,(a0.2.2.2.2.2.2.2.2,()))))))))))))
def amL:List (cC K (Int×M.aR×(List UInt8)×(List UInt8)×(List UInt8)×(List M.aw)×(List M.aG)×(List M.aQ)×(List M.aO))):=[⟨(Ex.exit 4),X8,fun x=>(x.1.2.2.1,x.2.1,x.2.2.2.1.1,x.2.2.2.1.2.1,x.2.2.2.2.1.1,x.2.2.2.2.2.2.2.2.1,x.2.2.2.2.2.2.2.2.2.1,x.2.2.2.2.2.2.2.2.2.2.1,x.2.2.2.2.2.2.2.2.2.2.2.1)⟩]
def X9:bQ K:=bV D 0 134 7 [0,3,4,5,8,9] [0,3,4,5,8] Ya (fun x=>M.kB x.1.2.2.1 x.2.2.2.1.1 x.2.2.2.1.2.1 x.2.2.2.2.1.1 x.2.2.2.2.2.2.2.2.1 x.2.2.2.2.2.2.2.2.2.1 x.2.2.2.2.2.2.2.2.2.2.1 ae x.1.2.2.2.2.2.1 x.2.1 x.2.2.2.2.2.2.2.2.2.2.2.1) amK
def amM(y:(List UInt8)×Int×Int×(List M.aw)){R:Type}(k:KT R):R:=match y with|a0=>kk k (Ex.exit 0) Yb (((),()),((a0.1,(a0.2.1,(a0.2.2.1,()))),((),(a0.2.2.2,()))))
def amN:List (cC K ((List UInt8)×Int×Int×(List M.aw))):=[⟨(Ex.exit 0),Yb,fun x=>(x.2.1.1,x.2.1.2.1,x.2.1.2.2.1,x.2.2.2.1)⟩]
def Yc:bQ K:=bV D 0 134 2 [0,3,4] [3] Yd (fun x=>M.sg ae x.1.2.2.1 x.2.1 x.2.2.2.1) amM
def Ye(m:M.aR->Option ((List M.aw)×M.aR)):aM K:={f:=9,sh:=⟨[.ptr 0 0],[.el U.dP]⟩,R:=(List M.aw)×M.aR,run:=fun x=>m x.2.1,dflt:=default,out:=fun r=>(Sh.enc D (.ax U.bD) r.1,aU.encs D [.el U.dP] (r.2,()))}
def uN:Cx K:=bK [(18,.aZ),(19,.aZ),(20,.pass),(21,.aZ),(22,.aZ)] [CX M.dj,X4 M.mX,X1 M.yX,GI M.jg,Nc M.wk] [(8,X6),(17,X9),(3,Yc)]
theorem GR:ba uN:=bA aY _ (ah GH (ah amH (ah amF (ah M9 (ah XO aF)))))
theorem amO:bR uN (bC (bC (bP Tryz.f9) 0) 0) X6:=pR (cx:=uN) (sh:=X7) (run:=fun n x=>M.uF x.1.2.2.1 x.2.2.2.1.1 x.2.2.2.1.2.1 x.2.2.2.2.2.2.2.1 x.2.2.2.2.2.2.2.2.2.1 x.2.2.2.2.2.2.2.2.2.2.1 n x.1.2.2.2.2.2.1 x.2.1 x.2.2.2.2.2.2.2.2.1) (bU:=amJ) aY GR fg (ry (by kernel_rfl)) (fun _=>rfl) (fun m x=>by kernel_rfl) (ah ⟨cf,fun _ _ _=>rfl⟩ aF) 0 ae
theorem amP:bR uN (bC (bC (bP Tryz.f9) 0) 1) X9:=pR (cx:=uN) (sh:=Ya) (run:=fun n x=>M.kB x.1.2.2.1 x.2.2.2.1.1 x.2.2.2.1.2.1 x.2.2.2.2.1.1 x.2.2.2.2.2.2.2.2.1 x.2.2.2.2.2.2.2.2.2.1 x.2.2.2.2.2.2.2.2.2.2.1 n x.1.2.2.2.2.2.1 x.2.1 x.2.2.2.2.2.2.2.2.2.2.2.1) (bU:=amL) aY GR fg (ry (by kernel_rfl)) (fun _=>rfl) (fun m x=>by kernel_rfl) (ah ⟨cf,fun _ _ _=>rfl⟩ aF) 0 ae
theorem amQ:bR uN (bC (bP Tryz.f9) 0) Yc:=pR (cx:=uN) (sh:=Yd) (run:=fun n x=>M.sg n x.1.2.2.1 x.2.1 x.2.2.2.1) (bU:=amN) aY GR fg (ja 2 (by kernel_rfl) (lt_succ (jr (.mk (by kernel_rfl) amO)) (.mk (by kernel_rfl) amP))) (fun _=>rfl) (fun m x=>by kernel_rfl) (ah ⟨cf,fun _ _ _=>rfl⟩ aF) 0 ae
theorem amR:aB (Ye (M.Cf)):=bw (cx:=uN) true GR Tryz.func9 (hl1 amQ) ⟨⟨[.ax U.bD],[.el U.dP]⟩,fun x=>(x.1.1,x.2.1)⟩ (fun x=>by kernel_rfl)
def Yf(m:(List UInt8)->Option (M.aw)):aM K:={f:=4,sh:=⟨[.ax U.u8],[]⟩,R:=M.aw,run:=fun x=>m x.1.1,dflt:=default,out:=fun r=>(Sh.enc D (.el U.bD) r,aU.encs D [] ())}
def Yg:Cx K:=bK [(10,.jA),(9,.aZ),(11,.plain)] [X2 M.X3,Ye M.Cf,XD M.rT] []
theorem amS:ba Yg:=bA aY _ (ah amG (ah amR (ah ama aF)))
theorem amT:aB (Yf (M.Ci)):=bw (cx:=Yg) true amS Tryz.func4 hq ⟨qF,fun x=>x.1.1⟩ (fun x=>by kernel_rfl)
def Yh(m:(List UInt8)->Option Bool):aM K:=cB 3 ⟨[.ax U.u8],[]⟩ (fun x=>m x.1.1)
def Yi:Cx K:=bK [(4,.jB),(5,.plain),(6,.jB),(7,.plain),(8,.plain)] [Yf M.Ci,XH M.Cm,M1 M.nQ,M3 M.nW,XF M.yY] []
theorem amU:ba Yi:=bA aY _ (ah amT (ah amd (ah W9 (ah Xb (ah amc aF)))))
theorem amV:aB (Yh (M.Cj)):=bw (cx:=Yi) true amU Tryz.func3 hq ⟨zs0,fun x=>x.1.1⟩ (fun x=>by kernel_rfl)
