/-
  Part of the proof of the claim.
-/
import Derived.Test.YtfeedngnaochdaaGreatDoorXZ2Ca
import Derived.Test.YtfeedngnaochdaaGreatDoorXZ2M
import Derived.Test.YtfeedngnaochdaaGreatDoorXXHdA
import Derived.Test.YtfeedngnaochdaaGreatDoorXXHdI
import Derived.Test.YtfeedngnaochdaaGreatDoorXXHdV
import Derived.Test.YtfeedngnaochdaaGreatDoorXWgD
import Derived.Test.YtfeedngnaochdaaGreatDoorProg
set_option linter.unusedVariables false
set_option maxRecDepth 100000
open Go Go.Proofs
open Go.V
noncomputable section
theorem abX:aZ NI:=bm aQ _ (ah abY (ah abZ (ah wd (ah ab1 aI))))
theorem ab2:aJ (NJ (M.sH)):=bj (cx:=NI) true abX Tryz.func9 hq ⟨NK,fun x=>(x.1.1.1,x.1.1.2.1,x.1.1.2.2.1)⟩ (fun x=>by kernel_rfl)
def NL(m:(List UInt8)->Option (M.bf×Int×Int)):aP K:={f:=4,sh:=zs2,R:=M.bf×Int×Int,run:=fun x=>m x.1.1,dflt:=default,out:=fun r=>(Sh.enc D (.bk [.el U.dw,iq0,iq0]) (r.1,(r.2.1,(r.2.2,()))),aR.encs D [] ())}
def NM:Cx K:=bS [(9,.kZ)] [NJ M.sH] []
theorem ab3:aZ NM:=bm aQ _ (ah ab2 aI)
theorem ab4:aJ (NL (M.ym)):=bj (cx:=NM) true ab3 Tryz.func4 hq ⟨NK,fun x=>(x.1.1.1,x.1.1.2.1,x.1.1.2.2.1)⟩ (fun x=>by kernel_rfl)
def mP(m:M.aa->M.aa->Option Bool):aP K:=cB 124 ⟨[.el U.Term,.el U.Term],[]⟩ (fun x=>m x.1.1 x.1.2.1)
def NN(dS:M.aa->M.aa->Option Bool):bZ K:=cr D false 27 0 [0,1,5] [4] NP (fun x=>M.tO dS x.1.1 x.1.2.1 ai x.1.2.2.1) mQ
def NQ(m:(List M.aa)->(List M.aa)->Option Bool):aP K:=cB 153 ⟨[.ax U.Term,.ax U.Term],[]⟩ (fun x=>m x.1.1 x.1.2.1)
def BD(dS:M.aa->M.aa->Option Bool):Cx K:=bS [(124,.plain)] [mP dS] [(4,NN dS)]
theorem NR(dS:M.aa->M.aa->Option Bool)(nN:aJ (mP dS)):aZ (BD dS):=bm aQ _ (ah nN aI)
theorem ab5(dS:M.aa->M.aa->Option Bool)(nN:aJ (mP dS)):b9 (BD dS) (bR (bX Tryz.f153) 0) (NN dS):=lk (cx:=BD dS) (sh:=NP) (run:=fun n x=>M.tO dS x.1.1 x.1.2.1 n x.1.2.2.1) (cg:=mR) (NR dS nN) (fun m x=>by kernel_rfl) (ah ⟨ee,fun _ _ _=>rfl⟩ (ah ⟨cw,fun _ _ _=>rfl⟩ aI))
theorem ab6(dS:M.aa->M.aa->Option Bool)(nN:aJ (mP dS)):aJ (NQ (M.y8 dS)):=jC (cx:=BD dS) (fz:=true) aQ (NR dS nN) dT ⟨Tryz.func153,by kernel_rfl⟩ (hl1 (ab5 dS nN)) ⟨zs0,fun x=>x.1.1⟩ (fun x=>rfl) (fun x=>by kernel_rfl)
def NS(dS:M.aa->M.aa->Option Bool):Cx K:=bS [(152,.plain),(153,.plain)] [NT M.y9,NQ (M.y8 dS)] []
theorem ab7(dS:M.aa->M.aa->Option Bool)(nN:aJ (mP dS)):aZ (NS dS):=bm aQ _ (ah ab8 (ah (ab6 dS nN) aI))
theorem ab9(dS:M.aa->M.aa->Option Bool)(nN:aJ (mP dS)):aJ (mP (M.BE dS)):=jC (cx:=NS dS) (fz:=true) aQ (ab7 dS nN) dT ⟨Tryz.func124,by kernel_rfl⟩ hq ⟨zs0,fun x=>x.1.1⟩ (fun x=>rfl) (fun x=>by kernel_rfl)
theorem NU:∀n,aJ (mP (M.tP n))|0=>vq fun _=>rfl|n+1=>ab9 (M.tP n) (NU n)
theorem NV:aJ (mP (M.we)):=NU ai
def NW(m:M.aA->M.aA->Option Bool):aP K:=cB 154 ⟨[.el U.df,.el U.df],[]⟩ (fun x=>m x.1.1 x.1.2.1)
def NY:Cx K:=bS [(124,.plain)] [mP M.we] []
theorem aca:aZ NY:=bm aQ _ (ah NV aI)
theorem acb:aJ (NW (M.za)):=bj (cx:=NY) true aca Tryz.func154 hq ⟨zs0,fun x=>x.1.1⟩ (fun x=>by kernel_rfl)
def NZ:bZ K:=cr D false 27 0 [0,1,5] [4] N1 (fun x=>M.tQ x.1.1 x.1.2.1 ai x.1.2.2.1) mQ
def N2(m:(List M.aA)->(List M.aA)->Option Bool):aP K:=cB 125 ⟨[.ax U.df,.ax U.df],[]⟩ (fun x=>m x.1.1 x.1.2.1)
def BF:Cx K:=bS [(154,.plain)] [NW M.za] [(4,NZ)]
theorem N3:aZ BF:=bm aQ _ (ah acb aI)
theorem acd:b9 BF (bR (bX Tryz.f125) 0) NZ:=lk (cx:=BF) (sh:=N1) (run:=fun n x=>M.tQ x.1.1 x.1.2.1 n x.1.2.2.1) (cg:=mR) N3 (fun m x=>by kernel_rfl) (ah ⟨ee,fun _ _ _=>rfl⟩ (ah ⟨cw,fun _ _ _=>rfl⟩ aI))
theorem ace:aJ (N2 (M.zb)):=bj (cx:=BF) true N3 Tryz.func125 (hl1 acd) ⟨zs0,fun x=>x.1.1⟩ (fun x=>by kernel_rfl)
def HD(m:M.bh->M.bh->Option Bool):aP K:=cB 126 ⟨[.el U.Path,.el U.Path],[]⟩ (fun x=>m x.1.1 x.1.2.1)
theorem N4:aJ (HD (M.tR)):=bj (cx:=iC) true iZ Tryz.func126 hq ⟨zs0,fun x=>x.1.1⟩ (fun x=>by kernel_rfl)
def N5(m:M.aH->M.aH->Option Bool):aP K:=cB 155 ⟨[.el U.du,.el U.du],[]⟩ (fun x=>m x.1.1 x.1.2.1)
theorem acf:aJ (N5 (M.zc)):=bj (cx:=iC) true iZ Tryz.func155 hq ⟨zs0,fun x=>x.1.1⟩ (fun x=>by kernel_rfl)
def N6:bZ K:=cr D false 27 0 [0,1,5] [4] N7 (fun x=>M.tU x.1.1 x.1.2.1 ai x.1.2.2.1) mQ
def N8(m:(List M.aH)->(List M.aH)->Option Bool):aP K:=cB 127 ⟨[.ax U.du,.ax U.du],[]⟩ (fun x=>m x.1.1 x.1.2.1)
def BG:Cx K:=bS [(155,.plain)] [N5 M.zc] [(4,N6)]
theorem N9:aZ BG:=bm aQ _ (ah acf aI)
theorem acg:b9 BG (bR (bX Tryz.f127) 0) N6:=lk (cx:=BG) (sh:=N7) (run:=fun n x=>M.tU x.1.1 x.1.2.1 n x.1.2.2.1) (cg:=mR) N9 (fun m x=>by kernel_rfl) (ah ⟨ee,fun _ _ _=>rfl⟩ (ah ⟨cw,fun _ _ _=>rfl⟩ aI))
theorem ach:aJ (N8 (M.zd)):=bj (cx:=BG) true N9 Tryz.func127 (hl1 acg) ⟨zs0,fun x=>x.1.1⟩ (fun x=>by kernel_rfl)
def Oa(m:M.ak->M.ak->Option Bool):aP K:=cB 98 ⟨[.el U.Item,.el U.Item],[]⟩ (fun x=>m x.1.1 x.1.2.1)
def Oc:Cx K:=bS [(124,.plain),(125,.plain),(126,.plain),(127,.plain)] [mP M.we,N2 M.zb,HD M.tR,N8 M.zd] []
theorem aci:aZ Oc:=bm aQ _ (ah NV (ah ace (ah N4 (ah ach aI))))
theorem acj:aJ (Oa (M.ze)):=bj (cx:=Oc) true aci Tryz.func98 hq ⟨zs0,fun x=>x.1.1⟩ (fun x=>by kernel_rfl)
def Oe:bZ K:=cr D false 27 0 [0,1,5] [4] Of (fun x=>M.tV x.1.1 x.1.2.1 ai x.1.2.2.1) mQ
def Og(m:(List M.ak)->(List M.ak)->Option Bool):aP K:=cB 61 ⟨[.ax U.Item,.ax U.Item],[]⟩ (fun x=>m x.1.1 x.1.2.1)
def BH:Cx K:=bS [(98,.plain)] [Oa M.ze] [(4,Oe)]
theorem Oh:aZ BH:=bm aQ _ (ah acj aI)
theorem ack:b9 BH (bR (bX Tryz.f61) 0) Oe:=lk (cx:=BH) (sh:=Of) (run:=fun n x=>M.tV x.1.1 x.1.2.1 n x.1.2.2.1) (cg:=mR) Oh (fun m x=>by kernel_rfl) (ah ⟨ee,fun _ _ _=>rfl⟩ (ah ⟨cw,fun _ _ _=>rfl⟩ aI))
theorem acm:aJ (Og (M.zf)):=bj (cx:=BH) true Oh Tryz.func61 (hl1 ack) ⟨zs0,fun x=>x.1.1⟩ (fun x=>by kernel_rfl)
def Oi(m:M.aC->M.aC->Option Bool):aP K:=cB 33 ⟨[.el U.cE,.el U.cE],[]⟩ (fun x=>m x.1.1 x.1.2.1)
def Oj:Cx K:=bS [(61,.plain)] [Og M.zf] []
theorem acn:aZ Oj:=bm aQ _ (ah acm aI)
theorem aco:aJ (Oi (M.zg)):=bj (cx:=Oj) true acn Tryz.func33 hq ⟨zs0,fun x=>x.1.1⟩ (fun x=>by kernel_rfl)
def Ol:bZ K:=cr D false 27 0 [0,1,5] [4] Om (fun x=>M.tX x.1.1 x.1.2.1 ai x.1.2.2.1) mQ
def On(m:(List M.aC)->(List M.aC)->Option Bool):aP K:=cB 14 ⟨[.ax U.cE,.ax U.cE],[]⟩ (fun x=>m x.1.1 x.1.2.1)
def BI:Cx K:=bS [(33,.plain)] [Oi M.zg] [(4,Ol)]
theorem Oo:aZ BI:=bm aQ _ (ah aco aI)
theorem acp:b9 BI (bR (bX Tryz.f14) 0) Ol:=lk (cx:=BI) (sh:=Om) (run:=fun n x=>M.tX x.1.1 x.1.2.1 n x.1.2.2.1) (cg:=mR) Oo (fun m x=>by kernel_rfl) (ah ⟨ee,fun _ _ _=>rfl⟩ (ah ⟨cw,fun _ _ _=>rfl⟩ aI))
theorem acr:aJ (On (M.zh)):=bj (cx:=BI) true Oo Tryz.func14 (hl1 acp) ⟨zs0,fun x=>x.1.1⟩ (fun x=>by kernel_rfl)
def Oq(m:M.aG->M.aG->Option Bool):aP K:=cB 99 ⟨[.el U.dR,.el U.dR],[]⟩ (fun x=>m x.1.1 x.1.2.1)
def Ot:Cx K:=bS [(126,.plain)] [HD M.tR] []
theorem acs:aZ Ot:=bm aQ _ (ah N4 aI)
theorem acu:aJ (Oq (M.zi)):=bj (cx:=Ot) true acs Tryz.func99 hq ⟨zs0,fun x=>x.1.1⟩ (fun x=>by kernel_rfl)
def Ou:bZ K:=cr D false 27 0 [0,1,5] [4] Ov (fun x=>M.tY x.1.1 x.1.2.1 ai x.1.2.2.1) mQ
def Ox(m:(List M.aG)->(List M.aG)->Option Bool):aP K:=cB 62 ⟨[.ax U.dR,.ax U.dR],[]⟩ (fun x=>m x.1.1 x.1.2.1)
def BJ:Cx K:=bS [(99,.plain)] [Oq M.zi] [(4,Ou)]
theorem Oy:aZ BJ:=bm aQ _ (ah acu aI)
theorem acv:b9 BJ (bR (bX Tryz.f62) 0) Ou:=lk (cx:=BJ) (sh:=Ov) (run:=fun n x=>M.tY x.1.1 x.1.2.1 n x.1.2.2.1) (cg:=mR) Oy (fun m x=>by kernel_rfl) (ah ⟨ee,fun _ _ _=>rfl⟩ (ah ⟨cw,fun _ _ _=>rfl⟩ aI))
theorem acw:aJ (Ox (M.zj)):=bj (cx:=BJ) true Oy Tryz.func62 (hl1 acv) ⟨zs0,fun x=>x.1.1⟩ (fun x=>by kernel_rfl)
def Oz(m:M.aL->M.aL->Option Bool):aP K:=cB 34 ⟨[.el U.cZ,.el U.cZ],[]⟩ (fun x=>m x.1.1 x.1.2.1)
def OA:Cx K:=bS [(62,.plain)] [Ox M.zj] []
theorem acx:aZ OA:=bm aQ _ (ah acw aI)
theorem acy:aJ (Oz (M.zk)):=bj (cx:=OA) true acx Tryz.func34 hq ⟨zs0,fun x=>x.1.1⟩ (fun x=>by kernel_rfl)
def OB:bZ K:=cr D false 27 0 [0,1,5] [4] OC (fun x=>M.tZ x.1.1 x.1.2.1 ai x.1.2.2.1) mQ
def OD(m:(List M.aL)->(List M.aL)->Option Bool):aP K:=cB 15 ⟨[.ax U.cZ,.ax U.cZ],[]⟩ (fun x=>m x.1.1 x.1.2.1)
def BK:Cx K:=bS [(34,.plain)] [Oz M.zk] [(4,OB)]
theorem OE:aZ BK:=bm aQ _ (ah acy aI)
theorem acz:b9 BK (bR (bX Tryz.f15) 0) OB:=lk (cx:=BK) (sh:=OC) (run:=fun n x=>M.tZ x.1.1 x.1.2.1 n x.1.2.2.1) (cg:=mR) OE (fun m x=>by kernel_rfl) (ah ⟨ee,fun _ _ _=>rfl⟩ (ah ⟨cw,fun _ _ _=>rfl⟩ aI))
theorem acA:aJ (OD (M.zl)):=bj (cx:=BK) true OE Tryz.func15 (hl1 acz) ⟨zs0,fun x=>x.1.1⟩ (fun x=>by kernel_rfl)
def OF(m:M.bf->M.bf->Option Bool):aP K:=cB 6 ⟨[.el U.dw,.el U.dw],[]⟩ (fun x=>m x.1.1 x.1.2.1)
def OG:Cx K:=bS [(14,.plain),(15,.plain)] [On M.zh,OD M.zl] []
theorem acB:aZ OG:=bm aQ _ (ah acr (ah acA aI))
theorem acC:aJ (OF (M.zm)):=bj (cx:=OG) true acB Tryz.func6 hq ⟨zs0,fun x=>x.1.1⟩ (fun x=>by kernel_rfl)
def fU(m:Int->M.ad->Option (Int×(List UInt8)×M.ad×(List (List UInt8))×(List M.aa))):aP K:={f:=92,sh:=⟨[.ptr 0 0,iq0],[.el U.parser]⟩,R:=Int×(List UInt8)×M.ad×(List (List UInt8))×(List M.aa),run:=fun x=>m x.1.2.1 x.2.1,dflt:=default,out:=fun r=>(Sh.enc D (.agg [iq0,.str,.own 1,.own 2]) (r.1,(r.2.1,((),((),())))),aR.encs D [.el U.parser,.arr U.str,.tree U.Term] (r.2.2.1,(r.2.2.2.1,(r.2.2.2.2,()))))}
def zn(m:Int->(List UInt8)->Int->(List (List UInt8))->(List M.aa)->(List M.ae)->Int->Bool->Option (Int×(List UInt8)×Int×(List M.ae)×Int×Bool×(List (List UInt8))×(List M.aa))):aP K:={f:=117,sh:=⟨[.ptr 0 0,.ptr 1 0,.ptr 2 0],[.box [iq0,.str,.own 3,.own 4],.box [.ptr 5 0],.box [iq0],.arr U.str,.tree U.Term,.box [.ax U.Token,iq0,.bool]]⟩,R:=Int×(List UInt8)×Int×(List M.ae)×Int×Bool×(List (List UInt8))×(List M.aa),run:=fun x=>m x.2.1.1 x.2.1.2.1 x.2.2.2.1.1 x.2.2.2.2.1 x.2.2.2.2.2.1 x.2.2.2.2.2.2.1.1 x.2.2.2.2.2.2.1.2.1 x.2.2.2.2.2.2.1.2.2.1,dflt:=default,out:=fun r=>(Sh.enc D (.bk []) (),aR.encs D [.box [iq0,.str,.own 6,.own 7],.box [.ptr 5 0],.box [iq0],.dead,.dead,.box [.ax U.Token,iq0,.bool],.arr U.str,.tree U.Term] ((r.1,(r.2.1,((),((),())))),(((),()),((r.2.2.1,()),((),((),((r.2.2.2.1,(r.2.2.2.2.1,(r.2.2.2.2.2.1,()))),(r.2.2.2.2.2.2.1,(r.2.2.2.2.2.2.2,())))))))))}
def OH(aN:Int->M.ad->Option (Int×(List UInt8)×M.ad×(List (List UInt8))×(List M.aa))):Cx K:={eE with mode:=ef .plain [(92,.aY)],fX:=[],deep:=fun c=>db (D.cells c (K.zero c)),mv:=true,call:=callOf D [fU aN],loop:=dP []}
theorem acD(aN:Int->M.ad->Option (Int×(List UInt8)×M.ad×(List (List UInt8))×(List M.aa)))(dX:aJ (fU aN)):aZ (OH aN):=bm aQ _ (ah dX aI)
theorem BL(aN:Int->M.ad->Option (Int×(List UInt8)×M.ad×(List (List UInt8))×(List M.aa)))(dX:aJ (fU aN)):aJ (zn (M.kS aN)):=jC (cx:=OH aN) (fz:=false) aQ (acD aN dX) dT ⟨Tryz.func117,by kernel_rfl⟩ hq ⟨⟨[.bk []],[.box [iq0,.str,.own 6,.own 7],.box [.ptr 5 0],.box [iq0],.dead,.dead,.box [.ax U.Token,iq0,.bool],.arr U.str,.tree U.Term]⟩,fun x=>(x.2.1.1,x.2.1.2.1,x.2.2.2.1.1,x.2.2.2.2.2.2.1.1,x.2.2.2.2.2.2.1.2.1,x.2.2.2.2.2.2.1.2.2.1,x.2.2.2.2.2.2.2.1,x.2.2.2.2.2.2.2.2.1)⟩ (fun x=>rfl) (fun x=>by kernel_rfl)
def acE(y:((List M.ae)×Int×Bool×Int×(List UInt8)×Int×(List (List UInt8))×(List M.aa))⊕((List M.ae)×Int×Bool×Int×(List UInt8)×Int×(List (List UInt8))×(List M.aa))){R:Type}(k:KT R):R:=match y with|.inl a0=>kk k Ex.ret BM ((),((a0.1,(a0.2.1,(a0.2.2.1,()))),((a0.2.2.2.1,(a0.2.2.2.2.1,((),((),())))),(((),()),((a0.2.2.2.2.2.1,()),((),((),(a0.2.2.2.2.2.2.1,(a0.2.2.2.2.2.2.2,())))))))))|.inr a1=>kk k (Ex.exit 0) BM ((),((a1.1,(a1.2.1,(a1.2.2.1,()))),((a1.2.2.2.1,(a1.2.2.2.2.1,((),((),())))),(((),()),((a1.2.2.2.2.2.1,()),((),((),(a1.2.2.2.2.2.2.1,(a1.2.2.2.2.2.2.2,())))))))))
def acF:List (dc K (((List M.ae)×Int×Bool×Int×(List UInt8)×Int×(List (List UInt8))×(List M.aa))⊕((List M.ae)×Int×Bool×Int×(List UInt8)×Int×(List (List UInt8))×(List M.aa)))):=[⟨Ex.ret,BM,fun x=>.inl (x.2.1.1,x.2.1.2.1,x.2.1.2.2.1,x.2.2.1.1,x.2.2.1.2.1,x.2.2.2.2.1.1,x.2.2.2.2.2.2.2.1,x.2.2.2.2.2.2.2.2.1)⟩,⟨(Ex.exit 0),BM,fun x=>.inr ((x.2.1.1,x.2.1.2.1,x.2.1.2.2.1,x.2.2.1.1,x.2.2.1.2.1,x.2.2.2.2.1.1,x.2.2.2.2.2.2.2.1,x.2.2.2.2.2.2.2.2.1))⟩]
def OI(aN:Int->M.ad->Option (Int×(List UInt8)×M.ad×(List (List UInt8))×(List M.aa))):bZ K:=cr D 0 30 6 [0,1,2,6] [] OJ (fun x=>M.vT aN x.1.2.1 ai x.1.2.2.2.1 x.2.1 x.2.2.1.1 x.2.2.1.2.1 x.2.2.2.2.1.1 x.2.2.2.2.2.2.2.1 x.2.2.2.2.2.2.2.2.1) acE
def OK(m:Int->M.ad->Int->(List UInt8)->Int->(List (List UInt8))->(List M.aa)->Option (M.ad×Int×(List UInt8)×Int×(List (List UInt8))×(List M.aa))):aP K:={f:=93,sh:=⟨[.ptr 0 0,iq0,.fn 117 [.ptr 1 0,.ptr 2 0,.ptr 3 0]],[.el U.parser,.box [iq0,.str,.own 4,.own 5],.box [.ptr 0 0],.box [iq0],.arr U.str,.tree U.Term]⟩,R:=M.ad×Int×(List UInt8)×Int×(List (List UInt8))×(List M.aa),run:=fun x=>m x.1.2.1 x.2.1 x.2.2.1.1 x.2.2.1.2.1 x.2.2.2.2.1.1 x.2.2.2.2.2.1 x.2.2.2.2.2.2.1,dflt:=default,out:=fun r=>(Sh.enc D (.bk []) (),aR.encs D [.el U.parser,.box [iq0,.str,.own 6,.own 7],.box [.ptr 0 0],.box [iq0],.dead,.dead,.arr U.str,.tree U.Term] (r.1,((r.2.1,(r.2.2.1,((),((),())))),(((),()),((r.2.2.2.1,()),((),((),(r.2.2.2.2.1,(r.2.2.2.2.2,())))))))))}
def BN(aN:Int->M.ad->Option (Int×(List UInt8)×M.ad×(List (List UInt8))×(List M.aa))):Cx K:={eE with mode:=ef .plain [(28,.aY),(117,.aY)],fX:=[],deep:=fun c=>db (D.cells c (K.zero c)),mv:=true,call:=callOf D [zn (M.kS aN),lD M.cJ],loop:=dP [(1,OI aN)]}
theorem OL(aN:Int->M.ad->Option (Int×(List UInt8)×M.ad×(List (List UInt8))×(List M.aa)))(dX:aJ (fU aN)):aZ (BN aN):=bm aQ _ (ah (BL aN dX) (ah lZ aI))
theorem acG(aN:Int->M.ad->Option (Int×(List UInt8)×M.ad×(List (List UInt8))×(List M.aa)))(dX:aJ (fU aN)):b9 (BN aN) (bR (bX Tryz.f93) 0) (OI aN):=fS (cx:=BN aN) (sh:=OJ) (run:=fun n x=>M.vT aN x.1.2.1 n x.1.2.2.2.1 x.2.1 x.2.2.1.1 x.2.2.1.2.1 x.2.2.2.2.1.1 x.2.2.2.2.2.2.2.1 x.2.2.2.2.2.2.2.2.1) (cg:=acF) aQ (OL aN dX) dT (fP (by kernel_rfl)) (fun _=>rfl) (fun m x=>by kernel_rfl) (ah ⟨ee,fun _ _ _=>rfl⟩ (ah ⟨cw,fun _ _ _=>rfl⟩ aI)) 0 ai
theorem acH(aN:Int->M.ad->Option (Int×(List UInt8)×M.ad×(List (List UInt8))×(List M.aa)))(dX:aJ (fU aN)):aJ (OK (M.yq aN)):=jC (cx:=BN aN) (fz:=false) aQ (OL aN dX) dT ⟨Tryz.func93,by kernel_rfl⟩ (hl1 (acG aN dX)) ⟨HE,fun x=>(x.2.1,x.2.2.1.1,x.2.2.1.2.1,x.2.2.2.2.1.1,x.2.2.2.2.2.2.2.1,x.2.2.2.2.2.2.2.2.1)⟩ (fun x=>rfl) (fun x=>by kernel_rfl)
def acI(y:Int×(List UInt8)×(List (List UInt8))×(List M.aa)){R:Type}(k:KT R):R:=match y with|a0=>kk k (Ex.exit 0) OM ((),((a0.1,(a0.2.1,((),((),())))),((),((),(a0.2.2.1,(a0.2.2.2,()))))))
def acJ:List (dc K (Int×(List UInt8)×(List (List UInt8))×(List M.aa))):=[⟨(Ex.exit 0),OM,fun x=>(x.2.1.1,x.2.1.2.1,x.2.2.2.2.1,x.2.2.2.2.2.1)⟩]
def ON:bZ K:=cr D 0 46 3 [1] [] OO (fun x=>M.nI x.2.1.1 x.2.1.2.1 x.2.2.2.2.1 ai x.2.2.2.2.2.1) acI
def OP(m:M.ad->Int->(List UInt8)->Int->(List (List UInt8))->(List M.aa)->Option (M.ad×Int×(List UInt8)×Int×(List (List UInt8))×(List M.aa))):aP K:={f:=118,sh:=OQ,R:=M.ad×Int×(List UInt8)×Int×(List (List UInt8))×(List M.aa),run:=fun x=>m x.2.1 x.2.2.1.1 x.2.2.1.2.1 x.2.2.2.2.1.1 x.2.2.2.2.2.1 x.2.2.2.2.2.2.1,dflt:=default,out:=fun r=>(Sh.enc D (.bk []) (),aR.encs D [.el U.parser,.box [iq0,.str,.own 6,.own 7],.box [.ptr 0 0],.box [iq0],.dead,.dead,.arr U.str,.tree U.Term] (r.1,((r.2.1,(r.2.2.1,((),((),())))),(((),()),((r.2.2.2.1,()),((),((),(r.2.2.2.2.1,(r.2.2.2.2.2,())))))))))}
def BO(aN:Int->M.ad->Option (Int×(List UInt8)×M.ad×(List (List UInt8))×(List M.aa))):Cx K:={eE with mode:=ef .plain [(28,.aY),(25,.aY),(117,.aY)],fX:=[],deep:=fun c=>db (D.cells c (K.zero c)),mv:=true,call:=callOf D [lD M.cJ,zn (M.kS aN),nO M.bF],loop:=dP [(7,ON)]}
theorem OR(aN:Int->M.ad->Option (Int×(List UInt8)×M.ad×(List (List UInt8))×(List M.aa)))(dX:aJ (fU aN)):aZ (BO aN):=bm aQ _ (ah lZ (ah (BL aN dX) (ah pC aI)))
theorem acK(aN:Int->M.ad->Option (Int×(List UInt8)×M.ad×(List (List UInt8))×(List M.aa)))(dX:aJ (fU aN)):b9 (BO aN) (bR (bX Tryz.f118) 0) ON:=fS (cx:=BO aN) (sh:=OO) (run:=fun n x=>M.nI x.2.1.1 x.2.1.2.1 x.2.2.2.2.1 n x.2.2.2.2.2.1) (cg:=acJ) aQ (OR aN dX) dT (fP (by kernel_rfl)) (fun _=>rfl) (fun m x=>by kernel_rfl) (ah ⟨cw,fun _ _ _=>rfl⟩ aI) 0 ai
theorem acL(aN:Int->M.ad->Option (Int×(List UInt8)×M.ad×(List (List UInt8))×(List M.aa)))(dX:aJ (fU aN)):aJ (OP (M.yn aN)):=jC (cx:=BO aN) (fz:=false) aQ (OR aN dX) dT ⟨Tryz.func118,by kernel_rfl⟩ (hl1 (acK aN dX)) ⟨HE,fun x=>(x.2.1,x.2.2.1.1,x.2.2.1.2.1,x.2.2.2.2.1.1,x.2.2.2.2.2.2.2.1,x.2.2.2.2.2.2.2.2.1)⟩ (fun x=>rfl) (fun x=>by kernel_rfl)
def OS(m:M.ad->Int->(List UInt8)->Int->(List (List UInt8))->(List M.aa)->Option (M.ad×Int×(List UInt8)×Int×(List (List UInt8))×(List M.aa))):aP K:={f:=120,sh:=OQ,R:=M.ad×Int×(List UInt8)×Int×(List (List UInt8))×(List M.aa),run:=fun x=>m x.2.1 x.2.2.1.1 x.2.2.1.2.1 x.2.2.2.2.1.1 x.2.2.2.2.2.1 x.2.2.2.2.2.2.1,dflt:=default,out:=fun r=>(Sh.enc D (.bk []) (),aR.encs D [.el U.parser,.box [iq0,.str,.own 6,.own 7],.box [.ptr 0 0],.box [iq0],.dead,.dead,.arr U.str,.tree U.Term] (r.1,((r.2.1,(r.2.2.1,((),((),())))),(((),()),((r.2.2.2.1,()),((),((),(r.2.2.2.2.1,(r.2.2.2.2.2,())))))))))}
def OT(aN:Int->M.ad->Option (Int×(List UInt8)×M.ad×(List (List UInt8))×(List M.aa))):Cx K:={eE with mode:=ef .plain [(26,.aY),(25,.aY),(28,.aY),(117,.aY)],fX:=[],deep:=fun c=>db (D.cells c (K.zero c)),mv:=true,call:=callOf D [pD M.ek,nO M.bF,zn (M.kS aN),lD M.cJ],loop:=dP []}
theorem acM(aN:Int->M.ad->Option (Int×(List UInt8)×M.ad×(List (List UInt8))×(List M.aa)))(dX:aJ (fU aN)):aZ (OT aN):=bm aQ _ (ah qW (ah pC (ah (BL aN dX) (ah lZ aI))))
theorem acN(aN:Int->M.ad->Option (Int×(List UInt8)×M.ad×(List (List UInt8))×(List M.aa)))(dX:aJ (fU aN)):aJ (OS (M.yo aN)):=jC (cx:=OT aN) (fz:=false) aQ (acM aN dX) dT ⟨Tryz.func120,by kernel_rfl⟩ hq ⟨HE,fun x=>(x.2.1,x.2.2.1.1,x.2.2.1.2.1,x.2.2.2.2.1.1,x.2.2.2.2.2.2.2.1,x.2.2.2.2.2.2.2.2.1)⟩ (fun x=>rfl) (fun x=>by kernel_rfl)
def OU(m:Int->(List UInt8)->(List M.ae)->Int->Bool->(List (List UInt8))->(List M.aa)->Int->Option (Int×(List UInt8)×(List M.ae)×Int×Bool×Int×(List (List UInt8))×(List M.aa))):aP K:={f:=119,sh:=⟨[.ptr 0 0,.ptr 1 0,.ptr 2 0],[.box [.ptr 3 0],.box [iq0,.str,.own 4,.own 5],.box [.fn 117 [.ptr 1 0,.ptr 0 0,.ptr 6 0]],.box [.ax U.Token,iq0,.bool],.arr U.str,.tree U.Term,.box [iq0]]⟩,R:=Int×(List UInt8)×(List M.ae)×Int×Bool×Int×(List (List UInt8))×(List M.aa),run:=fun x=>m x.2.2.1.1 x.2.2.1.2.1 x.2.2.2.2.1.1 x.2.2.2.2.1.2.1 x.2.2.2.2.1.2.2.1 x.2.2.2.2.2.1 x.2.2.2.2.2.2.1 x.2.2.2.2.2.2.2.1.1,dflt:=default,out:=fun r=>(Sh.enc D (.bk []) (),aR.encs D [.box [.ptr 3 0],.box [iq0,.str,.own 7,.own 8],.box [.fn 117 [.ptr 1 0,.ptr 0 0,.ptr 6 0]],.box [.ax U.Token,iq0,.bool],.dead,.dead,.box [iq0],.arr U.str,.tree U.Term] (((),()),((r.1,(r.2.1,((),((),())))),((((),((),((),()))),()),((r.2.2.1,(r.2.2.2.1,(r.2.2.2.2.1,()))),((),((),((r.2.2.2.2.2.1,()),(r.2.2.2.2.2.2.1,(r.2.2.2.2.2.2.2,()))))))))))}
def OV(aN:Int->M.ad->Option (Int×(List UInt8)×M.ad×(List (List UInt8))×(List M.aa))):Cx K:={eE with mode:=ef .plain [(120,.aY)],fX:=[],deep:=fun c=>db (D.cells c (K.zero c)),mv:=true,call:=callOf D [OS (M.yo aN)],loop:=dP []}
theorem acO(aN:Int->M.ad->Option (Int×(List UInt8)×M.ad×(List (List UInt8))×(List M.aa)))(dX:aJ (fU aN)):aZ (OV aN):=bm aQ _ (ah (acN aN dX) aI)
theorem acP(aN:Int->M.ad->Option (Int×(List UInt8)×M.ad×(List (List UInt8))×(List M.aa)))(dX:aJ (fU aN)):aJ (OU (M.yp aN)):=jC (cx:=OV aN) (fz:=false) aQ (acO aN dX) dT ⟨Tryz.func119,by kernel_rfl⟩ hq ⟨⟨[.bk []],[.box [.ptr 3 0],.box [iq0,.str,.own 7,.own 8],.box [.fn 117 [.ptr 1 0,.ptr 0 0,.ptr 6 0]],.box [.ax U.Token,iq0,.bool],.dead,.dead,.box [iq0],.arr U.str,.tree U.Term]⟩,fun x=>(x.2.2.1.1,x.2.2.1.2.1,x.2.2.2.2.1.1,x.2.2.2.2.1.2.1,x.2.2.2.2.1.2.2.1,x.2.2.2.2.2.2.2.1.1,x.2.2.2.2.2.2.2.2.1,x.2.2.2.2.2.2.2.2.2.1)⟩ (fun x=>rfl) (fun x=>by kernel_rfl)
def acQ(y:((List M.ae)×Int×Bool×Int×(List UInt8)×Int×(List (List UInt8))×(List M.aa))⊕((List M.ae)×Int×Bool×Int×(List UInt8)×Int×(List (List UInt8))×(List M.aa))){R:Type}(k:KT R):R:=match y with|.inl a0=>kk k Ex.ret BP ((),((a0.1,(a0.2.1,(a0.2.2.1,()))),(((),()),((a0.2.2.2.1,(a0.2.2.2.2.1,((),((),())))),((((),((),((),()))),()),((),((),((a0.2.2.2.2.2.1,()),(a0.2.2.2.2.2.2.1,(a0.2.2.2.2.2.2.2,()))))))))))|.inr a1=>kk k (Ex.exit 0) BP ((),((a1.1,(a1.2.1,(a1.2.2.1,()))),(((),()),((a1.2.2.2.1,(a1.2.2.2.2.1,((),((),())))),((((),((),((),()))),()),((),((),((a1.2.2.2.2.2.1,()),(a1.2.2.2.2.2.2.1,(a1.2.2.2.2.2.2.2,()))))))))))
def acR:List (dc K (((List M.ae)×Int×Bool×Int×(List UInt8)×Int×(List (List UInt8))×(List M.aa))⊕((List M.ae)×Int×Bool×Int×(List UInt8)×Int×(List (List UInt8))×(List M.aa)))):=[⟨Ex.ret,BP,fun x=>.inl (x.2.1.1,x.2.1.2.1,x.2.1.2.2.1,x.2.2.2.1.1,x.2.2.2.1.2.1,x.2.2.2.2.2.2.2.1.1,x.2.2.2.2.2.2.2.2.1,x.2.2.2.2.2.2.2.2.2.1)⟩,⟨(Ex.exit 0),BP,fun x=>.inr ((x.2.1.1,x.2.1.2.1,x.2.1.2.2.1,x.2.2.2.1.1,x.2.2.2.1.2.1,x.2.2.2.2.2.2.2.1.1,x.2.2.2.2.2.2.2.2.1,x.2.2.2.2.2.2.2.2.2.1))⟩]
def OW(aN:Int->M.ad->Option (Int×(List UInt8)×M.ad×(List (List UInt8))×(List M.aa))):bZ K:=cr D 0 30 7 [0,1,2,6] [] OX (fun x=>M.vU aN x.1.2.1 ai x.1.2.2.2.1 x.2.1 x.2.2.2.1.1 x.2.2.2.1.2.1 x.2.2.2.2.2.2.2.1.1 x.2.2.2.2.2.2.2.2.1 x.2.2.2.2.2.2.2.2.2.1) acQ
def OY(m:Int->M.ad->Int->(List UInt8)->(List (List UInt8))->(List M.aa)->Int->Option (M.ad×Int×(List UInt8)×Int×(List (List UInt8))×(List M.aa))):aP K:={f:=93,sh:=⟨[.ptr 0 0,iq0,.fn 119 [.ptr 1 0,.ptr 2 0,.ptr 3 0]],[.el U.parser,.box [.ptr 0 0],.box [iq0,.str,.own 4,.own 5],.box [.fn 117 [.ptr 2 0,.ptr 1 0,.ptr 6 0]],.arr U.str,.tree U.Term,.box [iq0]]⟩,R:=M.ad×Int×(List UInt8)×Int×(List (List UInt8))×(List M.aa),run:=fun x=>m x.1.2.1 x.2.1 x.2.2.2.1.1 x.2.2.2.1.2.1 x.2.2.2.2.2.1 x.2.2.2.2.2.2.1 x.2.2.2.2.2.2.2.1.1,dflt:=default,out:=fun r=>(Sh.enc D (.bk []) (),aR.encs D [.el U.parser,.box [.ptr 0 0],.box [iq0,.str,.own 7,.own 8],.box [.fn 117 [.ptr 2 0,.ptr 1 0,.ptr 6 0]],.dead,.dead,.box [iq0],.arr U.str,.tree U.Term] (r.1,(((),()),((r.2.1,(r.2.2.1,((),((),())))),((((),((),((),()))),()),((),((),((r.2.2.2.1,()),(r.2.2.2.2.1,(r.2.2.2.2.2,()))))))))))}
def BQ(aN:Int->M.ad->Option (Int×(List UInt8)×M.ad×(List (List UInt8))×(List M.aa))):Cx K:={eE with mode:=ef .plain [(28,.aY),(119,.aY)],fX:=[],deep:=fun c=>db (D.cells c (K.zero c)),mv:=true,call:=callOf D [OU (M.yp aN),lD M.cJ],loop:=dP [(1,OW aN)]}
theorem OZ(aN:Int->M.ad->Option (Int×(List UInt8)×M.ad×(List (List UInt8))×(List M.aa)))(dX:aJ (fU aN)):aZ (BQ aN):=bm aQ _ (ah (acP aN dX) (ah lZ aI))
theorem acS(aN:Int->M.ad->Option (Int×(List UInt8)×M.ad×(List (List UInt8))×(List M.aa)))(dX:aJ (fU aN)):b9 (BQ aN) (bR (bX Tryz.f93) 0) (OW aN):=fS (cx:=BQ aN) (sh:=OX) (run:=fun n x=>M.vU aN x.1.2.1 n x.1.2.2.2.1 x.2.1 x.2.2.2.1.1 x.2.2.2.1.2.1 x.2.2.2.2.2.2.2.1.1 x.2.2.2.2.2.2.2.2.1 x.2.2.2.2.2.2.2.2.2.1) (cg:=acR) aQ (OZ aN dX) dT (fP (by kernel_rfl)) (fun _=>rfl) (fun m x=>by kernel_rfl) (ah ⟨ee,fun _ _ _=>rfl⟩ (ah ⟨cw,fun _ _ _=>rfl⟩ aI)) 0 ai
theorem acT(aN:Int->M.ad->Option (Int×(List UInt8)×M.ad×(List (List UInt8))×(List M.aa)))(dX:aJ (fU aN)):aJ (OY (M.yt aN)):=jC (cx:=BQ aN) (fz:=false) aQ (OZ aN dX) dT ⟨Tryz.func93,by kernel_rfl⟩ (hl1 (acS aN dX)) ⟨⟨[.bk []],[.el U.parser,.box [.ptr 0 0],.box [iq0,.str,.own 7,.own 8],.box [.fn 117 [.ptr 2 0,.ptr 1 0,.ptr 6 0]],.dead,.dead,.box [iq0],.arr U.str,.tree U.Term]⟩,fun x=>(x.2.1,x.2.2.2.1.1,x.2.2.2.1.2.1,x.2.2.2.2.2.2.2.1.1,x.2.2.2.2.2.2.2.2.1,x.2.2.2.2.2.2.2.2.2.1)⟩ (fun x=>rfl) (fun x=>by kernel_rfl)
def O0(aN:Int->M.ad->Option (Int×(List UInt8)×M.ad×(List (List UInt8))×(List M.aa))):Cx K:={eE with mode:=ef .plain [(26,.aY),(114,.plain),(116,.kZ),(115,.plain),(25,.aY),(93,.aY),(91,.aY),(118,.aY),(117,.aY)],fX:=[[none,none,some U.str,some U.Term]],deep:=fun c=>db (D.cells c (K.zero c)),call:=callOf D [pD M.ek,HG M.mX,HH M.gj,HJ M.pO,nO M.bF,zn (M.kS aN),OK (M.yq aN),BR M.ja,OP (M.yn aN),OY (M.yt aN)],loop:=dP []}
theorem acU(aN:Int->M.ad->Option (Int×(List UInt8)×M.ad×(List (List UInt8))×(List M.aa)))(dX:aJ (fU aN)):aZ (O0 aN):=bm aQ _ (ah qW (ah O1 (ah O2 (ah O3 (ah pC (ah (BL aN dX) (ah (acH aN dX) (ah HK (ah (acL aN dX) (ah (acT aN dX) aI))))))))))
theorem acV(aN:Int->M.ad->Option (Int×(List UInt8)×M.ad×(List (List UInt8))×(List M.aa)))(dX:aJ (fU aN)):aJ (fU (M.yu aN)):=jC (cx:=O0 aN) (fz:=false) aQ (acU aN dX) dT ⟨Tryz.func92,by kernel_rfl⟩ hq ⟨⟨[.agg [iq0,.str,.own 1,.own 2]],[.el U.parser,.arr U.str,.tree U.Term]⟩,fun x=>(x.1.1.1,x.1.1.2.1,x.2.1,x.2.2.1,x.2.2.2.1)⟩ (fun x=>rfl) (fun x=>by kernel_rfl)
theorem O4:∀n,aJ (fU (M.sM n))|0=>vq fun _=>rfl|n+1=>acV (M.sM n) (O4 n)
theorem HL:aJ (fU (M.pv)):=O4 ai
def O5(m:Int->(List UInt8)->Int->(List UInt8)->Bool->(List UInt8)->(List UInt8)->(List UInt8)->(List M.ae)->Int->Bool->(List (List UInt8))->(List M.aa)->(List M.aA)->(List M.aH)->Option (Int×(List UInt8)×Int×(List UInt8)×Bool×(List UInt8)×(List UInt8)×(List UInt8)×(List M.ae)×Int×Bool×(List (List UInt8))×(List M.aa)×(List M.aA)×(List M.aH))):aP K:={f:=112,sh:=O6,R:=Int×(List UInt8)×Int×(List UInt8)×Bool×(List UInt8)×(List UInt8)×(List UInt8)×(List M.ae)×Int×Bool×(List (List UInt8))×(List M.aa)×(List M.aA)×(List M.aH),run:=fun x=>m x.2.2.1.1 x.2.2.1.2.1 x.2.2.1.2.2.1 x.2.2.1.2.2.2.1 x.2.2.1.2.2.2.2.2.2.2.1 x.2.2.1.2.2.2.2.2.2.2.2.1 x.2.2.1.2.2.2.2.2.2.2.2.2.1 x.2.2.1.2.2.2.2.2.2.2.2.2.2.1 x.2.2.2.1.1 x.2.2.2.1.2.1 x.2.2.2.1.2.2.1 x.2.2.2.2.1 x.2.2.2.2.2.1 x.2.2.2.2.2.2.1 x.2.2.2.2.2.2.2.1,dflt:=default,out:=fun r=>(Sh.enc D (.bk []) (),aR.encs D [.box [.ptr 2 0],.box [iq0,.str,iq0,.str,.own 7,.own 8,.own 9,.bool,.str,.str,.str,.own 10],.box [.ax U.Token,iq0,.bool],.dead,.dead,.dead,.dead,.arr U.str,.tree U.Term,.tree U.df,.arr U.du] (((),()),((r.1,(r.2.1,(r.2.2.1,(r.2.2.2.1,((),((),((),(r.2.2.2.2.1,(r.2.2.2.2.2.1,(r.2.2.2.2.2.2.1,(r.2.2.2.2.2.2.2.1,((),())))))))))))),((r.2.2.2.2.2.2.2.2.1,(r.2.2.2.2.2.2.2.2.2.1,(r.2.2.2.2.2.2.2.2.2.2.1,()))),((),((),((),((),(r.2.2.2.2.2.2.2.2.2.2.2.1,(r.2.2.2.2.2.2.2.2.2.2.2.2.1,(r.2.2.2.2.2.2.2.2.2.2.2.2.2.1,(r.2.2.2.2.2.2.2.2.2.2.2.2.2.2,()))))))))))))}
def O7:Cx K:={eE with mode:=ef .plain [(26,.aY),(25,.aY),(92,.aY)],fX:=[],deep:=fun c=>db (D.cells c (K.zero c)),mv:=true,call:=callOf D [pD M.ek,nO M.bF,fU M.pv],loop:=dP []}
theorem acW:aZ O7:=bm aQ _ (ah qW (ah pC (ah HL aI)))
theorem acX:aJ (O5 (M.yv)):=bj (cx:=O7) false acW Tryz.func112 hq ⟨O8,fun x=>(x.2.2.1.1,x.2.2.1.2.1,x.2.2.1.2.2.1,x.2.2.1.2.2.2.1,x.2.2.1.2.2.2.2.2.2.2.1,x.2.2.1.2.2.2.2.2.2.2.2.1,x.2.2.1.2.2.2.2.2.2.2.2.2.1,x.2.2.1.2.2.2.2.2.2.2.2.2.2.1,x.2.2.2.1.1,x.2.2.2.1.2.1,x.2.2.2.1.2.2.1,x.2.2.2.2.2.2.2.2.1,x.2.2.2.2.2.2.2.2.2.1,x.2.2.2.2.2.2.2.2.2.2.1,x.2.2.2.2.2.2.2.2.2.2.2.1)⟩ (fun x=>by kernel_rfl)
def O9(y:((List M.ae)×Int×Bool×Int×(List UInt8)×Int×(List UInt8)×Bool×(List UInt8)×(List UInt8)×(List UInt8)×(List (List UInt8))×(List M.aa)×(List M.aA)×(List M.aH))⊕((List M.ae)×Int×Bool×Int×(List UInt8)×Int×(List UInt8)×Bool×(List UInt8)×(List UInt8)×(List UInt8)×(List (List UInt8))×(List M.aa)×(List M.aA)×(List M.aH))){R:Type}(k:KT R):R:=match y with|.inl a0=>kk k Ex.ret BS ((),((a0.1,(a0.2.1,(a0.2.2.1,()))),(((),()),((a0.2.2.2.1,(a0.2.2.2.2.1,(a0.2.2.2.2.2.1,(a0.2.2.2.2.2.2.1,((),((),((),(a0.2.2.2.2.2.2.2.1,(a0.2.2.2.2.2.2.2.2.1,(a0.2.2.2.2.2.2.2.2.2.1,(a0.2.2.2.2.2.2.2.2.2.2.1,((),())))))))))))),((),((),((),((),(a0.2.2.2.2.2.2.2.2.2.2.2.1,(a0.2.2.2.2.2.2.2.2.2.2.2.2.1,(a0.2.2.2.2.2.2.2.2.2.2.2.2.2.1,(a0.2.2.2.2.2.2.2.2.2.2.2.2.2.2,()))))))))))))|.inr a1=>kk k (Ex.exit 0) BS ((),((a1.1,(a1.2.1,(a1.2.2.1,()))),(((),()),((a1.2.2.2.1,(a1.2.2.2.2.1,(a1.2.2.2.2.2.1,(a1.2.2.2.2.2.2.1,((),((),((),(a1.2.2.2.2.2.2.2.1,(a1.2.2.2.2.2.2.2.2.1,(a1.2.2.2.2.2.2.2.2.2.1,(a1.2.2.2.2.2.2.2.2.2.2.1,((),())))))))))))),((),((),((),((),(a1.2.2.2.2.2.2.2.2.2.2.2.1,(a1.2.2.2.2.2.2.2.2.2.2.2.2.1,(a1.2.2.2.2.2.2.2.2.2.2.2.2.2.1,(a1.2.2.2.2.2.2.2.2.2.2.2.2.2.2,()))))))))))))
def Pe:List (dc K (((List M.ae)×Int×Bool×Int×(List UInt8)×Int×(List UInt8)×Bool×(List UInt8)×(List UInt8)×(List UInt8)×(List (List UInt8))×(List M.aa)×(List M.aA)×(List M.aH))⊕((List M.ae)×Int×Bool×Int×(List UInt8)×Int×(List UInt8)×Bool×(List UInt8)×(List UInt8)×(List UInt8)×(List (List UInt8))×(List M.aa)×(List M.aA)×(List M.aH)))):=[⟨Ex.ret,BS,fun x=>.inl (x.2.1.1,x.2.1.2.1,x.2.1.2.2.1,x.2.2.2.1.1,x.2.2.2.1.2.1,x.2.2.2.1.2.2.1,x.2.2.2.1.2.2.2.1,x.2.2.2.1.2.2.2.2.2.2.2.1,x.2.2.2.1.2.2.2.2.2.2.2.2.1,x.2.2.2.1.2.2.2.2.2.2.2.2.2.1,x.2.2.2.1.2.2.2.2.2.2.2.2.2.2.1,x.2.2.2.2.2.2.2.2.1,x.2.2.2.2.2.2.2.2.2.1,x.2.2.2.2.2.2.2.2.2.2.1,x.2.2.2.2.2.2.2.2.2.2.2.1)⟩,⟨(Ex.exit 0),BS,fun x=>.inr ((x.2.1.1,x.2.1.2.1,x.2.1.2.2.1,x.2.2.2.1.1,x.2.2.2.1.2.1,x.2.2.2.1.2.2.1,x.2.2.2.1.2.2.2.1,x.2.2.2.1.2.2.2.2.2.2.2.1,x.2.2.2.1.2.2.2.2.2.2.2.2.1,x.2.2.2.1.2.2.2.2.2.2.2.2.2.1,x.2.2.2.1.2.2.2.2.2.2.2.2.2.2.1,x.2.2.2.2.2.2.2.2.1,x.2.2.2.2.2.2.2.2.2.1,x.2.2.2.2.2.2.2.2.2.2.1,x.2.2.2.2.2.2.2.2.2.2.2.1))⟩]
def Pg:bZ K:=cr D 0 30 7 [0,1,2,6] [] Ph (fun x=>M.vV x.1.2.1 ai x.1.2.2.2.1 x.2.1 x.2.2.2.1.1 x.2.2.2.1.2.1 x.2.2.2.1.2.2.1 x.2.2.2.1.2.2.2.1 x.2.2.2.1.2.2.2.2.2.2.2.1 x.2.2.2.1.2.2.2.2.2.2.2.2.1 x.2.2.2.1.2.2.2.2.2.2.2.2.2.1 x.2.2.2.1.2.2.2.2.2.2.2.2.2.2.1 x.2.2.2.2.2.2.2.2.1 x.2.2.2.2.2.2.2.2.2.1 x.2.2.2.2.2.2.2.2.2.2.1 x.2.2.2.2.2.2.2.2.2.2.2.1) O9
def Pj(m:Int->M.ad->Int->(List UInt8)->Int->(List UInt8)->Bool->(List UInt8)->(List UInt8)->(List UInt8)->(List (List UInt8))->(List M.aa)->(List M.aA)->(List M.aH)->Option (M.ad×Int×(List UInt8)×Int×(List UInt8)×Bool×(List UInt8)×(List UInt8)×(List UInt8)×(List (List UInt8))×(List M.aa)×(List M.aA)×(List M.aH))):aP K:={f:=93,sh:=⟨[.ptr 0 0,iq0,.fn 112 [.ptr 1 0,.ptr 2 0]],[.el U.parser,.box [.ptr 0 0],.box [iq0,.str,iq0,.str,.own 3,.own 4,.own 5,.bool,.str,.str,.str,.own 6],.arr U.str,.tree U.Term,.tree U.df,.arr U.du]⟩,R:=M.ad×Int×(List UInt8)×Int×(List UInt8)×Bool×(List UInt8)×(List UInt8)×(List UInt8)×(List (List UInt8))×(List M.aa)×(List M.aA)×(List M.aH),run:=fun x=>m x.1.2.1 x.2.1 x.2.2.2.1.1 x.2.2.2.1.2.1 x.2.2.2.1.2.2.1 x.2.2.2.1.2.2.2.1 x.2.2.2.1.2.2.2.2.2.2.2.1 x.2.2.2.1.2.2.2.2.2.2.2.2.1 x.2.2.2.1.2.2.2.2.2.2.2.2.2.1 x.2.2.2.1.2.2.2.2.2.2.2.2.2.2.1 x.2.2.2.2.1 x.2.2.2.2.2.1 x.2.2.2.2.2.2.1 x.2.2.2.2.2.2.2.1,dflt:=default,out:=fun r=>(Sh.enc D (.bk []) (),aR.encs D [.el U.parser,.box [.ptr 0 0],.box [iq0,.str,iq0,.str,.own 7,.own 8,.own 9,.bool,.str,.str,.str,.own 10],.dead,.dead,.dead,.dead,.arr U.str,.tree U.Term,.tree U.df,.arr U.du] (r.1,(((),()),((r.2.1,(r.2.2.1,(r.2.2.2.1,(r.2.2.2.2.1,((),((),((),(r.2.2.2.2.2.1,(r.2.2.2.2.2.2.1,(r.2.2.2.2.2.2.2.1,(r.2.2.2.2.2.2.2.2.1,((),())))))))))))),((),((),((),((),(r.2.2.2.2.2.2.2.2.2.1,(r.2.2.2.2.2.2.2.2.2.2.1,(r.2.2.2.2.2.2.2.2.2.2.2.1,(r.2.2.2.2.2.2.2.2.2.2.2.2,()))))))))))))}
def BU:Cx K:={eE with mode:=ef .plain [(28,.aY),(112,.aY)],fX:=[],deep:=fun c=>db (D.cells c (K.zero c)),mv:=true,call:=callOf D [O5 M.yv,lD M.cJ],loop:=dP [(1,Pg)]}
theorem Pl:aZ BU:=bm aQ _ (ah acX (ah lZ aI))
theorem acY:b9 BU (bR (bX Tryz.f93) 0) Pg:=fS (cx:=BU) (sh:=Ph) (run:=fun n x=>M.vV x.1.2.1 n x.1.2.2.2.1 x.2.1 x.2.2.2.1.1 x.2.2.2.1.2.1 x.2.2.2.1.2.2.1 x.2.2.2.1.2.2.2.1 x.2.2.2.1.2.2.2.2.2.2.2.1 x.2.2.2.1.2.2.2.2.2.2.2.2.1 x.2.2.2.1.2.2.2.2.2.2.2.2.2.1 x.2.2.2.1.2.2.2.2.2.2.2.2.2.2.1 x.2.2.2.2.2.2.2.2.1 x.2.2.2.2.2.2.2.2.2.1 x.2.2.2.2.2.2.2.2.2.2.1 x.2.2.2.2.2.2.2.2.2.2.2.1) (cg:=Pe) aQ Pl dT (fP (by kernel_rfl)) (fun _=>rfl) (fun m x=>by kernel_rfl) (ah ⟨ee,fun _ _ _=>rfl⟩ (ah ⟨cw,fun _ _ _=>rfl⟩ aI)) 0 ai
theorem acZ:aJ (Pj (M.yw)):=bj (cx:=BU) false Pl Tryz.func93 (hl1 acY) ⟨Pm,fun x=>(x.2.1,x.2.2.2.1.1,x.2.2.2.1.2.1,x.2.2.2.1.2.2.1,x.2.2.2.1.2.2.2.1,x.2.2.2.1.2.2.2.2.2.2.2.1,x.2.2.2.1.2.2.2.2.2.2.2.2.1,x.2.2.2.1.2.2.2.2.2.2.2.2.2.1,x.2.2.2.1.2.2.2.2.2.2.2.2.2.2.1,x.2.2.2.2.2.2.2.2.1,x.2.2.2.2.2.2.2.2.2.1,x.2.2.2.2.2.2.2.2.2.2.1,x.2.2.2.2.2.2.2.2.2.2.2.1)⟩ (fun x=>by kernel_rfl)
def Pn(m:(List UInt8)->M.ad->Option (Int×(List UInt8)×Int×(List UInt8)×Bool×(List UInt8)×(List UInt8)×(List UInt8)×M.ad×(List (List UInt8))×(List M.aa)×(List M.aA)×(List M.aH))):aP K:={f:=90,sh:=BV,R:=Int×(List UInt8)×Int×(List UInt8)×Bool×(List UInt8)×(List UInt8)×(List UInt8)×M.ad×(List (List UInt8))×(List M.aa)×(List M.aA)×(List M.aH),run:=fun x=>m x.1.2.1 x.2.1,dflt:=default,out:=fun r=>(Sh.enc D (.agg [iq0,.str,iq0,.str,.own 1,.own 2,.own 3,.bool,.str,.str,.str,.own 4]) (r.1,(r.2.1,(r.2.2.1,(r.2.2.2.1,((),((),((),(r.2.2.2.2.1,(r.2.2.2.2.2.1,(r.2.2.2.2.2.2.1,(r.2.2.2.2.2.2.2.1,((),())))))))))))),aR.encs D [.el U.parser,.arr U.str,.tree U.Term,.tree U.df,.arr U.du] (r.2.2.2.2.2.2.2.2.1,(r.2.2.2.2.2.2.2.2.2.1,(r.2.2.2.2.2.2.2.2.2.2.1,(r.2.2.2.2.2.2.2.2.2.2.2.1,(r.2.2.2.2.2.2.2.2.2.2.2.2,()))))))}
def Po:Cx K:={eE with mode:=ef .plain [(25,.aY),(28,.aY),(55,.aY),(93,.aY),(92,.aY)],fX:=[[none,none,none,none,some U.str,some U.Term,some U.df,none,none,none,none,some U.du]],deep:=fun c=>db (D.cells c (K.zero c)),call:=callOf D [nO M.bF,lD M.cJ,wh M.jb,Pj M.yw,fU M.pv],loop:=dP []}
theorem ac0:aZ Po:=bm aQ _ (ah pC (ah lZ (ah zo (ah acZ (ah HL aI)))))
theorem ac1:aJ (Pn (M.vX)):=bj (cx:=Po) false ac0 Tryz.func90 hq ⟨Pq,fun x=>(x.1.1.1,x.1.1.2.1,x.1.1.2.2.1,x.1.1.2.2.2.1,x.1.1.2.2.2.2.2.2.2.1,x.1.1.2.2.2.2.2.2.2.2.1,x.1.1.2.2.2.2.2.2.2.2.2.1,x.1.1.2.2.2.2.2.2.2.2.2.2.1,x.2.1,x.2.2.1,x.2.2.2.1,x.2.2.2.2.1,x.2.2.2.2.2.1)⟩ (fun x=>by kernel_rfl)
def Pv(m:Int->(List UInt8)->Int->(List UInt8)->Bool->(List UInt8)->(List UInt8)->(List UInt8)->(List M.ae)->Int->Bool->(List (List UInt8))->(List M.aa)->(List M.aA)->(List M.aH)->Option (Int×(List UInt8)×Int×(List UInt8)×Bool×(List UInt8)×(List UInt8)×(List UInt8)×(List M.ae)×Int×Bool×(List (List UInt8))×(List M.aa)×(List M.aA)×(List M.aH))):aP K:={f:=94,sh:=O6,R:=Int×(List UInt8)×Int×(List UInt8)×Bool×(List UInt8)×(List UInt8)×(List UInt8)×(List M.ae)×Int×Bool×(List (List UInt8))×(List M.aa)×(List M.aA)×(List M.aH),run:=fun x=>m x.2.2.1.1 x.2.2.1.2.1 x.2.2.1.2.2.1 x.2.2.1.2.2.2.1 x.2.2.1.2.2.2.2.2.2.2.1 x.2.2.1.2.2.2.2.2.2.2.2.1 x.2.2.1.2.2.2.2.2.2.2.2.2.1 x.2.2.1.2.2.2.2.2.2.2.2.2.2.1 x.2.2.2.1.1 x.2.2.2.1.2.1 x.2.2.2.1.2.2.1 x.2.2.2.2.1 x.2.2.2.2.2.1 x.2.2.2.2.2.2.1 x.2.2.2.2.2.2.2.1,dflt:=default,out:=fun r=>(Sh.enc D (.bk []) (),aR.encs D [.box [.ptr 2 0],.box [iq0,.str,iq0,.str,.own 7,.own 8,.own 9,.bool,.str,.str,.str,.own 10],.box [.ax U.Token,iq0,.bool],.dead,.dead,.dead,.dead,.arr U.str,.tree U.Term,.tree U.df,.arr U.du] (((),()),((r.1,(r.2.1,(r.2.2.1,(r.2.2.2.1,((),((),((),(r.2.2.2.2.1,(r.2.2.2.2.2.1,(r.2.2.2.2.2.2.1,(r.2.2.2.2.2.2.2.1,((),())))))))))))),((r.2.2.2.2.2.2.2.2.1,(r.2.2.2.2.2.2.2.2.2.1,(r.2.2.2.2.2.2.2.2.2.2.1,()))),((),((),((),((),(r.2.2.2.2.2.2.2.2.2.2.2.1,(r.2.2.2.2.2.2.2.2.2.2.2.2.1,(r.2.2.2.2.2.2.2.2.2.2.2.2.2.1,(r.2.2.2.2.2.2.2.2.2.2.2.2.2.2,()))))))))))))}
def Px:Cx K:={eE with mode:=ef .plain [(91,.aY),(28,.aY)],fX:=[],deep:=fun c=>db (D.cells c (K.zero c)),mv:=true,call:=callOf D [BR M.ja,lD M.cJ],loop:=dP []}
theorem ac2:aZ Px:=bm aQ _ (ah HK (ah lZ aI))
theorem ac3:aJ (Pv (M.Bj)):=bj (cx:=Px) false ac2 Tryz.func94 hq ⟨O8,fun x=>(x.2.2.1.1,x.2.2.1.2.1,x.2.2.1.2.2.1,x.2.2.1.2.2.2.1,x.2.2.1.2.2.2.2.2.2.2.1,x.2.2.1.2.2.2.2.2.2.2.2.1,x.2.2.1.2.2.2.2.2.2.2.2.2.1,x.2.2.1.2.2.2.2.2.2.2.2.2.2.1,x.2.2.2.1.1,x.2.2.2.1.2.1,x.2.2.2.1.2.2.1,x.2.2.2.2.2.2.2.2.1,x.2.2.2.2.2.2.2.2.2.1,x.2.2.2.2.2.2.2.2.2.2.1,x.2.2.2.2.2.2.2.2.2.2.2.1)⟩ (fun x=>by kernel_rfl)
def Py:bZ K:=cr D 0 30 7 [0,1,2,6] [] Pz (fun x=>M.vW x.1.2.1 ai x.1.2.2.2.1 x.2.1 x.2.2.2.1.1 x.2.2.2.1.2.1 x.2.2.2.1.2.2.1 x.2.2.2.1.2.2.2.1 x.2.2.2.1.2.2.2.2.2.2.2.1 x.2.2.2.1.2.2.2.2.2.2.2.2.1 x.2.2.2.1.2.2.2.2.2.2.2.2.2.1 x.2.2.2.1.2.2.2.2.2.2.2.2.2.2.1 x.2.2.2.2.2.2.2.2.1 x.2.2.2.2.2.2.2.2.2.1 x.2.2.2.2.2.2.2.2.2.2.1 x.2.2.2.2.2.2.2.2.2.2.2.1) O9
def PC(m:Int->M.ad->Int->(List UInt8)->Int->(List UInt8)->Bool->(List UInt8)->(List UInt8)->(List UInt8)->(List (List UInt8))->(List M.aa)->(List M.aA)->(List M.aH)->Option (M.ad×Int×(List UInt8)×Int×(List UInt8)×Bool×(List UInt8)×(List UInt8)×(List UInt8)×(List (List UInt8))×(List M.aa)×(List M.aA)×(List M.aH))):aP K:={f:=93,sh:=⟨[.ptr 0 0,iq0,.fn 94 [.ptr 1 0,.ptr 2 0]],[.el U.parser,.box [.ptr 0 0],.box [iq0,.str,iq0,.str,.own 3,.own 4,.own 5,.bool,.str,.str,.str,.own 6],.arr U.str,.tree U.Term,.tree U.df,.arr U.du]⟩,R:=M.ad×Int×(List UInt8)×Int×(List UInt8)×Bool×(List UInt8)×(List UInt8)×(List UInt8)×(List (List UInt8))×(List M.aa)×(List M.aA)×(List M.aH),run:=fun x=>m x.1.2.1 x.2.1 x.2.2.2.1.1 x.2.2.2.1.2.1 x.2.2.2.1.2.2.1 x.2.2.2.1.2.2.2.1 x.2.2.2.1.2.2.2.2.2.2.2.1 x.2.2.2.1.2.2.2.2.2.2.2.2.1 x.2.2.2.1.2.2.2.2.2.2.2.2.2.1 x.2.2.2.1.2.2.2.2.2.2.2.2.2.2.1 x.2.2.2.2.1 x.2.2.2.2.2.1 x.2.2.2.2.2.2.1 x.2.2.2.2.2.2.2.1,dflt:=default,out:=fun r=>(Sh.enc D (.bk []) (),aR.encs D [.el U.parser,.box [.ptr 0 0],.box [iq0,.str,iq0,.str,.own 7,.own 8,.own 9,.bool,.str,.str,.str,.own 10],.dead,.dead,.dead,.dead,.arr U.str,.tree U.Term,.tree U.df,.arr U.du] (r.1,(((),()),((r.2.1,(r.2.2.1,(r.2.2.2.1,(r.2.2.2.2.1,((),((),((),(r.2.2.2.2.2.1,(r.2.2.2.2.2.2.1,(r.2.2.2.2.2.2.2.1,(r.2.2.2.2.2.2.2.2.1,((),())))))))))))),((),((),((),((),(r.2.2.2.2.2.2.2.2.2.1,(r.2.2.2.2.2.2.2.2.2.2.1,(r.2.2.2.2.2.2.2.2.2.2.2.1,(r.2.2.2.2.2.2.2.2.2.2.2.2,()))))))))))))}
def BW:Cx K:={eE with mode:=ef .plain [(28,.aY),(94,.aY)],fX:=[],deep:=fun c=>db (D.cells c (K.zero c)),mv:=true,call:=callOf D [Pv M.Bj,lD M.cJ],loop:=dP [(1,Py)]}
theorem PD:aZ BW:=bm aQ _ (ah ac3 (ah lZ aI))
theorem ac4:b9 BW (bR (bX Tryz.f93) 0) Py:=fS (cx:=BW) (sh:=Pz) (run:=fun n x=>M.vW x.1.2.1 n x.1.2.2.2.1 x.2.1 x.2.2.2.1.1 x.2.2.2.1.2.1 x.2.2.2.1.2.2.1 x.2.2.2.1.2.2.2.1 x.2.2.2.1.2.2.2.2.2.2.2.1 x.2.2.2.1.2.2.2.2.2.2.2.2.1 x.2.2.2.1.2.2.2.2.2.2.2.2.2.1 x.2.2.2.1.2.2.2.2.2.2.2.2.2.2.1 x.2.2.2.2.2.2.2.2.1 x.2.2.2.2.2.2.2.2.2.1 x.2.2.2.2.2.2.2.2.2.2.1 x.2.2.2.2.2.2.2.2.2.2.2.1) (cg:=Pe) aQ PD dT (fP (by kernel_rfl)) (fun _=>rfl) (fun m x=>by kernel_rfl) (ah ⟨ee,fun _ _ _=>rfl⟩ (ah ⟨cw,fun _ _ _=>rfl⟩ aI)) 0 ai
theorem ac5:aJ (PC (M.yx)):=bj (cx:=BW) false PD Tryz.func93 (hl1 ac4) ⟨Pm,fun x=>(x.2.1,x.2.2.2.1.1,x.2.2.2.1.2.1,x.2.2.2.1.2.2.1,x.2.2.2.1.2.2.2.1,x.2.2.2.1.2.2.2.2.2.2.2.1,x.2.2.2.1.2.2.2.2.2.2.2.2.1,x.2.2.2.1.2.2.2.2.2.2.2.2.2.1,x.2.2.2.1.2.2.2.2.2.2.2.2.2.2.1,x.2.2.2.2.2.2.2.2.1,x.2.2.2.2.2.2.2.2.2.1,x.2.2.2.2.2.2.2.2.2.2.1,x.2.2.2.2.2.2.2.2.2.2.2.1)⟩ (fun x=>by kernel_rfl)
def PE(m:M.ad->Option (Int×(List UInt8)×Int×(List UInt8)×Bool×(List UInt8)×(List UInt8)×(List UInt8)×M.ad×(List (List UInt8))×(List M.aa)×(List M.aA)×(List M.aH))):aP K:={f:=56,sh:=qX,R:=Int×(List UInt8)×Int×(List UInt8)×Bool×(List UInt8)×(List UInt8)×(List UInt8)×M.ad×(List (List UInt8))×(List M.aa)×(List M.aA)×(List M.aH),run:=fun x=>m x.2.1,dflt:=default,out:=fun r=>(Sh.enc D (.agg [iq0,.str,iq0,.str,.own 1,.own 2,.own 3,.bool,.str,.str,.str,.own 4]) (r.1,(r.2.1,(r.2.2.1,(r.2.2.2.1,((),((),((),(r.2.2.2.2.1,(r.2.2.2.2.2.1,(r.2.2.2.2.2.2.1,(r.2.2.2.2.2.2.2.1,((),())))))))))))),aR.encs D [.el U.parser,.arr U.str,.tree U.Term,.tree U.df,.arr U.du] (r.2.2.2.2.2.2.2.2.1,(r.2.2.2.2.2.2.2.2.2.1,(r.2.2.2.2.2.2.2.2.2.2.1,(r.2.2.2.2.2.2.2.2.2.2.2.1,(r.2.2.2.2.2.2.2.2.2.2.2.2,()))))))}
def PG:Cx K:={eE with mode:=ef .plain [(26,.aY),(55,.aY),(90,.aY),(91,.aY),(25,.aY),(92,.aY),(57,.aY),(93,.aY)],fX:=[[none,none,none,none,some U.str,some U.Term,some U.df,none,none,none,none,some U.du]],deep:=fun c=>db (D.cells c (K.zero c)),call:=callOf D [pD M.ek,wh M.jb,Pn M.vX,BR M.ja,nO M.bF,fU M.pv,HM M.jc,PC M.yx],loop:=dP []}
theorem ac6:aZ PG:=bm aQ _ (ah qW (ah zo (ah ac1 (ah HK (ah pC (ah HL (ah PH (ah ac5 aI))))))))
theorem ac7:aJ (PE (M.yy)):=bj (cx:=PG) false ac6 Tryz.func56 hq ⟨Pq,fun x=>(x.1.1.1,x.1.1.2.1,x.1.1.2.2.1,x.1.1.2.2.2.1,x.1.1.2.2.2.2.2.2.2.1,x.1.1.2.2.2.2.2.2.2.2.1,x.1.1.2.2.2.2.2.2.2.2.2.1,x.1.1.2.2.2.2.2.2.2.2.2.2.1,x.2.1,x.2.2.1,x.2.2.2.1,x.2.2.2.2.1,x.2.2.2.2.2.1)⟩ (fun x=>by kernel_rfl)
def ac8(y:M.ad×(List UInt8)×(List UInt8)×(List M.ak)×(List M.ak)){R:Type}(k:KT R):R:=match y with|a0=>kk k (Ex.exit 0) BX (((),((),((),()))),(a0.1,((a0.2.1,((),())),((a0.2.2.1,((),())),((),((),(a0.2.2.2.1,(a0.2.2.2.2,()))))))))
def ac9:List (dc K (M.ad×(List UInt8)×(List UInt8)×(List M.ak)×(List M.ak))):=[⟨(Ex.exit 0),BX,fun x=>(x.2.1,x.2.2.1.1,x.2.2.2.1.1,x.2.2.2.2.2.2.1,x.2.2.2.2.2.2.2.1)⟩]
def PI:bZ K:=cr D 0 37 5 [0,2,3] [0,2,3] BX (fun x=>M.sN x.2.2.1.1 x.2.2.2.1.1 x.2.2.2.2.2.2.1 ai x.2.1 x.2.2.2.2.2.2.2.1) ac8
def PK(m:M.ad->Option ((List UInt8)×M.ad×(List M.ak))):aP K:={f:=29,sh:=qX,R:=(List UInt8)×M.ad×(List M.ak),run:=fun x=>m x.2.1,dflt:=default,out:=fun r=>(Sh.enc D (.agg [.str,.own 1]) (r.1,((),())),aR.encs D [.el U.parser,.tree U.Item] (r.2.1,(r.2.2,())))}
def BY:Cx K:={eE with mode:=ef .plain [(26,.aY),(25,.aY),(55,.aY),(56,.aY)],fX:=[[none,some U.Item]],deep:=fun c=>db (D.cells c (K.zero c)),call:=callOf D [pD M.ek,nO M.bF,wh M.jb,PE M.yy],loop:=dP [(3,PI)]}
theorem PL:aZ BY:=bm aQ _ (ah qW (ah pC (ah zo (ah ac7 aI))))
theorem ada:b9 BY (bR (bX Tryz.f29) 0) PI:=fS (cx:=BY) (sh:=BX) (run:=fun n x=>M.sN x.2.2.1.1 x.2.2.2.1.1 x.2.2.2.2.2.2.1 n x.2.1 x.2.2.2.2.2.2.2.1) (cg:=ac9) aQ PL dT (fP (by kernel_rfl)) (fun _=>rfl) (fun m x=>by kernel_rfl) (ah ⟨cw,fun _ _ _=>rfl⟩ aI) 0 ai
theorem adb:aJ (PK (M.yz)):=bj (cx:=BY) false PL Tryz.func29 (hl1 ada) ⟨⟨[.agg [.str,.own 1]],[.el U.parser,.tree U.Item]⟩,fun x=>(x.1.1.1,x.2.1,x.2.2.1)⟩ (fun x=>by kernel_rfl)
def ade(y:M.ad×(List UInt8)×(List UInt8)×(List M.aG)×(List M.aG)){R:Type}(k:KT R):R:=match y with|a0=>kk k (Ex.exit 0) BZ (((),((),((),()))),(a0.1,((a0.2.1,((),())),((a0.2.2.1,((),())),((),((),(a0.2.2.2.1,(a0.2.2.2.2,()))))))))
def adf:List (dc K (M.ad×(List UInt8)×(List UInt8)×(List M.aG)×(List M.aG))):=[⟨(Ex.exit 0),BZ,fun x=>(x.2.1,x.2.2.1.1,x.2.2.2.1.1,x.2.2.2.2.2.2.1,x.2.2.2.2.2.2.2.1)⟩]
def PM:bZ K:=cr D 0 56 5 [0,2,3] [0,2,3] BZ (fun x=>M.nJ x.2.2.1.1 x.2.2.2.1.1 x.2.2.2.2.2.2.1 ai x.2.1 x.2.2.2.2.2.2.2.1) ade
def PN(m:M.ad->Option ((List UInt8)×M.ad×(List M.aG))):aP K:={f:=30,sh:=qX,R:=(List UInt8)×M.ad×(List M.aG),run:=fun x=>m x.2.1,dflt:=default,out:=fun r=>(Sh.enc D (.agg [.str,.own 1]) (r.1,((),())),aR.encs D [.el U.parser,.arr U.dR] (r.2.1,(r.2.2,())))}
def B0:Cx K:={eE with mode:=ef .plain [(26,.aY),(25,.aY),(55,.aY),(28,.aY),(57,.aY)],fX:=[[none,some U.dR]],deep:=fun c=>db (D.cells c (K.zero c)),call:=callOf D [pD M.ek,nO M.bF,wh M.jb,lD M.cJ,HM M.jc],loop:=dP [(3,PM)]}
theorem PO:aZ B0:=bm aQ _ (ah qW (ah pC (ah zo (ah lZ (ah PH aI)))))
theorem adg:b9 B0 (bR (bX Tryz.f30) 0) PM:=fS (cx:=B0) (sh:=BZ) (run:=fun n x=>M.nJ x.2.2.1.1 x.2.2.2.1.1 x.2.2.2.2.2.2.1 n x.2.1 x.2.2.2.2.2.2.2.1) (cg:=adf) aQ PO dT (fP (by kernel_rfl)) (fun _=>rfl) (fun m x=>by kernel_rfl) (ah ⟨cw,fun _ _ _=>rfl⟩ aI) 0 ai
theorem adh:aJ (PN (M.vY)):=bj (cx:=B0) false PO Tryz.func30 (hl1 adg) ⟨⟨[.agg [.str,.own 1]],[.el U.parser,.arr U.dR]⟩,fun x=>(x.1.1.1,x.2.1,x.2.2.1)⟩ (fun x=>by kernel_rfl)
def adi(y:(List M.ae)×Int×Bool×(List UInt8)×(List UInt8)×(List UInt8)×(List UInt8)×(List M.aC)×(List M.aL)×(List M.aC)×(List M.aL)){R:Type}(k:KT R):R:=match y with|a0=>kk k (Ex.exit 0) PQ (((),((),())),((a0.1,(a0.2.1,(a0.2.2.1,()))),((a0.2.2.2.1,(a0.2.2.2.2.1,((),((),())))),((a0.2.2.2.2.2.1,(a0.2.2.2.2.2.2.1,((),((),())))),((),((),((),((),(a0.2.2.2.2.2.2.2.1,(a0.2.2.2.2.2.2.2.2.1,(a0.2.2.2.2.2.2.2.2.2.1,(a0.2.2.2.2.2.2.2.2.2.2,()))))))))))))
def adk:List (dc K ((List M.ae)×Int×Bool×(List UInt8)×(List UInt8)×(List UInt8)×(List UInt8)×(List M.aC)×(List M.aL)×(List M.aC)×(List M.aL))):=[⟨(Ex.exit 0),PQ,fun x=>(x.2.1.1,x.2.1.2.1,x.2.1.2.2.1,x.2.2.1.1,x.2.2.1.2.1,x.2.2.2.1.1,x.2.2.2.1.2.1,x.2.2.2.2.2.2.2.2.1,x.2.2.2.2.2.2.2.2.2.1,x.2.2.2.2.2.2.2.2.2.2.1,x.2.2.2.2.2.2.2.2.2.2.2.1)⟩]
def PS:bZ K:=cr D 0 72 7 [0,2,3] [2,3] PT (fun x=>M.lX x.2.2.1.1 x.2.2.1.2.1 x.2.2.2.1.1 x.2.2.2.1.2.1 x.2.2.2.2.2.2.2.2.1 x.2.2.2.2.2.2.2.2.2.1 ai x.2.1 x.2.2.2.2.2.2.2.2.2.2.1 x.2.2.2.2.2.2.2.2.2.2.2.1) adi
def PU(m:M.ad->Option ((List UInt8)×(List UInt8)×M.ad×(List M.aC)×(List M.aL))):aP K:={f:=12,sh:=qX,R:=(List UInt8)×(List UInt8)×M.ad×(List M.aC)×(List M.aL),run:=fun x=>m x.2.1,dflt:=default,out:=fun r=>(Sh.enc D (.agg [.str,.str,.own 1,.own 2]) (r.1,(r.2.1,((),((),())))),aR.encs D [.el U.parser,.tree U.cE,.tree U.cZ] (r.2.2.1,(r.2.2.2.1,(r.2.2.2.2,()))))}
def B1:Cx K:={eE with mode:=ef .plain [(25,.aY),(26,.aY),(27,.aY),(28,.aY),(29,.aY),(30,.aY)],fX:=[[none,none,some U.cE,some U.cZ]],deep:=fun c=>db (D.cells c (K.zero c)),call:=callOf D [nO M.bF,pD M.ek,HN M.nX,lD M.cJ,PK M.yz,PN M.vY],loop:=dP [(7,PS)]}
theorem PV:aZ B1:=bm aQ _ (ah pC (ah qW (ah PW (ah lZ (ah adb (ah adh aI))))))
theorem adl:b9 B1 (bR (bX Tryz.f12) 0) PS:=fS (cx:=B1) (sh:=PT) (run:=fun n x=>M.lX x.2.2.1.1 x.2.2.1.2.1 x.2.2.2.1.1 x.2.2.2.1.2.1 x.2.2.2.2.2.2.2.2.1 x.2.2.2.2.2.2.2.2.2.1 n x.2.1 x.2.2.2.2.2.2.2.2.2.2.1 x.2.2.2.2.2.2.2.2.2.2.2.1) (cg:=adk) aQ PV dT (fP (by kernel_rfl)) (fun _=>rfl) (fun m x=>by kernel_rfl) (ah ⟨cw,fun _ _ _=>rfl⟩ aI) 0 ai
theorem adm:aJ (PU (M.yA)):=bj (cx:=B1) false PV Tryz.func12 (hl1 adl) ⟨⟨[.agg [.str,.str,.own 1,.own 2]],[.el U.parser,.tree U.cE,.tree U.cZ]⟩,fun x=>(x.1.1.1,x.1.1.2.1,x.2.1,x.2.2.1,x.2.2.2.1)⟩ (fun x=>by kernel_rfl)
def PX(m:M.ad->(List UInt8)->(List UInt8)->(List M.aC)->(List M.aL)->Option (M.ad×(List UInt8)×(List UInt8)×(List M.aC)×(List M.aL))):aP K:={f:=11,sh:=⟨[.ptr 0 0,.ptr 1 0],[.el U.parser,.box [.str,.str,.own 2,.own 3],.tree U.cE,.tree U.cZ]⟩,R:=M.ad×(List UInt8)×(List UInt8)×(List M.aC)×(List M.aL),run:=fun x=>m x.2.1 x.2.2.1.1 x.2.2.1.2.1 x.2.2.2.1 x.2.2.2.2.1,dflt:=default,out:=fun r=>(Sh.enc D (.bk []) (),aR.encs D [.el U.parser,.box [.str,.str,.own 4,.own 5],.dead,.dead,.tree U.cE,.tree U.cZ] (r.1,((r.2.1,(r.2.2.1,((),((),())))),((),((),(r.2.2.2.1,(r.2.2.2.2,())))))))}
def PY:Cx K:={eE with mode:=ef .plain [(12,.aY)],fX:=[],deep:=fun c=>db (D.cells c (K.zero c)),mv:=true,call:=callOf D [PU M.yA],loop:=dP []}
theorem adn:aZ PY:=bm aQ _ (ah adm aI)
theorem ado:aJ (PX (M.yB)):=bj (cx:=PY) false adn Tryz.func11 hq ⟨⟨[.bk []],[.el U.parser,.box [.str,.str,.own 4,.own 5],.dead,.dead,.tree U.cE,.tree U.cZ]⟩,fun x=>(x.2.1,x.2.2.1.1,x.2.2.1.2.1,x.2.2.2.2.2.1,x.2.2.2.2.2.2.1)⟩ (fun x=>by kernel_rfl)
def PZ(m:(List UInt8)->(List UInt8)->(List UInt8)->(List M.aC)->(List M.aL)->Option (Int×Int×(List UInt8)×(List UInt8)×(List M.aC)×(List M.aL))):aP K:={f:=10,sh:=⟨[.str,.fn 11 [.ptr 0 0]],[.box [.str,.str,.own 1,.own 2],.tree U.cE,.tree U.cZ]⟩,R:=Int×Int×(List UInt8)×(List UInt8)×(List M.aC)×(List M.aL),run:=fun x=>m x.1.1 x.2.1.1 x.2.1.2.1 x.2.2.1 x.2.2.2.1,dflt:=default,out:=fun r=>(Sh.enc D (.bk [iq0,iq0]) (r.1,(r.2.1,())),aR.encs D [.box [.str,.str,.own 3,.own 4],.dead,.dead,.tree U.cE,.tree U.cZ] ((r.2.2.1,(r.2.2.2.1,((),((),())))),((),((),(r.2.2.2.2.1,(r.2.2.2.2.2,()))))))}
def P0:Cx K:={eE with mode:=ef .plain [(24,.kZ),(11,.aY)],fX:=[[],[]],deep:=fun c=>db (D.cells c (K.zero c)),mv:=true,call:=callOf D [P1 M.uv,PX M.yB],loop:=dP []}
theorem adp:aZ P0:=bm aQ _ (ah adq (ah ado aI))
theorem adr:aJ (PZ (M.yC)):=bj (cx:=P0) false adp Tryz.func10 hq ⟨⟨[.bk [iq0,iq0]],[.box [.str,.str,.own 3,.own 4],.dead,.dead,.tree U.cE,.tree U.cZ]⟩,fun x=>(x.1.1.1,x.1.1.2.1,x.2.1.1,x.2.1.2.1,x.2.2.2.2.1,x.2.2.2.2.2.1)⟩ (fun x=>by kernel_rfl)
def P2(m:(List UInt8)->Option ((List UInt8)×(List UInt8)×Int×Int×(List M.aC)×(List M.aL))):aP K:={f:=5,sh:=zs2,R:=(List UInt8)×(List UInt8)×Int×Int×(List M.aC)×(List M.aL),run:=fun x=>m x.1.1,dflt:=default,out:=fun r=>(Sh.enc D (.bk [.agg [.str,.str,.own 0,.own 1],iq0,iq0]) ((r.1,(r.2.1,((),((),())))),(r.2.2.1,(r.2.2.2.1,()))),aR.encs D [.tree U.cE,.tree U.cZ] (r.2.2.2.2.1,(r.2.2.2.2.2,())))}
def P3:Cx K:={eE with mode:=ef .plain [(10,.aY),(13,.plain)],fX:=[[none,none,some U.cE,some U.cZ],[],[]],deep:=fun c=>db (D.cells c (K.zero c)),call:=callOf D [PZ M.yC,P4 M.uw],loop:=dP []}
theorem ads:aZ P3:=bm aQ _ (ah adr (ah adt aI))
theorem adu:aJ (P2 (M.sO)):=bj (cx:=P3) false ads Tryz.func5 hq ⟨⟨[.bk [.agg [.str,.str,.own 0,.own 1],iq0,iq0]],[.tree U.cE,.tree U.cZ]⟩,fun x=>(x.1.1.1.1,x.1.1.1.2.1,x.1.1.2.1,x.1.1.2.2.1,x.2.1,x.2.2.1)⟩ (fun x=>by kernel_rfl)
def pE(m:Int->(List M.aa)->Option (Int×(List M.aa))):aP K:={f:=64,sh:=⟨[.own 0,iq0],[.tree U.Term]⟩,R:=Int×(List M.aa),run:=fun x=>m x.1.2.1 x.2.1,dflt:=default,out:=fun r=>(Sh.enc D (.int .i64) r.1,aR.encs D [.tree U.Term] (r.2,()))}
def adv(y:Int×(List M.aa)){R:Type}(k:KT R):R:=match y with|a0=>kk k (Ex.exit 0) HO ((a0.1,()),(a0.2,()))
def adw:List (dc K (Int×(List M.aa))):=[⟨(Ex.exit 0),HO,fun x=>(x.1.1,x.2.1)⟩]
def P5(fJ:Int->(List M.aa)->Option (Int×(List M.aa))):bZ K:=cr D 1 42 1 [0,1,5] [1] P6 (fun x=>M.sW fJ ai x.1.2.1 x.1.2.2.1 x.2.1) adv
def B2(fJ:Int->(List M.aa)->Option (Int×(List M.aa))):Cx K:={eE with mode:=ef .plain [(35,.plain),(63,.pass),(64,.pass)],deep:=fun c=>db (D.cells c (K.zero c)),opn:=true,call:=callOf D [jo M.cT,B5 M.px,pE fJ],loop:=dP [(2,P5 fJ)]}
theorem P7(fJ:Int->(List M.aa)->Option (Int×(List M.aa)))(wi:aJ (pE fJ)):aZ (B2 fJ):=bm aQ _ (ah jN (ah HQ (ah wi aI)))
theorem adx(fJ:Int->(List M.aa)->Option (Int×(List M.aa)))(wi:aJ (pE fJ)):b9 (B2 fJ) (bR (bX Tryz.f64) 0) (P5 fJ):=fS (cx:=B2 fJ) (sh:=P6) (run:=fun n x=>M.sW fJ n x.1.2.1 x.1.2.2.1 x.2.1) (cg:=adw) aQ (P7 fJ wi) dT (fP (by kernel_rfl)) (fun _=>rfl) (fun m x=>by kernel_rfl) (ah ⟨cw,fun _ _ _=>rfl⟩ aI) 1 ai
theorem ady(fJ:Int->(List M.aa)->Option (Int×(List M.aa)))(wi:aJ (pE fJ)):aJ (pE (M.Bo fJ)):=jC (cx:=B2 fJ) (fz:=true) aQ (P7 fJ wi) dT ⟨Tryz.func64,by kernel_rfl⟩ (hl1 (adx fJ wi)) ⟨HO,fun x=>(x.1.1,x.2.1)⟩ (fun x=>rfl) (fun x=>by kernel_rfl)
theorem P8:∀n,aJ (pE (M.sV n))|0=>vq fun _=>rfl|n+1=>ady (M.sV n) (P8 n)
theorem P9:aJ (pE (M.s7)):=P8 ai
def adz(y:Int×(List M.aA)){R:Type}(k:KT R):R:=match y with|a0=>kk k (Ex.exit 0) HS ((a0.1,()),(a0.2,()))
def adA:List (dc K (Int×(List M.aA))):=[⟨(Ex.exit 0),HS,fun x=>(x.1.1,x.2.1)⟩]
def Qa:bZ K:=cr D 1 54 1 [0,1,5] [1] Qb (fun x=>M.s6 ai x.1.2.1 x.1.2.2.1 x.2.1) adz
def Qc(m:Int->(List M.aA)->Option (Int×(List M.aA))):aP K:={f:=65,sh:=⟨[.own 0,iq0],[.tree U.df]⟩,R:=Int×(List M.aA),run:=fun x=>m x.1.2.1 x.2.1,dflt:=default,out:=fun r=>(Sh.enc D (.int .i64) r.1,aR.encs D [.tree U.df] (r.2,()))}
def B6:Cx K:={eE with mode:=ef .plain [(35,.plain),(63,.pass),(64,.pass)],deep:=fun c=>db (D.cells c (K.zero c)),opn:=true,call:=callOf D [jo M.cT,B5 M.px,pE M.s7],loop:=dP [(2,Qa)]}
theorem Qd:aZ B6:=bm aQ _ (ah jN (ah HQ (ah P9 aI)))
theorem adB:b9 B6 (bR (bX Tryz.f65) 0) Qa:=fS (cx:=B6) (sh:=Qb) (run:=fun n x=>M.s6 n x.1.2.1 x.1.2.2.1 x.2.1) (cg:=adA) aQ Qd dT (fP (by kernel_rfl)) (fun _=>rfl) (fun m x=>by kernel_rfl) (ah ⟨cw,fun _ _ _=>rfl⟩ aI) 1 ai
theorem adC:aJ (Qc (M.yG)):=bj (cx:=B6) true Qd Tryz.func65 (hl1 adB) ⟨HS,fun x=>(x.1.1,x.2.1)⟩ (fun x=>by kernel_rfl)
def adD(y:Int×(List M.aH)){R:Type}(k:KT R):R:=match y with|a0=>kk k (Ex.exit 0) HT ((a0.1,()),(a0.2,()))
def adE:List (dc K (Int×(List M.aH))):=[⟨(Ex.exit 0),HT,fun x=>(x.1.1,x.2.1)⟩]
def Qe:bZ K:=cr D 1 29 1 [0,1,5] [1] Qf (fun x=>M.ta ai x.1.2.1 x.1.2.2.1 x.2.1) adD
def Qg(m:Int->(List M.aH)->Option (Int×(List M.aH))):aP K:={f:=66,sh:=⟨[.own 0,iq0],[.arr U.du]⟩,R:=Int×(List M.aH),run:=fun x=>m x.1.2.1 x.2.1,dflt:=default,out:=fun r=>(Sh.enc D (.int .i64) r.1,aR.encs D [.arr U.du] (r.2,()))}
def B7:Cx K:={eE with mode:=ef .plain [(35,.plain)],deep:=fun c=>db (D.cells c (K.zero c)),opn:=true,call:=callOf D [jo M.cT],loop:=dP [(2,Qe)]}
theorem Qh:aZ B7:=bm aQ _ (ah jN aI)
theorem adF:b9 B7 (bR (bX Tryz.f66) 0) Qe:=fS (cx:=B7) (sh:=Qf) (run:=fun n x=>M.ta n x.1.2.1 x.1.2.2.1 x.2.1) (cg:=adE) aQ Qh dT (fP (by kernel_rfl)) (fun _=>rfl) (fun m x=>by kernel_rfl) (ah ⟨cw,fun _ _ _=>rfl⟩ aI) 1 ai
theorem adG:aJ (Qg (M.yI)):=bj (cx:=B7) true Qh Tryz.func66 (hl1 adF) ⟨HT,fun x=>(x.1.1,x.2.1)⟩ (fun x=>by kernel_rfl)
def adH(y:Int×(List M.ak)){R:Type}(k:KT R):R:=match y with|a0=>kk k (Ex.exit 0) HU ((a0.1,()),(a0.2,()))
def adI:List (dc K (Int×(List M.ak))):=[⟨(Ex.exit 0),HU,fun x=>(x.1.1,x.2.1)⟩]
def Qi:bZ K:=cr D 1 111 1 [0,1,5] [1] Qj (fun x=>M.td ai x.1.2.1 x.1.2.2.1 x.2.1) adH
def Qk(m:Int->(List M.ak)->Option (Int×(List M.ak))):aP K:={f:=36,sh:=⟨[.own 0,iq0],[.tree U.Item]⟩,R:=Int×(List M.ak),run:=fun x=>m x.1.2.1 x.2.1,dflt:=default,out:=fun r=>(Sh.enc D (.int .i64) r.1,aR.encs D [.tree U.Item] (r.2,()))}
def B8:Cx K:={eE with mode:=ef .plain [(35,.plain),(63,.pass),(64,.pass),(65,.pass),(66,.pass)],deep:=fun c=>db (D.cells c (K.zero c)),opn:=true,call:=callOf D [jo M.cT,B5 M.px,pE M.s7,Qc M.yG,Qg M.yI],loop:=dP [(2,Qi)]}
theorem Ql:aZ B8:=bm aQ _ (ah jN (ah HQ (ah P9 (ah adC (ah adG aI)))))
theorem adJ:b9 B8 (bR (bX Tryz.f36) 0) Qi:=fS (cx:=B8) (sh:=Qj) (run:=fun n x=>M.td n x.1.2.1 x.1.2.2.1 x.2.1) (cg:=adI) aQ Ql dT (fP (by kernel_rfl)) (fun _=>rfl) (fun m x=>by kernel_rfl) (ah ⟨cw,fun _ _ _=>rfl⟩ aI) 1 ai
theorem adK:aJ (Qk (M.yK)):=bj (cx:=B8) true Ql Tryz.func36 (hl1 adJ) ⟨HU,fun x=>(x.1.1,x.2.1)⟩ (fun x=>by kernel_rfl)
def adL(y:Int×(List M.aC)){R:Type}(k:KT R):R:=match y with|a0=>kk k (Ex.exit 0) HV ((a0.1,()),(a0.2,()))
def adM:List (dc K (Int×(List M.aC))):=[⟨(Ex.exit 0),HV,fun x=>(x.1.1,x.2.1)⟩]
def Qm:bZ K:=cr D 1 28 1 [0,1,5] [1] Qn (fun x=>M.tf ai x.1.2.1 x.1.2.2.1 x.2.1) adL
def Qo(m:Int->(List M.aC)->Option (Int×(List M.aC))):aP K:={f:=16,sh:=⟨[.own 0,iq0],[.tree U.cE]⟩,R:=Int×(List M.aC),run:=fun x=>m x.1.2.1 x.2.1,dflt:=default,out:=fun r=>(Sh.enc D (.int .i64) r.1,aR.encs D [.tree U.cE] (r.2,()))}
def B9:Cx K:={eE with mode:=ef .plain [(35,.plain),(36,.pass)],deep:=fun c=>db (D.cells c (K.zero c)),opn:=true,call:=callOf D [jo M.cT,Qk M.yK],loop:=dP [(2,Qm)]}
theorem Qp:aZ B9:=bm aQ _ (ah jN (ah adK aI))
theorem adN:b9 B9 (bR (bX Tryz.f16) 0) Qm:=fS (cx:=B9) (sh:=Qn) (run:=fun n x=>M.tf n x.1.2.1 x.1.2.2.1 x.2.1) (cg:=adM) aQ Qp dT (fP (by kernel_rfl)) (fun _=>rfl) (fun m x=>by kernel_rfl) (ah ⟨cw,fun _ _ _=>rfl⟩ aI) 1 ai
theorem adO:aJ (Qo (M.yM)):=bj (cx:=B9) true Qp Tryz.func16 (hl1 adN) ⟨HV,fun x=>(x.1.1,x.2.1)⟩ (fun x=>by kernel_rfl)
def adP(y:Int×(List M.aG)){R:Type}(k:KT R):R:=match y with|a0=>kk k (Ex.exit 0) HW ((a0.1,()),(a0.2,()))
def adQ:List (dc K (Int×(List M.aG))):=[⟨(Ex.exit 0),HW,fun x=>(x.1.1,x.2.1)⟩]
def Qq:bZ K:=cr D 1 47 1 [0,1,5] [1] Qr (fun x=>M.ti ai x.1.2.1 x.1.2.2.1 x.2.1) adP
def Qs(m:Int->(List M.aG)->Option (Int×(List M.aG))):aP K:={f:=37,sh:=⟨[.own 0,iq0],[.arr U.dR]⟩,R:=Int×(List M.aG),run:=fun x=>m x.1.2.1 x.2.1,dflt:=default,out:=fun r=>(Sh.enc D (.int .i64) r.1,aR.encs D [.arr U.dR] (r.2,()))}
def Cb:Cx K:={eE with mode:=ef .plain [(35,.plain)],deep:=fun c=>db (D.cells c (K.zero c)),opn:=true,call:=callOf D [jo M.cT],loop:=dP [(2,Qq)]}
theorem Qu:aZ Cb:=bm aQ _ (ah jN aI)
theorem adR:b9 Cb (bR (bX Tryz.f37) 0) Qq:=fS (cx:=Cb) (sh:=Qr) (run:=fun n x=>M.ti n x.1.2.1 x.1.2.2.1 x.2.1) (cg:=adQ) aQ Qu dT (fP (by kernel_rfl)) (fun _=>rfl) (fun m x=>by kernel_rfl) (ah ⟨cw,fun _ _ _=>rfl⟩ aI) 1 ai
theorem adS:aJ (Qs (M.yO)):=bj (cx:=Cb) true Qu Tryz.func37 (hl1 adR) ⟨HW,fun x=>(x.1.1,x.2.1)⟩ (fun x=>by kernel_rfl)
def adT(y:Int×(List M.aL)){R:Type}(k:KT R):R:=match y with|a0=>kk k (Ex.exit 0) HY ((a0.1,()),(a0.2,()))
def adU:List (dc K (Int×(List M.aL))):=[⟨(Ex.exit 0),HY,fun x=>(x.1.1,x.2.1)⟩]
def Qv:bZ K:=cr D 1 28 1 [0,1,5] [1] Qw (fun x=>M.tn ai x.1.2.1 x.1.2.2.1 x.2.1) adT
def Qx(m:Int->(List M.aL)->Option (Int×(List M.aL))):aP K:={f:=17,sh:=⟨[.own 0,iq0],[.tree U.cZ]⟩,R:=Int×(List M.aL),run:=fun x=>m x.1.2.1 x.2.1,dflt:=default,out:=fun r=>(Sh.enc D (.int .i64) r.1,aR.encs D [.tree U.cZ] (r.2,()))}
def Cc:Cx K:={eE with mode:=ef .plain [(35,.plain),(37,.pass)],deep:=fun c=>db (D.cells c (K.zero c)),opn:=true,call:=callOf D [jo M.cT,Qs M.yO],loop:=dP [(2,Qv)]}
theorem Qy:aZ Cc:=bm aQ _ (ah jN (ah adS aI))
theorem adV:b9 Cc (bR (bX Tryz.f17) 0) Qv:=fS (cx:=Cc) (sh:=Qw) (run:=fun n x=>M.tn n x.1.2.1 x.1.2.2.1 x.2.1) (cg:=adU) aQ Qy dT (fP (by kernel_rfl)) (fun _=>rfl) (fun m x=>by kernel_rfl) (ah ⟨cw,fun _ _ _=>rfl⟩ aI) 1 ai
theorem adW:aJ (Qx (M.yQ)):=bj (cx:=Cc) true Qy Tryz.func17 (hl1 adV) ⟨HY,fun x=>(x.1.1,x.2.1)⟩ (fun x=>by kernel_rfl)
def Qz(m:(List UInt8)->(List UInt8)->Int->(List M.aC)->(List M.aL)->Option (Int×(List M.aC)×(List M.aL))):aP K:={f:=7,sh:=⟨[.agg [.str,.str,.own 0,.own 1],iq0],[.tree U.cE,.tree U.cZ]⟩,R:=Int×(List M.aC)×(List M.aL),run:=fun x=>m x.1.1.1 x.1.1.2.1 x.1.2.1 x.2.1 x.2.2.1,dflt:=default,out:=fun r=>(Sh.enc D (.int .i64) r.1,aR.encs D [.tree U.cE,.tree U.cZ] (r.2.1,(r.2.2,())))}
def QA:Cx K:={eE with mode:=ef .plain [(16,.pass),(17,.pass)],deep:=fun c=>db (D.cells c (K.zero c)),opn:=true,call:=callOf D [Qo M.yM,Qx M.yQ],loop:=dP []}
theorem adX:aZ QA:=bm aQ _ (ah adO (ah adW aI))
theorem adY:aJ (Qz (M.yS)):=bj (cx:=QA) true adX Tryz.func7 hq ⟨⟨[iq0],[.tree U.cE,.tree U.cZ]⟩,fun x=>(x.1.1,x.2.1,x.2.2.1)⟩ (fun x=>by kernel_rfl)
def pF(m:(List M.aa)->Int->Option Int):aP K:=cI 68 ⟨[.ax U.Term,iq0],[]⟩ (fun x=>m x.1.1 x.1.2.1)
def QB(fA:(List M.aa)->Int->Option Int):bZ K:=cr D 0 50 0 [0,1,5] [1,4] QC (fun x=>M.sZ fA x.1.1 ai x.1.2.1 x.1.2.2.1) nP
def Cd(fA:(List M.aa)->Int->Option Int):Cx K:=bS [(35,.plain),(67,.plain),(68,.plain)] [jo M.cT,Ce M.py,pF fA] [(2,QB fA)]
theorem QD(fA:(List M.aa)->Int->Option Int)(wj:aJ (pF fA)):aZ (Cd fA):=bm aQ _ (ah jN (ah HZ (ah wj aI)))
theorem adZ(fA:(List M.aa)->Int->Option Int)(wj:aJ (pF fA)):b9 (Cd fA) (bR (bX Tryz.f68) 0) (QB fA):=fS (cx:=Cd fA) (sh:=QC) (run:=fun n x=>M.sZ fA x.1.1 n x.1.2.1 x.1.2.2.1) (cg:=nQ) aQ (QD fA wj) dT (fP (by kernel_rfl)) (fun _=>rfl) (fun m x=>by kernel_rfl) (ah ⟨ee,fun _ _ _=>rfl⟩ (ah ⟨cw,fun _ _ _=>rfl⟩ aI)) 0 ai
theorem ad1(fA:(List M.aa)->Int->Option Int)(wj:aJ (pF fA)):aJ (pF (M.Bt fA)):=jC (cx:=Cd fA) (fz:=true) aQ (QD fA wj) dT ⟨Tryz.func68,by kernel_rfl⟩ (hl1 (adZ fA wj)) ⟨gw,fun x=>x.1.1⟩ (fun x=>rfl) (fun x=>by kernel_rfl)
theorem QE:∀n,aJ (pF (M.sY n))|0=>vq fun _=>rfl|n+1=>ad1 (M.sY n) (QE n)
theorem QF:aJ (pF (M.s9)):=QE ai
def QG:bZ K:=cr D 0 64 0 [0,1,5] [1,4] QH (fun x=>M.s8 x.1.1 ai x.1.2.1 x.1.2.2.1) nP
def QI(m:(List M.aA)->Int->Option Int):aP K:=cI 69 ⟨[.ax U.df,iq0],[]⟩ (fun x=>m x.1.1 x.1.2.1)
def Cf:Cx K:=bS [(35,.plain),(67,.plain),(68,.plain)] [jo M.cT,Ce M.py,pF M.s9] [(2,QG)]
theorem QJ:aZ Cf:=bm aQ _ (ah jN (ah HZ (ah QF aI)))
theorem ad2:b9 Cf (bR (bX Tryz.f69) 0) QG:=fS (cx:=Cf) (sh:=QH) (run:=fun n x=>M.s8 x.1.1 n x.1.2.1 x.1.2.2.1) (cg:=nQ) aQ QJ dT (fP (by kernel_rfl)) (fun _=>rfl) (fun m x=>by kernel_rfl) (ah ⟨ee,fun _ _ _=>rfl⟩ (ah ⟨cw,fun _ _ _=>rfl⟩ aI)) 0 ai
theorem ad3:aJ (QI (M.yH)):=bj (cx:=Cf) true QJ Tryz.func69 (hl1 ad2) ⟨gw,fun x=>x.1.1⟩ (fun x=>by kernel_rfl)
def QK:bZ K:=cr D 0 33 0 [0,1,5] [1,4] QL (fun x=>M.tc x.1.1 ai x.1.2.1 x.1.2.2.1) nP
def QM(m:(List M.aH)->Int->Option Int):aP K:=cI 70 ⟨[.ax U.du,iq0],[]⟩ (fun x=>m x.1.1 x.1.2.1)
def Ci:Cx K:=bS [(35,.plain)] [jo M.cT] [(2,QK)]
theorem QN:aZ Ci:=bm aQ _ (ah jN aI)
theorem ad4:b9 Ci (bR (bX Tryz.f70) 0) QK:=fS (cx:=Ci) (sh:=QL) (run:=fun n x=>M.tc x.1.1 n x.1.2.1 x.1.2.2.1) (cg:=nQ) aQ QN dT (fP (by kernel_rfl)) (fun _=>rfl) (fun m x=>by kernel_rfl) (ah ⟨ee,fun _ _ _=>rfl⟩ (ah ⟨cw,fun _ _ _=>rfl⟩ aI)) 0 ai
theorem ad5:aJ (QM (M.yJ)):=bj (cx:=Ci) true QN Tryz.func70 (hl1 ad4) ⟨gw,fun x=>x.1.1⟩ (fun x=>by kernel_rfl)
def QO:bZ K:=cr D 0 135 0 [0,1,5] [1,4] QP (fun x=>M.te x.1.1 ai x.1.2.1 x.1.2.2.1) nP
def QQ(m:(List M.ak)->Int->Option Int):aP K:=cI 38 ⟨[.ax U.Item,iq0],[]⟩ (fun x=>m x.1.1 x.1.2.1)
def Cj:Cx K:=bS [(35,.plain),(67,.plain),(68,.plain),(69,.plain),(70,.plain)] [jo M.cT,Ce M.py,pF M.s9,QI M.yH,QM M.yJ] [(2,QO)]
theorem QR:aZ Cj:=bm aQ _ (ah jN (ah HZ (ah QF (ah ad3 (ah ad5 aI)))))
theorem ad6:b9 Cj (bR (bX Tryz.f38) 0) QO:=fS (cx:=Cj) (sh:=QP) (run:=fun n x=>M.te x.1.1 n x.1.2.1 x.1.2.2.1) (cg:=nQ) aQ QR dT (fP (by kernel_rfl)) (fun _=>rfl) (fun m x=>by kernel_rfl) (ah ⟨ee,fun _ _ _=>rfl⟩ (ah ⟨cw,fun _ _ _=>rfl⟩ aI)) 0 ai
theorem ad7:aJ (QQ (M.yL)):=bj (cx:=Cj) true QR Tryz.func38 (hl1 ad6) ⟨gw,fun x=>x.1.1⟩ (fun x=>by kernel_rfl)
def QS:bZ K:=cr D 0 32 0 [0,1,5] [1,4] QT (fun x=>M.tg x.1.1 ai x.1.2.1 x.1.2.2.1) nP
def QU(m:(List M.aC)->Int->Option Int):aP K:=cI 18 ⟨[.ax U.cE,iq0],[]⟩ (fun x=>m x.1.1 x.1.2.1)
def Cm:Cx K:=bS [(35,.plain),(38,.plain)] [jo M.cT,QQ M.yL] [(2,QS)]
theorem QV:aZ Cm:=bm aQ _ (ah jN (ah ad7 aI))
theorem ad8:b9 Cm (bR (bX Tryz.f18) 0) QS:=fS (cx:=Cm) (sh:=QT) (run:=fun n x=>M.tg x.1.1 n x.1.2.1 x.1.2.2.1) (cg:=nQ) aQ QV dT (fP (by kernel_rfl)) (fun _=>rfl) (fun m x=>by kernel_rfl) (ah ⟨ee,fun _ _ _=>rfl⟩ (ah ⟨cw,fun _ _ _=>rfl⟩ aI)) 0 ai
theorem ad9:aJ (QU (M.yN)):=bj (cx:=Cm) true QV Tryz.func18 (hl1 ad8) ⟨gw,fun x=>x.1.1⟩ (fun x=>by kernel_rfl)
def QW:bZ K:=cr D 0 55 0 [0,1,5] [1,4] QX (fun x=>M.tj x.1.1 ai x.1.2.1 x.1.2.2.1) nP
def QY(m:(List M.aG)->Int->Option Int):aP K:=cI 39 ⟨[.ax U.dR,iq0],[]⟩ (fun x=>m x.1.1 x.1.2.1)
def CB:Cx K:=bS [(35,.plain)] [jo M.cT] [(2,QW)]
theorem QZ:aZ CB:=bm aQ _ (ah jN aI)
theorem aea:b9 CB (bR (bX Tryz.f39) 0) QW:=fS (cx:=CB) (sh:=QX) (run:=fun n x=>M.tj x.1.1 n x.1.2.1 x.1.2.2.1) (cg:=nQ) aQ QZ dT (fP (by kernel_rfl)) (fun _=>rfl) (fun m x=>by kernel_rfl) (ah ⟨ee,fun _ _ _=>rfl⟩ (ah ⟨cw,fun _ _ _=>rfl⟩ aI)) 0 ai
theorem aeb:aJ (QY (M.yP)):=bj (cx:=CB) true QZ Tryz.func39 (hl1 aea) ⟨gw,fun x=>x.1.1⟩ (fun x=>by kernel_rfl)
def Q0:bZ K:=cr D 0 32 0 [0,1,5] [1,4] Q1 (fun x=>M.tp x.1.1 ai x.1.2.1 x.1.2.2.1) nP
def Q2(m:(List M.aL)->Int->Option Int):aP K:=cI 19 ⟨[.ax U.cZ,iq0],[]⟩ (fun x=>m x.1.1 x.1.2.1)
def CC:Cx K:=bS [(35,.plain),(39,.plain)] [jo M.cT,QY M.yP] [(2,Q0)]
theorem Q3:aZ CC:=bm aQ _ (ah jN (ah aeb aI))
theorem aec:b9 CC (bR (bX Tryz.f19) 0) Q0:=fS (cx:=CC) (sh:=Q1) (run:=fun n x=>M.tp x.1.1 n x.1.2.1 x.1.2.2.1) (cg:=nQ) aQ Q3 dT (fP (by kernel_rfl)) (fun _=>rfl) (fun m x=>by kernel_rfl) (ah ⟨ee,fun _ _ _=>rfl⟩ (ah ⟨cw,fun _ _ _=>rfl⟩ aI)) 0 ai
theorem aed:aJ (Q2 (M.yR)):=bj (cx:=CC) true Q3 Tryz.func19 (hl1 aec) ⟨gw,fun x=>x.1.1⟩ (fun x=>by kernel_rfl)
def Q4(m:M.bf->Int->Option Int):aP K:=cI 8 ⟨[.el U.dw,iq0],[]⟩ (fun x=>m x.1.1 x.1.2.1)
def Q5:Cx K:=bS [(18,.plain),(19,.plain)] [QU M.yN,Q2 M.yR] []
theorem aee:aZ Q5:=bm aQ _ (ah ad9 (ah aed aI))
theorem aef:aJ (Q4 (M.yT)):=bj (cx:=Q5) true aee Tryz.func8 hq ⟨gw,fun x=>x.1.1⟩ (fun x=>by kernel_rfl)
def Q6(m:(List UInt8)->Option Bool):aP K:=cB 3 zs2 (fun x=>m x.1.1)
def Q7:Cx K:={eE with mode:=ef .plain [(4,.kZ),(5,.fresh),(6,.plain),(7,.pass),(8,.plain)],deep:=fun c=>db (D.cells c (K.zero c)),call:=callOf D [NL M.ym,P2 M.sO,OF M.zm,Qz M.yS,Q4 M.yT],loop:=dP []}
theorem aeg:aZ Q7:=bm aQ _ (ah ab4 (ah adu (ah acC (ah adY (ah aef aI)))))
theorem aeh:aJ (Q6 (M.yU)):=bj (cx:=Q7) true aeg Tryz.func3 hq ⟨zs0,fun x=>x.1.1⟩ (fun x=>by kernel_rfl)
