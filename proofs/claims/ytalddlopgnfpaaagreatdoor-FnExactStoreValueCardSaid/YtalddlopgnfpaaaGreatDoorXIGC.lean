/-
  Part of the proof of the claim.
-/
import Derived.Test.YtalddlopgnfpaaaGreatDoorXIGM
import Derived.Test.YtalddlopgnfpaaaGreatDoorXIHdA
import Derived.Test.YtalddlopgnfpaaaGreatDoorXIHdR
import Derived.Test.YtalddlopgnfpaaaGreatDoorXIHdU
import Derived.Test.YtalddlopgnfpaaaGreatDoorXIHdG
import Derived.Test.YtalddlopgnfpaaaGreatDoorXIHdP
import Derived.Test.YtalddlopgnfpaaaGreatDoorXIHd4
import Derived.Test.YtalddlopgnfpaaaGreatDoorXWor
import Derived.Test.YtalddlopgnfpaaaGreatDoorProg
set_option linter.unusedVariables false
set_option maxRecDepth 100000
open Go Go.Proofs
open Go.V
noncomputable section
def CW:Go.TypeId->Option U:=aH [(2,U.i64),(3,U.i64),(4,U.bool),(5,U.u8),(6,U.u8),(9,U.str),(10,U.str),(11,U.str),(12,U.u64),(21,U.i32),(22,U.ga),(24,U.dA),(25,U.qS),(26,U.pj),(28,U.Type),(29,U.pn),(31,U.Value),(35,U.ga),(37,U.dA),(41,U.pj),(43,U.Type),(45,U.pn),(47,U.Value),(56,U.ku),(82,U.po),(122,U.Block),(124,U.Block),(128,U.qT),(131,U.store),(149,U.u64),(184,U.u64),(185,U.u32),(190,U.qU),(206,U.i64),(216,U.u64),(232,U.u8),(233,U.u8),(236,U.i32),(237,U.i32)]
def VW:Go.TypeId->List (Option U):=aI [] [(22,[some U.Block]),(24,[none,some U.Block]),(25,[some U.str]),(26,[some U.Type]),(28,[none,none,some U.str,some U.Type]),(29,[some U.Value]),(31,[none,none,none,some U.Value]),(35,[some U.Block]),(37,[none,some U.Block]),(41,[some U.Type]),(43,[none,none,some U.str,some U.Type]),(45,[some U.Value]),(47,[none,none,none,some U.Value]),(56,[some U.i64]),(82,[none,some U.Block,none,none]),(128,[some U.u8]),(131,[some U.u8,some U.Block]),(190,[some U.ga])]
theorem ay:Tryz.prog.follows .mixedOrders=true:=by kernel_rfl
def aK:Cx K:={P:=Tryz.prog,D:=D,ty:=CW,kV:=VW,mode:=aI .plain [],call:=callOf D [],loop:=aH []}
def kW(m:M.ae->M.ae->Option (Bool)):aE K:={f:=17,sh:=⟨[.el U.Value,.el U.Value],[]⟩,R:=Bool,run:=fun x=>m x.1.1 x.1.2.1,dflt:=default,out:=fun r=>(Sh.enc D (.bool) r,aw.encs D [] ())}
def Ju(y:(Bool)⊕(Unit)){R:Type}(k:Ex->List (AV K)->List (Ob K)->R):R:=match y with
 |.inl a0=>k Ex.ret (aA.bj D ⟨[.bool],[]⟩ ((a0,()),())) (aA.bk D ⟨[.bool],[]⟩ ((a0,()),()))
 |.inr (a1)=>k (Ex.exit 0) (aA.bj D ⟨[.any],[]⟩ (((),()),())) (aA.bk D ⟨[.any],[]⟩ (((),()),()))
def VX:List (bV K ((Bool)⊕(Unit))):=[⟨Ex.ret,⟨[.bool],[]⟩,fun x=>.inl x.1.1⟩,⟨(Ex.exit 0),⟨[.any],[]⟩,fun x=>.inr (())⟩]
def Jv(cO:M.ae->M.ae->Option (Bool)):bQ K:=bZ D false 27 0 [0,1,5] [4] ⟨[.ar U.Value,.ar U.Value,.int .i64],[]⟩ (fun x=>M.qV cO x.1.1 x.1.2.1 ai x.1.2.2.1) Ju
def CX(m:(List M.ae)->(List M.ae)->Option (Bool)):aE K:={f:=36,sh:=⟨[.ar U.Value,.ar U.Value],[]⟩,R:=Bool,run:=fun x=>m x.1.1 x.1.2.1,dflt:=default,out:=fun r=>(Sh.enc D (.bool) r,aw.encs D [] ())}
def yQ(cO:M.ae->M.ae->Option (Bool)):Cx K:={aK with mode:=aI .plain [(17,.plain)],call:=callOf D [kW cO],loop:=aH [(4,Jv cO)]}
theorem Jw(cO:M.ae->M.ae->Option (Bool))(l4:(kW cO).Ok D Tryz.prog):aF (yQ cO):=aL ah _ (aj l4 (az))
theorem VY(cO:M.ae->M.ae->Option (Bool))(l4:(kW cO).Ok D Tryz.prog):bR (yQ cO) (bT (bW Tryz.f36) 0) (Jv cO):=
 cg (cx:=yQ cO) (n:=27) (n0:=0) (ins:=[0,1,5]) (outs:=[4]) (sh:=⟨[.ar U.Value,.ar U.Value,.int .i64],[]⟩) (run:=fun n x=>M.qV cO x.1.1 x.1.2.1 n x.1.2.2.1) (bU:=VX) (out:=Ju) ah (Jw cO l4) ay (aJ (by kernel_rfl)) (fun _=>rfl) (fun m x=>by kernel_rfl) (aj ⟨dG,fun _ _ _=>rfl⟩ (aj ⟨cm,fun _ _ _=>rfl⟩ (az))) false ai
theorem VZ(cO:M.ae->M.ae->Option (Bool))(l4:(kW cO).Ok D Tryz.prog):(CX (M.tg cO)).Ok D Tryz.prog:=
 aN (cx:=yQ cO) (c:=CX (M.tg cO)) (fz:=true) (fn:=Tryz.f36) ah (Jw cO l4) ay ⟨Tryz.func36,by kernel_rfl⟩ (aO (cn 1 (by kernel_rfl) (ct (.mk (by kernel_rfl) (VY cO l4))))) ⟨⟨[.bool],[]⟩,fun x=>x.1.1⟩ (fun x=>rfl) (fun x=>by kernel_rfl)
def Jy(cO:M.ae->M.ae->Option (Bool)):Cx K:={aK with mode:=aI .plain [(36,.plain)],call:=callOf D [CX (M.tg cO)],loop:=aH []}
theorem V0(cO:M.ae->M.ae->Option (Bool))(l4:(kW cO).Ok D Tryz.prog):aF (Jy cO):=aL ah _ (aj (VZ cO l4) (az))
theorem V1(cO:M.ae->M.ae->Option (Bool))(l4:(kW cO).Ok D Tryz.prog):(kW (M.wy cO)).Ok D Tryz.prog:=
 aN (cx:=Jy cO) (c:=kW (M.wy cO)) (fz:=true) (fn:=Tryz.f17) ah (V0 cO l4) ay ⟨Tryz.func17,by kernel_rfl⟩ (aO (aJ (by kernel_rfl))) ⟨⟨[.bool],[]⟩,fun x=>x.1.1⟩ (fun x=>rfl) (fun x=>by kernel_rfl)
theorem Jz:∀n,(kW (M.qW n)).Ok D Tryz.prog
 |0=>fp fun _=>rfl
 |n+1=>V1 (M.qW n) (Jz n)
theorem V2:(kW (M.yR)).Ok D Tryz.prog:=Jz ai
def JA(y:(Int)⊕(Int)){R:Type}(k:Ex->List (AV K)->List (Ob K)->R):R:=match y with
 |.inl a0=>k Ex.ret (aA.bj D ⟨[.any,.int .i64],[]⟩ (((),(a0,())),())) (aA.bk D ⟨[.any,.int .i64],[]⟩ (((),(a0,())),()))
 |.inr (a1)=>k (Ex.exit 0) (aA.bj D ⟨[.int .i64,.any],[]⟩ ((a1,((),())),())) (aA.bk D ⟨[.int .i64,.any],[]⟩ ((a1,((),())),()))
def V3:List (bV K ((Int)⊕(Int))):=[⟨Ex.ret,⟨[.any,.int .i64],[]⟩,fun x=>.inl x.1.2.1⟩,⟨(Ex.exit 0),⟨[.int .i64,.any],[]⟩,fun x=>.inr (x.1.1)⟩]
def JB:bQ K:=bZ D false 28 0 [0,1,5] [1,4] ⟨[.ar U.str,.int .i64,.int .i64],[]⟩ (fun x=>M.qX x.1.1 ai x.1.2.1 x.1.2.2.1) JA
def CY(m:(List (List UInt8))->Int->Option (Int)):aE K:={f:=40,sh:=⟨[.ar U.str,.int .i64],[]⟩,R:=Int,run:=fun x=>m x.1.1 x.1.2.1,dflt:=default,out:=fun r=>(Sh.enc D (.int .i64) r,aw.encs D [] ())}
def yS:Cx K:={aK with mode:=aI .plain [],call:=callOf D [],loop:=aH [(5,JB)]}
theorem JC:aF (yS):=aL ah _ (az)
theorem V4:bR (yS) (bT (bW Tryz.f40) 0) (JB):=
 cg (cx:=yS) (n:=28) (n0:=0) (ins:=[0,1,5]) (outs:=[1,4]) (sh:=⟨[.ar U.str,.int .i64,.int .i64],[]⟩) (run:=fun n x=>M.qX x.1.1 n x.1.2.1 x.1.2.2.1) (bU:=V3) (out:=JA) ah (JC) ay (aJ (by kernel_rfl)) (fun _=>rfl) (fun m x=>by kernel_rfl) (aj ⟨dG,fun _ _ _=>rfl⟩ (aj ⟨cm,fun _ _ _=>rfl⟩ (az))) false ai
theorem V5:(CY (M.ti)).Ok D Tryz.prog:=
 aN (cx:=yS) (c:=CY (M.ti)) (fz:=true) (fn:=Tryz.f40) ah (JC) ay ⟨Tryz.func40,by kernel_rfl⟩ (aO (cn 1 (by kernel_rfl) (ct (.mk (by kernel_rfl) (V4))))) ⟨⟨[.int .i64],[]⟩,fun x=>x.1.1⟩ (fun x=>rfl) (fun x=>by kernel_rfl)
def kX(m:M.aa->Int->Option (Int)):aE K:={f:=8,sh:=⟨[.el U.Type,.int .i64],[]⟩,R:=Int,run:=fun x=>m x.1.1 x.1.2.1,dflt:=default,out:=fun r=>(Sh.enc D (.int .i64) r,aw.encs D [] ())}
def JD(y:(Int)⊕(Int)){R:Type}(k:Ex->List (AV K)->List (Ob K)->R):R:=match y with
 |.inl a0=>k Ex.ret (aA.bj D ⟨[.any,.int .i64],[]⟩ (((),(a0,())),())) (aA.bk D ⟨[.any,.int .i64],[]⟩ (((),(a0,())),()))
 |.inr (a1)=>k (Ex.exit 0) (aA.bj D ⟨[.int .i64,.any],[]⟩ ((a1,((),())),())) (aA.bk D ⟨[.int .i64,.any],[]⟩ ((a1,((),())),()))
def V6:List (bV K ((Int)⊕(Int))):=[⟨Ex.ret,⟨[.any,.int .i64],[]⟩,fun x=>.inl x.1.2.1⟩,⟨(Ex.exit 0),⟨[.int .i64,.any],[]⟩,fun x=>.inr (x.1.1)⟩]
def JE(cP:M.aa->Int->Option (Int)):bQ K:=bZ D false 27 0 [0,1,5] [1,4] ⟨[.ar U.Type,.int .i64,.int .i64],[]⟩ (fun x=>M.qY cP x.1.1 ai x.1.2.1 x.1.2.2.1) JD
def CZ(m:(List M.aa)->Int->Option (Int)):aE K:={f:=29,sh:=⟨[.ar U.Type,.int .i64],[]⟩,R:=Int,run:=fun x=>m x.1.1 x.1.2.1,dflt:=default,out:=fun r=>(Sh.enc D (.int .i64) r,aw.encs D [] ())}
def yT(cP:M.aa->Int->Option (Int)):Cx K:={aK with mode:=aI .plain [(8,.plain)],call:=callOf D [kX cP],loop:=aH [(5,JE cP)]}
theorem JF(cP:M.aa->Int->Option (Int))(l5:(kX cP).Ok D Tryz.prog):aF (yT cP):=aL ah _ (aj l5 (az))
theorem V7(cP:M.aa->Int->Option (Int))(l5:(kX cP).Ok D Tryz.prog):bR (yT cP) (bT (bW Tryz.f29) 0) (JE cP):=
 cg (cx:=yT cP) (n:=27) (n0:=0) (ins:=[0,1,5]) (outs:=[1,4]) (sh:=⟨[.ar U.Type,.int .i64,.int .i64],[]⟩) (run:=fun n x=>M.qY cP x.1.1 n x.1.2.1 x.1.2.2.1) (bU:=V6) (out:=JD) ah (JF cP l5) ay (aJ (by kernel_rfl)) (fun _=>rfl) (fun m x=>by kernel_rfl) (aj ⟨dG,fun _ _ _=>rfl⟩ (aj ⟨cm,fun _ _ _=>rfl⟩ (az))) false ai
theorem V8(cP:M.aa->Int->Option (Int))(l5:(kX cP).Ok D Tryz.prog):(CZ (M.tj cP)).Ok D Tryz.prog:=
 aN (cx:=yT cP) (c:=CZ (M.tj cP)) (fz:=true) (fn:=Tryz.f29) ah (JF cP l5) ay ⟨Tryz.func29,by kernel_rfl⟩ (aO (cn 1 (by kernel_rfl) (ct (.mk (by kernel_rfl) (V7 cP l5))))) ⟨⟨[.int .i64],[]⟩,fun x=>x.1.1⟩ (fun x=>rfl) (fun x=>by kernel_rfl)
def JG(cP:M.aa->Int->Option (Int)):Cx K:={aK with mode:=aI .plain [(40,.plain),(29,.plain)],call:=callOf D [CY M.ti,CZ (M.tj cP)],loop:=aH []}
theorem V9(cP:M.aa->Int->Option (Int))(l5:(kX cP).Ok D Tryz.prog):aF (JG cP):=aL ah _ (aj V5 (aj (V8 cP l5) (az)))
theorem Wa(cP:M.aa->Int->Option (Int))(l5:(kX cP).Ok D Tryz.prog):(kX (M.wz cP)).Ok D Tryz.prog:=
 aN (cx:=JG cP) (c:=kX (M.wz cP)) (fz:=true) (fn:=Tryz.f8) ah (V9 cP l5) ay ⟨Tryz.func8,by kernel_rfl⟩ (aO (aJ (by kernel_rfl))) ⟨⟨[.int .i64],[]⟩,fun x=>x.1.1⟩ (fun x=>rfl) (fun x=>by kernel_rfl)
theorem JH:∀n,(kX (M.qZ n)).Ok D Tryz.prog
 |0=>fp fun _=>rfl
 |n+1=>Wa (M.qZ n) (JH n)
theorem Wb:(kX (M.yU)).Ok D Tryz.prog:=JH ai
def JI(y:(List (List UInt8))){R:Type}(k:Ex->List (AV K)->List (Ob K)->R):R:=match y with
 |a0=>k (Ex.exit 0) (aA.bj D ⟨[.own 1],[.dead,.arr U.str]⟩ (((),()),((),(a0,())))) (aA.bk D ⟨[.own 1],[.dead,.arr U.str]⟩ (((),()),((),(a0,()))))
def Wc:List (bV K ((List (List UInt8)))):=[⟨(Ex.exit 0),⟨[.own 1],[.dead,.arr U.str]⟩,fun x=>x.2.2.1⟩]
def JJ:bQ K:=bZ D false 22 1 [0,3,4] [3] ⟨[.ar U.str,.own 1,.int .i64],[.dead,.arr U.str]⟩ (fun x=>M.pq x.1.1 ai x.1.2.2.1 x.2.2.1) JI
def C0(m:(List (List UInt8))->Option ((List (List UInt8)))):aE K:={f:=48,sh:=⟨[.ar U.str],[]⟩,R:=(List (List UInt8)),run:=fun x=>m x.1.1,dflt:=default,out:=fun r=>(Sh.enc D (.own 0) (),aw.encs D [.arr U.str] (r,()))}
def yV:Cx K:={aK with mode:=aI .plain [],ir:=[[some U.str]],deep:=fun c=>dh (D.cells c (K.zero c)),call:=callOf D [],loop:=aH [(3,JJ)]}
theorem JK:aF (yV):=aL ah _ (az)
theorem We:bR (yV) (bT (bW Tryz.f48) 0) (JJ):=
 cg (cx:=yV) (n:=22) (n0:=1) (ins:=[0,3,4]) (outs:=[3]) (sh:=⟨[.ar U.str,.own 1,.int .i64],[.dead,.arr U.str]⟩) (run:=fun n x=>M.pq x.1.1 n x.1.2.2.1 x.2.2.1) (bU:=Wc) (out:=JI) ah (JK) ay (aJ (by kernel_rfl)) (fun _=>rfl) (fun m x=>by kernel_rfl) (aj ⟨cm,fun _ _ _=>rfl⟩ (az)) false ai
theorem Wg:(C0 (M.tn)).Ok D Tryz.prog:=
 aN (cx:=yV) (c:=C0 (M.tn)) (fz:=false) (fn:=Tryz.f48) ah (JK) ay ⟨Tryz.func48,by kernel_rfl⟩ (aO (cn 1 (by kernel_rfl) (ct (.mk (by kernel_rfl) (We))))) ⟨⟨[.own 0],[.arr U.str]⟩,fun x=>x.2.1⟩ (fun x=>rfl) (fun x=>by kernel_rfl)
def kY(m:M.aa->Option (Int×(List UInt8)×(List (List UInt8))×(List M.aa))):aE K:={f:=12,sh:=⟨[.el U.Type],[]⟩,R:=Int×(List UInt8)×(List (List UInt8))×(List M.aa),run:=fun x=>m x.1.1,dflt:=default,out:=fun r=>(Sh.enc D (.agg [.int .i64,.str,.own 0,.own 1]) (r.1,(r.2.1,((),((),())))),aw.encs D [.arr U.str,.tree U.Type] (r.2.2.1,(r.2.2.2,())))}
def JL(y:(List M.aa)){R:Type}(k:Ex->List (AV K)->List (Ob K)->R):R:=match y with
 |a0=>k (Ex.exit 0) (aA.bj D ⟨[.own 1],[.dead,.tree U.Type]⟩ (((),()),((),(a0,())))) (aA.bk D ⟨[.own 1],[.dead,.tree U.Type]⟩ (((),()),((),(a0,()))))
def Wh:List (bV K ((List M.aa))):=[⟨(Ex.exit 0),⟨[.own 1],[.dead,.tree U.Type]⟩,fun x=>x.2.2.1⟩]
def JM(cV:M.aa->Option (Int×(List UInt8)×(List (List UInt8))×(List M.aa))):bQ K:=bZ D false 23 1 [0,3,4] [3] ⟨[.ar U.Type,.own 1,.int .i64],[.dead,.tree U.Type]⟩ (fun x=>M.pr cV x.1.1 ai x.1.2.2.1 x.2.2.1) JL
def C2(m:(List M.aa)->Option ((List M.aa))):aE K:={f:=32,sh:=⟨[.ar U.Type],[]⟩,R:=(List M.aa),run:=fun x=>m x.1.1,dflt:=default,out:=fun r=>(Sh.enc D (.own 0) (),aw.encs D [.tree U.Type] (r,()))}
def yW(cV:M.aa->Option (Int×(List UInt8)×(List (List UInt8))×(List M.aa))):Cx K:={aK with mode:=aI .plain [(12,.fresh)],ir:=[[some U.Type]],deep:=fun c=>dh (D.cells c (K.zero c)),call:=callOf D [kY cV],loop:=aH [(3,JM cV)]}
theorem JO(cV:M.aa->Option (Int×(List UInt8)×(List (List UInt8))×(List M.aa)))(l6:(kY cV).Ok D Tryz.prog):aF (yW cV):=aL ah _ (aj l6 (az))
theorem Wi(cV:M.aa->Option (Int×(List UInt8)×(List (List UInt8))×(List M.aa)))(l6:(kY cV).Ok D Tryz.prog):bR (yW cV) (bT (bW Tryz.f32) 0) (JM cV):=
 cg (cx:=yW cV) (n:=23) (n0:=1) (ins:=[0,3,4]) (outs:=[3]) (sh:=⟨[.ar U.Type,.own 1,.int .i64],[.dead,.tree U.Type]⟩) (run:=fun n x=>M.pr cV x.1.1 n x.1.2.2.1 x.2.2.1) (bU:=Wh) (out:=JL) ah (JO cV l6) ay (aJ (by kernel_rfl)) (fun _=>rfl) (fun m x=>by kernel_rfl) (aj ⟨cm,fun _ _ _=>rfl⟩ (az)) false ai
theorem Wj(cV:M.aa->Option (Int×(List UInt8)×(List (List UInt8))×(List M.aa)))(l6:(kY cV).Ok D Tryz.prog):(C2 (M.tp cV)).Ok D Tryz.prog:=
 aN (cx:=yW cV) (c:=C2 (M.tp cV)) (fz:=false) (fn:=Tryz.f32) ah (JO cV l6) ay ⟨Tryz.func32,by kernel_rfl⟩ (aO (cn 1 (by kernel_rfl) (ct (.mk (by kernel_rfl) (Wi cV l6))))) ⟨⟨[.own 0],[.tree U.Type]⟩,fun x=>x.2.1⟩ (fun x=>rfl) (fun x=>by kernel_rfl)
def JP(cV:M.aa->Option (Int×(List UInt8)×(List (List UInt8))×(List M.aa))):Cx K:={aK with mode:=aI .plain [(48,.fresh),(32,.fresh)],ir:=[[none,none,some U.str,some U.Type]],deep:=fun c=>dh (D.cells c (K.zero c)),call:=callOf D [C0 M.tn,C2 (M.tp cV)],loop:=aH []}
theorem Wl(cV:M.aa->Option (Int×(List UInt8)×(List (List UInt8))×(List M.aa)))(l6:(kY cV).Ok D Tryz.prog):aF (JP cV):=aL ah _ (aj Wg (aj (Wj cV l6) (az)))
theorem Wm(cV:M.aa->Option (Int×(List UInt8)×(List (List UInt8))×(List M.aa)))(l6:(kY cV).Ok D Tryz.prog):(kY (M.wA cV)).Ok D Tryz.prog:=
 aN (cx:=JP cV) (c:=kY (M.wA cV)) (fz:=false) (fn:=Tryz.f12) ah (Wl cV l6) ay ⟨Tryz.func12,by kernel_rfl⟩ (aO (aJ (by kernel_rfl))) ⟨⟨[.agg [.int .i64,.str,.own 0,.own 1]],[.arr U.str,.tree U.Type]⟩,fun x=>(x.1.1.1,x.1.1.2.1,x.2.1,x.2.2.1)⟩ (fun x=>rfl) (fun x=>by kernel_rfl)
theorem JQ:∀n,(kY (M.rf n)).Ok D Tryz.prog
 |0=>fp fun _=>rfl
 |n+1=>Wm (M.rf n) (JQ n)
theorem Wn:(kY (M.yX)).Ok D Tryz.prog:=JQ ai
def JR(y:(Bool)⊕(Unit)){R:Type}(k:Ex->List (AV K)->List (Ob K)->R):R:=match y with
 |.inl a0=>k Ex.ret (aA.bj D ⟨[.bool],[]⟩ ((a0,()),())) (aA.bk D ⟨[.bool],[]⟩ ((a0,()),()))
 |.inr (a1)=>k (Ex.exit 0) (aA.bj D ⟨[.any],[]⟩ (((),()),())) (aA.bk D ⟨[.any],[]⟩ (((),()),()))
def Wp:List (bV K ((Bool)⊕(Unit))):=[⟨Ex.ret,⟨[.bool],[]⟩,fun x=>.inl x.1.1⟩,⟨(Ex.exit 0),⟨[.any],[]⟩,fun x=>.inr (())⟩]
def JS:bQ K:=bZ D false 26 0 [0,1,5] [4] ⟨[.ar U.str,.ar U.str,.int .i64],[]⟩ (fun x=>M.rh x.1.1 x.1.2.1 ai x.1.2.2.1) JR
def C3(m:(List (List UInt8))->(List (List UInt8))->Option (Bool)):aE K:={f:=56,sh:=⟨[.ar U.str,.ar U.str],[]⟩,R:=Bool,run:=fun x=>m x.1.1 x.1.2.1,dflt:=default,out:=fun r=>(Sh.enc D (.bool) r,aw.encs D [] ())}
def yY:Cx K:={aK with mode:=aI .plain [],call:=callOf D [],loop:=aH [(4,JS)]}
theorem JU:aF (yY):=aL ah _ (az)
theorem Wq:bR (yY) (bT (bW Tryz.f56) 0) (JS):=
 cg (cx:=yY) (n:=26) (n0:=0) (ins:=[0,1,5]) (outs:=[4]) (sh:=⟨[.ar U.str,.ar U.str,.int .i64],[]⟩) (run:=fun n x=>M.rh x.1.1 x.1.2.1 n x.1.2.2.1) (bU:=Wp) (out:=JR) ah (JU) ay (aJ (by kernel_rfl)) (fun _=>rfl) (fun m x=>by kernel_rfl) (aj ⟨dG,fun _ _ _=>rfl⟩ (aj ⟨cm,fun _ _ _=>rfl⟩ (az))) false ai
theorem Ws:(C3 (M.tq)).Ok D Tryz.prog:=
 aN (cx:=yY) (c:=C3 (M.tq)) (fz:=true) (fn:=Tryz.f56) ah (JU) ay ⟨Tryz.func56,by kernel_rfl⟩ (aO (cn 1 (by kernel_rfl) (ct (.mk (by kernel_rfl) (Wq))))) ⟨⟨[.bool],[]⟩,fun x=>x.1.1⟩ (fun x=>rfl) (fun x=>by kernel_rfl)
def kZ(m:M.aa->M.aa->Option (Bool)):aE K:={f:=16,sh:=⟨[.el U.Type,.el U.Type],[]⟩,R:=Bool,run:=fun x=>m x.1.1 x.1.2.1,dflt:=default,out:=fun r=>(Sh.enc D (.bool) r,aw.encs D [] ())}
def JV(y:(Bool)⊕(Unit)){R:Type}(k:Ex->List (AV K)->List (Ob K)->R):R:=match y with
 |.inl a0=>k Ex.ret (aA.bj D ⟨[.bool],[]⟩ ((a0,()),())) (aA.bk D ⟨[.bool],[]⟩ ((a0,()),()))
 |.inr (a1)=>k (Ex.exit 0) (aA.bj D ⟨[.any],[]⟩ (((),()),())) (aA.bk D ⟨[.any],[]⟩ (((),()),()))
def Wu:List (bV K ((Bool)⊕(Unit))):=[⟨Ex.ret,⟨[.bool],[]⟩,fun x=>.inl x.1.1⟩,⟨(Ex.exit 0),⟨[.any],[]⟩,fun x=>.inr (())⟩]
def JW(cQ:M.aa->M.aa->Option (Bool)):bQ K:=bZ D false 27 0 [0,1,5] [4] ⟨[.ar U.Type,.ar U.Type,.int .i64],[]⟩ (fun x=>M.ri cQ x.1.1 x.1.2.1 ai x.1.2.2.1) JV
def C4(m:(List M.aa)->(List M.aa)->Option (Bool)):aE K:={f:=35,sh:=⟨[.ar U.Type,.ar U.Type],[]⟩,R:=Bool,run:=fun x=>m x.1.1 x.1.2.1,dflt:=default,out:=fun r=>(Sh.enc D (.bool) r,aw.encs D [] ())}
def yZ(cQ:M.aa->M.aa->Option (Bool)):Cx K:={aK with mode:=aI .plain [(16,.plain)],call:=callOf D [kZ cQ],loop:=aH [(4,JW cQ)]}
theorem JX(cQ:M.aa->M.aa->Option (Bool))(l7:(kZ cQ).Ok D Tryz.prog):aF (yZ cQ):=aL ah _ (aj l7 (az))
theorem Wv(cQ:M.aa->M.aa->Option (Bool))(l7:(kZ cQ).Ok D Tryz.prog):bR (yZ cQ) (bT (bW Tryz.f35) 0) (JW cQ):=
 cg (cx:=yZ cQ) (n:=27) (n0:=0) (ins:=[0,1,5]) (outs:=[4]) (sh:=⟨[.ar U.Type,.ar U.Type,.int .i64],[]⟩) (run:=fun n x=>M.ri cQ x.1.1 x.1.2.1 n x.1.2.2.1) (bU:=Wu) (out:=JV) ah (JX cQ l7) ay (aJ (by kernel_rfl)) (fun _=>rfl) (fun m x=>by kernel_rfl) (aj ⟨dG,fun _ _ _=>rfl⟩ (aj ⟨cm,fun _ _ _=>rfl⟩ (az))) false ai
theorem Ww(cQ:M.aa->M.aa->Option (Bool))(l7:(kZ cQ).Ok D Tryz.prog):(C4 (M.tr cQ)).Ok D Tryz.prog:=
 aN (cx:=yZ cQ) (c:=C4 (M.tr cQ)) (fz:=true) (fn:=Tryz.f35) ah (JX cQ l7) ay ⟨Tryz.func35,by kernel_rfl⟩ (aO (cn 1 (by kernel_rfl) (ct (.mk (by kernel_rfl) (Wv cQ l7))))) ⟨⟨[.bool],[]⟩,fun x=>x.1.1⟩ (fun x=>rfl) (fun x=>by kernel_rfl)
def JY(cQ:M.aa->M.aa->Option (Bool)):Cx K:={aK with mode:=aI .plain [(56,.plain),(35,.plain)],call:=callOf D [C3 M.tq,C4 (M.tr cQ)],loop:=aH []}
theorem Wx(cQ:M.aa->M.aa->Option (Bool))(l7:(kZ cQ).Ok D Tryz.prog):aF (JY cQ):=aL ah _ (aj Ws (aj (Ww cQ l7) (az)))
theorem Wy(cQ:M.aa->M.aa->Option (Bool))(l7:(kZ cQ).Ok D Tryz.prog):(kZ (M.wB cQ)).Ok D Tryz.prog:=
 aN (cx:=JY cQ) (c:=kZ (M.wB cQ)) (fz:=true) (fn:=Tryz.f16) ah (Wx cQ l7) ay ⟨Tryz.func16,by kernel_rfl⟩ (aO (aJ (by kernel_rfl))) ⟨⟨[.bool],[]⟩,fun x=>x.1.1⟩ (fun x=>rfl) (fun x=>by kernel_rfl)
theorem JZ:∀n,(kZ (M.rj n)).Ok D Tryz.prog
 |0=>fp fun _=>rfl
 |n+1=>Wy (M.rj n) (JZ n)
theorem WA:(kZ (M.y4)).Ok D Tryz.prog:=JZ ai
def nE(m:M.aa->Int->Option (Int×Int)):aE K:={f:=156,sh:=⟨[.el U.Type,.int .i64],[]⟩,R:=Int×Int,run:=fun x=>m x.1.1 x.1.2.1,dflt:=default,out:=fun r=>(Sh.enc D (.aX [.int .i64,.int .i64]) (r.1,(r.2,())),aw.encs D [] ())}
def wC(m:Int->Int->Option (Int)):aE K:={f:=115,sh:=⟨[.int .i64,.int .i64],[]⟩,R:=Int,run:=fun x=>m x.1.1 x.1.2.1,dflt:=default,out:=fun r=>(Sh.enc D (.int .i64) r,aw.encs D [] ())}
def J0:Cx K:={aK with mode:=aI .plain [],call:=callOf D [],loop:=aH []}
theorem WB:aF (J0):=aL ah _ (az)
theorem C5:(wC (M.jc)).Ok D Tryz.prog:=
 aN (cx:=J0) (c:=wC (M.jc)) (fz:=true) (fn:=Tryz.f115) ah (WB) ay ⟨Tryz.func115,by kernel_rfl⟩ (aO (aJ (by kernel_rfl))) ⟨⟨[.int .i64],[]⟩,fun x=>x.1.1⟩ (fun x=>rfl) (fun x=>by kernel_rfl)
def J1(y:(Int×Int)⊕(Int×Int)){R:Type}(k:Ex->List (AV K)->List (Ob K)->R):R:=match y with
 |.inl a0=>k Ex.ret (aA.bj D ⟨[.any,.any,.int .i64,.int .i64],[.dead]⟩ (((),((),(a0.1,(a0.2,())))),((),()))) (aA.bk D ⟨[.any,.any,.int .i64,.int .i64],[.dead]⟩ (((),((),(a0.1,(a0.2,())))),((),())))
 |.inr (a1)=>k (Ex.exit 0) (aA.bj D ⟨[.int .i64,.int .i64,.any,.any],[.dead]⟩ ((a1.1,(a1.2,((),((),())))),((),()))) (aA.bk D ⟨[.int .i64,.int .i64,.any,.any],[.dead]⟩ ((a1.1,(a1.2,((),((),())))),((),())))
def WC:List (bV K ((Int×Int)⊕(Int×Int))):=[⟨Ex.ret,⟨[.any,.any,.int .i64,.int .i64],[.dead]⟩,fun x=>.inl (x.1.2.2.1,x.1.2.2.2.1)⟩,⟨(Ex.exit 0),⟨[.int .i64,.int .i64,.any,.any],[.dead]⟩,fun x=>.inr ((x.1.1,x.1.2.1))⟩]
def J2(dZ:M.aa->Int->Option (Int×Int)):bQ K:=bZ D false 48 1 [1,2,6,7,8] [6,7,4,5] ⟨[.int .i64,.ptr 0 0,.int .i64,.int .i64,.int .i64],[.el U.Type]⟩ (fun x=>M.pt dZ x.1.1 ai x.1.2.2.1 x.1.2.2.2.1 x.1.2.2.2.2.1 x.2.1) J1
def y7(dZ:M.aa->Int->Option (Int×Int)):Cx K:={aK with mode:=aI .plain [(156,.plain),(115,.plain)],call:=callOf D [nE dZ,wC M.jc],loop:=aH [(6,J2 dZ)]}
theorem J3(dZ:M.aa->Int->Option (Int×Int))(tu:(nE dZ).Ok D Tryz.prog):aF (y7 dZ):=aL ah _ (aj tu (aj C5 (az)))
theorem WE(dZ:M.aa->Int->Option (Int×Int))(tu:(nE dZ).Ok D Tryz.prog):bR (y7 dZ) (bT (bW Tryz.f156) 0) (J2 dZ):=
 cg (cx:=y7 dZ) (n:=48) (n0:=1) (ins:=[1,2,6,7,8]) (outs:=[6,7,4,5]) (sh:=⟨[.int .i64,.ptr 0 0,.int .i64,.int .i64,.int .i64],[.el U.Type]⟩) (run:=fun n x=>M.pt dZ x.1.1 n x.1.2.2.1 x.1.2.2.2.1 x.1.2.2.2.2.1 x.2.1) (bU:=WC) (out:=J1) ah (J3 dZ tu) ay (aJ (by kernel_rfl)) (fun _=>rfl) (fun m x=>by kernel_rfl) (aj ⟨dG,fun _ _ _=>rfl⟩ (aj ⟨cm,fun _ _ _=>rfl⟩ (az))) false ai
theorem WG(dZ:M.aa->Int->Option (Int×Int))(tu:(nE dZ).Ok D Tryz.prog):(nE (M.wE dZ)).Ok D Tryz.prog:=
 aN (cx:=y7 dZ) (c:=nE (M.wE dZ)) (fz:=true) (fn:=Tryz.f156) ah (J3 dZ tu) ay ⟨Tryz.func156,by kernel_rfl⟩ (aO (cn 1 (by kernel_rfl) (ct (.mk (by kernel_rfl) (WE dZ tu))))) ⟨⟨[.aX [.int .i64,.int .i64]],[]⟩,fun x=>(x.1.1.1,x.1.1.2.1)⟩ (fun x=>rfl) (fun x=>by kernel_rfl)
theorem J4:∀n,(nE (M.pv n)).Ok D Tryz.prog
 |0=>fp fun _=>rfl
 |n+1=>WG (M.pv n) (J4 n)
theorem WH:(nE (M.y9)).Ok D Tryz.prog:=J4 ai
def pw(m:Int->Int->Int->Option (Bool)):aE K:={f:=120,sh:=⟨[.int .i64,.int .i64,.int .i64],[]⟩,R:=Bool,run:=fun x=>m x.1.1 x.1.2.1 x.1.2.2.1,dflt:=default,out:=fun r=>(Sh.enc D (.bool) r,aw.encs D [] ())}
def J5:Cx K:={aK with mode:=aI .plain [],call:=callOf D [],loop:=aH []}
theorem WI:aF (J5):=aL ah _ (az)
theorem tw:(pw (M.px)).Ok D Tryz.prog:=
 aN (cx:=J5) (c:=pw (M.px)) (fz:=true) (fn:=Tryz.f120) ah (WI) ay ⟨Tryz.func120,by kernel_rfl⟩ (aO (aJ (by kernel_rfl))) ⟨⟨[.bool],[]⟩,fun x=>x.1.1⟩ (fun x=>rfl) (fun x=>by kernel_rfl)
def J6(y:(Bool)⊕(Unit)){R:Type}(k:Ex->List (AV K)->List (Ob K)->R):R:=match y with
 |.inl a0=>k Ex.ret (aA.bj D ⟨[.bool],[]⟩ ((a0,()),())) (aA.bk D ⟨[.bool],[]⟩ ((a0,()),()))
 |.inr (a1)=>k (Ex.exit 0) (aA.bj D ⟨[.any],[]⟩ (((),()),())) (aA.bk D ⟨[.any],[]⟩ (((),()),()))
def WJ:List (bV K ((Bool)⊕(Unit))):=[⟨Ex.ret,⟨[.bool],[]⟩,fun x=>.inl x.1.1⟩,⟨(Ex.exit 0),⟨[.any],[]⟩,fun x=>.inr (())⟩]
def J7:bQ K:=bZ D false 69 0 [0,3] [2] ⟨[.str,.int .i64],[]⟩ (fun x=>M.rk x.1.1 ai x.1.2.1) J6
def za(m:(List UInt8)->Option (Bool)):aE K:={f:=181,sh:=⟨[.str],[]⟩,R:=Bool,run:=fun x=>m x.1.1,dflt:=default,out:=fun r=>(Sh.enc D (.bool) r,aw.encs D [] ())}
def zb:Cx K:={aK with mode:=aI .plain [],call:=callOf D [],loop:=aH [(4,J7)]}
theorem J8:aF (zb):=aL ah _ (az)
theorem WL:bR (zb) (bT (bW Tryz.f181) 0) (J7):=
 cg (cx:=zb) (n:=69) (n0:=0) (ins:=[0,3]) (outs:=[2]) (sh:=⟨[.str,.int .i64],[]⟩) (run:=fun n x=>M.rk x.1.1 n x.1.2.1) (bU:=WJ) (out:=J6) ah (J8) ay (aJ (by kernel_rfl)) (fun _=>rfl) (fun m x=>by kernel_rfl) (aj ⟨dG,fun _ _ _=>rfl⟩ (aj ⟨cm,fun _ _ _=>rfl⟩ (az))) false ai
theorem J9:(za (M.py)).Ok D Tryz.prog:=
 aN (cx:=zb) (c:=za (M.py)) (fz:=true) (fn:=Tryz.f181) ah (J8) ay ⟨Tryz.func181,by kernel_rfl⟩ (aO (cn 1 (by kernel_rfl) (ct (.mk (by kernel_rfl) (WL))))) ⟨⟨[.bool],[]⟩,fun x=>x.1.1⟩ (fun x=>rfl) (fun x=>by kernel_rfl)
def Ko(y:(Bool)⊕((List (List UInt8))×Int)){R:Type}(k:Ex->List (AV K)->List (Ob K)->R):R:=match y with
 |.inl a0=>k Ex.ret (aA.bj D ⟨[.any,.any,.bool],[]⟩ (((),((),(a0,()))),())) (aA.bk D ⟨[.any,.any,.bool],[]⟩ (((),((),(a0,()))),()))
 |.inr (a1)=>k (Ex.exit 2) (aA.bj D ⟨[.ar U.str,.int .i64,.any],[]⟩ ((a1.1,(a1.2,((),()))),())) (aA.bk D ⟨[.ar U.str,.int .i64,.any],[]⟩ ((a1.1,(a1.2,((),()))),()))
def WM:List (bV K ((Bool)⊕((List (List UInt8))×Int))):=[⟨Ex.ret,⟨[.any,.any,.bool],[]⟩,fun x=>.inl x.1.2.2.1⟩,⟨(Ex.exit 2),⟨[.ar U.str,.int .i64,.any],[]⟩,fun x=>.inr ((x.1.1,x.1.2.1))⟩]
def Kp:bQ K:=bZ D false 39 0 [0,3,4] [0,3,2] ⟨[.ar U.str,.int .i64,.int .i64],[]⟩ (fun x=>M.pz x.1.1 x.1.2.1 ai x.1.2.2.1) Ko
def Kq(y:(Bool)⊕(Unit)){R:Type}(k:Ex->List (AV K)->List (Ob K)->R):R:=match y with
 |.inl a0=>k Ex.ret (aA.bj D ⟨[.bool],[]⟩ ((a0,()),())) (aA.bk D ⟨[.bool],[]⟩ ((a0,()),()))
 |.inr (a1)=>k (Ex.exit 0) (aA.bj D ⟨[.any],[]⟩ (((),()),())) (aA.bk D ⟨[.any],[]⟩ (((),()),()))
def WN:List (bV K ((Bool)⊕(Unit))):=[⟨Ex.ret,⟨[.bool],[]⟩,fun x=>.inl x.1.1⟩,⟨(Ex.exit 0),⟨[.any],[]⟩,fun x=>.inr (())⟩]
def Kr:bQ K:=bZ D false 39 0 [0,3] [2] ⟨[.ar U.str,.int .i64],[]⟩ (fun x=>M.nF ai x.1.1 x.1.2.1) Kq
def C6(m:(List (List UInt8))->Option (Bool)):aE K:={f:=182,sh:=⟨[.ar U.str],[]⟩,R:=Bool,run:=fun x=>m x.1.1,dflt:=default,out:=fun r=>(Sh.enc D (.bool) r,aw.encs D [] ())}
def tz:Cx K:={aK with mode:=aI .plain [(181,.plain)],call:=callOf D [za M.py],loop:=aH [(9,Kp),(4,Kr)]}
theorem C7:aF (tz):=aL ah _ (aj J9 (az))
theorem WO:bR (tz) (bT (bT (bW Tryz.f182) 0) 0) (Kp):=
 cg (cx:=tz) (n:=39) (n0:=0) (ins:=[0,3,4]) (outs:=[0,3,2]) (sh:=⟨[.ar U.str,.int .i64,.int .i64],[]⟩) (run:=fun n x=>M.pz x.1.1 x.1.2.1 n x.1.2.2.1) (bU:=WM) (out:=Ko) ah (C7) ay (aJ (by kernel_rfl)) (fun _=>rfl) (fun m x=>by kernel_rfl) (aj ⟨dG,fun _ _ _=>rfl⟩ (aj ⟨cm,fun _ _ _=>rfl⟩ (az))) false ai
theorem WQ:bR (tz) (bT (bW Tryz.f182) 0) (Kr):=
 cg (cx:=tz) (n:=39) (n0:=0) (ins:=[0,3]) (outs:=[2]) (sh:=⟨[.ar U.str,.int .i64],[]⟩) (run:=fun n x=>M.nF n x.1.1 x.1.2.1) (bU:=WN) (out:=Kq) ah (C7) ay (cn 1 (by kernel_rfl) (ct (.mk (by kernel_rfl) (WO)))) (fun _=>rfl) (fun m x=>by kernel_rfl) (aj ⟨dG,fun _ _ _=>rfl⟩ (aj ⟨cm,fun _ _ _=>rfl⟩ (az))) false ai
theorem WR:(C6 (M.tA)).Ok D Tryz.prog:=
 aN (cx:=tz) (c:=C6 (M.tA)) (fz:=true) (fn:=Tryz.f182) ah (C7) ay ⟨Tryz.func182,by kernel_rfl⟩ (aO (cn 1 (by kernel_rfl) (ct (.mk (by kernel_rfl) (WQ))))) ⟨⟨[.bool],[]⟩,fun x=>x.1.1⟩ (fun x=>rfl) (fun x=>by kernel_rfl)
def Ks(y:(Bool)⊕(Unit)){R:Type}(k:Ex->List (AV K)->List (Ob K)->R):R:=match y with
 |.inl a0=>k Ex.ret (aA.bj D ⟨[.bool],[.dead]⟩ ((a0,()),((),()))) (aA.bk D ⟨[.bool],[.dead]⟩ ((a0,()),((),())))
 |.inr (a1)=>k (Ex.exit 0) (aA.bj D ⟨[.any],[.dead]⟩ (((),()),((),()))) (aA.bk D ⟨[.any],[.dead]⟩ (((),()),((),())))
def WS:List (bV K ((Bool)⊕(Unit))):=[⟨Ex.ret,⟨[.bool],[.dead]⟩,fun x=>.inl x.1.1⟩,⟨(Ex.exit 0),⟨[.any],[.dead]⟩,fun x=>.inr (())⟩]
def Kt:bQ K:=bZ D false 18 1 [1,3] [2] ⟨[.ptr 0 0,.int .i64],[.el U.Type]⟩ (fun x=>M.l9 ai x.1.2.1 x.2.1) Ks
def C9(m:M.aa->Option (Bool)):aE K:={f:=183,sh:=⟨[.el U.Type],[]⟩,R:=Bool,run:=fun x=>m x.1.1,dflt:=default,out:=fun r=>(Sh.enc D (.bool) r,aw.encs D [] ())}
def zc:Cx K:={aK with mode:=aI .plain [],call:=callOf D [],loop:=aH [(2,Kt)]}
theorem Ku:aF (zc):=aL ah _ (az)
theorem WT:bR (zc) (bT (bW Tryz.f183) 0) (Kt):=
 cg (cx:=zc) (n:=18) (n0:=1) (ins:=[1,3]) (outs:=[2]) (sh:=⟨[.ptr 0 0,.int .i64],[.el U.Type]⟩) (run:=fun n x=>M.l9 n x.1.2.1 x.2.1) (bU:=WS) (out:=Ks) ah (Ku) ay (aJ (by kernel_rfl)) (fun _=>rfl) (fun m x=>by kernel_rfl) (aj ⟨dG,fun _ _ _=>rfl⟩ (aj ⟨cm,fun _ _ _=>rfl⟩ (az))) false ai
theorem WU:(C9 (M.pA)).Ok D Tryz.prog:=
 aN (cx:=zc) (c:=C9 (M.pA)) (fz:=true) (fn:=Tryz.f183) ah (Ku) ay ⟨Tryz.func183,by kernel_rfl⟩ (aO (cn 1 (by kernel_rfl) (ct (.mk (by kernel_rfl) (WT))))) ⟨⟨[.bool],[]⟩,fun x=>x.1.1⟩ (fun x=>rfl) (fun x=>by kernel_rfl)
def nG(m:M.aa->Int->Int->Option (Bool)):aE K:={f:=184,sh:=⟨[.el U.Type,.int .i64,.int .i64],[]⟩,R:=Bool,run:=fun x=>m x.1.1 x.1.2.1 x.1.2.2.1,dflt:=default,out:=fun r=>(Sh.enc D (.bool) r,aw.encs D [] ())}
def Kv(y:(Bool)⊕(Unit)){R:Type}(k:Ex->List (AV K)->List (Ob K)->R):R:=match y with
 |.inl a0=>k Ex.ret (aA.bj D ⟨[.bool],[.dead]⟩ ((a0,()),((),()))) (aA.bk D ⟨[.bool],[.dead]⟩ ((a0,()),((),())))
 |.inr (a1)=>k (Ex.exit 0) (aA.bj D ⟨[.any],[.dead]⟩ (((),()),((),()))) (aA.bk D ⟨[.any],[.dead]⟩ (((),()),((),())))
def WV:List (bV K ((Bool)⊕(Unit))):=[⟨Ex.ret,⟨[.bool],[.dead]⟩,fun x=>.inl x.1.1⟩,⟨(Ex.exit 0),⟨[.any],[.dead]⟩,fun x=>.inr (())⟩]
def Kw(d6:M.aa->Int->Int->Option (Bool)):bQ K:=bZ D false 28 1 [1,2,3,7] [6] ⟨[.int .i64,.int .i64,.ptr 0 0,.int .i64],[.el U.Type]⟩ (fun x=>M.ma d6 x.1.1 x.1.2.1 ai x.1.2.2.2.1 x.2.1) Kv
def zd(d6:M.aa->Int->Int->Option (Bool)):Cx K:={aK with mode:=aI .plain [(120,.plain),(184,.plain)],call:=callOf D [pw M.px,nG d6],loop:=aH [(4,Kw d6)]}
theorem Kx(d6:M.aa->Int->Int->Option (Bool))(tB:(nG d6).Ok D Tryz.prog):aF (zd d6):=aL ah _ (aj tw (aj tB (az)))
theorem WW(d6:M.aa->Int->Int->Option (Bool))(tB:(nG d6).Ok D Tryz.prog):bR (zd d6) (bT (bW Tryz.f184) 0) (Kw d6):=
 cg (cx:=zd d6) (n:=28) (n0:=1) (ins:=[1,2,3,7]) (outs:=[6]) (sh:=⟨[.int .i64,.int .i64,.ptr 0 0,.int .i64],[.el U.Type]⟩) (run:=fun n x=>M.ma d6 x.1.1 x.1.2.1 n x.1.2.2.2.1 x.2.1) (bU:=WV) (out:=Kv) ah (Kx d6 tB) ay (aJ (by kernel_rfl)) (fun _=>rfl) (fun m x=>by kernel_rfl) (aj ⟨dG,fun _ _ _=>rfl⟩ (aj ⟨cm,fun _ _ _=>rfl⟩ (az))) false ai
theorem WX(d6:M.aa->Int->Int->Option (Bool))(tB:(nG d6).Ok D Tryz.prog):(nG (M.wF d6)).Ok D Tryz.prog:=
 aN (cx:=zd d6) (c:=nG (M.wF d6)) (fz:=true) (fn:=Tryz.f184) ah (Kx d6 tB) ay ⟨Tryz.func184,by kernel_rfl⟩ (aO (cn 1 (by kernel_rfl) (ct (.mk (by kernel_rfl) (WW d6 tB))))) ⟨⟨[.bool],[]⟩,fun x=>x.1.1⟩ (fun x=>rfl) (fun x=>by kernel_rfl)
theorem Ky:∀n,(nG (M.k7 n)).Ok D Tryz.prog
 |0=>fp fun _=>rfl
 |n+1=>WX (M.k7 n) (Ky n)
theorem WY:(nG (M.pB)).Ok D Tryz.prog:=Ky ai
def Da(m:M.aa->Option (Bool)):aE K:={f:=170,sh:=⟨[.el U.Type],[]⟩,R:=Bool,run:=fun x=>m x.1.1,dflt:=default,out:=fun r=>(Sh.enc D (.bool) r,aw.encs D [] ())}
def Kz:Cx K:={aK with mode:=aI .plain [(120,.plain),(181,.plain),(182,.plain),(183,.plain),(184,.plain)],call:=callOf D [pw M.px,za M.py,C6 M.tA,C9 M.pA,nG M.pB],loop:=aH []}
theorem WZ:aF (Kz):=aL ah _ (aj tw (aj J9 (aj WR (aj WU (aj WY (az))))))
theorem W0:(Da (M.tC)).Ok D Tryz.prog:=
 aN (cx:=Kz) (c:=Da (M.tC)) (fz:=true) (fn:=Tryz.f170) ah (WZ) ay ⟨Tryz.func170,by kernel_rfl⟩ (aO (aJ (by kernel_rfl))) ⟨⟨[.bool],[]⟩,fun x=>x.1.1⟩ (fun x=>rfl) (fun x=>by kernel_rfl)
def nH(m:M.aa->Option (Bool)):aE K:={f:=157,sh:=⟨[.el U.Type],[]⟩,R:=Bool,run:=fun x=>m x.1.1,dflt:=default,out:=fun r=>(Sh.enc D (.bool) r,aw.encs D [] ())}
def KA(y:(Bool)⊕(Unit)){R:Type}(k:Ex->List (AV K)->List (Ob K)->R):R:=match y with
 |.inl a0=>k Ex.ret (aA.bj D ⟨[.bool],[.dead]⟩ ((a0,()),((),()))) (aA.bk D ⟨[.bool],[.dead]⟩ ((a0,()),((),())))
 |.inr (a1)=>k (Ex.exit 0) (aA.bj D ⟨[.any],[.dead]⟩ (((),()),((),()))) (aA.bk D ⟨[.any],[.dead]⟩ (((),()),((),())))
def W1:List (bV K ((Bool)⊕(Unit))):=[⟨Ex.ret,⟨[.bool],[.dead]⟩,fun x=>.inl x.1.1⟩,⟨(Ex.exit 0),⟨[.any],[.dead]⟩,fun x=>.inr (())⟩]
def KB(ec:M.aa->Option (Bool)):bQ K:=bZ D false 21 1 [1,3] [2] ⟨[.ptr 0 0,.int .i64],[.el U.Type]⟩ (fun x=>M.mb ec ai x.1.2.1 x.2.1) KA
def ze(ec:M.aa->Option (Bool)):Cx K:={aK with mode:=aI .plain [(170,.plain),(157,.plain)],call:=callOf D [Da M.tC,nH ec],loop:=aH [(4,KB ec)]}
theorem KC(ec:M.aa->Option (Bool))(tD:(nH ec).Ok D Tryz.prog):aF (ze ec):=aL ah _ (aj W0 (aj tD (az)))
theorem W2(ec:M.aa->Option (Bool))(tD:(nH ec).Ok D Tryz.prog):bR (ze ec) (bT (bW Tryz.f157) 0) (KB ec):=
 cg (cx:=ze ec) (n:=21) (n0:=1) (ins:=[1,3]) (outs:=[2]) (sh:=⟨[.ptr 0 0,.int .i64],[.el U.Type]⟩) (run:=fun n x=>M.mb ec n x.1.2.1 x.2.1) (bU:=W1) (out:=KA) ah (KC ec tD) ay (aJ (by kernel_rfl)) (fun _=>rfl) (fun m x=>by kernel_rfl) (aj ⟨dG,fun _ _ _=>rfl⟩ (aj ⟨cm,fun _ _ _=>rfl⟩ (az))) false ai
theorem W4(ec:M.aa->Option (Bool))(tD:(nH ec).Ok D Tryz.prog):(nH (M.wG ec)).Ok D Tryz.prog:=
 aN (cx:=ze ec) (c:=nH (M.wG ec)) (fz:=true) (fn:=Tryz.f157) ah (KC ec tD) ay ⟨Tryz.func157,by kernel_rfl⟩ (aO (cn 1 (by kernel_rfl) (ct (.mk (by kernel_rfl) (W2 ec tD))))) ⟨⟨[.bool],[]⟩,fun x=>x.1.1⟩ (fun x=>rfl) (fun x=>by kernel_rfl)
theorem KD:∀n,(nH (M.mc n)).Ok D Tryz.prog
 |0=>fp fun _=>rfl
 |n+1=>W4 (M.mc n) (KD n)
theorem W5:(nH (M.zf)).Ok D Tryz.prog:=KD ai
def nI(m:M.aa->Int->Option (Int)):aE K:={f:=162,sh:=⟨[.el U.Type,.int .i64],[]⟩,R:=Int,run:=fun x=>m x.1.1 x.1.2.1,dflt:=default,out:=fun r=>(Sh.enc D (.int .i64) r,aw.encs D [] ())}
def KE(y:Int){R:Type}(k:Ex->List (AV K)->List (Ob K)->R):R:=match y with
 |a0=>k (Ex.exit 0) (aA.bj D ⟨[.int .i64],[]⟩ ((a0,()),())) (aA.bk D ⟨[.int .i64],[]⟩ ((a0,()),()))
def W6:List (bV K (Int)):=[⟨(Ex.exit 0),⟨[.int .i64],[]⟩,fun x=>x.1.1⟩]
def KF(ek:M.aa->Int->Option (Int)):bQ K:=bZ D false 26 0 [1,5,11,12,13] [5] ⟨[.int .i64,.int .i64,.ar U.Type,.int .i64,.int .i64],[]⟩ (fun x=>M.pC ek x.1.1 x.1.2.2.1 x.1.2.2.2.1 ai x.1.2.1 x.1.2.2.2.2.1) KE
def zg(ek:M.aa->Int->Option (Int)):Cx K:={aK with mode:=aI .plain [(162,.plain)],call:=callOf D [nI ek],loop:=aH [(5,KF ek)]}
theorem KG(ek:M.aa->Int->Option (Int))(tG:(nI ek).Ok D Tryz.prog):aF (zg ek):=aL ah _ (aj tG (az))
theorem W7(ek:M.aa->Int->Option (Int))(tG:(nI ek).Ok D Tryz.prog):bR (zg ek) (bT (bW Tryz.f162) 0) (KF ek):=
 cg (cx:=zg ek) (n:=26) (n0:=0) (ins:=[1,5,11,12,13]) (outs:=[5]) (sh:=⟨[.int .i64,.int .i64,.ar U.Type,.int .i64,.int .i64],[]⟩) (run:=fun n x=>M.pC ek x.1.1 x.1.2.2.1 x.1.2.2.2.1 n x.1.2.1 x.1.2.2.2.2.1) (bU:=W6) (out:=KE) ah (KG ek tG) ay (aJ (by kernel_rfl)) (fun _=>rfl) (fun m x=>by kernel_rfl) (aj ⟨cm,fun _ _ _=>rfl⟩ (az)) false ai
theorem W8(ek:M.aa->Int->Option (Int))(tG:(nI ek).Ok D Tryz.prog):(nI (M.wH ek)).Ok D Tryz.prog:=
 aN (cx:=zg ek) (c:=nI (M.wH ek)) (fz:=true) (fn:=Tryz.f162) ah (KG ek tG) ay ⟨Tryz.func162,by kernel_rfl⟩ (aO (cn 1 (by kernel_rfl) (ct (.mk (by kernel_rfl) (W7 ek tG))))) ⟨⟨[.int .i64],[]⟩,fun x=>x.1.1⟩ (fun x=>rfl) (fun x=>by kernel_rfl)
theorem KH:∀n,(nI (M.pD n)).Ok D Tryz.prog
 |0=>fp fun _=>rfl
 |n+1=>W8 (M.pD n) (KH n)
theorem W9:(nI (M.zh)).Ok D Tryz.prog:=KH ai
def nJ(m:M.aa->Option (Int)):aE K:={f:=163,sh:=⟨[.el U.Type],[]⟩,R:=Int,run:=fun x=>m x.1.1,dflt:=default,out:=fun r=>(Sh.enc D (.int .i64) r,aw.encs D [] ())}
def KI(y:Int){R:Type}(k:Ex->List (AV K)->List (Ob K)->R):R:=match y with
 |a0=>k (Ex.exit 0) (aA.bj D ⟨[.int .i64],[]⟩ ((a0,()),())) (aA.bk D ⟨[.int .i64],[]⟩ ((a0,()),()))
def Xa:List (bV K (Int)):=[⟨(Ex.exit 0),⟨[.int .i64],[]⟩,fun x=>x.1.1⟩]
def KJ(en:M.aa->Option (Int)):bQ K:=bZ D false 19 0 [3,7,8,9] [3] ⟨[.int .i64,.ar U.Type,.int .i64,.int .i64],[]⟩ (fun x=>M.pE en x.1.2.1 x.1.2.2.1 ai x.1.1 x.1.2.2.2.1) KI
def zi(en:M.aa->Option (Int)):Cx K:={aK with mode:=aI .plain [(163,.plain)],call:=callOf D [nJ en],loop:=aH [(3,KJ en)]}
theorem KL(en:M.aa->Option (Int))(tH:(nJ en).Ok D Tryz.prog):aF (zi en):=aL ah _ (aj tH (az))
theorem Xb(en:M.aa->Option (Int))(tH:(nJ en).Ok D Tryz.prog):bR (zi en) (bT (bW Tryz.f163) 0) (KJ en):=
 cg (cx:=zi en) (n:=19) (n0:=0) (ins:=[3,7,8,9]) (outs:=[3]) (sh:=⟨[.int .i64,.ar U.Type,.int .i64,.int .i64],[]⟩) (run:=fun n x=>M.pE en x.1.2.1 x.1.2.2.1 n x.1.1 x.1.2.2.2.1) (bU:=Xa) (out:=KI) ah (KL en tH) ay (aJ (by kernel_rfl)) (fun _=>rfl) (fun m x=>by kernel_rfl) (aj ⟨cm,fun _ _ _=>rfl⟩ (az)) false ai
theorem Xc(en:M.aa->Option (Int))(tH:(nJ en).Ok D Tryz.prog):(nJ (M.wI en)).Ok D Tryz.prog:=
 aN (cx:=zi en) (c:=nJ (M.wI en)) (fz:=true) (fn:=Tryz.f163) ah (KL en tH) ay ⟨Tryz.func163,by kernel_rfl⟩ (aO (cn 1 (by kernel_rfl) (ct (.mk (by kernel_rfl) (Xb en tH))))) ⟨⟨[.int .i64],[]⟩,fun x=>x.1.1⟩ (fun x=>rfl) (fun x=>by kernel_rfl)
theorem KN:∀n,(nJ (M.pF n)).Ok D Tryz.prog
 |0=>fp fun _=>rfl
 |n+1=>Xc (M.pF n) (KN n)
theorem Xd:(nJ (M.zj)).Ok D Tryz.prog:=KN ai
def jd(m:M.aa->Option (Bool)):aE K:={f:=164,sh:=⟨[.el U.Type],[]⟩,R:=Bool,run:=fun x=>m x.1.1,dflt:=default,out:=fun r=>(Sh.enc D (.bool) r,aw.encs D [] ())}
def Db(m:M.aa->Option (Bool)):aE K:={f:=173,sh:=⟨[.el U.Type],[]⟩,R:=Bool,run:=fun x=>m x.1.1,dflt:=default,out:=fun r=>(Sh.enc D (.bool) r,aw.encs D [] ())}
def KO(bM:M.aa->Option (Bool)):Cx K:={aK with mode:=aI .plain [(164,.plain)],call:=callOf D [jd bM],loop:=aH []}
theorem Xe(bM:M.aa->Option (Bool))(gY:(jd bM).Ok D Tryz.prog):aF (KO bM):=aL ah _ (aj gY (az))
theorem Xf(bM:M.aa->Option (Bool))(gY:(jd bM).Ok D Tryz.prog):(Db (M.tI bM)).Ok D Tryz.prog:=
 aN (cx:=KO bM) (c:=Db (M.tI bM)) (fz:=true) (fn:=Tryz.f173) ah (Xe bM gY) ay ⟨Tryz.func173,by kernel_rfl⟩ (aO (aJ (by kernel_rfl))) ⟨⟨[.bool],[]⟩,fun x=>x.1.1⟩ (fun x=>rfl) (fun x=>by kernel_rfl)
def KP(y:(Int)⊕(Unit)){R:Type}(k:Ex->List (AV K)->List (Ob K)->R):R:=match y with
 |.inl a0=>k Ex.ret (aA.bj D ⟨[.int .i64],[]⟩ ((a0,()),())) (aA.bk D ⟨[.int .i64],[]⟩ ((a0,()),()))
 |.inr (a1)=>k (Ex.exit 0) (aA.bj D ⟨[.any],[]⟩ (((),()),())) (aA.bk D ⟨[.any],[]⟩ (((),()),()))
def Xg:List (bV K ((Int)⊕(Unit))):=[⟨Ex.ret,⟨[.int .i64],[]⟩,fun x=>.inl x.1.1⟩,⟨(Ex.exit 0),⟨[.any],[]⟩,fun x=>.inr (())⟩]
def KQ(bM:M.aa->Option (Bool)):bQ K:=bZ D false 19 0 [0,1,7,8] [4] ⟨[.ar U.Type,.fn 173 [],.int .i64,.int .i64],[]⟩ (fun x=>M.rl bM x.1.1 x.1.2.2.1 ai x.1.2.2.2.1) KP
def Dc(m:(List M.aa)->Option (Int)):aE K:={f:=161,sh:=⟨[.ar U.Type,.fn 173 []],[]⟩,R:=Int,run:=fun x=>m x.1.1,dflt:=default,out:=fun r=>(Sh.enc D (.int .i64) r,aw.encs D [] ())}
def zk(bM:M.aa->Option (Bool)):Cx K:={aK with mode:=aI .plain [(173,.plain)],call:=callOf D [Db (M.tI bM)],loop:=aH [(2,KQ bM)]}
theorem KR(bM:M.aa->Option (Bool))(gY:(jd bM).Ok D Tryz.prog):aF (zk bM):=aL ah _ (aj (Xf bM gY) (az))
theorem Xh(bM:M.aa->Option (Bool))(gY:(jd bM).Ok D Tryz.prog):bR (zk bM) (bT (bW Tryz.f161) 0) (KQ bM):=
 cg (cx:=zk bM) (n:=19) (n0:=0) (ins:=[0,1,7,8]) (outs:=[4]) (sh:=⟨[.ar U.Type,.fn 173 [],.int .i64,.int .i64],[]⟩) (run:=fun n x=>M.rl bM x.1.1 x.1.2.2.1 n x.1.2.2.2.1) (bU:=Xg) (out:=KP) ah (KR bM gY) ay (aJ (by kernel_rfl)) (fun _=>rfl) (fun m x=>by kernel_rfl) (aj ⟨dG,fun _ _ _=>rfl⟩ (aj ⟨cm,fun _ _ _=>rfl⟩ (az))) false ai
theorem Xi(bM:M.aa->Option (Bool))(gY:(jd bM).Ok D Tryz.prog):(Dc (M.wJ bM)).Ok D Tryz.prog:=
 aN (cx:=zk bM) (c:=Dc (M.wJ bM)) (fz:=true) (fn:=Tryz.f161) ah (KR bM gY) ay ⟨Tryz.func161,by kernel_rfl⟩ (aO (cn 1 (by kernel_rfl) (ct (.mk (by kernel_rfl) (Xh bM gY))))) ⟨⟨[.int .i64],[]⟩,fun x=>x.1.1⟩ (fun x=>rfl) (fun x=>by kernel_rfl)
def Df(m:(List M.aa)->Option (Bool)):aE K:={f:=134,sh:=⟨[.ar U.Type,.fn 173 []],[]⟩,R:=Bool,run:=fun x=>m x.1.1,dflt:=default,out:=fun r=>(Sh.enc D (.bool) r,aw.encs D [] ())}
def KT(bM:M.aa->Option (Bool)):Cx K:={aK with mode:=aI .plain [(161,.plain)],call:=callOf D [Dc (M.wJ bM)],loop:=aH []}
theorem Xj(bM:M.aa->Option (Bool))(gY:(jd bM).Ok D Tryz.prog):aF (KT bM):=aL ah _ (aj (Xi bM gY) (az))
theorem Xk(bM:M.aa->Option (Bool))(gY:(jd bM).Ok D Tryz.prog):(Df (M.rm bM)).Ok D Tryz.prog:=
 aN (cx:=KT bM) (c:=Df (M.rm bM)) (fz:=true) (fn:=Tryz.f134) ah (Xj bM gY) ay ⟨Tryz.func134,by kernel_rfl⟩ (aO (aJ (by kernel_rfl))) ⟨⟨[.bool],[]⟩,fun x=>x.1.1⟩ (fun x=>rfl) (fun x=>by kernel_rfl)
def pG(m:Int->Int->Int->Option (Bool)):aE K:={f:=133,sh:=⟨[.int .i64,.int .i64,.int .i64],[]⟩,R:=Bool,run:=fun x=>m x.1.1 x.1.2.1 x.1.2.2.1,dflt:=default,out:=fun r=>(Sh.enc D (.bool) r,aw.encs D [] ())}
def KU:Cx K:={aK with mode:=aI .plain [],call:=callOf D [],loop:=aH []}
theorem Xl:aF (KU):=aL ah _ (az)
theorem tJ:(pG (M.pH)).Ok D Tryz.prog:=
 aN (cx:=KU) (c:=pG (M.pH)) (fz:=true) (fn:=Tryz.f133) ah (Xl) ay ⟨Tryz.func133,by kernel_rfl⟩ (aO (aJ (by kernel_rfl))) ⟨⟨[.bool],[]⟩,fun x=>x.1.1⟩ (fun x=>rfl) (fun x=>by kernel_rfl)
def tK(m:(List (List UInt8))->Option (Int)):aE K:={f:=138,sh:=⟨[.ar U.str],[]⟩,R:=Int,run:=fun x=>m x.1.1,dflt:=default,out:=fun r=>(Sh.enc D (.int .i64) r,aw.encs D [] ())}
def KV:Cx K:={aK with mode:=aI .plain [],call:=callOf D [],loop:=aH []}
theorem Xm:aF (KV):=aL ah _ (az)
theorem zl:(tK (M.tL)).Ok D Tryz.prog:=
 aN (cx:=KV) (c:=tK (M.tL)) (fz:=true) (fn:=Tryz.f138) ah (Xm) ay ⟨Tryz.func138,by kernel_rfl⟩ (aO (aJ (by kernel_rfl))) ⟨⟨[.int .i64],[]⟩,fun x=>x.1.1⟩ (fun x=>rfl) (fun x=>by kernel_rfl)
def KW(y:(Bool)⊕((List UInt8))){R:Type}(k:Ex->List (AV K)->List (Ob K)->R):R:=match y with
 |.inl a0=>k Ex.ret (aA.bj D ⟨[.any,.bool],[]⟩ (((),(a0,())),())) (aA.bk D ⟨[.any,.bool],[]⟩ (((),(a0,())),()))
 |.inr (a1)=>k (Ex.exit 0) (aA.bj D ⟨[.str,.any],[]⟩ ((a1,((),())),())) (aA.bk D ⟨[.str,.any],[]⟩ ((a1,((),())),()))
def Xn:List (bV K ((Bool)⊕((List UInt8)))):=[⟨Ex.ret,⟨[.any,.bool],[]⟩,fun x=>.inl x.1.2.1⟩,⟨(Ex.exit 0),⟨[.str,.any],[]⟩,fun x=>.inr (x.1.1)⟩]
def KX:bQ K:=bZ D false 75 0 [0,7,8] [0,2] ⟨[.str,.int .i64,.int .i64],[]⟩ (fun x=>M.pI x.1.1 x.1.2.1 ai x.1.2.2.1) KW
def zm(m:(List UInt8)->Option (Bool)):aE K:={f:=175,sh:=⟨[.str],[]⟩,R:=Bool,run:=fun x=>m x.1.1,dflt:=default,out:=fun r=>(Sh.enc D (.bool) r,aw.encs D [] ())}
def zn:Cx K:={aK with mode:=aI .plain [],call:=callOf D [],loop:=aH [(2,KX)]}
theorem KY:aF (zn):=aL ah _ (az)
theorem Xo:bR (zn) (bT (bW Tryz.f175) 0) (KX):=
 cg (cx:=zn) (n:=75) (n0:=0) (ins:=[0,7,8]) (outs:=[0,2]) (sh:=⟨[.str,.int .i64,.int .i64],[]⟩) (run:=fun n x=>M.pI x.1.1 x.1.2.1 n x.1.2.2.1) (bU:=Xn) (out:=KW) ah (KY) ay (aJ (by kernel_rfl)) (fun _=>rfl) (fun m x=>by kernel_rfl) (aj ⟨dG,fun _ _ _=>rfl⟩ (aj ⟨cm,fun _ _ _=>rfl⟩ (az))) false ai
theorem KZ:(zm (M.pJ)).Ok D Tryz.prog:=
 aN (cx:=zn) (c:=zm (M.pJ)) (fz:=true) (fn:=Tryz.f175) ah (KY) ay ⟨Tryz.func175,by kernel_rfl⟩ (aO (cn 1 (by kernel_rfl) (ct (.mk (by kernel_rfl) (Xo))))) ⟨⟨[.bool],[]⟩,fun x=>x.1.1⟩ (fun x=>rfl) (fun x=>by kernel_rfl)
def Dh(m:(List UInt8)->Option (Bool)):aE K:={f:=188,sh:=⟨[.str],[]⟩,R:=Bool,run:=fun x=>m x.1.1,dflt:=default,out:=fun r=>(Sh.enc D (.bool) r,aw.encs D [] ())}
def K0:Cx K:={aK with mode:=aI .plain [(175,.plain)],call:=callOf D [zm M.pJ],loop:=aH []}
theorem Xp:aF (K0):=aL ah _ (aj KZ (az))
theorem Xq:(Dh (M.tM)).Ok D Tryz.prog:=
 aN (cx:=K0) (c:=Dh (M.tM)) (fz:=true) (fn:=Tryz.f188) ah (Xp) ay ⟨Tryz.func188,by kernel_rfl⟩ (aO (aJ (by kernel_rfl))) ⟨⟨[.bool],[]⟩,fun x=>x.1.1⟩ (fun x=>rfl) (fun x=>by kernel_rfl)
def K1(y:(Int)⊕(Unit)){R:Type}(k:Ex->List (AV K)->List (Ob K)->R):R:=match y with
 |.inl a0=>k Ex.ret (aA.bj D ⟨[.int .i64],[]⟩ ((a0,()),())) (aA.bk D ⟨[.int .i64],[]⟩ ((a0,()),()))
 |.inr (a1)=>k (Ex.exit 0) (aA.bj D ⟨[.any],[]⟩ (((),()),())) (aA.bk D ⟨[.any],[]⟩ (((),()),()))
def Xr:List (bV K ((Int)⊕(Unit))):=[⟨Ex.ret,⟨[.int .i64],[]⟩,fun x=>.inl x.1.1⟩,⟨(Ex.exit 0),⟨[.any],[]⟩,fun x=>.inr (())⟩]
def K2:bQ K:=bZ D false 19 0 [0,1,7,8] [4] ⟨[.ar U.str,.fn 188 [],.int .i64,.int .i64],[]⟩ (fun x=>M.rn x.1.1 x.1.2.2.1 ai x.1.2.2.2.1) K1
def Di(m:(List (List UInt8))->Option (Int)):aE K:={f:=194,sh:=⟨[.ar U.str,.fn 188 []],[]⟩,R:=Int,run:=fun x=>m x.1.1,dflt:=default,out:=fun r=>(Sh.enc D (.int .i64) r,aw.encs D [] ())}
def zo:Cx K:={aK with mode:=aI .plain [(188,.plain)],call:=callOf D [Dh M.tM],loop:=aH [(2,K2)]}
theorem K3:aF (zo):=aL ah _ (aj Xq (az))
theorem Xs:bR (zo) (bT (bW Tryz.f194) 0) (K2):=
 cg (cx:=zo) (n:=19) (n0:=0) (ins:=[0,1,7,8]) (outs:=[4]) (sh:=⟨[.ar U.str,.fn 188 [],.int .i64,.int .i64],[]⟩) (run:=fun n x=>M.rn x.1.1 x.1.2.2.1 n x.1.2.2.2.1) (bU:=Xr) (out:=K1) ah (K3) ay (aJ (by kernel_rfl)) (fun _=>rfl) (fun m x=>by kernel_rfl) (aj ⟨dG,fun _ _ _=>rfl⟩ (aj ⟨cm,fun _ _ _=>rfl⟩ (az))) false ai
theorem Xt:(Di (M.wK)).Ok D Tryz.prog:=
 aN (cx:=zo) (c:=Di (M.wK)) (fz:=true) (fn:=Tryz.f194) ah (K3) ay ⟨Tryz.func194,by kernel_rfl⟩ (aO (cn 1 (by kernel_rfl) (ct (.mk (by kernel_rfl) (Xs))))) ⟨⟨[.int .i64],[]⟩,fun x=>x.1.1⟩ (fun x=>rfl) (fun x=>by kernel_rfl)
def Dj(m:(List (List UInt8))->Option (Bool)):aE K:={f:=187,sh:=⟨[.ar U.str,.fn 188 []],[]⟩,R:=Bool,run:=fun x=>m x.1.1,dflt:=default,out:=fun r=>(Sh.enc D (.bool) r,aw.encs D [] ())}
def K4:Cx K:={aK with mode:=aI .plain [(194,.plain)],call:=callOf D [Di M.wK],loop:=aH []}
theorem Xu:aF (K4):=aL ah _ (aj Xt (az))
theorem Xv:(Dj (M.tN)).Ok D Tryz.prog:=
 aN (cx:=K4) (c:=Dj (M.tN)) (fz:=true) (fn:=Tryz.f187) ah (Xu) ay ⟨Tryz.func187,by kernel_rfl⟩ (aO (aJ (by kernel_rfl))) ⟨⟨[.bool],[]⟩,fun x=>x.1.1⟩ (fun x=>rfl) (fun x=>by kernel_rfl)
def Dk(m:(List (List UInt8))->Option (Bool)):aE K:={f:=174,sh:=⟨[.ar U.str],[]⟩,R:=Bool,run:=fun x=>m x.1.1,dflt:=default,out:=fun r=>(Sh.enc D (.bool) r,aw.encs D [] ())}
def K5:Cx K:={aK with mode:=aI .plain [(138,.plain),(133,.plain),(186,.plain),(187,.plain)],call:=callOf D [tK M.tL,pG M.pH,Dl M.pK,Dj M.tN],loop:=aH []}
theorem Xw:aF (K5):=aL ah _ (aj zl (aj tJ (aj Xx (aj Xv (az)))))
theorem Xy:(Dk (M.tO)).Ok D Tryz.prog:=
 aN (cx:=K5) (c:=Dk (M.tO)) (fz:=true) (fn:=Tryz.f174) ah (Xw) ay ⟨Tryz.func174,by kernel_rfl⟩ (aO (aJ (by kernel_rfl))) ⟨⟨[.bool],[]⟩,fun x=>x.1.1⟩ (fun x=>rfl) (fun x=>by kernel_rfl)
def wL(m:(List M.aa)->Option (Int)):aE K:={f:=152,sh:=⟨[.ar U.Type],[]⟩,R:=Int,run:=fun x=>m x.1.1,dflt:=default,out:=fun r=>(Sh.enc D (.int .i64) r,aw.encs D [] ())}
def K6:Cx K:={aK with mode:=aI .plain [],call:=callOf D [],loop:=aH []}
theorem Xz:aF (K6):=aL ah _ (az)
theorem Dm:(wL (M.wM)).Ok D Tryz.prog:=
 aN (cx:=K6) (c:=wL (M.wM)) (fz:=true) (fn:=Tryz.f152) ah (Xz) ay ⟨Tryz.func152,by kernel_rfl⟩ (aO (aJ (by kernel_rfl))) ⟨⟨[.int .i64],[]⟩,fun x=>x.1.1⟩ (fun x=>rfl) (fun x=>by kernel_rfl)
def zp(m:M.aa->Option (Bool)):aE K:={f:=141,sh:=⟨[.el U.Type],[]⟩,R:=Bool,run:=fun x=>m x.1.1,dflt:=default,out:=fun r=>(Sh.enc D (.bool) r,aw.encs D [] ())}
def K7:Cx K:={aK with mode:=aI .plain [],call:=callOf D [],loop:=aH []}
theorem XA:aF (K7):=aL ah _ (az)
theorem K8:(zp (M.zq)).Ok D Tryz.prog:=
 aN (cx:=K7) (c:=zp (M.zq)) (fz:=true) (fn:=Tryz.f141) ah (XA) ay ⟨Tryz.func141,by kernel_rfl⟩ (aO (aJ (by kernel_rfl))) ⟨⟨[.bool],[]⟩,fun x=>x.1.1⟩ (fun x=>rfl) (fun x=>by kernel_rfl)
def K9(y:(Int)⊕(Unit)){R:Type}(k:Ex->List (AV K)->List (Ob K)->R):R:=match y with
 |.inl a0=>k Ex.ret (aA.bj D ⟨[.int .i64],[]⟩ ((a0,()),())) (aA.bk D ⟨[.int .i64],[]⟩ ((a0,()),()))
 |.inr (a1)=>k (Ex.exit 0) (aA.bj D ⟨[.any],[]⟩ (((),()),())) (aA.bk D ⟨[.any],[]⟩ (((),()),()))
def XB:List (bV K ((Int)⊕(Unit))):=[⟨Ex.ret,⟨[.int .i64],[]⟩,fun x=>.inl x.1.1⟩,⟨(Ex.exit 0),⟨[.any],[]⟩,fun x=>.inr (())⟩]
def La:bQ K:=bZ D false 19 0 [0,1,7,8] [4] ⟨[.ar U.Type,.fn 141 [],.int .i64,.int .i64],[]⟩ (fun x=>M.rq x.1.1 x.1.2.2.1 ai x.1.2.2.2.1) K9
def Dn(m:(List M.aa)->Option (Int)):aE K:={f:=161,sh:=⟨[.ar U.Type,.fn 141 []],[]⟩,R:=Int,run:=fun x=>m x.1.1,dflt:=default,out:=fun r=>(Sh.enc D (.int .i64) r,aw.encs D [] ())}
def zr:Cx K:={aK with mode:=aI .plain [(141,.plain)],call:=callOf D [zp M.zq],loop:=aH [(2,La)]}
theorem Lc:aF (zr):=aL ah _ (aj K8 (az))
theorem XC:bR (zr) (bT (bW Tryz.f161) 0) (La):=
 cg (cx:=zr) (n:=19) (n0:=0) (ins:=[0,1,7,8]) (outs:=[4]) (sh:=⟨[.ar U.Type,.fn 141 [],.int .i64,.int .i64],[]⟩) (run:=fun n x=>M.rq x.1.1 x.1.2.2.1 n x.1.2.2.2.1) (bU:=XB) (out:=K9) ah (Lc) ay (aJ (by kernel_rfl)) (fun _=>rfl) (fun m x=>by kernel_rfl) (aj ⟨dG,fun _ _ _=>rfl⟩ (aj ⟨cm,fun _ _ _=>rfl⟩ (az))) false ai
theorem XD:(Dn (M.wN)).Ok D Tryz.prog:=
 aN (cx:=zr) (c:=Dn (M.wN)) (fz:=true) (fn:=Tryz.f161) ah (Lc) ay ⟨Tryz.func161,by kernel_rfl⟩ (aO (cn 1 (by kernel_rfl) (ct (.mk (by kernel_rfl) (XC))))) ⟨⟨[.int .i64],[]⟩,fun x=>x.1.1⟩ (fun x=>rfl) (fun x=>by kernel_rfl)
def Dp(m:(List M.aa)->Option (Bool)):aE K:={f:=134,sh:=⟨[.ar U.Type,.fn 141 []],[]⟩,R:=Bool,run:=fun x=>m x.1.1,dflt:=default,out:=fun r=>(Sh.enc D (.bool) r,aw.encs D [] ())}
def Ld:Cx K:={aK with mode:=aI .plain [(161,.plain)],call:=callOf D [Dn M.wN],loop:=aH []}
theorem XE:aF (Ld):=aL ah _ (aj XD (az))
theorem XF:(Dp (M.tP)).Ok D Tryz.prog:=
 aN (cx:=Ld) (c:=Dp (M.tP)) (fz:=true) (fn:=Tryz.f134) ah (XE) ay ⟨Tryz.func134,by kernel_rfl⟩ (aO (aJ (by kernel_rfl))) ⟨⟨[.bool],[]⟩,fun x=>x.1.1⟩ (fun x=>rfl) (fun x=>by kernel_rfl)
def Dq(m:M.aa->Int->Option (Bool)):aE K:={f:=176,sh:=⟨[.el U.Type,.int .i64],[]⟩,R:=Bool,run:=fun x=>m x.1.1 x.1.2.1,dflt:=default,out:=fun r=>(Sh.enc D (.bool) r,aw.encs D [] ())}
def Le:Cx K:={aK with mode:=aI .plain [(152,.plain),(134,.plain)],call:=callOf D [wL M.wM,Dp M.tP],loop:=aH []}
theorem XG:aF (Le):=aL ah _ (aj Dm (aj XF (az)))
theorem XH:(Dq (M.nK)).Ok D Tryz.prog:=
 aN (cx:=Le) (c:=Dq (M.nK)) (fz:=true) (fn:=Tryz.f176) ah (XG) ay ⟨Tryz.func176,by kernel_rfl⟩ (aO (aJ (by kernel_rfl))) ⟨⟨[.bool],[]⟩,fun x=>x.1.1⟩ (fun x=>rfl) (fun x=>by kernel_rfl)
def Lh(y:(Int)⊕(Unit)){R:Type}(k:Ex->List (AV K)->List (Ob K)->R):R:=match y with
 |.inl a0=>k Ex.ret (aA.bj D ⟨[.int .i64],[]⟩ ((a0,()),())) (aA.bk D ⟨[.int .i64],[]⟩ ((a0,()),()))
 |.inr (a1)=>k (Ex.exit 0) (aA.bj D ⟨[.any],[]⟩ (((),()),())) (aA.bk D ⟨[.any],[]⟩ (((),()),()))
def XI:List (bV K ((Int)⊕(Unit))):=[⟨Ex.ret,⟨[.int .i64],[]⟩,fun x=>.inl x.1.1⟩,⟨(Ex.exit 0),⟨[.any],[]⟩,fun x=>.inr (())⟩]
def Lj:bQ K:=bZ D false 19 0 [0,1,7,8] [4] ⟨[.ar U.i64,.int .i64,.int .i64,.int .i64],[]⟩ (fun x=>M.ru x.1.1 x.1.2.1 x.1.2.2.1 ai x.1.2.2.2.1) Lh
def Ds(m:(List Int)->Int->Option (Int)):aE K:={f:=195,sh:=⟨[.ar U.i64,.int .i64],[]⟩,R:=Int,run:=fun x=>m x.1.1 x.1.2.1,dflt:=default,out:=fun r=>(Sh.enc D (.int .i64) r,aw.encs D [] ())}
def zt:Cx K:={aK with mode:=aI .plain [],call:=callOf D [],loop:=aH [(2,Lj)]}
theorem Ll:aF (zt):=aL ah _ (az)
theorem XJ:bR (zt) (bT (bW Tryz.f195) 0) (Lj):=
 cg (cx:=zt) (n:=19) (n0:=0) (ins:=[0,1,7,8]) (outs:=[4]) (sh:=⟨[.ar U.i64,.int .i64,.int .i64,.int .i64],[]⟩) (run:=fun n x=>M.ru x.1.1 x.1.2.1 x.1.2.2.1 n x.1.2.2.2.1) (bU:=XI) (out:=Lh) ah (Ll) ay (aJ (by kernel_rfl)) (fun _=>rfl) (fun m x=>by kernel_rfl) (aj ⟨dG,fun _ _ _=>rfl⟩ (aj ⟨cm,fun _ _ _=>rfl⟩ (az))) false ai
theorem XK:(Ds (M.wO)).Ok D Tryz.prog:=
 aN (cx:=zt) (c:=Ds (M.wO)) (fz:=true) (fn:=Tryz.f195) ah (Ll) ay ⟨Tryz.func195,by kernel_rfl⟩ (aO (cn 1 (by kernel_rfl) (ct (.mk (by kernel_rfl) (XJ))))) ⟨⟨[.int .i64],[]⟩,fun x=>x.1.1⟩ (fun x=>rfl) (fun x=>by kernel_rfl)
def Dt(m:(List Int)->Int->Option (Bool)):aE K:={f:=189,sh:=⟨[.ar U.i64,.int .i64],[]⟩,R:=Bool,run:=fun x=>m x.1.1 x.1.2.1,dflt:=default,out:=fun r=>(Sh.enc D (.bool) r,aw.encs D [] ())}
def Lm:Cx K:={aK with mode:=aI .plain [(195,.plain)],call:=callOf D [Ds M.wO],loop:=aH []}
theorem XL:aF (Lm):=aL ah _ (aj XK (az))
theorem XM:(Dt (M.tQ)).Ok D Tryz.prog:=
 aN (cx:=Lm) (c:=Dt (M.tQ)) (fz:=true) (fn:=Tryz.f189) ah (XL) ay ⟨Tryz.func189,by kernel_rfl⟩ (aO (aJ (by kernel_rfl))) ⟨⟨[.bool],[]⟩,fun x=>x.1.1⟩ (fun x=>rfl) (fun x=>by kernel_rfl)
def je(m:M.aa->(List Int)->Option (Bool)):aE K:={f:=177,sh:=⟨[.el U.Type,.ar U.i64],[]⟩,R:=Bool,run:=fun x=>m x.1.1 x.1.2.1,dflt:=default,out:=fun r=>(Sh.enc D (.bool) r,aw.encs D [] ())}
def Du(m:M.aa->(List Int)->Option (Bool)):aE K:={f:=190,sh:=⟨[.el U.Type,.rp U.ku 0],[]⟩,R:=Bool,run:=fun x=>m x.1.1 x.1.2.1,dflt:=default,out:=fun r=>(Sh.enc D (.bool) r,aw.encs D [] ())}
def Ln(bN:M.aa->(List Int)->Option (Bool)):Cx K:={aK with mode:=aI .plain [(177,.plain)],call:=callOf D [je bN],loop:=aH []}
theorem XN(bN:M.aa->(List Int)->Option (Bool))(gZ:(je bN).Ok D Tryz.prog):aF (Ln bN):=aL ah _ (aj gZ (az))
theorem XO(bN:M.aa->(List Int)->Option (Bool))(gZ:(je bN).Ok D Tryz.prog):(Du (M.tR bN)).Ok D Tryz.prog:=
 aN (cx:=Ln bN) (c:=Du (M.tR bN)) (fz:=true) (fn:=Tryz.f190) ah (XN bN gZ) ay ⟨Tryz.func190,by kernel_rfl⟩ (aO (aJ (by kernel_rfl))) ⟨⟨[.bool],[]⟩,fun x=>x.1.1⟩ (fun x=>rfl) (fun x=>by kernel_rfl)
def Lo(y:(Int)⊕(Unit)){R:Type}(k:Ex->List (AV K)->List (Ob K)->R):R:=match y with
 |.inl a0=>k Ex.ret (aA.bj D ⟨[.int .i64],[]⟩ ((a0,()),())) (aA.bk D ⟨[.int .i64],[]⟩ ((a0,()),()))
 |.inr (a1)=>k (Ex.exit 0) (aA.bj D ⟨[.any],[]⟩ (((),()),())) (aA.bk D ⟨[.any],[]⟩ (((),()),()))
def XP:List (bV K ((Int)⊕(Unit))):=[⟨Ex.ret,⟨[.int .i64],[]⟩,fun x=>.inl x.1.1⟩,⟨(Ex.exit 0),⟨[.any],[]⟩,fun x=>.inr (())⟩]
def Lp(bN:M.aa->(List Int)->Option (Bool)):bQ K:=bZ D false 19 0 [0,1,7,8] [4] ⟨[.ar U.Type,.fn 190 [.rp U.ku 0],.int .i64,.int .i64],[]⟩ (fun x=>M.rx bN x.1.1 x.1.2.1.1 x.1.2.2.1 ai x.1.2.2.2.1) Lo
def Dv(m:(List M.aa)->(List Int)->Option (Int)):aE K:={f:=161,sh:=⟨[.ar U.Type,.fn 190 [.rp U.ku 0]],[]⟩,R:=Int,run:=fun x=>m x.1.1 x.1.2.1.1,dflt:=default,out:=fun r=>(Sh.enc D (.int .i64) r,aw.encs D [] ())}
def zu(bN:M.aa->(List Int)->Option (Bool)):Cx K:={aK with mode:=aI .plain [(190,.plain)],call:=callOf D [Du (M.tR bN)],loop:=aH [(2,Lp bN)]}
theorem Lq(bN:M.aa->(List Int)->Option (Bool))(gZ:(je bN).Ok D Tryz.prog):aF (zu bN):=aL ah _ (aj (XO bN gZ) (az))
theorem XQ(bN:M.aa->(List Int)->Option (Bool))(gZ:(je bN).Ok D Tryz.prog):bR (zu bN) (bT (bW Tryz.f161) 0) (Lp bN):=
 cg (cx:=zu bN) (n:=19) (n0:=0) (ins:=[0,1,7,8]) (outs:=[4]) (sh:=⟨[.ar U.Type,.fn 190 [.rp U.ku 0],.int .i64,.int .i64],[]⟩) (run:=fun n x=>M.rx bN x.1.1 x.1.2.1.1 x.1.2.2.1 n x.1.2.2.2.1) (bU:=XP) (out:=Lo) ah (Lq bN gZ) ay (aJ (by kernel_rfl)) (fun _=>rfl) (fun m x=>by kernel_rfl) (aj ⟨dG,fun _ _ _=>rfl⟩ (aj ⟨cm,fun _ _ _=>rfl⟩ (az))) false ai
theorem XR(bN:M.aa->(List Int)->Option (Bool))(gZ:(je bN).Ok D Tryz.prog):(Dv (M.wP bN)).Ok D Tryz.prog:=
 aN (cx:=zu bN) (c:=Dv (M.wP bN)) (fz:=true) (fn:=Tryz.f161) ah (Lq bN gZ) ay ⟨Tryz.func161,by kernel_rfl⟩ (aO (cn 1 (by kernel_rfl) (ct (.mk (by kernel_rfl) (XQ bN gZ))))) ⟨⟨[.int .i64],[]⟩,fun x=>x.1.1⟩ (fun x=>rfl) (fun x=>by kernel_rfl)
def Dw(m:(List M.aa)->(List Int)->Option (Bool)):aE K:={f:=134,sh:=⟨[.ar U.Type,.fn 190 [.rp U.ku 0]],[]⟩,R:=Bool,run:=fun x=>m x.1.1 x.1.2.1.1,dflt:=default,out:=fun r=>(Sh.enc D (.bool) r,aw.encs D [] ())}
def Lr(bN:M.aa->(List Int)->Option (Bool)):Cx K:={aK with mode:=aI .plain [(161,.plain)],call:=callOf D [Dv (M.wP bN)],loop:=aH []}
theorem XS(bN:M.aa->(List Int)->Option (Bool))(gZ:(je bN).Ok D Tryz.prog):aF (Lr bN):=aL ah _ (aj (XR bN gZ) (az))
theorem XT(bN:M.aa->(List Int)->Option (Bool))(gZ:(je bN).Ok D Tryz.prog):(Dw (M.tU bN)).Ok D Tryz.prog:=
 aN (cx:=Lr bN) (c:=Dw (M.tU bN)) (fz:=true) (fn:=Tryz.f134) ah (XS bN gZ) ay ⟨Tryz.func134,by kernel_rfl⟩ (aO (aJ (by kernel_rfl))) ⟨⟨[.bool],[]⟩,fun x=>x.1.1⟩ (fun x=>rfl) (fun x=>by kernel_rfl)
def Ls(bN:M.aa->(List Int)->Option (Bool)):Cx K:={aK with mode:=aI .plain [(189,.plain),(134,.plain)],call:=callOf D [Dt M.tQ,Dw (M.tU bN)],loop:=aH []}
theorem XU(bN:M.aa->(List Int)->Option (Bool))(gZ:(je bN).Ok D Tryz.prog):aF (Ls bN):=aL ah _ (aj XM (aj (XT bN gZ) (az)))
theorem XV(bN:M.aa->(List Int)->Option (Bool))(gZ:(je bN).Ok D Tryz.prog):(je (M.wQ bN)).Ok D Tryz.prog:=
 aN (cx:=Ls bN) (c:=je (M.wQ bN)) (fz:=true) (fn:=Tryz.f177) ah (XU bN gZ) ay ⟨Tryz.func177,by kernel_rfl⟩ (aO (aJ (by kernel_rfl))) ⟨⟨[.bool],[]⟩,fun x=>x.1.1⟩ (fun x=>rfl) (fun x=>by kernel_rfl)
theorem Lt:∀n,(je (M.md n)).Ok D Tryz.prog
 |0=>fp fun _=>rfl
 |n+1=>XV (M.md n) (Lt n)
theorem XW:(je (M.pL)).Ok D Tryz.prog:=Lt ai
def Lu(bM:M.aa->Option (Bool)):Cx K:={aK with mode:=aI .plain [(134,.plain),(133,.plain),(174,.plain),(175,.plain),(176,.plain),(152,.plain),(138,.plain),(177,.plain)],call:=callOf D [Df (M.rm bM),pG M.pH,Dk M.tO,zm M.pJ,Dq M.nK,wL M.wM,tK M.tL,je M.pL],loop:=aH []}
theorem XX(bM:M.aa->Option (Bool))(gY:(jd bM).Ok D Tryz.prog):aF (Lu bM):=aL ah _ (aj (Xk bM gY) (aj tJ (aj Xy (aj KZ (aj XH (aj Dm (aj zl (aj XW (az)))))))))
theorem XY(bM:M.aa->Option (Bool))(gY:(jd bM).Ok D Tryz.prog):(jd (M.tV bM)).Ok D Tryz.prog:=
 aN (cx:=Lu bM) (c:=jd (M.tV bM)) (fz:=true) (fn:=Tryz.f164) ah (XX bM gY) ay ⟨Tryz.func164,by kernel_rfl⟩ (aO (aJ (by kernel_rfl))) ⟨⟨[.bool],[]⟩,fun x=>x.1.1⟩ (fun x=>rfl) (fun x=>by kernel_rfl)
theorem Lx:∀n,(jd (M.nL n)).Ok D Tryz.prog
 |0=>fp fun _=>rfl
 |n+1=>XY (M.nL n) (Lx n)
theorem XZ:(jd (M.zw)).Ok D Tryz.prog:=Lx ai
def Dx(m:M.aa->Option (Bool)):aE K:={f:=121,sh:=⟨[.el U.Type],[]⟩,R:=Bool,run:=fun x=>m x.1.1,dflt:=default,out:=fun r=>(Sh.enc D (.bool) r,aw.encs D [] ())}
def Ly:Cx K:={aK with mode:=aI .plain [(156,.plain),(157,.plain)],call:=callOf D [nE M.y9,nH M.zf],loop:=aH []}
theorem X0:aF (Ly):=aL ah _ (aj WH (aj W5 (az)))
theorem X1:(Dx (M.tW)).Ok D Tryz.prog:=
 aN (cx:=Ly) (c:=Dx (M.tW)) (fz:=true) (fn:=Tryz.f121) ah (X0) ay ⟨Tryz.func121,by kernel_rfl⟩ (aO (aJ (by kernel_rfl))) ⟨⟨[.bool],[]⟩,fun x=>x.1.1⟩ (fun x=>rfl) (fun x=>by kernel_rfl)
def Dy(m:M.aa->Option (Bool)):aE K:={f:=78,sh:=⟨[.el U.Type],[]⟩,R:=Bool,run:=fun x=>m x.1.1,dflt:=default,out:=fun r=>(Sh.enc D (.bool) r,aw.encs D [] ())}
def LA:Cx K:={aK with mode:=aI .plain [(121,.plain)],call:=callOf D [Dx M.tW],loop:=aH []}
theorem X2:aF (LA):=aL ah _ (aj X1 (az))
theorem X3:(Dy (M.tX)).Ok D Tryz.prog:=
 aN (cx:=LA) (c:=Dy (M.tX)) (fz:=true) (fn:=Tryz.f78) ah (X2) ay ⟨Tryz.func78,by kernel_rfl⟩ (aO (aJ (by kernel_rfl))) ⟨⟨[.bool],[]⟩,fun x=>x.1.1⟩ (fun x=>rfl) (fun x=>by kernel_rfl)
def g9(m:M.ae->M.aa->Option (Bool)):aE K:={f:=79,sh:=⟨[.el U.Value,.el U.Type],[]⟩,R:=Bool,run:=fun x=>m x.1.1 x.1.2.1,dflt:=default,out:=fun r=>(Sh.enc D (.bool) r,aw.encs D [] ())}
def Dz(m:(List M.ae)->M.aa->Option (Bool)):aE K:={f:=126,sh:=⟨[.ar U.Value,.el U.Type],[]⟩,R:=Bool,run:=fun x=>m x.1.1 x.1.2.1,dflt:=default,out:=fun r=>(Sh.enc D (.bool) r,aw.encs D [] ())}
def LC(bp:M.ae->M.aa->Option (Bool)):Cx K:={aK with mode:=aI .plain [(79,.plain)],call:=callOf D [g9 bp],loop:=aH []}
theorem X4(bp:M.ae->M.aa->Option (Bool))(fa:(g9 bp).Ok D Tryz.prog):aF (LC bp):=aL ah _ (aj fa (az))
theorem X5(bp:M.ae->M.aa->Option (Bool))(fa:(g9 bp).Ok D Tryz.prog):(Dz (M.ry bp)).Ok D Tryz.prog:=
 aN (cx:=LC bp) (c:=Dz (M.ry bp)) (fz:=true) (fn:=Tryz.f126) ah (X4 bp fa) ay ⟨Tryz.func126,by kernel_rfl⟩ (aO (aJ (by kernel_rfl))) ⟨⟨[.bool],[]⟩,fun x=>x.1.1⟩ (fun x=>rfl) (fun x=>by kernel_rfl)
def LD(y:(Bool)⊕(Unit)){R:Type}(k:Ex->List (AV K)->List (Ob K)->R):R:=match y with
 |.inl a0=>k Ex.ret (aA.bj D ⟨[.bool],[.dead]⟩ ((a0,()),((),()))) (aA.bk D ⟨[.bool],[.dead]⟩ ((a0,()),((),())))
 |.inr (a1)=>k (Ex.exit 0) (aA.bj D ⟨[.any],[.dead]⟩ (((),()),((),()))) (aA.bk D ⟨[.any],[.dead]⟩ (((),()),((),())))
def X6:List (bV K ((Bool)⊕(Unit))):=[⟨Ex.ret,⟨[.bool],[.dead]⟩,fun x=>.inl x.1.1⟩,⟨(Ex.exit 0),⟨[.any],[.dead]⟩,fun x=>.inr (())⟩]
def LF(bp:M.ae->M.aa->Option (Bool)):bQ K:=bZ D false 25 1 [0,5,7] [6] ⟨[.ar U.Value,.ptr 0 0,.int .i64],[.el U.Type]⟩ (fun x=>M.me bp x.1.1 ai x.1.2.2.1 x.2.1) LD
def DC(m:(List M.ae)->Int->M.aa->Option (Bool)):aE K:={f:=122,sh:=⟨[.ar U.Value,.int .i64,.el U.Type],[]⟩,R:=Bool,run:=fun x=>m x.1.1 x.1.2.1 x.1.2.2.1,dflt:=default,out:=fun r=>(Sh.enc D (.bool) r,aw.encs D [] ())}
def zx(bp:M.ae->M.aa->Option (Bool)):Cx K:={aK with mode:=aI .plain [(79,.plain)],call:=callOf D [g9 bp],loop:=aH [(4,LF bp)]}
theorem LG(bp:M.ae->M.aa->Option (Bool))(fa:(g9 bp).Ok D Tryz.prog):aF (zx bp):=aL ah _ (aj fa (az))
theorem X7(bp:M.ae->M.aa->Option (Bool))(fa:(g9 bp).Ok D Tryz.prog):bR (zx bp) (bT (bW Tryz.f122) 0) (LF bp):=
 cg (cx:=zx bp) (n:=25) (n0:=1) (ins:=[0,5,7]) (outs:=[6]) (sh:=⟨[.ar U.Value,.ptr 0 0,.int .i64],[.el U.Type]⟩) (run:=fun n x=>M.me bp x.1.1 n x.1.2.2.1 x.2.1) (bU:=X6) (out:=LD) ah (LG bp fa) ay (aJ (by kernel_rfl)) (fun _=>rfl) (fun m x=>by kernel_rfl) (aj ⟨dG,fun _ _ _=>rfl⟩ (aj ⟨cm,fun _ _ _=>rfl⟩ (az))) false ai
theorem X8(bp:M.ae->M.aa->Option (Bool))(fa:(g9 bp).Ok D Tryz.prog):(DC (M.rz bp)).Ok D Tryz.prog:=
 aN (cx:=zx bp) (c:=DC (M.rz bp)) (fz:=true) (fn:=Tryz.f122) ah (LG bp fa) ay ⟨Tryz.func122,by kernel_rfl⟩ (aO (cn 1 (by kernel_rfl) (ct (.mk (by kernel_rfl) (X7 bp fa))))) ⟨⟨[.bool],[]⟩,fun x=>x.1.1⟩ (fun x=>rfl) (fun x=>by kernel_rfl)
def zy(m:Int->Option (Bool)):aE K:={f:=123,sh:=⟨[.int .i64],[]⟩,R:=Bool,run:=fun x=>m x.1.1,dflt:=default,out:=fun r=>(Sh.enc D (.bool) r,aw.encs D [] ())}
def LH:Cx K:={aK with mode:=aI .plain [(120,.plain)],call:=callOf D [pw M.px],loop:=aH []}
theorem X9:aF (LH):=aL ah _ (aj tw (az))
theorem LI:(zy (M.iN)).Ok D Tryz.prog:=
 aN (cx:=LH) (c:=zy (M.iN)) (fz:=true) (fn:=Tryz.f123) ah (X9) ay ⟨Tryz.func123,by kernel_rfl⟩ (aO (aJ (by kernel_rfl))) ⟨⟨[.bool],[]⟩,fun x=>x.1.1⟩ (fun x=>rfl) (fun x=>by kernel_rfl)
def LJ(y:(List UInt8)×Int×Int){R:Type}(k:Ex->List (AV K)->List (Ob K)->R):R:=match y with
 |a0=>k (Ex.exit 1) (aA.bj D ⟨[.str,.int .i64,.int .i64],[]⟩ ((a0.1,(a0.2.1,(a0.2.2,()))),())) (aA.bk D ⟨[.str,.int .i64,.int .i64],[]⟩ ((a0.1,(a0.2.1,(a0.2.2,()))),()))
def Ya:List (bV K ((List UInt8)×Int×Int)):=[⟨(Ex.exit 1),⟨[.str,.int .i64,.int .i64],[]⟩,fun x=>(x.1.1,x.1.2.1,x.1.2.2.1)⟩]
def LK:bQ K:=bZ D false 66 0 [0,4,5,6] [0,4,5] ⟨[.str,.int .i64,.int .i64,.int .i64],[]⟩ (fun x=>M.pM x.1.1 x.1.2.1 ai x.1.2.2.1 x.1.2.2.2.1) LJ
def DD(m:Int->Option ((List UInt8))):aE K:={f:=185,sh:=⟨[.int .i64],[]⟩,R:=(List UInt8),run:=fun x=>m x.1.1,dflt:=default,out:=fun r=>(Sh.enc D (.str) r,aw.encs D [] ())}
def LL:Cx K:={aK with mode:=aI .plain [],call:=callOf D [],loop:=aH []}
theorem Yb:aF (LL):=aL ah _ (az)
theorem Yc:(DD (M.nM)).Ok D Tryz.prog:=
 aN (cx:=LL) (c:=DD (M.nM)) (fz:=true) (fn:=Tryz.f185) ah (Yb) ay ⟨Tryz.func185,by kernel_rfl⟩ (aO (aJ (by kernel_rfl))) ⟨⟨[.str],[]⟩,fun x=>x.1.1⟩ (fun x=>rfl) (fun x=>by kernel_rfl)
def DF(m:(List UInt8)->Option (Int×Int)):aE K:={f:=171,sh:=⟨[.str],[]⟩,R:=Int×Int,run:=fun x=>m x.1.1,dflt:=default,out:=fun r=>(Sh.enc D (.aX [.int .i64,.int .i64]) (r.1,(r.2,())),aw.encs D [] ())}
def zz:Cx K:={aK with mode:=aI .plain [(123,.plain),(185,.plain)],call:=callOf D [zy M.iN,DD M.nM],loop:=aH [(13,LK)]}
theorem LM:aF (zz):=aL ah _ (aj LI (aj Yc (az)))
theorem Yd:bR (zz) (bT (bW Tryz.f171) 0) (LK):=
 cg (cx:=zz) (n:=66) (n0:=0) (ins:=[0,4,5,6]) (outs:=[0,4,5]) (sh:=⟨[.str,.int .i64,.int .i64,.int .i64],[]⟩) (run:=fun n x=>M.pM x.1.1 x.1.2.1 n x.1.2.2.1 x.1.2.2.2.1) (bU:=Ya) (out:=LJ) ah (LM) ay (aJ (by kernel_rfl)) (fun _=>rfl) (fun m x=>by kernel_rfl) (aj ⟨cm,fun _ _ _=>rfl⟩ (az)) false ai
theorem Ye:(DF (M.tY)).Ok D Tryz.prog:=
 aN (cx:=zz) (c:=DF (M.tY)) (fz:=true) (fn:=Tryz.f171) ah (LM) ay ⟨Tryz.func171,by kernel_rfl⟩ (aO (cn 1 (by kernel_rfl) (ct (.mk (by kernel_rfl) (Yd))))) ⟨⟨[.aX [.int .i64,.int .i64]],[]⟩,fun x=>(x.1.1.1,x.1.1.2.1)⟩ (fun x=>rfl) (fun x=>by kernel_rfl)
def LN(y:(Bool×(List Int))⊕((List Int))){R:Type}(k:Ex->List (AV K)->List (Ob K)->R):R:=match y with
 |.inl a0=>k Ex.ret (aA.bj D ⟨[.any,.own 2,.bool],[.dead,.dead,.arr U.i64]⟩ (((),((),(a0.1,()))),((),((),(a0.2,()))))) (aA.bk D ⟨[.any,.own 2,.bool],[.dead,.dead,.arr U.i64]⟩ (((),((),(a0.1,()))),((),((),(a0.2,())))))
 |.inr (a1)=>k (Ex.exit 0) (aA.bj D ⟨[.own 1,.any,.any],[.dead,.arr U.i64]⟩ (((),((),((),()))),((),(a1,())))) (aA.bk D ⟨[.own 1,.any,.any],[.dead,.arr U.i64]⟩ (((),((),((),()))),((),(a1,()))))
def Yf:List (bV K ((Bool×(List Int))⊕((List Int)))):=[⟨Ex.ret,⟨[.any,.own 2,.bool],[.dead,.dead,.arr U.i64]⟩,fun x=>.inl (x.1.2.2.1,x.2.2.2.1)⟩,⟨(Ex.exit 0),⟨[.own 1,.any,.any],[.dead,.arr U.i64]⟩,fun x=>.inr (x.2.2.1)⟩]
def LP:bQ K:=bZ D false 26 1 [0,4] [4,2,3] ⟨[.str,.own 1],[.dead,.arr U.i64]⟩ (fun x=>M.nN ai x.1.1 x.2.2.1) LN
def zA(m:(List UInt8)->Option ((List Int)×Bool)):aE K:={f:=158,sh:=⟨[.str],[]⟩,R:=(List Int)×Bool,run:=fun x=>m x.1.1,dflt:=default,out:=fun r=>(Sh.enc D (.aX [.ar U.i64,.bool]) (r.1,(r.2,())),aw.encs D [] ())}
def zB:Cx K:={aK with mode:=aI .plain [(171,.plain)],call:=callOf D [DF M.tY],loop:=aH [(2,LP)]}
theorem LQ:aF (zB):=aL ah _ (aj Ye (az))
theorem Yg:bR (zB) (bT (bW Tryz.f158) 0) (LP):=
 cg (cx:=zB) (n:=26) (n0:=1) (ins:=[0,4]) (outs:=[4,2,3]) (sh:=⟨[.str,.own 1],[.dead,.arr U.i64]⟩) (run:=fun n x=>M.nN n x.1.1 x.2.2.1) (bU:=Yf) (out:=LN) ah (LQ) ay (aJ (by kernel_rfl)) (fun _=>rfl) (fun m x=>by kernel_rfl) (aj ⟨dG,fun _ _ _=>rfl⟩ (aj ⟨cm,fun _ _ _=>rfl⟩ (az))) false ai
theorem LR:(zA (M.mf)).Ok D Tryz.prog:=
 aN (cx:=zB) (c:=zA (M.mf)) (fz:=true) (fn:=Tryz.f158) ah (LQ) ay ⟨Tryz.func158,by kernel_rfl⟩ (aO (cn 1 (by kernel_rfl) (ct (.mk (by kernel_rfl) (Yg))))) ⟨⟨[.aX [.ar U.i64,.bool]],[]⟩,fun x=>(x.1.1.1,x.1.1.2.1)⟩ (fun x=>rfl) (fun x=>by kernel_rfl)
def DG(m:(List UInt8)->Option (Bool)):aE K:={f:=124,sh:=⟨[.str],[]⟩,R:=Bool,run:=fun x=>m x.1.1,dflt:=default,out:=fun r=>(Sh.enc D (.bool) r,aw.encs D [] ())}
def LS:Cx K:={aK with mode:=aI .plain [(158,.gB)],call:=callOf D [zA M.mf],loop:=aH []}
theorem Yh:aF (LS):=aL ah _ (aj LR (az))
theorem Yi:(DG (M.tZ)).Ok D Tryz.prog:=
 aN (cx:=LS) (c:=DG (M.tZ)) (fz:=true) (fn:=Tryz.f124) ah (Yh) ay ⟨Tryz.func124,by kernel_rfl⟩ (aO (aJ (by kernel_rfl))) ⟨⟨[.bool],[]⟩,fun x=>x.1.1⟩ (fun x=>rfl) (fun x=>by kernel_rfl)
def LU(y:(Bool)⊕(Unit)){R:Type}(k:Ex->List (AV K)->List (Ob K)->R):R:=match y with
 |.inl a0=>k Ex.ret (aA.bj D ⟨[.bool],[]⟩ ((a0,()),())) (aA.bk D ⟨[.bool],[]⟩ ((a0,()),()))
 |.inr (a1)=>k (Ex.exit 0) (aA.bj D ⟨[.any],[]⟩ (((),()),())) (aA.bk D ⟨[.any],[]⟩ (((),()),()))
def Yj:List (bV K ((Bool)⊕(Unit))):=[⟨Ex.ret,⟨[.bool],[]⟩,fun x=>.inl x.1.1⟩,⟨(Ex.exit 0),⟨[.any],[]⟩,fun x=>.inr (())⟩]
def LV(bp:M.ae->M.aa->Option (Bool)):bQ K:=bZ D false 27 0 [0,1,5] [4] ⟨[.ar U.Value,.ar U.Type,.int .i64],[]⟩ (fun x=>M.mg bp x.1.1 x.1.2.1 ai x.1.2.2.1) LU
def DI(m:(List M.ae)->(List M.aa)->Option (Bool)):aE K:={f:=68,sh:=⟨[.ar U.Value,.ar U.Type],[]⟩,R:=Bool,run:=fun x=>m x.1.1 x.1.2.1,dflt:=default,out:=fun r=>(Sh.enc D (.bool) r,aw.encs D [] ())}
def zC(bp:M.ae->M.aa->Option (Bool)):Cx K:={aK with mode:=aI .plain [(79,.plain)],call:=callOf D [g9 bp],loop:=aH [(4,LV bp)]}
theorem LW(bp:M.ae->M.aa->Option (Bool))(fa:(g9 bp).Ok D Tryz.prog):aF (zC bp):=aL ah _ (aj fa (az))
theorem Yk(bp:M.ae->M.aa->Option (Bool))(fa:(g9 bp).Ok D Tryz.prog):bR (zC bp) (bT (bW Tryz.f68) 0) (LV bp):=
 cg (cx:=zC bp) (n:=27) (n0:=0) (ins:=[0,1,5]) (outs:=[4]) (sh:=⟨[.ar U.Value,.ar U.Type,.int .i64],[]⟩) (run:=fun n x=>M.mg bp x.1.1 x.1.2.1 n x.1.2.2.1) (bU:=Yj) (out:=LU) ah (LW bp fa) ay (aJ (by kernel_rfl)) (fun _=>rfl) (fun m x=>by kernel_rfl) (aj ⟨dG,fun _ _ _=>rfl⟩ (aj ⟨cm,fun _ _ _=>rfl⟩ (az))) false ai
theorem Yl(bp:M.ae->M.aa->Option (Bool))(fa:(g9 bp).Ok D Tryz.prog):(DI (M.ua bp)).Ok D Tryz.prog:=
 aN (cx:=zC bp) (c:=DI (M.ua bp)) (fz:=true) (fn:=Tryz.f68) ah (LW bp fa) ay ⟨Tryz.func68,by kernel_rfl⟩ (aO (cn 1 (by kernel_rfl) (ct (.mk (by kernel_rfl) (Yk bp fa))))) ⟨⟨[.bool],[]⟩,fun x=>x.1.1⟩ (fun x=>rfl) (fun x=>by kernel_rfl)
def DJ(m:Int->Option (Int×Int×Bool)):aE K:={f:=125,sh:=⟨[.int .i64],[]⟩,R:=Int×Int×Bool,run:=fun x=>m x.1.1,dflt:=default,out:=fun r=>(Sh.enc D (.aX [.int .i64,.int .i64,.bool]) (r.1,(r.2.1,(r.2.2,()))),aw.encs D [] ())}
def LX:Cx K:={aK with mode:=aI .plain [],call:=callOf D [],loop:=aH []}
theorem Ym:aF (LX):=aL ah _ (az)
theorem Yn:(DJ (M.wR)).Ok D Tryz.prog:=
 aN (cx:=LX) (c:=DJ (M.wR)) (fz:=true) (fn:=Tryz.f125) ah (Ym) ay ⟨Tryz.func125,by kernel_rfl⟩ (aO (aJ (by kernel_rfl))) ⟨⟨[.aX [.int .i64,.int .i64,.bool]],[]⟩,fun x=>(x.1.1.1,x.1.1.2.1,x.1.1.2.2.1)⟩ (fun x=>rfl) (fun x=>by kernel_rfl)
def LY(bp:M.ae->M.aa->Option (Bool)):Cx K:={aK with mode:=aI .plain [(122,.plain),(123,.plain),(124,.plain),(68,.plain),(125,.plain),(120,.plain),(126,.plain)],call:=callOf D [pw M.px,Dz (M.ry bp),DC (M.rz bp),zy M.iN,DG M.tZ,DI (M.ua bp),DJ M.wR],loop:=aH []}
theorem Yo(bp:M.ae->M.aa->Option (Bool))(fa:(g9 bp).Ok D Tryz.prog):aF (LY bp):=aL ah _ (aj tw (aj (X5 bp fa) (aj (X8 bp fa) (aj LI (aj Yi (aj (Yl bp fa) (aj Yn (az))))))))
theorem Yp(bp:M.ae->M.aa->Option (Bool))(fa:(g9 bp).Ok D Tryz.prog):(g9 (M.nO bp)).Ok D Tryz.prog:=
 aN (cx:=LY bp) (c:=g9 (M.nO bp)) (fz:=true) (fn:=Tryz.f79) ah (Yo bp fa) ay ⟨Tryz.func79,by kernel_rfl⟩ (aO (aJ (by kernel_rfl))) ⟨⟨[.bool],[]⟩,fun x=>x.1.1⟩ (fun x=>rfl) (fun x=>by kernel_rfl)
theorem LZ:∀n,(g9 (M.rA n)).Ok D Tryz.prog
 |0=>fp fun _=>rfl
 |n+1=>Yp (M.rA n) (LZ n)
theorem Yq:(g9 (M.wS)).Ok D Tryz.prog:=LZ ai
def DK(m:M.ae->M.aa->Option (Bool)):aE K:={f:=42,sh:=⟨[.el U.Value,.el U.Type],[]⟩,R:=Bool,run:=fun x=>m x.1.1 x.1.2.1,dflt:=default,out:=fun r=>(Sh.enc D (.bool) r,aw.encs D [] ())}
def L0:Cx K:={aK with mode:=aI .plain [(78,.plain),(79,.plain)],call:=callOf D [Dy M.tX,g9 M.wS],loop:=aH []}
theorem Yr:aF (L0):=aL ah _ (aj X3 (aj Yq (az)))
theorem Ys:(DK (M.pN)).Ok D Tryz.prog:=
 aN (cx:=L0) (c:=DK (M.pN)) (fz:=true) (fn:=Tryz.f42) ah (Yr) ay ⟨Tryz.func42,by kernel_rfl⟩ (aO (aJ (by kernel_rfl))) ⟨⟨[.bool],[]⟩,fun x=>x.1.1⟩ (fun x=>rfl) (fun x=>by kernel_rfl)
def DL(m:M.aa->Option (Bool)):aE K:={f:=136,sh:=⟨[.el U.Type],[]⟩,R:=Bool,run:=fun x=>m x.1.1,dflt:=default,out:=fun r=>(Sh.enc D (.bool) r,aw.encs D [] ())}
def L1:Cx K:={aK with mode:=aI .plain [(162,.plain),(163,.plain),(164,.plain)],call:=callOf D [nI M.zh,nJ M.zj,jd M.zw],loop:=aH []}
theorem Yt:aF (L1):=aL ah _ (aj W9 (aj Xd (aj XZ (az))))
theorem Yu:(DL (M.ub)).Ok D Tryz.prog:=
 aN (cx:=L1) (c:=DL (M.ub)) (fz:=true) (fn:=Tryz.f136) ah (Yt) ay ⟨Tryz.func136,by kernel_rfl⟩ (aO (aJ (by kernel_rfl))) ⟨⟨[.bool],[]⟩,fun x=>x.1.1⟩ (fun x=>rfl) (fun x=>by kernel_rfl)
def DN(m:(List M.ae)->Option (Int)):aE K:={f:=150,sh:=⟨[.ar U.Value],[]⟩,R:=Int,run:=fun x=>m x.1.1,dflt:=default,out:=fun r=>(Sh.enc D (.int .i64) r,aw.encs D [] ())}
def L2:Cx K:={aK with mode:=aI .plain [],call:=callOf D [],loop:=aH []}
theorem Yv:aF (L2):=aL ah _ (az)
theorem Yw:(DN (M.DO)).Ok D Tryz.prog:=
 aN (cx:=L2) (c:=DN (M.DO)) (fz:=true) (fn:=Tryz.f150) ah (Yv) ay ⟨Tryz.func150,by kernel_rfl⟩ (aO (aJ (by kernel_rfl))) ⟨⟨[.int .i64],[]⟩,fun x=>x.1.1⟩ (fun x=>rfl) (fun x=>by kernel_rfl)
def DR(m:Int->Option (Int×Int×Bool)):aE K:={f:=108,sh:=⟨[.int .i64],[]⟩,R:=Int×Int×Bool,run:=fun x=>m x.1.1,dflt:=default,out:=fun r=>(Sh.enc D (.aX [.int .i64,.int .i64,.bool]) (r.1,(r.2.1,(r.2.2,()))),aw.encs D [] ())}
def L6:Cx K:={aK with mode:=aI .plain [],call:=callOf D [],loop:=aH []}
theorem Yx:aF (L6):=aL ah _ (az)
theorem Yy:(DR (M.uc)).Ok D Tryz.prog:=
 aN (cx:=L6) (c:=DR (M.uc)) (fz:=true) (fn:=Tryz.f108) ah (Yx) ay ⟨Tryz.func108,by kernel_rfl⟩ (aO (aJ (by kernel_rfl))) ⟨⟨[.aX [.int .i64,.int .i64,.bool]],[]⟩,fun x=>(x.1.1.1,x.1.1.2.1,x.1.1.2.2.1)⟩ (fun x=>rfl) (fun x=>by kernel_rfl)
def DT(m:Int->Option (Bool)):aE K:={f:=137,sh:=⟨[.int .i64],[]⟩,R:=Bool,run:=fun x=>m x.1.1,dflt:=default,out:=fun r=>(Sh.enc D (.bool) r,aw.encs D [] ())}
def L8:Cx K:={aK with mode:=aI .plain [(133,.plain)],call:=callOf D [pG M.pH],loop:=aH []}
theorem Yz:aF (L8):=aL ah _ (aj tJ (az))
theorem YA:(DT (M.zD)).Ok D Tryz.prog:=
 aN (cx:=L8) (c:=DT (M.zD)) (fz:=true) (fn:=Tryz.f137) ah (Yz) ay ⟨Tryz.func137,by kernel_rfl⟩ (aO (aJ (by kernel_rfl))) ⟨⟨[.bool],[]⟩,fun x=>x.1.1⟩ (fun x=>rfl) (fun x=>by kernel_rfl)
def DU(m:M.ae->M.aa->Option (Bool)):aE K:={f:=91,sh:=⟨[.el U.Value,.el U.Type],[]⟩,R:=Bool,run:=fun x=>m x.1.1 x.1.2.1,dflt:=default,out:=fun r=>(Sh.enc D (.bool) r,aw.encs D [] ())}
def L9:Cx K:={aK with mode:=aI .plain [(108,.plain),(137,.plain),(138,.plain),(133,.plain)],call:=callOf D [pG M.pH,DR M.uc,DT M.zD,tK M.tL],loop:=aH []}
theorem YB:aF (L9):=aL ah _ (aj tJ (aj Yy (aj YA (aj zl (az)))))
theorem YC:(DU (M.ud)).Ok D Tryz.prog:=
 aN (cx:=L9) (c:=DU (M.ud)) (fz:=true) (fn:=Tryz.f91) ah (YB) ay ⟨Tryz.func91,by kernel_rfl⟩ (aO (aJ (by kernel_rfl))) ⟨⟨[.bool],[]⟩,fun x=>x.1.1⟩ (fun x=>rfl) (fun x=>by kernel_rfl)
def DV(m:(List UInt8)->Option (Bool)):aE K:={f:=92,sh:=⟨[.str],[]⟩,R:=Bool,run:=fun x=>m x.1.1,dflt:=default,out:=fun r=>(Sh.enc D (.bool) r,aw.encs D [] ())}
def Mc:Cx K:={aK with mode:=aI .plain [(139,.plain)],call:=callOf D [DW M.pO],loop:=aH []}
theorem YD:aF (Mc):=aL ah _ (aj YE (az))
theorem YF:(DV (M.ue)).Ok D Tryz.prog:=
 aN (cx:=Mc) (c:=DV (M.ue)) (fz:=true) (fn:=Tryz.f92) ah (YD) ay ⟨Tryz.func92,by kernel_rfl⟩ (aO (aJ (by kernel_rfl))) ⟨⟨[.bool],[]⟩,fun x=>x.1.1⟩ (fun x=>rfl) (fun x=>by kernel_rfl)
def zE(m:M.aa->Int->Option (M.aa×Bool)):aE K:={f:=102,sh:=⟨[.el U.Type,.int .i64],[]⟩,R:=M.aa×Bool,run:=fun x=>m x.1.1 x.1.2.1,dflt:=default,out:=fun r=>(Sh.enc D (.aX [.el U.Type,.bool]) (r.1,(r.2,())),aw.encs D [] ())}
def Md:Cx K:={aK with mode:=aI .plain [(152,.plain),(133,.plain)],call:=callOf D [wL M.wM,pG M.pH],loop:=aH []}
theorem YG:aF (Md):=aL ah _ (aj Dm (aj tJ (az)))
theorem Me:(zE (M.k9)).Ok D Tryz.prog:=
 aN (cx:=Md) (c:=zE (M.k9)) (fz:=true) (fn:=Tryz.f102) ah (YG) ay ⟨Tryz.func102,by kernel_rfl⟩ (aO (aJ (by kernel_rfl))) ⟨⟨[.aX [.el U.Type,.bool]],[]⟩,fun x=>(x.1.1.1,x.1.1.2.1)⟩ (fun x=>rfl) (fun x=>by kernel_rfl)
def DX(m:M.ae->M.aa->Option ((List M.aa)×Bool)):aE K:={f:=93,sh:=⟨[.el U.Value,.el U.Type],[]⟩,R:=(List M.aa)×Bool,run:=fun x=>m x.1.1 x.1.2.1,dflt:=default,out:=fun r=>(Sh.enc D (.aX [.ar U.Type,.bool]) (r.1,(r.2,())),aw.encs D [] ())}
def MA:Cx K:={aK with mode:=aI .plain [(140,.gB),(102,.gB),(141,.plain)],call:=callOf D [DY M.pP,zE M.k9,zp M.zq],loop:=aH []}
theorem YH:aF (MA):=aL ah _ (aj YI (aj Me (aj K8 (az))))
theorem YJ:(DX (M.uf)).Ok D Tryz.prog:=
 aN (cx:=MA) (c:=DX (M.uf)) (fz:=true) (fn:=Tryz.f93) ah (YH) ay ⟨Tryz.func93,by kernel_rfl⟩ (aO (aJ (by kernel_rfl))) ⟨⟨[.aX [.ar U.Type,.bool]],[]⟩,fun x=>(x.1.1.1,x.1.1.2.1)⟩ (fun x=>rfl) (fun x=>by kernel_rfl)
def nP(m:M.ae->M.aa->Option (Bool)):aE K:={f:=50,sh:=⟨[.el U.Value,.el U.Type],[]⟩,R:=Bool,run:=fun x=>m x.1.1 x.1.2.1,dflt:=default,out:=fun r=>(Sh.enc D (.bool) r,aw.encs D [] ())}
def MB(y:(Bool)⊕(Unit)){R:Type}(k:Ex->List (AV K)->List (Ob K)->R):R:=match y with
 |.inl a0=>k Ex.ret (aA.bj D ⟨[.bool],[]⟩ ((a0,()),())) (aA.bk D ⟨[.bool],[]⟩ ((a0,()),()))
 |.inr (a1)=>k (Ex.exit 0) (aA.bj D ⟨[.any],[]⟩ (((),()),())) (aA.bk D ⟨[.any],[]⟩ (((),()),()))
def YK:List (bV K ((Bool)⊕(Unit))):=[⟨Ex.ret,⟨[.bool],[]⟩,fun x=>.inl x.1.1⟩,⟨(Ex.exit 0),⟨[.any],[]⟩,fun x=>.inr (())⟩]
def MC(ed:M.ae->M.aa->Option (Bool)):bQ K:=bZ D false 68 0 [5,53,54,55] [4] ⟨[.ar U.Type,.ar U.Value,.int .i64,.int .i64],[]⟩ (fun x=>M.mh ed x.1.1 x.1.2.1 x.1.2.2.1 ai x.1.2.2.2.1) MB
def zF(ed:M.ae->M.aa->Option (Bool)):Cx K:={aK with mode:=aI .plain [(91,.plain),(92,.plain),(93,.gB),(50,.plain)],call:=callOf D [DU M.ud,DV M.ue,DX M.uf,nP ed],loop:=aH [(7,MC ed)]}
theorem MD(ed:M.ae->M.aa->Option (Bool))(ug:(nP ed).Ok D Tryz.prog):aF (zF ed):=aL ah _ (aj YC (aj YF (aj YJ (aj ug (az)))))
theorem YL(ed:M.ae->M.aa->Option (Bool))(ug:(nP ed).Ok D Tryz.prog):bR (zF ed) (bT (bW Tryz.f50) 0) (MC ed):=
 cg (cx:=zF ed) (n:=68) (n0:=0) (ins:=[5,53,54,55]) (outs:=[4]) (sh:=⟨[.ar U.Type,.ar U.Value,.int .i64,.int .i64],[]⟩) (run:=fun n x=>M.mh ed x.1.1 x.1.2.1 x.1.2.2.1 n x.1.2.2.2.1) (bU:=YK) (out:=MB) ah (MD ed ug) ay (aJ (by kernel_rfl)) (fun _=>rfl) (fun m x=>by kernel_rfl) (aj ⟨dG,fun _ _ _=>rfl⟩ (aj ⟨cm,fun _ _ _=>rfl⟩ (az))) false ai
theorem YM(ed:M.ae->M.aa->Option (Bool))(ug:(nP ed).Ok D Tryz.prog):(nP (M.wT ed)).Ok D Tryz.prog:=
 aN (cx:=zF ed) (c:=nP (M.wT ed)) (fz:=true) (fn:=Tryz.f50) ah (MD ed ug) ay ⟨Tryz.func50,by kernel_rfl⟩ (aO (cn 1 (by kernel_rfl) (ct (.mk (by kernel_rfl) (YL ed ug))))) ⟨⟨[.bool],[]⟩,fun x=>x.1.1⟩ (fun x=>rfl) (fun x=>by kernel_rfl)
theorem ME:∀n,(nP (M.mi n)).Ok D Tryz.prog
 |0=>fp fun _=>rfl
 |n+1=>YM (M.mi n) (ME n)
theorem YN:(nP (M.wU)).Ok D Tryz.prog:=ME ai
def MF(y:(List UInt8)){R:Type}(k:Ex->List (AV K)->List (Ob K)->R):R:=match y with
 |a0=>k (Ex.exit 0) (aA.bj D ⟨[.str],[]⟩ ((a0,()),())) (aA.bk D ⟨[.str],[]⟩ ((a0,()),()))
def YO:List (bV K ((List UInt8))):=[⟨(Ex.exit 0),⟨[.str],[]⟩,fun x=>x.1.1⟩]
def MG:bQ K:=bZ D false 20 0 [0,3] [3] ⟨[.int .i64,.str],[]⟩ (fun x=>M.rB ai x.1.1 x.1.2.1) MF
def wV(m:Int->Option ((List UInt8))):aE K:={f:=75,sh:=⟨[.int .i64],[]⟩,R:=(List UInt8),run:=fun x=>m x.1.1,dflt:=default,out:=fun r=>(Sh.enc D (.str) r,aw.encs D [] ())}
def zG:Cx K:={aK with mode:=aI .plain [],deep:=fun c=>dh (D.cells c (K.zero c)),call:=callOf D [],loop:=aH [(4,MG)]}
theorem MH:aF (zG):=aL ah _ (az)
theorem YP:bR (zG) (bT (bW Tryz.f75) 0) (MG):=
 cg (cx:=zG) (n:=20) (n0:=0) (ins:=[0,3]) (outs:=[3]) (sh:=⟨[.int .i64,.str],[]⟩) (run:=fun n x=>M.rB n x.1.1 x.1.2.1) (bU:=YO) (out:=MF) ah (MH) ay (aJ (by kernel_rfl)) (fun _=>rfl) (fun m x=>by kernel_rfl) (aj ⟨cm,fun _ _ _=>rfl⟩ (az)) false ai
theorem DZ:(wV (M.ky)).Ok D Tryz.prog:=
 aN (cx:=zG) (c:=wV (M.ky)) (fz:=true) (fn:=Tryz.f75) ah (MH) ay ⟨Tryz.func75,by kernel_rfl⟩ (aO (cn 1 (by kernel_rfl) (ct (.mk (by kernel_rfl) (YP))))) ⟨⟨[.str],[]⟩,fun x=>x.1.1⟩ (fun x=>rfl) (fun x=>by kernel_rfl)
def MI(y:Int×(List (List UInt8))){R:Type}(k:Ex->List (AV K)->List (Ob K)->R):R:=match y with
 |a0=>k (Ex.exit 0) (aA.bj D ⟨[.int .i64],[.arr U.str]⟩ ((a0.1,()),(a0.2,()))) (aA.bk D ⟨[.int .i64],[.arr U.str]⟩ ((a0.1,()),(a0.2,())))
def YQ:List (bV K (Int×(List (List UInt8)))):=[⟨(Ex.exit 0),⟨[.int .i64],[.arr U.str]⟩,fun x=>(x.1.1,x.2.1)⟩]
def MJ:bQ K:=bZ D true 20 1 [0,1,5] [1] ⟨[.own 0,.int .i64,.int .i64],[.arr U.str]⟩ (fun x=>M.rC ai x.1.2.1 x.1.2.2.1 x.2.1) MI
def zH(m:Int->(List (List UInt8))->Option (Int×(List (List UInt8)))):aE K:={f:=58,sh:=⟨[.own 0,.int .i64],[.arr U.str]⟩,R:=Int×(List (List UInt8)),run:=fun x=>m x.1.2.1 x.2.1,dflt:=default,out:=fun r=>(Sh.enc D (.int .i64) r.1,aw.encs D [.arr U.str] (r.2,()))}
def zI:Cx K:={aK with mode:=aI .plain [(75,.plain)],deep:=fun c=>dh (D.cells c (K.zero c)),opn:=true,call:=callOf D [wV M.ky],loop:=aH [(2,MJ)]}
theorem MK:aF (zI):=aL ah _ (aj DZ (az))
theorem YR:bR (zI) (bT (bW Tryz.f58) 0) (MJ):=
 cg (cx:=zI) (n:=20) (n0:=1) (ins:=[0,1,5]) (outs:=[1]) (sh:=⟨[.own 0,.int .i64,.int .i64],[.arr U.str]⟩) (run:=fun n x=>M.rC n x.1.2.1 x.1.2.2.1 x.2.1) (bU:=YQ) (out:=MI) ah (MK) ay (aJ (by kernel_rfl)) (fun _=>rfl) (fun m x=>by kernel_rfl) (aj ⟨cm,fun _ _ _=>rfl⟩ (az)) true ai
theorem ML:(zH (M.pQ)).Ok D Tryz.prog:=
 aN (cx:=zI) (c:=zH (M.pQ)) (fz:=true) (fn:=Tryz.f58) ah (MK) ay ⟨Tryz.func58,by kernel_rfl⟩ (aO (cn 1 (by kernel_rfl) (ct (.mk (by kernel_rfl) (YR))))) ⟨⟨[.int .i64],[.arr U.str]⟩,fun x=>(x.1.1,x.2.1)⟩ (fun x=>rfl) (fun x=>by kernel_rfl)
def nQ(m:Int->(List M.aa)->Option (Int×(List M.aa))):aE K:={f:=37,sh:=⟨[.own 0,.int .i64],[.tree U.Type]⟩,R:=Int×(List M.aa),run:=fun x=>m x.1.2.1 x.2.1,dflt:=default,out:=fun r=>(Sh.enc D (.int .i64) r.1,aw.encs D [.tree U.Type] (r.2,()))}
def MM(y:Int×(List M.aa)){R:Type}(k:Ex->List (AV K)->List (Ob K)->R):R:=match y with
 |a0=>k (Ex.exit 0) (aA.bj D ⟨[.int .i64],[.tree U.Type]⟩ ((a0.1,()),(a0.2,()))) (aA.bk D ⟨[.int .i64],[.tree U.Type]⟩ ((a0.1,()),(a0.2,())))
def YS:List (bV K (Int×(List M.aa))):=[⟨(Ex.exit 0),⟨[.int .i64],[.tree U.Type]⟩,fun x=>(x.1.1,x.2.1)⟩]
def MN(eu:Int->(List M.aa)->Option (Int×(List M.aa))):bQ K:=bZ D true 42 1 [0,1,5] [1] ⟨[.own 0,.int .i64,.int .i64],[.tree U.Type]⟩ (fun x=>M.rD eu ai x.1.2.1 x.1.2.2.1 x.2.1) MM
def zJ(eu:Int->(List M.aa)->Option (Int×(List M.aa))):Cx K:={aK with mode:=aI .plain [(75,.plain),(58,.pass),(37,.pass)],deep:=fun c=>dh (D.cells c (K.zero c)),opn:=true,call:=callOf D [wV M.ky,zH M.pQ,nQ eu],loop:=aH [(2,MN eu)]}
theorem MO(eu:Int->(List M.aa)->Option (Int×(List M.aa)))(uh:(nQ eu).Ok D Tryz.prog):aF (zJ eu):=aL ah _ (aj DZ (aj ML (aj uh (az))))
theorem YT(eu:Int->(List M.aa)->Option (Int×(List M.aa)))(uh:(nQ eu).Ok D Tryz.prog):bR (zJ eu) (bT (bW Tryz.f37) 0) (MN eu):=
 cg (cx:=zJ eu) (n:=42) (n0:=1) (ins:=[0,1,5]) (outs:=[1]) (sh:=⟨[.own 0,.int .i64,.int .i64],[.tree U.Type]⟩) (run:=fun n x=>M.rD eu n x.1.2.1 x.1.2.2.1 x.2.1) (bU:=YS) (out:=MM) ah (MO eu uh) ay (aJ (by kernel_rfl)) (fun _=>rfl) (fun m x=>by kernel_rfl) (aj ⟨cm,fun _ _ _=>rfl⟩ (az)) true ai
theorem YU(eu:Int->(List M.aa)->Option (Int×(List M.aa)))(uh:(nQ eu).Ok D Tryz.prog):(nQ (M.wW eu)).Ok D Tryz.prog:=
 aN (cx:=zJ eu) (c:=nQ (M.wW eu)) (fz:=true) (fn:=Tryz.f37) ah (MO eu uh) ay ⟨Tryz.func37,by kernel_rfl⟩ (aO (cn 1 (by kernel_rfl) (ct (.mk (by kernel_rfl) (YT eu uh))))) ⟨⟨[.int .i64],[.tree U.Type]⟩,fun x=>(x.1.1,x.2.1)⟩ (fun x=>rfl) (fun x=>by kernel_rfl)
theorem MP:∀n,(nQ (M.rE n)).Ok D Tryz.prog
 |0=>fp fun _=>rfl
 |n+1=>YU (M.rE n) (MP n)
theorem YV:(nQ (M.zK)).Ok D Tryz.prog:=MP ai
def D1(m:Int->(List UInt8)->Int->(List (List UInt8))->(List M.aa)->Option (Int×(List (List UInt8))×(List M.aa))):aE K:={f:=19,sh:=⟨[.agg [.int .i64,.str,.own 0,.own 1],.int .i64],[.arr U.str,.tree U.Type]⟩,R:=Int×(List (List UInt8))×(List M.aa),run:=fun x=>m x.1.1.1 x.1.1.2.1 x.1.2.1 x.2.1 x.2.2.1,dflt:=default,out:=fun r=>(Sh.enc D (.int .i64) r.1,aw.encs D [.arr U.str,.tree U.Type] (r.2.1,(r.2.2,())))}
def MQ:Cx K:={aK with mode:=aI .plain [(58,.pass),(37,.pass)],deep:=fun c=>dh (D.cells c (K.zero c)),opn:=true,call:=callOf D [zH M.pQ,nQ M.zK],loop:=aH []}
theorem YW:aF (MQ):=aL ah _ (aj ML (aj YV (az)))
theorem YX:(D1 (M.ui)).Ok D Tryz.prog:=
 aN (cx:=MQ) (c:=D1 (M.ui)) (fz:=true) (fn:=Tryz.f19) ah (YW) ay ⟨Tryz.func19,by kernel_rfl⟩ (aO (aJ (by kernel_rfl))) ⟨⟨[.int .i64],[.arr U.str,.tree U.Type]⟩,fun x=>(x.1.1,x.2.1,x.2.2.1)⟩ (fun x=>rfl) (fun x=>by kernel_rfl)
def nR(m:Int->(List M.ae)->Option (Int×(List M.ae))):aE K:={f:=38,sh:=⟨[.own 0,.int .i64],[.tree U.Value]⟩,R:=Int×(List M.ae),run:=fun x=>m x.1.2.1 x.2.1,dflt:=default,out:=fun r=>(Sh.enc D (.int .i64) r.1,aw.encs D [.tree U.Value] (r.2,()))}
def MR(y:Int×(List M.ae)){R:Type}(k:Ex->List (AV K)->List (Ob K)->R):R:=match y with
 |a0=>k (Ex.exit 0) (aA.bj D ⟨[.int .i64],[.tree U.Value]⟩ ((a0.1,()),(a0.2,()))) (aA.bk D ⟨[.int .i64],[.tree U.Value]⟩ ((a0.1,()),(a0.2,())))
def YY:List (bV K (Int×(List M.ae))):=[⟨(Ex.exit 0),⟨[.int .i64],[.tree U.Value]⟩,fun x=>(x.1.1,x.2.1)⟩]
def MS(ez:Int->(List M.ae)->Option (Int×(List M.ae))):bQ K:=bZ D true 42 1 [0,1,5] [1] ⟨[.own 0,.int .i64,.int .i64],[.tree U.Value]⟩ (fun x=>M.rF ez ai x.1.2.1 x.1.2.2.1 x.2.1) MR
def zL(ez:Int->(List M.ae)->Option (Int×(List M.ae))):Cx K:={aK with mode:=aI .plain [(75,.plain),(38,.pass)],deep:=fun c=>dh (D.cells c (K.zero c)),opn:=true,call:=callOf D [wV M.ky,nR ez],loop:=aH [(2,MS ez)]}
theorem MU(ez:Int->(List M.ae)->Option (Int×(List M.ae)))(uj:(nR ez).Ok D Tryz.prog):aF (zL ez):=aL ah _ (aj DZ (aj uj (az)))
theorem YZ(ez:Int->(List M.ae)->Option (Int×(List M.ae)))(uj:(nR ez).Ok D Tryz.prog):bR (zL ez) (bT (bW Tryz.f38) 0) (MS ez):=
 cg (cx:=zL ez) (n:=42) (n0:=1) (ins:=[0,1,5]) (outs:=[1]) (sh:=⟨[.own 0,.int .i64,.int .i64],[.tree U.Value]⟩) (run:=fun n x=>M.rF ez n x.1.2.1 x.1.2.2.1 x.2.1) (bU:=YY) (out:=MR) ah (MU ez uj) ay (aJ (by kernel_rfl)) (fun _=>rfl) (fun m x=>by kernel_rfl) (aj ⟨cm,fun _ _ _=>rfl⟩ (az)) true ai
theorem Y0(ez:Int->(List M.ae)->Option (Int×(List M.ae)))(uj:(nR ez).Ok D Tryz.prog):(nR (M.wX ez)).Ok D Tryz.prog:=
 aN (cx:=zL ez) (c:=nR (M.wX ez)) (fz:=true) (fn:=Tryz.f38) ah (MU ez uj) ay ⟨Tryz.func38,by kernel_rfl⟩ (aO (cn 1 (by kernel_rfl) (ct (.mk (by kernel_rfl) (YZ ez uj))))) ⟨⟨[.int .i64],[.tree U.Value]⟩,fun x=>(x.1.1,x.2.1)⟩ (fun x=>rfl) (fun x=>by kernel_rfl)
theorem MV:∀n,(nR (M.rG n)).Ok D Tryz.prog
 |0=>fp fun _=>rfl
 |n+1=>Y0 (M.rG n) (MV n)
theorem Y1:(nR (M.zM)).Ok D Tryz.prog:=MV ai
def lg(m:M.ae->Int->Option (Int)):aE K:={f:=9,sh:=⟨[.el U.Value,.int .i64],[]⟩,R:=Int,run:=fun x=>m x.1.1 x.1.2.1,dflt:=default,out:=fun r=>(Sh.enc D (.int .i64) r,aw.encs D [] ())}
def MW(y:(Int)⊕(Int)){R:Type}(k:Ex->List (AV K)->List (Ob K)->R):R:=match y with
 |.inl a0=>k Ex.ret (aA.bj D ⟨[.any,.int .i64],[]⟩ (((),(a0,())),())) (aA.bk D ⟨[.any,.int .i64],[]⟩ (((),(a0,())),()))
 |.inr (a1)=>k (Ex.exit 0) (aA.bj D ⟨[.int .i64,.any],[]⟩ ((a1,((),())),())) (aA.bk D ⟨[.int .i64,.any],[]⟩ ((a1,((),())),()))
def Y2:List (bV K ((Int)⊕(Int))):=[⟨Ex.ret,⟨[.any,.int .i64],[]⟩,fun x=>.inl x.1.2.1⟩,⟨(Ex.exit 0),⟨[.int .i64,.any],[]⟩,fun x=>.inr (x.1.1)⟩]
def MX(cR:M.ae->Int->Option (Int)):bQ K:=bZ D false 27 0 [0,1,5] [1,4] ⟨[.ar U.Value,.int .i64,.int .i64],[]⟩ (fun x=>M.rH cR x.1.1 ai x.1.2.1 x.1.2.2.1) MW
def D2(m:(List M.ae)->Int->Option (Int)):aE K:={f:=30,sh:=⟨[.ar U.Value,.int .i64],[]⟩,R:=Int,run:=fun x=>m x.1.1 x.1.2.1,dflt:=default,out:=fun r=>(Sh.enc D (.int .i64) r,aw.encs D [] ())}
def zN(cR:M.ae->Int->Option (Int)):Cx K:={aK with mode:=aI .plain [(9,.plain)],call:=callOf D [lg cR],loop:=aH [(5,MX cR)]}
theorem MY(cR:M.ae->Int->Option (Int))(mj:(lg cR).Ok D Tryz.prog):aF (zN cR):=aL ah _ (aj mj (az))
theorem Y3(cR:M.ae->Int->Option (Int))(mj:(lg cR).Ok D Tryz.prog):bR (zN cR) (bT (bW Tryz.f30) 0) (MX cR):=
 cg (cx:=zN cR) (n:=27) (n0:=0) (ins:=[0,1,5]) (outs:=[1,4]) (sh:=⟨[.ar U.Value,.int .i64,.int .i64],[]⟩) (run:=fun n x=>M.rH cR x.1.1 n x.1.2.1 x.1.2.2.1) (bU:=Y2) (out:=MW) ah (MY cR mj) ay (aJ (by kernel_rfl)) (fun _=>rfl) (fun m x=>by kernel_rfl) (aj ⟨dG,fun _ _ _=>rfl⟩ (aj ⟨cm,fun _ _ _=>rfl⟩ (az))) false ai
theorem Y4(cR:M.ae->Int->Option (Int))(mj:(lg cR).Ok D Tryz.prog):(D2 (M.uk cR)).Ok D Tryz.prog:=
 aN (cx:=zN cR) (c:=D2 (M.uk cR)) (fz:=true) (fn:=Tryz.f30) ah (MY cR mj) ay ⟨Tryz.func30,by kernel_rfl⟩ (aO (cn 1 (by kernel_rfl) (ct (.mk (by kernel_rfl) (Y3 cR mj))))) ⟨⟨[.int .i64],[]⟩,fun x=>x.1.1⟩ (fun x=>rfl) (fun x=>by kernel_rfl)
def MZ(cR:M.ae->Int->Option (Int)):Cx K:={aK with mode:=aI .plain [(30,.plain)],call:=callOf D [D2 (M.uk cR)],loop:=aH []}
theorem Y5(cR:M.ae->Int->Option (Int))(mj:(lg cR).Ok D Tryz.prog):aF (MZ cR):=aL ah _ (aj (Y4 cR mj) (az))
theorem Y6(cR:M.ae->Int->Option (Int))(mj:(lg cR).Ok D Tryz.prog):(lg (M.wY cR)).Ok D Tryz.prog:=
 aN (cx:=MZ cR) (c:=lg (M.wY cR)) (fz:=true) (fn:=Tryz.f9) ah (Y5 cR mj) ay ⟨Tryz.func9,by kernel_rfl⟩ (aO (aJ (by kernel_rfl))) ⟨⟨[.int .i64],[]⟩,fun x=>x.1.1⟩ (fun x=>rfl) (fun x=>by kernel_rfl)
theorem M1:∀n,(lg (M.rI n)).Ok D Tryz.prog
 |0=>fp fun _=>rfl
 |n+1=>Y6 (M.rI n) (M1 n)
theorem Y7:(lg (M.zO)).Ok D Tryz.prog:=M1 ai
def lh(m:M.ae->Option (Int×Int×(List UInt8)×(List M.ae))):aE K:={f:=13,sh:=⟨[.el U.Value],[]⟩,R:=Int×Int×(List UInt8)×(List M.ae),run:=fun x=>m x.1.1,dflt:=default,out:=fun r=>(Sh.enc D (.agg [.int .i64,.int .i64,.str,.own 0]) (r.1,(r.2.1,(r.2.2.1,((),())))),aw.encs D [.tree U.Value] (r.2.2.2,()))}
def M3(y:(List M.ae)){R:Type}(k:Ex->List (AV K)->List (Ob K)->R):R:=match y with
 |a0=>k (Ex.exit 0) (aA.bj D ⟨[.own 1],[.dead,.tree U.Value]⟩ (((),()),((),(a0,())))) (aA.bk D ⟨[.own 1],[.dead,.tree U.Value]⟩ (((),()),((),(a0,()))))
def Y8:List (bV K ((List M.ae))):=[⟨(Ex.exit 0),⟨[.own 1],[.dead,.tree U.Value]⟩,fun x=>x.2.2.1⟩]
def M4(cX:M.ae->Option (Int×Int×(List UInt8)×(List M.ae))):bQ K:=bZ D false 23 1 [0,3,4] [3] ⟨[.ar U.Value,.own 1,.int .i64],[.dead,.tree U.Value]⟩ (fun x=>M.pR cX x.1.1 ai x.1.2.2.1 x.2.2.1) M3
def D3(m:(List M.ae)->Option ((List M.ae))):aE K:={f:=33,sh:=⟨[.ar U.Value],[]⟩,R:=(List M.ae),run:=fun x=>m x.1.1,dflt:=default,out:=fun r=>(Sh.enc D (.own 0) (),aw.encs D [.tree U.Value] (r,()))}
def zP(cX:M.ae->Option (Int×Int×(List UInt8)×(List M.ae))):Cx K:={aK with mode:=aI .plain [(13,.fresh)],ir:=[[some U.Value]],deep:=fun c=>dh (D.cells c (K.zero c)),call:=callOf D [lh cX],loop:=aH [(3,M4 cX)]}
theorem M5(cX:M.ae->Option (Int×Int×(List UInt8)×(List M.ae)))(ml:(lh cX).Ok D Tryz.prog):aF (zP cX):=aL ah _ (aj ml (az))
theorem Y9(cX:M.ae->Option (Int×Int×(List UInt8)×(List M.ae)))(ml:(lh cX).Ok D Tryz.prog):bR (zP cX) (bT (bW Tryz.f33) 0) (M4 cX):=
 cg (cx:=zP cX) (n:=23) (n0:=1) (ins:=[0,3,4]) (outs:=[3]) (sh:=⟨[.ar U.Value,.own 1,.int .i64],[.dead,.tree U.Value]⟩) (run:=fun n x=>M.pR cX x.1.1 n x.1.2.2.1 x.2.2.1) (bU:=Y8) (out:=M3) ah (M5 cX ml) ay (aJ (by kernel_rfl)) (fun _=>rfl) (fun m x=>by kernel_rfl) (aj ⟨cm,fun _ _ _=>rfl⟩ (az)) false ai
theorem Za(cX:M.ae->Option (Int×Int×(List UInt8)×(List M.ae)))(ml:(lh cX).Ok D Tryz.prog):(D3 (M.um cX)).Ok D Tryz.prog:=
 aN (cx:=zP cX) (c:=D3 (M.um cX)) (fz:=false) (fn:=Tryz.f33) ah (M5 cX ml) ay ⟨Tryz.func33,by kernel_rfl⟩ (aO (cn 1 (by kernel_rfl) (ct (.mk (by kernel_rfl) (Y9 cX ml))))) ⟨⟨[.own 0],[.tree U.Value]⟩,fun x=>x.2.1⟩ (fun x=>rfl) (fun x=>by kernel_rfl)
def M6(cX:M.ae->Option (Int×Int×(List UInt8)×(List M.ae))):Cx K:={aK with mode:=aI .plain [(33,.fresh)],ir:=[[none,none,none,some U.Value]],deep:=fun c=>dh (D.cells c (K.zero c)),call:=callOf D [D3 (M.um cX)],loop:=aH []}
theorem Zb(cX:M.ae->Option (Int×Int×(List UInt8)×(List M.ae)))(ml:(lh cX).Ok D Tryz.prog):aF (M6 cX):=aL ah _ (aj (Za cX ml) (az))
theorem Zc(cX:M.ae->Option (Int×Int×(List UInt8)×(List M.ae)))(ml:(lh cX).Ok D Tryz.prog):(lh (M.wZ cX)).Ok D Tryz.prog:=
 aN (cx:=M6 cX) (c:=lh (M.wZ cX)) (fz:=false) (fn:=Tryz.f13) ah (Zb cX ml) ay ⟨Tryz.func13,by kernel_rfl⟩ (aO (aJ (by kernel_rfl))) ⟨⟨[.agg [.int .i64,.int .i64,.str,.own 0]],[.tree U.Value]⟩,fun x=>(x.1.1.1,x.1.1.2.1,x.1.1.2.2.1,x.2.1)⟩ (fun x=>rfl) (fun x=>by kernel_rfl)
theorem M7:∀n,(lh (M.rJ n)).Ok D Tryz.prog
 |0=>fp fun _=>rfl
 |n+1=>Zc (M.rJ n) (M7 n)
theorem Zd:(lh (M.zQ)).Ok D Tryz.prog:=M7 ai
def M8(y:(Bool)⊕(Unit)){R:Type}(k:Ex->List (AV K)->List (Ob K)->R):R:=match y with
 |.inl a0=>k Ex.ret (aA.bj D ⟨[.bool],[.dead]⟩ ((a0,()),((),()))) (aA.bk D ⟨[.bool],[.dead]⟩ ((a0,()),((),())))
 |.inr (a1)=>k (Ex.exit 0) (aA.bj D ⟨[.any],[.dead]⟩ (((),()),((),()))) (aA.bk D ⟨[.any],[.dead]⟩ (((),()),((),())))
def Ze:List (bV K ((Bool)⊕(Unit))):=[⟨Ex.ret,⟨[.bool],[.dead]⟩,fun x=>.inl x.1.1⟩,⟨(Ex.exit 0),⟨[.any],[.dead]⟩,fun x=>.inr (())⟩]
def M9:bQ K:=bZ D false 59 1 [1,3,4,5] [2] ⟨[.ptr 0 0,.int .i64,.int .i64,.int .i64],[.el U.dA]⟩ (fun x=>M.mn x.1.2.1 x.2.1 ai x.1.2.2.1 x.1.2.2.2.1) M8
def D4(m:M.ax->Option (Bool)):aE K:={f:=76,sh:=⟨[.el U.dA],[]⟩,R:=Bool,run:=fun x=>m x.1.1,dflt:=default,out:=fun r=>(Sh.enc D (.bool) r,aw.encs D [] ())}
def zR:Cx K:={aK with mode:=aI .plain [],call:=callOf D [],loop:=aH [(6,M9)]}
theorem Na:aF (zR):=aL ah _ (az)
theorem Zf:bR (zR) (bT (bW Tryz.f76) 0) (M9):=
 cg (cx:=zR) (n:=59) (n0:=1) (ins:=[1,3,4,5]) (outs:=[2]) (sh:=⟨[.ptr 0 0,.int .i64,.int .i64,.int .i64],[.el U.dA]⟩) (run:=fun n x=>M.mn x.1.2.1 x.2.1 n x.1.2.2.1 x.1.2.2.2.1) (bU:=Ze) (out:=M8) ah (Na) ay (aJ (by kernel_rfl)) (fun _=>rfl) (fun m x=>by kernel_rfl) (aj ⟨dG,fun _ _ _=>rfl⟩ (aj ⟨cm,fun _ _ _=>rfl⟩ (az))) false ai
theorem Zg:(D4 (M.uo)).Ok D Tryz.prog:=
 aN (cx:=zR) (c:=D4 (M.uo)) (fz:=true) (fn:=Tryz.f76) ah (Na) ay ⟨Tryz.func76,by kernel_rfl⟩ (aO (cn 1 (by kernel_rfl) (ct (.mk (by kernel_rfl) (Zf))))) ⟨⟨[.bool],[]⟩,fun x=>x.1.1⟩ (fun x=>rfl) (fun x=>by kernel_rfl)
def D5(m:Int->Option (Bool)):aE K:={f:=77,sh:=⟨[.int .i64],[]⟩,R:=Bool,run:=fun x=>m x.1.1,dflt:=default,out:=fun r=>(Sh.enc D (.bool) r,aw.encs D [] ())}
def Nb:Cx K:={aK with mode:=aI .plain [(120,.plain)],call:=callOf D [pw M.px],loop:=aH []}
theorem Zh:aF (Nb):=aL ah _ (aj tw (az))
theorem Zi:(D5 (M.D6)).Ok D Tryz.prog:=
 aN (cx:=Nb) (c:=D5 (M.D6)) (fz:=true) (fn:=Tryz.f77) ah (Zh) ay ⟨Tryz.func77,by kernel_rfl⟩ (aO (aJ (by kernel_rfl))) ⟨⟨[.bool],[]⟩,fun x=>x.1.1⟩ (fun x=>rfl) (fun x=>by kernel_rfl)
def D7(m:M.ax->Int->Option (Bool)):aE K:={f:=41,sh:=⟨[.el U.dA,.int .i64],[]⟩,R:=Bool,run:=fun x=>m x.1.1 x.1.2.1,dflt:=default,out:=fun r=>(Sh.enc D (.bool) r,aw.encs D [] ())}
def Nc:Cx K:={aK with mode:=aI .plain [(76,.plain),(77,.plain)],call:=callOf D [D4 M.uo,D5 M.D6],loop:=aH []}
theorem Zj:aF (Nc):=aL ah _ (aj Zg (aj Zi (az)))
theorem Zk:(D7 (M.uu)).Ok D Tryz.prog:=
 aN (cx:=Nc) (c:=D7 (M.uu)) (fz:=true) (fn:=Tryz.f41) ah (Zj) ay ⟨Tryz.func41,by kernel_rfl⟩ (aO (aJ (by kernel_rfl))) ⟨⟨[.bool],[]⟩,fun x=>x.1.1⟩ (fun x=>rfl) (fun x=>by kernel_rfl)
def D8(m:Int->Option (Int)):aE K:={f:=80,sh:=⟨[.int .i64],[]⟩,R:=Int,run:=fun x=>m x.1.1,dflt:=default,out:=fun r=>(Sh.enc D (.int .i64) r,aw.encs D [] ())}
def Nh:Cx K:={aK with mode:=aI .plain [],call:=callOf D [],loop:=aH []}
theorem Zl:aF (Nh):=aL ah _ (az)
theorem Zm:(D8 (M.uv)).Ok D Tryz.prog:=
 aN (cx:=Nh) (c:=D8 (M.uv)) (fz:=true) (fn:=Tryz.f80) ah (Zl) ay ⟨Tryz.func80,by kernel_rfl⟩ (aO (aJ (by kernel_rfl))) ⟨⟨[.int .i64],[]⟩,fun x=>x.1.1⟩ (fun x=>rfl) (fun x=>by kernel_rfl)
def iu(m:M.aa->Option (Int×Int)):aE K:={f:=43,sh:=⟨[.el U.Type],[]⟩,R:=Int×Int,run:=fun x=>m x.1.1,dflt:=default,out:=fun r=>(Sh.enc D (.aX [.int .i64,.int .i64]) (r.1,(r.2,())),aw.encs D [] ())}
def uw(m:Int->Int->Option (Int)):aE K:={f:=83,sh:=⟨[.int .i64,.int .i64],[]⟩,R:=Int,run:=fun x=>m x.1.1 x.1.2.1,dflt:=default,out:=fun r=>(Sh.enc D (.int .i64) r,aw.encs D [] ())}
def Ni:Cx K:={aK with mode:=aI .plain [],call:=callOf D [],loop:=aH []}
theorem Zn:aF (Ni):=aL ah _ (az)
theorem zS:(uw (M.jf)).Ok D Tryz.prog:=
 aN (cx:=Ni) (c:=uw (M.jf)) (fz:=true) (fn:=Tryz.f83) ah (Zn) ay ⟨Tryz.func83,by kernel_rfl⟩ (aO (aJ (by kernel_rfl))) ⟨⟨[.int .i64],[]⟩,fun x=>x.1.1⟩ (fun x=>rfl) (fun x=>by kernel_rfl)
def Nj(y:Int×Int×(List Int)){R:Type}(k:Ex->List (AV K)->List (Ob K)->R):R:=match y with
 |a0=>k (Ex.exit 0) (aA.bj D ⟨[.int .i64,.int .i64,.own 1],[.dead,.arr U.i64]⟩ ((a0.1,(a0.2.1,((),()))),((),(a0.2.2,())))) (aA.bk D ⟨[.int .i64,.int .i64,.own 1],[.dead,.arr U.i64]⟩ ((a0.1,(a0.2.1,((),()))),((),(a0.2.2,()))))
def Zo:List (bV K (Int×Int×(List Int))):=[⟨(Ex.exit 0),⟨[.int .i64,.int .i64,.own 1],[.dead,.arr U.i64]⟩,fun x=>(x.1.1,x.1.2.1,x.2.2.1)⟩]
def Nk(bJ:M.aa->Option (Int×Int)):bQ K:=bZ D false 44 1 [0,5,6,7,8] [5,6,7] ⟨[.ar U.Type,.int .i64,.int .i64,.own 1,.int .i64],[.dead,.arr U.i64]⟩ (fun x=>M.mo bJ x.1.1 ai x.1.2.1 x.1.2.2.1 x.1.2.2.2.2.1 x.2.2.1) Nj
def zT(m:(List M.aa)->Option ((List Int)×Int×Int)):aE K:={f:=71,sh:=⟨[.ar U.Type],[]⟩,R:=(List Int)×Int×Int,run:=fun x=>m x.1.1,dflt:=default,out:=fun r=>(Sh.enc D (.aX [.ar U.i64,.int .i64,.int .i64]) (r.1,(r.2.1,(r.2.2,()))),aw.encs D [] ())}
def zU(bJ:M.aa->Option (Int×Int)):Cx K:={aK with mode:=aI .plain [(43,.plain),(83,.plain),(115,.plain)],call:=callOf D [iu bJ,uw M.jf,wC M.jc],loop:=aH [(4,Nk bJ)]}
theorem Nl(bJ:M.aa->Option (Int×Int))(hC:(iu bJ).Ok D Tryz.prog):aF (zU bJ):=aL ah _ (aj hC (aj zS (aj C5 (az))))
theorem Zp(bJ:M.aa->Option (Int×Int))(hC:(iu bJ).Ok D Tryz.prog):bR (zU bJ) (bT (bW Tryz.f71) 0) (Nk bJ):=
 cg (cx:=zU bJ) (n:=44) (n0:=1) (ins:=[0,5,6,7,8]) (outs:=[5,6,7]) (sh:=⟨[.ar U.Type,.int .i64,.int .i64,.own 1,.int .i64],[.dead,.arr U.i64]⟩) (run:=fun n x=>M.mo bJ x.1.1 n x.1.2.1 x.1.2.2.1 x.1.2.2.2.2.1 x.2.2.1) (bU:=Zo) (out:=Nj) ah (Nl bJ hC) ay (aJ (by kernel_rfl)) (fun _=>rfl) (fun m x=>by kernel_rfl) (aj ⟨cm,fun _ _ _=>rfl⟩ (az)) false ai
theorem Nn(bJ:M.aa->Option (Int×Int))(hC:(iu bJ).Ok D Tryz.prog):(zT (M.nS bJ)).Ok D Tryz.prog:=
 aN (cx:=zU bJ) (c:=zT (M.nS bJ)) (fz:=true) (fn:=Tryz.f71) ah (Nl bJ hC) ay ⟨Tryz.func71,by kernel_rfl⟩ (aO (cn 1 (by kernel_rfl) (ct (.mk (by kernel_rfl) (Zp bJ hC))))) ⟨⟨[.aX [.ar U.i64,.int .i64,.int .i64]],[]⟩,fun x=>(x.1.1.1,x.1.1.2.1,x.1.1.2.2.1)⟩ (fun x=>rfl) (fun x=>by kernel_rfl)
def w8(m:M.aa->Option ((List M.aa))):aE K:={f:=82,sh:=⟨[.el U.Type],[]⟩,R:=(List M.aa),run:=fun x=>m x.1.1,dflt:=default,out:=fun r=>(Sh.enc D (.ar U.Type) r,aw.encs D [] ())}
def Np:Cx K:={aK with mode:=aI .plain [],call:=callOf D [],loop:=aH []}
theorem Zq:aF (Np):=aL ah _ (az)
theorem D9:(w8 (M.mq)).Ok D Tryz.prog:=
 aN (cx:=Np) (c:=w8 (M.mq)) (fz:=true) (fn:=Tryz.f82) ah (Zq) ay ⟨Tryz.func82,by kernel_rfl⟩ (aO (aJ (by kernel_rfl))) ⟨⟨[.ar U.Type],[]⟩,fun x=>x.1.1⟩ (fun x=>rfl) (fun x=>by kernel_rfl)
def Nq(y:Int×Int){R:Type}(k:Ex->List (AV K)->List (Ob K)->R):R:=match y with
 |a0=>k (Ex.exit 0) (aA.bj D ⟨[.int .i64,.int .i64],[]⟩ ((a0.1,(a0.2,())),())) (aA.bk D ⟨[.int .i64,.int .i64],[]⟩ ((a0.1,(a0.2,())),()))
def Zr:List (bV K (Int×Int)):=[⟨(Ex.exit 0),⟨[.int .i64,.int .i64],[]⟩,fun x=>(x.1.1,x.1.2.1)⟩]
def Nr(bJ:M.aa->Option (Int×Int)):bQ K:=bZ D false 31 0 [0,4,5,6] [4,5] ⟨[.ar U.Type,.int .i64,.int .i64,.int .i64],[]⟩ (fun x=>M.mr bJ x.1.1 ai x.1.2.1 x.1.2.2.1 x.1.2.2.2.1) Nq
def zV(m:(List M.aa)->Option (Int×Int)):aE K:={f:=81,sh:=⟨[.ar U.Type],[]⟩,R:=Int×Int,run:=fun x=>m x.1.1,dflt:=default,out:=fun r=>(Sh.enc D (.aX [.int .i64,.int .i64]) (r.1,(r.2,())),aw.encs D [] ())}
def zW(bJ:M.aa->Option (Int×Int)):Cx K:={aK with mode:=aI .plain [(43,.plain),(115,.plain)],call:=callOf D [iu bJ,wC M.jc],loop:=aH [(3,Nr bJ)]}
theorem Ns(bJ:M.aa->Option (Int×Int))(hC:(iu bJ).Ok D Tryz.prog):aF (zW bJ):=aL ah _ (aj hC (aj C5 (az)))
theorem Zs(bJ:M.aa->Option (Int×Int))(hC:(iu bJ).Ok D Tryz.prog):bR (zW bJ) (bT (bW Tryz.f81) 0) (Nr bJ):=
 cg (cx:=zW bJ) (n:=31) (n0:=0) (ins:=[0,4,5,6]) (outs:=[4,5]) (sh:=⟨[.ar U.Type,.int .i64,.int .i64,.int .i64],[]⟩) (run:=fun n x=>M.mr bJ x.1.1 n x.1.2.1 x.1.2.2.1 x.1.2.2.2.1) (bU:=Zr) (out:=Nq) ah (Ns bJ hC) ay (aJ (by kernel_rfl)) (fun _=>rfl) (fun m x=>by kernel_rfl) (aj ⟨cm,fun _ _ _=>rfl⟩ (az)) false ai
theorem Nu(bJ:M.aa->Option (Int×Int))(hC:(iu bJ).Ok D Tryz.prog):(zV (M.pS bJ)).Ok D Tryz.prog:=
 aN (cx:=zW bJ) (c:=zV (M.pS bJ)) (fz:=true) (fn:=Tryz.f81) ah (Ns bJ hC) ay ⟨Tryz.func81,by kernel_rfl⟩ (aO (cn 1 (by kernel_rfl) (ct (.mk (by kernel_rfl) (Zs bJ hC))))) ⟨⟨[.aX [.int .i64,.int .i64]],[]⟩,fun x=>(x.1.1.1,x.1.1.2.1)⟩ (fun x=>rfl) (fun x=>by kernel_rfl)
def Nv(bJ:M.aa->Option (Int×Int)):Cx K:={aK with mode:=aI .plain [(80,.plain),(71,.gB),(82,.gB),(81,.plain),(83,.plain)],call:=callOf D [D8 M.uv,zT (M.nS bJ),w8 M.mq,zV (M.pS bJ),uw M.jf],loop:=aH []}
theorem Zt(bJ:M.aa->Option (Int×Int))(hC:(iu bJ).Ok D Tryz.prog):aF (Nv bJ):=aL ah _ (aj Zm (aj (Nn bJ hC) (aj D9 (aj (Nu bJ hC) (aj zS (az))))))
theorem Zu(bJ:M.aa->Option (Int×Int))(hC:(iu bJ).Ok D Tryz.prog):(iu (M.w9 bJ)).Ok D Tryz.prog:=
 aN (cx:=Nv bJ) (c:=iu (M.w9 bJ)) (fz:=true) (fn:=Tryz.f43) ah (Zt bJ hC) ay ⟨Tryz.func43,by kernel_rfl⟩ (aO (aJ (by kernel_rfl))) ⟨⟨[.aX [.int .i64,.int .i64]],[]⟩,fun x=>(x.1.1.1,x.1.1.2.1)⟩ (fun x=>rfl) (fun x=>by kernel_rfl)
theorem Nw:∀n,(iu (M.nU n)).Ok D Tryz.prog
 |0=>fp fun _=>rfl
 |n+1=>Zu (M.nU n) (Nw n)
theorem xa:(iu (M.iv)).Ok D Tryz.prog:=Nw ai
def zX(m:M.ax->Int->Int->Option (Bool)):aE K:={f:=44,sh:=⟨[.el U.dA,.int .i64,.int .i64],[]⟩,R:=Bool,run:=fun x=>m x.1.1 x.1.2.1 x.1.2.2.1,dflt:=default,out:=fun r=>(Sh.enc D (.bool) r,aw.encs D [] ())}
def Nx:Cx K:={aK with mode:=aI .plain [],call:=callOf D [],loop:=aH []}
theorem Zv:aF (Nx):=aL ah _ (az)
theorem Ny:(zX (M.mw)).Ok D Tryz.prog:=
 aN (cx:=Nx) (c:=zX (M.mw)) (fz:=true) (fn:=Tryz.f44) ah (Zv) ay ⟨Tryz.func44,by kernel_rfl⟩ (aO (aJ (by kernel_rfl))) ⟨⟨[.bool],[]⟩,fun x=>x.1.1⟩ (fun x=>rfl) (fun x=>by kernel_rfl)
def xb(m:M.ax->Option ((List UInt8)×(List M.af))):aE K:={f:=45,sh:=⟨[.el U.dA],[]⟩,R:=(List UInt8)×(List M.af),run:=fun x=>m x.1.1,dflt:=default,out:=fun r=>(Sh.enc D (.agg [.str,.own 0]) (r.1,((),())),aw.encs D [.arr U.Block] (r.2,()))}
def Nz:Cx K:={aK with mode:=aI .plain [],ir:=[[none,some U.Block]],call:=callOf D [],loop:=aH []}
theorem Zw:aF (Nz):=aL ah _ (az)
theorem Ea:(xb (M.jW)).Ok D Tryz.prog:=
 aN (cx:=Nz) (c:=xb (M.jW)) (fz:=false) (fn:=Tryz.f45) ah (Zw) ay ⟨Tryz.func45,by kernel_rfl⟩ (aO (aJ (by kernel_rfl))) ⟨⟨[.agg [.str,.own 0]],[.arr U.Block]⟩,fun x=>(x.1.1.1,x.2.1)⟩ (fun x=>rfl) (fun x=>by kernel_rfl)
def NA(y:(List UInt8)){R:Type}(k:Ex->List (AV K)->List (Ob K)->R):R:=match y with
 |a0=>k (Ex.exit 0) (aA.bj D ⟨[.own 1],[.dead,.arr U.u8]⟩ (((),()),((),(a0,())))) (aA.bk D ⟨[.own 1],[.dead,.arr U.u8]⟩ (((),()),((),(a0,()))))
def Zx:List (bV K ((List UInt8))):=[⟨(Ex.exit 0),⟨[.own 1],[.dead,.arr U.u8]⟩,fun x=>x.2.2.1⟩]
def NB:bQ K:=bZ D false 27 1 [0,1,5,6] [5] ⟨[.int .i64,.int .i64,.own 1,.int .i64],[.dead,.arr U.u8]⟩ (fun x=>M.my x.1.2.1 ai x.1.1 x.1.2.2.2.1 x.2.2.1) NA
def zY(m:Int->Int->Option ((List UInt8))):aE K:={f:=130,sh:=⟨[.int .i64,.int .i64],[]⟩,R:=(List UInt8),run:=fun x=>m x.1.1 x.1.2.1,dflt:=default,out:=fun r=>(Sh.enc D (.str) r,aw.encs D [] ())}
def zZ:Cx K:={aK with mode:=aI .plain [(120,.plain)],call:=callOf D [pw M.px],loop:=aH [(3,NB)]}
theorem NC:aF (zZ):=aL ah _ (aj tw (az))
theorem Zy:bR (zZ) (bT (bW Tryz.f130) 0) (NB):=
 cg (cx:=zZ) (n:=27) (n0:=1) (ins:=[0,1,5,6]) (outs:=[5]) (sh:=⟨[.int .i64,.int .i64,.own 1,.int .i64],[.dead,.arr U.u8]⟩) (run:=fun n x=>M.my x.1.2.1 n x.1.1 x.1.2.2.2.1 x.2.2.1) (bU:=Zx) (out:=NA) ah (NC) ay (aJ (by kernel_rfl)) (fun _=>rfl) (fun m x=>by kernel_rfl) (aj ⟨cm,fun _ _ _=>rfl⟩ (az)) false ai
theorem ND:(zY (M.mz)).Ok D Tryz.prog:=
 aN (cx:=zZ) (c:=zY (M.mz)) (fz:=true) (fn:=Tryz.f130) ah (NC) ay ⟨Tryz.func130,by kernel_rfl⟩ (aO (cn 1 (by kernel_rfl) (ct (.mk (by kernel_rfl) (Zy))))) ⟨⟨[.str],[]⟩,fun x=>x.1.1⟩ (fun x=>rfl) (fun x=>by kernel_rfl)
def Eb(m:Int->Option ((List UInt8))):aE K:={f:=172,sh:=⟨[.int .i64],[]⟩,R:=(List UInt8),run:=fun x=>m x.1.1,dflt:=default,out:=fun r=>(Sh.enc D (.str) r,aw.encs D [] ())}
def NF:Cx K:={aK with mode:=aI .plain [(130,.plain)],call:=callOf D [zY M.mz],loop:=aH []}
theorem Zz:aF (NF):=aL ah _ (aj ND (az))
theorem ZA:(Eb (M.ux)).Ok D Tryz.prog:=
 aN (cx:=NF) (c:=Eb (M.ux)) (fz:=true) (fn:=Tryz.f172) ah (Zz) ay ⟨Tryz.func172,by kernel_rfl⟩ (aO (aJ (by kernel_rfl))) ⟨⟨[.str],[]⟩,fun x=>x.1.1⟩ (fun x=>rfl) (fun x=>by kernel_rfl)
def NG(y:((List UInt8)×Int)⊕((List UInt8))){R:Type}(k:Ex->List (AV K)->List (Ob K)->R):R:=match y with
 |.inl a0=>k Ex.ret (aA.bj D ⟨[.any,.str,.int .i64],[]⟩ (((),(a0.1,(a0.2,()))),())) (aA.bk D ⟨[.any,.str,.int .i64],[]⟩ (((),(a0.1,(a0.2,()))),()))
 |.inr (a1)=>k (Ex.exit 0) (aA.bj D ⟨[.str,.any,.any],[]⟩ ((a1,((),((),()))),())) (aA.bk D ⟨[.str,.any,.any],[]⟩ ((a1,((),((),()))),()))
def ZB:List (bV K (((List UInt8)×Int)⊕((List UInt8)))):=[⟨Ex.ret,⟨[.any,.str,.int .i64],[]⟩,fun x=>.inl (x.1.2.1,x.1.2.2.1)⟩,⟨(Ex.exit 0),⟨[.str,.any,.any],[]⟩,fun x=>.inr (x.1.1)⟩]
def NH:bQ K:=bZ D false 50 0 [0,6,8,9] [8,4,5] ⟨[.int .i64,.ar U.i64,.str,.int .i64],[]⟩ (fun x=>M.lj x.1.1 x.1.2.1 ai x.1.2.2.1 x.1.2.2.2.1) NG
def Ec(m:Int->(List UInt8)->Option ((List UInt8)×Int)):aE K:={f:=159,sh:=⟨[.int .i64,.str],[]⟩,R:=(List UInt8)×Int,run:=fun x=>m x.1.1 x.1.2.1,dflt:=default,out:=fun r=>(Sh.enc D (.aX [.str,.int .i64]) (r.1,(r.2,())),aw.encs D [] ())}
def Aa:Cx K:={aK with mode:=aI .plain [(158,.gB),(172,.plain)],call:=callOf D [zA M.mf,Eb M.ux],loop:=aH [(6,NH)]}
theorem NI:aF (Aa):=aL ah _ (aj LR (aj ZA (az)))
theorem ZC:bR (Aa) (bT (bW Tryz.f159) 0) (NH):=
 cg (cx:=Aa) (n:=50) (n0:=0) (ins:=[0,6,8,9]) (outs:=[8,4,5]) (sh:=⟨[.int .i64,.ar U.i64,.str,.int .i64],[]⟩) (run:=fun n x=>M.lj x.1.1 x.1.2.1 n x.1.2.2.1 x.1.2.2.2.1) (bU:=ZB) (out:=NG) ah (NI) ay (aJ (by kernel_rfl)) (fun _=>rfl) (fun m x=>by kernel_rfl) (aj ⟨dG,fun _ _ _=>rfl⟩ (aj ⟨cm,fun _ _ _=>rfl⟩ (az))) false ai
theorem ZD:(Ec (M.uy)).Ok D Tryz.prog:=
 aN (cx:=Aa) (c:=Ec (M.uy)) (fz:=true) (fn:=Tryz.f159) ah (NI) ay ⟨Tryz.func159,by kernel_rfl⟩ (aO (cn 1 (by kernel_rfl) (ct (.mk (by kernel_rfl) (ZC))))) ⟨⟨[.aX [.str,.int .i64]],[]⟩,fun x=>(x.1.1.1,x.1.1.2.1)⟩ (fun x=>rfl) (fun x=>by kernel_rfl)
def Ed(m:Int->Option (Int)):aE K:={f:=160,sh:=⟨[.int .i64],[]⟩,R:=Int,run:=fun x=>m x.1.1,dflt:=default,out:=fun r=>(Sh.enc D (.int .i64) r,aw.encs D [] ())}
def NJ:Cx K:={aK with mode:=aI .plain [],call:=callOf D [],loop:=aH []}
theorem ZE:aF (NJ):=aL ah _ (az)
theorem ZF:(Ed (M.xc)).Ok D Tryz.prog:=
 aN (cx:=NJ) (c:=Ed (M.xc)) (fz:=true) (fn:=Tryz.f160) ah (ZE) ay ⟨Tryz.func160,by kernel_rfl⟩ (aO (aJ (by kernel_rfl))) ⟨⟨[.int .i64],[]⟩,fun x=>x.1.1⟩ (fun x=>rfl) (fun x=>by kernel_rfl)
def NK(y:(Int×Int×(List UInt8)×(List M.af))⊕((List UInt8)×(List M.af))){R:Type}(k:Ex->List (AV K)->List (Ob K)->R):R:=match y with
 |.inl a0=>k Ex.ret (aA.bj D ⟨[.ptr 1 0,.int .i64,.int .i64],[.dead,.box [.str,.own 3],.dead,.arr U.Block]⟩ (((),(a0.1,(a0.2.1,()))),((),((a0.2.2.1,((),())),((),(a0.2.2.2,())))))) (aA.bk D ⟨[.ptr 1 0,.int .i64,.int .i64],[.dead,.box [.str,.own 3],.dead,.arr U.Block]⟩ (((),(a0.1,(a0.2.1,()))),((),((a0.2.2.1,((),())),((),(a0.2.2.2,()))))))
 |.inr (a1)=>k (Ex.exit 0) (aA.bj D ⟨[.ptr 1 0,.any,.any],[.dead,.box [.str,.own 3],.dead,.arr U.Block]⟩ (((),((),((),()))),((),((a1.1,((),())),((),(a1.2,())))))) (aA.bk D ⟨[.ptr 1 0,.any,.any],[.dead,.box [.str,.own 3],.dead,.arr U.Block]⟩ (((),((),((),()))),((),((a1.1,((),())),((),(a1.2,()))))))
def ZG:List (bV K ((Int×Int×(List UInt8)×(List M.af))⊕((List UInt8)×(List M.af)))):=[⟨Ex.ret,⟨[.ptr 1 0,.int .i64,.int .i64],[.dead,.box [.str,.own 3],.dead,.arr U.Block]⟩,fun x=>.inl (x.1.2.1,x.1.2.2.1,x.2.2.1.1,x.2.2.2.2.1)⟩,⟨(Ex.exit 0),⟨[.ptr 1 0,.any,.any],[.dead,.box [.str,.own 3],.dead,.arr U.Block]⟩,fun x=>.inr ((x.2.2.1.1,x.2.2.2.2.1))⟩]
def NL:bQ K:=bZ D false 100 3 [1,2,3,6,9] [6,7,8] ⟨[.int .i64,.int .i64,.ptr 0 0,.ptr 1 0,.int .i64],[.el U.dA,.box [.str,.own 3],.dead,.arr U.Block]⟩ (fun x=>M.mA x.1.1 x.1.2.1 x.2.1 x.2.2.1.1 x.2.2.2.2.1 ai x.1.2.2.2.2.1) NK
def Ee(m:M.ax->Int->Int->Option ((List UInt8)×Int×Int×(List M.af))):aE K:={f:=112,sh:=⟨[.el U.dA,.int .i64,.int .i64],[]⟩,R:=(List UInt8)×Int×Int×(List M.af),run:=fun x=>m x.1.1 x.1.2.1 x.1.2.2.1,dflt:=default,out:=fun r=>(Sh.enc D (.aX [.agg [.str,.own 0],.int .i64,.int .i64]) ((r.1,((),())),(r.2.1,(r.2.2.1,()))),aw.encs D [.arr U.Block] (r.2.2.2,()))}
def Ab:Cx K:={aK with mode:=aI .plain [(45,.fresh),(83,.plain)],ir:=[[none,some U.Block],[],[]],call:=callOf D [xb M.jW,uw M.jf],loop:=aH [(4,NL)]}
theorem NM:aF (Ab):=aL ah _ (aj Ea (aj zS (az)))
theorem ZH:bR (Ab) (bT (bW Tryz.f112) 0) (NL):=
 cg (cx:=Ab) (n:=100) (n0:=3) (ins:=[1,2,3,6,9]) (outs:=[6,7,8]) (sh:=⟨[.int .i64,.int .i64,.ptr 0 0,.ptr 1 0,.int .i64],[.el U.dA,.box [.str,.own 3],.dead,.arr U.Block]⟩) (run:=fun n x=>M.mA x.1.1 x.1.2.1 x.2.1 x.2.2.1.1 x.2.2.2.2.1 n x.1.2.2.2.2.1) (bU:=ZG) (out:=NK) ah (NM) ay (aJ (by kernel_rfl)) (fun _=>rfl) (fun m x=>by kernel_rfl) (aj ⟨dG,fun _ _ _=>rfl⟩ (aj ⟨cm,fun _ _ _=>rfl⟩ (az))) false ai
theorem ZI:(Ee (M.uz)).Ok D Tryz.prog:=
 aN (cx:=Ab) (c:=Ee (M.uz)) (fz:=false) (fn:=Tryz.f112) ah (NM) ay ⟨Tryz.func112,by kernel_rfl⟩ (aO (cn 1 (by kernel_rfl) (ct (.mk (by kernel_rfl) (ZH))))) ⟨⟨[.aX [.agg [.str,.own 0],.int .i64,.int .i64]],[.arr U.Block]⟩,fun x=>(x.1.1.1.1,x.1.1.2.1,x.1.1.2.2.1,x.2.1)⟩ (fun x=>rfl) (fun x=>by kernel_rfl)
def Ac(m:Int->Int->(List UInt8)->Int->Int->(List M.af)->Option (Int×(List UInt8)×Int×Int×(List M.af))):aE K:={f:=64,sh:=⟨[.ptr 0 0,.int .i64,.int .i64],[.box [.str,.own 1,.int .i64,.int .i64],.arr U.Block]⟩,R:=Int×(List UInt8)×Int×Int×(List M.af),run:=fun x=>m x.1.2.1 x.1.2.2.1 x.2.1.1 x.2.1.2.2.1 x.2.1.2.2.2.1 x.2.2.1,dflt:=default,out:=fun r=>(Sh.enc D (.int .i64) r.1,aw.encs D [.box [.str,.own 2,.int .i64,.int .i64],.dead,.arr U.Block] ((r.2.1,((),(r.2.2.1,(r.2.2.2.1,())))),((),(r.2.2.2.2,()))))}
def NN:Cx K:={aK with mode:=aI .plain [(112,.fresh)],mv:=true,call:=callOf D [Ee M.uz],loop:=aH []}
theorem ZJ:aF (NN):=aL ah _ (aj ZI (az))
theorem NP:(Ac (M.pT)).Ok D Tryz.prog:=
 aN (cx:=NN) (c:=Ac (M.pT)) (fz:=true) (fn:=Tryz.f64) ah (ZJ) ay ⟨Tryz.func64,by kernel_rfl⟩ (aO (aJ (by kernel_rfl))) ⟨⟨[.int .i64],[.box [.str,.own 2,.int .i64,.int .i64],.dead,.arr U.Block]⟩,fun x=>(x.1.1,x.2.1.1,x.2.1.2.2.1,x.2.1.2.2.2.1,x.2.2.2.1)⟩ (fun x=>rfl) (fun x=>by kernel_rfl)
def Ad(m:M.ax->Int->(List UInt8)->Option ((List UInt8)×Int×(List M.af))):aE K:={f:=129,sh:=⟨[.el U.dA,.int .i64,.str],[]⟩,R:=(List UInt8)×Int×(List M.af),run:=fun x=>m x.1.1 x.1.2.1 x.1.2.2.1,dflt:=default,out:=fun r=>(Sh.enc D (.aX [.agg [.str,.own 0],.int .i64]) ((r.1,((),())),(r.2.1,())),aw.encs D [.arr U.Block] (r.2.2,()))}
def NQ:Cx K:={aK with mode:=aI .plain [(44,.plain),(45,.fresh)],ir:=[[none,some U.Block],[]],call:=callOf D [zX M.mw,xb M.jW],loop:=aH []}
theorem ZK:aF (NQ):=aL ah _ (aj Ny (aj Ea (az)))
theorem NR:(Ad (M.pU)).Ok D Tryz.prog:=
 aN (cx:=NQ) (c:=Ad (M.pU)) (fz:=false) (fn:=Tryz.f129) ah (ZK) ay ⟨Tryz.func129,by kernel_rfl⟩ (aO (aJ (by kernel_rfl))) ⟨⟨[.aX [.agg [.str,.own 0],.int .i64]],[.arr U.Block]⟩,fun x=>(x.1.1.1.1,x.1.1.2.1,x.2.1)⟩ (fun x=>rfl) (fun x=>by kernel_rfl)
def Ef(m:(List UInt8)->(List UInt8)->Int->Int->(List M.af)->Option (Int×Int×(List UInt8)×Int×Int×(List M.af))):aE K:={f:=127,sh:=⟨[.ptr 0 0,.str],[.box [.str,.own 1,.int .i64,.int .i64],.arr U.Block]⟩,R:=Int×Int×(List UInt8)×Int×Int×(List M.af),run:=fun x=>m x.1.2.1 x.2.1.1 x.2.1.2.2.1 x.2.1.2.2.2.1 x.2.2.1,dflt:=default,out:=fun r=>(Sh.enc D (.aX [.int .i64,.int .i64]) (r.1,(r.2.1,())),aw.encs D [.box [.str,.own 2,.int .i64,.int .i64],.dead,.arr U.Block] ((r.2.2.1,((),(r.2.2.2.1,(r.2.2.2.2.1,())))),((),(r.2.2.2.2.2,()))))}
def NS:Cx K:={aK with mode:=aI .plain [(159,.plain),(160,.plain),(64,.eM),(129,.fresh)],mv:=true,call:=callOf D [Ec M.uy,Ed M.xc,Ac M.pT,Ad M.pU],loop:=aH []}
theorem ZL:aF (NS):=aL ah _ (aj ZD (aj ZF (aj NP (aj NR (az)))))
theorem ZM:(Ef (M.uA)).Ok D Tryz.prog:=
 aN (cx:=NS) (c:=Ef (M.uA)) (fz:=true) (fn:=Tryz.f127) ah (ZL) ay ⟨Tryz.func127,by kernel_rfl⟩ (aO (aJ (by kernel_rfl))) ⟨⟨[.aX [.int .i64,.int .i64]],[.box [.str,.own 2,.int .i64,.int .i64],.dead,.arr U.Block]⟩,fun x=>(x.1.1.1,x.1.1.2.1,x.2.1.1,x.2.1.2.2.1,x.2.1.2.2.2.1,x.2.2.2.1)⟩ (fun x=>rfl) (fun x=>by kernel_rfl)
def hJ(m:M.aa->M.ae->Int->(List UInt8)->Int->Int->(List M.af)->Option ((List UInt8)×Int×Int×(List M.af))):aE K:={f:=46,sh:=⟨[.ptr 0 0,.el U.Type,.el U.Value,.int .i64],[.box [.str,.own 1,.int .i64,.int .i64],.arr U.Block]⟩,R:=(List UInt8)×Int×Int×(List M.af),run:=fun x=>m x.1.2.1 x.1.2.2.1 x.1.2.2.2.1 x.2.1.1 x.2.1.2.2.1 x.2.1.2.2.2.1 x.2.2.1,dflt:=default,out:=fun r=>(Sh.enc D (.aX []) (),aw.encs D [.box [.str,.own 2,.int .i64,.int .i64],.dead,.arr U.Block] ((r.1,((),(r.2.1,(r.2.2.1,())))),((),(r.2.2.2,()))))}
def NT(y:Int×Int×(List UInt8)×Int×Int×(List M.af)){R:Type}(k:Ex->List (AV K)->List (Ob K)->R):R:=match y with
 |a0=>k (Ex.exit 0) (aA.bj D ⟨[.int .i64,.int .i64],[.box [.str,.own 3,.int .i64,.int .i64],.dead,.dead,.arr U.Block]⟩ ((a0.1,(a0.2.1,())),((a0.2.2.1,((),(a0.2.2.2.1,(a0.2.2.2.2.1,())))),((),((),(a0.2.2.2.2.2,())))))) (aA.bk D ⟨[.int .i64,.int .i64],[.box [.str,.own 3,.int .i64,.int .i64],.dead,.dead,.arr U.Block]⟩ ((a0.1,(a0.2.1,())),((a0.2.2.1,((),(a0.2.2.2.1,(a0.2.2.2.2.1,())))),((),((),(a0.2.2.2.2.2,()))))))
def ZN:List (bV K (Int×Int×(List UInt8)×Int×Int×(List M.af))):=[⟨(Ex.exit 0),⟨[.int .i64,.int .i64],[.box [.str,.own 3,.int .i64,.int .i64],.dead,.dead,.arr U.Block]⟩,fun x=>(x.1.1,x.1.2.1,x.2.1.1,x.2.1.2.2.1,x.2.1.2.2.2.1,x.2.2.2.2.1)⟩]
def NU(bw:M.aa->M.ae->Int->(List UInt8)->Int->Int->(List M.af)->Option ((List UInt8)×Int×Int×(List M.af))):bQ K:=bZ D false 52 3 [0,2,4,8,10,11,12] [10,11] ⟨[.ptr 0 0,.ar U.Value,.ptr 1 0,.int .i64,.int .i64,.int .i64,.int .i64],[.box [.str,.own 3,.int .i64,.int .i64],.el U.Type,.dead,.arr U.Block]⟩ (fun x=>M.mB bw x.1.2.1 x.1.2.2.2.1 x.1.2.2.2.2.1 x.1.2.2.2.2.2.1 ai x.1.2.2.2.2.2.2.1 x.2.1.1 x.2.1.2.2.1 x.2.1.2.2.2.1 x.2.2.1 x.2.2.2.2.1) NT
def Eg(m:M.aa->(List M.ae)->(List UInt8)->Int->Int->(List M.af)->Option (Int×Int×(List UInt8)×Int×Int×(List M.af))):aE K:={f:=128,sh:=⟨[.ptr 0 0,.el U.Type,.ar U.Value],[.box [.str,.own 1,.int .i64,.int .i64],.arr U.Block]⟩,R:=Int×Int×(List UInt8)×Int×Int×(List M.af),run:=fun x=>m x.1.2.1 x.1.2.2.1 x.2.1.1 x.2.1.2.2.1 x.2.1.2.2.2.1 x.2.2.1,dflt:=default,out:=fun r=>(Sh.enc D (.aX [.int .i64,.int .i64]) (r.1,(r.2.1,())),aw.encs D [.box [.str,.own 2,.int .i64,.int .i64],.dead,.arr U.Block] ((r.2.2.1,((),(r.2.2.2.1,(r.2.2.2.2.1,())))),((),(r.2.2.2.2.2,()))))}
def Ae(bw:M.aa->M.ae->Int->(List UInt8)->Int->Int->(List M.af)->Option ((List UInt8)×Int×Int×(List M.af))):Cx K:={aK with mode:=aI .plain [(43,.plain),(64,.eM),(46,.eM)],mv:=true,call:=callOf D [iu M.iv,Ac M.pT,hJ bw],loop:=aH [(5,NU bw)]}
theorem NV(bw:M.aa->M.ae->Int->(List UInt8)->Int->Int->(List M.af)->Option ((List UInt8)×Int×Int×(List M.af)))(fb:(hJ bw).Ok D Tryz.prog):aF (Ae bw):=aL ah _ (aj xa (aj NP (aj fb (az))))
theorem ZO(bw:M.aa->M.ae->Int->(List UInt8)->Int->Int->(List M.af)->Option ((List UInt8)×Int×Int×(List M.af)))(fb:(hJ bw).Ok D Tryz.prog):bR (Ae bw) (bT (bW Tryz.f128) 0) (NU bw):=
 cg (cx:=Ae bw) (n:=52) (n0:=3) (ins:=[0,2,4,8,10,11,12]) (outs:=[10,11]) (sh:=⟨[.ptr 0 0,.ar U.Value,.ptr 1 0,.int .i64,.int .i64,.int .i64,.int .i64],[.box [.str,.own 3,.int .i64,.int .i64],.el U.Type,.dead,.arr U.Block]⟩) (run:=fun n x=>M.mB bw x.1.2.1 x.1.2.2.2.1 x.1.2.2.2.2.1 x.1.2.2.2.2.2.1 n x.1.2.2.2.2.2.2.1 x.2.1.1 x.2.1.2.2.1 x.2.1.2.2.2.1 x.2.2.1 x.2.2.2.2.1) (bU:=ZN) (out:=NT) ah (NV bw fb) ay (aJ (by kernel_rfl)) (fun _=>rfl) (fun m x=>by kernel_rfl) (aj ⟨cm,fun _ _ _=>rfl⟩ (az)) false ai
theorem ZP(bw:M.aa->M.ae->Int->(List UInt8)->Int->Int->(List M.af)->Option ((List UInt8)×Int×Int×(List M.af)))(fb:(hJ bw).Ok D Tryz.prog):(Eg (M.uB bw)).Ok D Tryz.prog:=
 aN (cx:=Ae bw) (c:=Eg (M.uB bw)) (fz:=true) (fn:=Tryz.f128) ah (NV bw fb) ay ⟨Tryz.func128,by kernel_rfl⟩ (aO (cn 1 (by kernel_rfl) (ct (.mk (by kernel_rfl) (ZO bw fb))))) ⟨⟨[.aX [.int .i64,.int .i64]],[.box [.str,.own 2,.int .i64,.int .i64],.dead,.arr U.Block]⟩,fun x=>(x.1.1.1,x.1.1.2.1,x.2.1.1,x.2.1.2.2.1,x.2.1.2.2.2.1,x.2.2.2.1)⟩ (fun x=>rfl) (fun x=>by kernel_rfl)
def Eh(m:M.aa->M.ae->(List UInt8)->Int->Int->(List M.af)->Option (Int×Int×(List UInt8)×Int×Int×(List M.af))):aE K:={f:=84,sh:=⟨[.ptr 0 0,.el U.Type,.el U.Value],[.box [.str,.own 1,.int .i64,.int .i64],.arr U.Block]⟩,R:=Int×Int×(List UInt8)×Int×Int×(List M.af),run:=fun x=>m x.1.2.1 x.1.2.2.1 x.2.1.1 x.2.1.2.2.1 x.2.1.2.2.2.1 x.2.2.1,dflt:=default,out:=fun r=>(Sh.enc D (.aX [.int .i64,.int .i64]) (r.1,(r.2.1,())),aw.encs D [.box [.str,.own 2,.int .i64,.int .i64],.dead,.arr U.Block] ((r.2.2.1,((),(r.2.2.2.1,(r.2.2.2.2.1,())))),((),(r.2.2.2.2.2,()))))}
def NW(bw:M.aa->M.ae->Int->(List UInt8)->Int->Int->(List M.af)->Option ((List UInt8)×Int×Int×(List M.af))):Cx K:={aK with mode:=aI .plain [(127,.eM),(128,.eM)],mv:=true,call:=callOf D [Ef M.uA,Eg (M.uB bw)],loop:=aH []}
theorem ZQ(bw:M.aa->M.ae->Int->(List UInt8)->Int->Int->(List M.af)->Option ((List UInt8)×Int×Int×(List M.af)))(fb:(hJ bw).Ok D Tryz.prog):aF (NW bw):=aL ah _ (aj ZM (aj (ZP bw fb) (az)))
theorem ZR(bw:M.aa->M.ae->Int->(List UInt8)->Int->Int->(List M.af)->Option ((List UInt8)×Int×Int×(List M.af)))(fb:(hJ bw).Ok D Tryz.prog):(Eh (M.uC bw)).Ok D Tryz.prog:=
 aN (cx:=NW bw) (c:=Eh (M.uC bw)) (fz:=true) (fn:=Tryz.f84) ah (ZQ bw fb) ay ⟨Tryz.func84,by kernel_rfl⟩ (aO (aJ (by kernel_rfl))) ⟨⟨[.aX [.int .i64,.int .i64]],[.box [.str,.own 2,.int .i64,.int .i64],.dead,.arr U.Block]⟩,fun x=>(x.1.1.1,x.1.1.2.1,x.2.1.1,x.2.1.2.2.1,x.2.1.2.2.2.1,x.2.2.2.1)⟩ (fun x=>rfl) (fun x=>by kernel_rfl)
def Ei(m:Int->Int->Int->(List UInt8)->Int->Int->(List M.af)->Option ((List UInt8)×Int×Int×(List M.af))):aE K:={f:=85,sh:=⟨[.ptr 0 0,.int .i64,.int .i64,.int .i64],[.box [.str,.own 1,.int .i64,.int .i64],.arr U.Block]⟩,R:=(List UInt8)×Int×Int×(List M.af),run:=fun x=>m x.1.2.1 x.1.2.2.1 x.1.2.2.2.1 x.2.1.1 x.2.1.2.2.1 x.2.1.2.2.2.1 x.2.2.1,dflt:=default,out:=fun r=>(Sh.enc D (.aX []) (),aw.encs D [.box [.str,.own 2,.int .i64,.int .i64],.dead,.arr U.Block] ((r.1,((),(r.2.1,(r.2.2.1,())))),((),(r.2.2.2,()))))}
def NY:Cx K:={aK with mode:=aI .plain [(130,.plain),(129,.fresh)],mv:=true,call:=callOf D [zY M.mz,Ad M.pU],loop:=aH []}
theorem ZS:aF (NY):=aL ah _ (aj ND (aj NR (az)))
theorem ZT:(Ei (M.ln)).Ok D Tryz.prog:=
 aN (cx:=NY) (c:=Ei (M.ln)) (fz:=true) (fn:=Tryz.f85) ah (ZS) ay ⟨Tryz.func85,by kernel_rfl⟩ (aO (aJ (by kernel_rfl))) ⟨⟨[.aX []],[.box [.str,.own 2,.int .i64,.int .i64],.dead,.arr U.Block]⟩,fun x=>(x.2.1.1,x.2.1.2.2.1,x.2.1.2.2.2.1,x.2.2.2.1)⟩ (fun x=>rfl) (fun x=>by kernel_rfl)
def NZ(y:(List UInt8)×Int×Int×(List M.af)){R:Type}(k:Ex->List (AV K)->List (Ob K)->R):R:=match y with
 |a0=>k (Ex.exit 0) (aA.bj D ⟨[],[.box [.str,.own 2,.int .i64,.int .i64],.dead,.arr U.Block]⟩ ((),((a0.1,((),(a0.2.1,(a0.2.2.1,())))),((),(a0.2.2.2,()))))) (aA.bk D ⟨[],[.box [.str,.own 2,.int .i64,.int .i64],.dead,.arr U.Block]⟩ ((),((a0.1,((),(a0.2.1,(a0.2.2.1,())))),((),(a0.2.2.2,())))))
def ZU:List (bV K ((List UInt8)×Int×Int×(List M.af))):=[⟨(Ex.exit 0),⟨[],[.box [.str,.own 2,.int .i64,.int .i64],.dead,.arr U.Block]⟩,fun x=>(x.2.1.1,x.2.1.2.2.1,x.2.1.2.2.2.1,x.2.2.2.1)⟩]
def N2(bw:M.aa->M.ae->Int->(List UInt8)->Int->Int->(List M.af)->Option ((List UInt8)×Int×Int×(List M.af))):bQ K:=bZ D false 47 2 [0,1,2,3,8,11] [] ⟨[.ptr 0 0,.ar U.Type,.ar U.Value,.int .i64,.ar U.i64,.int .i64],[.box [.str,.own 2,.int .i64,.int .i64],.dead,.arr U.Block]⟩ (fun x=>M.mC bw x.1.2.1 x.1.2.2.1 x.1.2.2.2.1 x.1.2.2.2.2.1 ai x.1.2.2.2.2.2.1 x.2.1.1 x.2.1.2.2.1 x.2.1.2.2.2.1 x.2.2.2.1) NZ
def Ej(m:(List M.aa)->(List M.ae)->Int->(List UInt8)->Int->Int->(List M.af)->Option ((List UInt8)×Int×Int×(List M.af))):aE K:={f:=72,sh:=⟨[.ptr 0 0,.ar U.Type,.ar U.Value,.int .i64],[.box [.str,.own 1,.int .i64,.int .i64],.arr U.Block]⟩,R:=(List UInt8)×Int×Int×(List M.af),run:=fun x=>m x.1.2.1 x.1.2.2.1 x.1.2.2.2.1 x.2.1.1 x.2.1.2.2.1 x.2.1.2.2.2.1 x.2.2.1,dflt:=default,out:=fun r=>(Sh.enc D (.aX []) (),aw.encs D [.box [.str,.own 2,.int .i64,.int .i64],.dead,.arr U.Block] ((r.1,((),(r.2.1,(r.2.2.1,())))),((),(r.2.2.2,()))))}
def Af(bw:M.aa->M.ae->Int->(List UInt8)->Int->Int->(List M.af)->Option ((List UInt8)×Int×Int×(List M.af))):Cx K:={aK with mode:=aI .plain [(71,.gB),(46,.eM)],mv:=true,call:=callOf D [zT (M.nS M.iv),hJ bw],loop:=aH [(2,N2 bw)]}
theorem N3(bw:M.aa->M.ae->Int->(List UInt8)->Int->Int->(List M.af)->Option ((List UInt8)×Int×Int×(List M.af)))(fb:(hJ bw).Ok D Tryz.prog):aF (Af bw):=aL ah _ (aj (Nn M.iv xa) (aj fb (az)))
theorem ZV(bw:M.aa->M.ae->Int->(List UInt8)->Int->Int->(List M.af)->Option ((List UInt8)×Int×Int×(List M.af)))(fb:(hJ bw).Ok D Tryz.prog):bR (Af bw) (bT (bW Tryz.f72) 0) (N2 bw):=
 cg (cx:=Af bw) (n:=47) (n0:=2) (ins:=[0,1,2,3,8,11]) (outs:=[]) (sh:=⟨[.ptr 0 0,.ar U.Type,.ar U.Value,.int .i64,.ar U.i64,.int .i64],[.box [.str,.own 2,.int .i64,.int .i64],.dead,.arr U.Block]⟩) (run:=fun n x=>M.mC bw x.1.2.1 x.1.2.2.1 x.1.2.2.2.1 x.1.2.2.2.2.1 n x.1.2.2.2.2.2.1 x.2.1.1 x.2.1.2.2.1 x.2.1.2.2.2.1 x.2.2.2.1) (bU:=ZU) (out:=NZ) ah (N3 bw fb) ay (aJ (by kernel_rfl)) (fun _=>rfl) (fun m x=>by kernel_rfl) (aj ⟨cm,fun _ _ _=>rfl⟩ (az)) false ai
theorem ZW(bw:M.aa->M.ae->Int->(List UInt8)->Int->Int->(List M.af)->Option ((List UInt8)×Int×Int×(List M.af)))(fb:(hJ bw).Ok D Tryz.prog):(Ej (M.xd bw)).Ok D Tryz.prog:=
 aN (cx:=Af bw) (c:=Ej (M.xd bw)) (fz:=true) (fn:=Tryz.f72) ah (N3 bw fb) ay ⟨Tryz.func72,by kernel_rfl⟩ (aO (cn 1 (by kernel_rfl) (ct (.mk (by kernel_rfl) (ZV bw fb))))) ⟨⟨[.aX []],[.box [.str,.own 2,.int .i64,.int .i64],.dead,.arr U.Block]⟩,fun x=>(x.2.1.1,x.2.1.2.2.1,x.2.1.2.2.2.1,x.2.2.2.1)⟩ (fun x=>rfl) (fun x=>by kernel_rfl)
def Ek(m:M.aa->Option (Int)):aE K:={f:=86,sh:=⟨[.el U.Type],[]⟩,R:=Int,run:=fun x=>m x.1.1,dflt:=default,out:=fun r=>(Sh.enc D (.int .i64) r,aw.encs D [] ())}
def N4:Cx K:={aK with mode:=aI .plain [(82,.gB),(81,.plain),(83,.plain)],call:=callOf D [w8 M.mq,zV (M.pS M.iv),uw M.jf],loop:=aH []}
theorem ZX:aF (N4):=aL ah _ (aj D9 (aj (Nu M.iv xa) (aj zS (az))))
theorem ZY:(Ek (M.uD)).Ok D Tryz.prog:=
 aN (cx:=N4) (c:=Ek (M.uD)) (fz:=true) (fn:=Tryz.f86) ah (ZX) ay ⟨Tryz.func86,by kernel_rfl⟩ (aO (aJ (by kernel_rfl))) ⟨⟨[.int .i64],[]⟩,fun x=>x.1.1⟩ (fun x=>rfl) (fun x=>by kernel_rfl)
def N5(bw:M.aa->M.ae->Int->(List UInt8)->Int->Int->(List M.af)->Option ((List UInt8)×Int×Int×(List M.af))):Cx K:={aK with mode:=aI .plain [(84,.eM),(85,.eM),(72,.eM),(82,.gB),(86,.plain),(46,.eM),(43,.plain)],mv:=true,call:=callOf D [Eh (M.uC bw),Ei M.ln,Ej (M.xd bw),w8 M.mq,Ek M.uD,hJ bw,iu M.iv],loop:=aH []}
theorem ZZ(bw:M.aa->M.ae->Int->(List UInt8)->Int->Int->(List M.af)->Option ((List UInt8)×Int×Int×(List M.af)))(fb:(hJ bw).Ok D Tryz.prog):aF (N5 bw):=aL ah _ (aj (ZR bw fb) (aj ZT (aj (ZW bw fb) (aj D9 (aj ZY (aj fb (aj xa (az))))))))
theorem Z0(bw:M.aa->M.ae->Int->(List UInt8)->Int->Int->(List M.af)->Option ((List UInt8)×Int×Int×(List M.af)))(fb:(hJ bw).Ok D Tryz.prog):(hJ (M.xe bw)).Ok D Tryz.prog:=
 aN (cx:=N5 bw) (c:=hJ (M.xe bw)) (fz:=true) (fn:=Tryz.f46) ah (ZZ bw fb) ay ⟨Tryz.func46,by kernel_rfl⟩ (aO (aJ (by kernel_rfl))) ⟨⟨[.aX []],[.box [.str,.own 2,.int .i64,.int .i64],.dead,.arr U.Block]⟩,fun x=>(x.2.1.1,x.2.1.2.2.1,x.2.1.2.2.2.1,x.2.2.2.1)⟩ (fun x=>rfl) (fun x=>by kernel_rfl)
theorem N6:∀n,(hJ (M.pV n)).Ok D Tryz.prog
 |0=>fp fun _=>rfl
 |n+1=>Z0 (M.pV n) (N6 n)
theorem Z1:(hJ (M.Ag)).Ok D Tryz.prog:=N6 ai
def Em(m:M.ax->Int->M.aa->M.ae->Int->Option (M.ax×Int)):aE K:={f:=10,sh:=⟨[.el U.dA,.int .i64,.el U.Type,.el U.Value,.int .i64],[]⟩,R:=M.ax×Int,run:=fun x=>m x.1.1 x.1.2.1 x.1.2.2.1 x.1.2.2.2.1 x.1.2.2.2.2.1,dflt:=default,out:=fun r=>(Sh.enc D (.aX [.el U.dA,.int .i64]) (r.1,(r.2,())),aw.encs D [] ())}
def N7:Cx K:={aK with mode:=aI .plain [(41,.plain),(42,.plain),(43,.plain),(44,.plain),(45,.fresh),(46,.eM)],call:=callOf D [D7 M.uu,DK M.pN,iu M.iv,zX M.mw,xb M.jW,hJ M.Ag],loop:=aH []}
theorem Z2:aF (N7):=aL ah _ (aj Zk (aj Ys (aj xa (aj Ny (aj Ea (aj Z1 (az)))))))
theorem Z3:(Em (M.rK)).Ok D Tryz.prog:=
 aN (cx:=N7) (c:=Em (M.rK)) (fz:=true) (fn:=Tryz.f10) ah (Z2) ay ⟨Tryz.func10,by kernel_rfl⟩ (aO (aJ (by kernel_rfl))) ⟨⟨[.aX [.el U.dA,.int .i64]],[]⟩,fun x=>(x.1.1.1,x.1.1.2.1)⟩ (fun x=>rfl) (fun x=>by kernel_rfl)
def xf(m:(List UInt8)->Option (Int)):aE K:={f:=132,sh:=⟨[.str],[]⟩,R:=Int,run:=fun x=>m x.1.1,dflt:=default,out:=fun r=>(Sh.enc D (.int .i64) r,aw.encs D [] ())}
def N8:Cx K:={aK with mode:=aI .plain [],call:=callOf D [],loop:=aH []}
theorem Z4:aF (N8):=aL ah _ (az)
theorem En:(xf (M.xg)).Ok D Tryz.prog:=
 aN (cx:=N8) (c:=xf (M.xg)) (fz:=true) (fn:=Tryz.f132) ah (Z4) ay ⟨Tryz.func132,by kernel_rfl⟩ (aO (aJ (by kernel_rfl))) ⟨⟨[.int .i64],[]⟩,fun x=>x.1.1⟩ (fun x=>rfl) (fun x=>by kernel_rfl)
def N9(y:(Bool)⊕(Unit)){R:Type}(k:Ex->List (AV K)->List (Ob K)->R):R:=match y with
 |.inl a0=>k Ex.ret (aA.bj D ⟨[.bool],[]⟩ ((a0,()),())) (aA.bk D ⟨[.bool],[]⟩ ((a0,()),()))
 |.inr (a1)=>k (Ex.exit 0) (aA.bj D ⟨[.any],[]⟩ (((),()),())) (aA.bk D ⟨[.any],[]⟩ (((),()),()))
def Z5:List (bV K ((Bool)⊕(Unit))):=[⟨Ex.ret,⟨[.bool],[]⟩,fun x=>.inl x.1.1⟩,⟨(Ex.exit 0),⟨[.any],[]⟩,fun x=>.inr (())⟩]
def Oa:bQ K:=bZ D false 44 0 [1,5,8,9,10] [4] ⟨[.int .i64,.int .i64,.ar U.Block,.int .i64,.int .i64],[]⟩ (fun x=>M.mD x.1.1 x.1.2.2.1 x.1.2.2.2.1 ai x.1.2.1 x.1.2.2.2.2.1) N9
def Eo(m:(List M.af)->Int->Option (Bool)):aE K:={f:=131,sh:=⟨[.ar U.Block,.int .i64],[]⟩,R:=Bool,run:=fun x=>m x.1.1 x.1.2.1,dflt:=default,out:=fun r=>(Sh.enc D (.bool) r,aw.encs D [] ())}
def Ah:Cx K:={aK with mode:=aI .plain [],call:=callOf D [],loop:=aH [(3,Oa)]}
theorem Oc:aF (Ah):=aL ah _ (az)
theorem Z6:bR (Ah) (bT (bW Tryz.f131) 0) (Oa):=
 cg (cx:=Ah) (n:=44) (n0:=0) (ins:=[1,5,8,9,10]) (outs:=[4]) (sh:=⟨[.int .i64,.int .i64,.ar U.Block,.int .i64,.int .i64],[]⟩) (run:=fun n x=>M.mD x.1.1 x.1.2.2.1 x.1.2.2.2.1 n x.1.2.1 x.1.2.2.2.2.1) (bU:=Z5) (out:=N9) ah (Oc) ay (aJ (by kernel_rfl)) (fun _=>rfl) (fun m x=>by kernel_rfl) (aj ⟨dG,fun _ _ _=>rfl⟩ (aj ⟨cm,fun _ _ _=>rfl⟩ (az))) false ai
theorem Z7:(Eo (M.uE)).Ok D Tryz.prog:=
 aN (cx:=Ah) (c:=Eo (M.uE)) (fz:=true) (fn:=Tryz.f131) ah (Oc) ay ⟨Tryz.func131,by kernel_rfl⟩ (aO (cn 1 (by kernel_rfl) (ct (.mk (by kernel_rfl) (Z6))))) ⟨⟨[.bool],[]⟩,fun x=>x.1.1⟩ (fun x=>rfl) (fun x=>by kernel_rfl)
def Ep(m:M.ax->Option (Bool)):aE K:={f:=88,sh:=⟨[.el U.dA],[]⟩,R:=Bool,run:=fun x=>m x.1.1,dflt:=default,out:=fun r=>(Sh.enc D (.bool) r,aw.encs D [] ())}
def Oe:Cx K:={aK with mode:=aI .plain [(132,.plain),(131,.plain)],call:=callOf D [xf M.xg,Eo M.uE],loop:=aH []}
theorem Z8:aF (Oe):=aL ah _ (aj En (aj Z7 (az)))
theorem Z9:(Ep (M.uF)).Ok D Tryz.prog:=
 aN (cx:=Oe) (c:=Ep (M.uF)) (fz:=true) (fn:=Tryz.f88) ah (Z8) ay ⟨Tryz.func88,by kernel_rfl⟩ (aO (aJ (by kernel_rfl))) ⟨⟨[.bool],[]⟩,fun x=>x.1.1⟩ (fun x=>rfl) (fun x=>by kernel_rfl)
def Es(m:Int->Option (Bool)):aE K:={f:=89,sh:=⟨[.int .i64],[]⟩,R:=Bool,run:=fun x=>m x.1.1,dflt:=default,out:=fun r=>(Sh.enc D (.bool) r,aw.encs D [] ())}
def Of:Cx K:={aK with mode:=aI .plain [(133,.plain)],call:=callOf D [pG M.pH],loop:=aH []}
theorem aab:aF (Of):=aL ah _ (aj tJ (az))
theorem aac:(Es (M.Et)).Ok D Tryz.prog:=
 aN (cx:=Of) (c:=Es (M.Et)) (fz:=true) (fn:=Tryz.f89) ah (aab) ay ⟨Tryz.func89,by kernel_rfl⟩ (aO (aJ (by kernel_rfl))) ⟨⟨[.bool],[]⟩,fun x=>x.1.1⟩ (fun x=>rfl) (fun x=>by kernel_rfl)
def Eu(m:M.aa->Option (Bool)):aE K:={f:=135,sh:=⟨[.el U.Type],[]⟩,R:=Bool,run:=fun x=>m x.1.1,dflt:=default,out:=fun r=>(Sh.enc D (.bool) r,aw.encs D [] ())}
def Og:Cx K:={aK with mode:=aI .plain [(136,.plain)],call:=callOf D [DL M.ub],loop:=aH []}
theorem aad:aF (Og):=aL ah _ (aj Yu (az))
theorem aae:(Eu (M.uG)).Ok D Tryz.prog:=
 aN (cx:=Og) (c:=Eu (M.uG)) (fz:=true) (fn:=Tryz.f135) ah (aad) ay ⟨Tryz.func135,by kernel_rfl⟩ (aO (aJ (by kernel_rfl))) ⟨⟨[.bool],[]⟩,fun x=>x.1.1⟩ (fun x=>rfl) (fun x=>by kernel_rfl)
def Oh(y:(Int)⊕(Unit)){R:Type}(k:Ex->List (AV K)->List (Ob K)->R):R:=match y with
 |.inl a0=>k Ex.ret (aA.bj D ⟨[.int .i64],[]⟩ ((a0,()),())) (aA.bk D ⟨[.int .i64],[]⟩ ((a0,()),()))
 |.inr (a1)=>k (Ex.exit 0) (aA.bj D ⟨[.any],[]⟩ (((),()),())) (aA.bk D ⟨[.any],[]⟩ (((),()),()))
def aaf:List (bV K ((Int)⊕(Unit))):=[⟨Ex.ret,⟨[.int .i64],[]⟩,fun x=>.inl x.1.1⟩,⟨(Ex.exit 0),⟨[.any],[]⟩,fun x=>.inr (())⟩]
def Oi:bQ K:=bZ D false 19 0 [0,1,7,8] [4] ⟨[.ar U.Type,.fn 135 [],.int .i64,.int .i64],[]⟩ (fun x=>M.rL x.1.1 x.1.2.2.1 ai x.1.2.2.2.1) Oh
def Ew(m:(List M.aa)->Option (Int)):aE K:={f:=161,sh:=⟨[.ar U.Type,.fn 135 []],[]⟩,R:=Int,run:=fun x=>m x.1.1,dflt:=default,out:=fun r=>(Sh.enc D (.int .i64) r,aw.encs D [] ())}
def Ai:Cx K:={aK with mode:=aI .plain [(135,.plain)],call:=callOf D [Eu M.uG],loop:=aH [(2,Oi)]}
theorem Oj:aF (Ai):=aL ah _ (aj aae (az))
theorem aag:bR (Ai) (bT (bW Tryz.f161) 0) (Oi):=
 cg (cx:=Ai) (n:=19) (n0:=0) (ins:=[0,1,7,8]) (outs:=[4]) (sh:=⟨[.ar U.Type,.fn 135 [],.int .i64,.int .i64],[]⟩) (run:=fun n x=>M.rL x.1.1 x.1.2.2.1 n x.1.2.2.2.1) (bU:=aaf) (out:=Oh) ah (Oj) ay (aJ (by kernel_rfl)) (fun _=>rfl) (fun m x=>by kernel_rfl) (aj ⟨dG,fun _ _ _=>rfl⟩ (aj ⟨cm,fun _ _ _=>rfl⟩ (az))) false ai
theorem aah:(Ew (M.xh)).Ok D Tryz.prog:=
 aN (cx:=Ai) (c:=Ew (M.xh)) (fz:=true) (fn:=Tryz.f161) ah (Oj) ay ⟨Tryz.func161,by kernel_rfl⟩ (aO (cn 1 (by kernel_rfl) (ct (.mk (by kernel_rfl) (aag))))) ⟨⟨[.int .i64],[]⟩,fun x=>x.1.1⟩ (fun x=>rfl) (fun x=>by kernel_rfl)
def Ey(m:(List M.aa)->Option (Bool)):aE K:={f:=134,sh:=⟨[.ar U.Type,.fn 135 []],[]⟩,R:=Bool,run:=fun x=>m x.1.1,dflt:=default,out:=fun r=>(Sh.enc D (.bool) r,aw.encs D [] ())}
def Ol:Cx K:={aK with mode:=aI .plain [(161,.plain)],call:=callOf D [Ew M.xh],loop:=aH []}
theorem aai:aF (Ol):=aL ah _ (aj aah (az))
theorem aaj:(Ey (M.uH)).Ok D Tryz.prog:=
 aN (cx:=Ol) (c:=Ey (M.uH)) (fz:=true) (fn:=Tryz.f134) ah (aai) ay ⟨Tryz.func134,by kernel_rfl⟩ (aO (aJ (by kernel_rfl))) ⟨⟨[.bool],[]⟩,fun x=>x.1.1⟩ (fun x=>rfl) (fun x=>by kernel_rfl)
def Ez(m:(List M.aa)->Option (Bool)):aE K:={f:=90,sh:=⟨[.ar U.Type],[]⟩,R:=Bool,run:=fun x=>m x.1.1,dflt:=default,out:=fun r=>(Sh.enc D (.bool) r,aw.encs D [] ())}
def Om:Cx K:={aK with mode:=aI .plain [(134,.plain)],call:=callOf D [Ey M.uH],loop:=aH []}
theorem aak:aF (Om):=aL ah _ (aj aaj (az))
theorem aal:(Ez (M.uI)).Ok D Tryz.prog:=
 aN (cx:=Om) (c:=Ez (M.uI)) (fz:=true) (fn:=Tryz.f90) ah (aak) ay ⟨Tryz.func90,by kernel_rfl⟩ (aO (aJ (by kernel_rfl))) ⟨⟨[.bool],[]⟩,fun x=>x.1.1⟩ (fun x=>rfl) (fun x=>by kernel_rfl)
def EA(m:M.ax->Int->(List M.aa)->Option (Bool)):aE K:={f:=49,sh:=⟨[.el U.dA,.int .i64,.ar U.Type],[]⟩,R:=Bool,run:=fun x=>m x.1.1 x.1.2.1 x.1.2.2.1,dflt:=default,out:=fun r=>(Sh.enc D (.bool) r,aw.encs D [] ())}
def On:Cx K:={aK with mode:=aI .plain [(88,.plain),(89,.plain),(90,.plain)],call:=callOf D [Ep M.uF,Es M.Et,Ez M.uI],loop:=aH []}
theorem aam:aF (On):=aL ah _ (aj Z9 (aj aac (aj aal (az))))
theorem aan:(EA (M.uJ)).Ok D Tryz.prog:=
 aN (cx:=On) (c:=EA (M.uJ)) (fz:=true) (fn:=Tryz.f49) ah (aam) ay ⟨Tryz.func49,by kernel_rfl⟩ (aO (aJ (by kernel_rfl))) ⟨⟨[.bool],[]⟩,fun x=>x.1.1⟩ (fun x=>rfl) (fun x=>by kernel_rfl)
def EB(m:M.ax->Option ((List UInt8)×(List M.af))):aE K:={f:=51,sh:=⟨[.el U.dA],[]⟩,R:=(List UInt8)×(List M.af),run:=fun x=>m x.1.1,dflt:=default,out:=fun r=>(Sh.enc D (.ptr 0 0) (),aw.encs D [.box [.own 1,.own 2],.arr U.u8,.arr U.Block] (((),((),())),(r.1,(r.2,()))))}
def Oo:Cx K:={aK with mode:=aI .plain [(94,.fresh)],call:=callOf D [Aj M.lp],loop:=aH []}
theorem aao:aF (Oo):=aL ah _ (aj Oq (az))
theorem aap:(EB (M.uK)).Ok D Tryz.prog:=
 aN (cx:=Oo) (c:=EB (M.uK)) (fz:=true) (fn:=Tryz.f51) ah (aao) ay ⟨Tryz.func51,by kernel_rfl⟩ (aO (aJ (by kernel_rfl))) ⟨⟨[.ptr 0 0],[.box [.own 1,.own 2],.arr U.u8,.arr U.Block]⟩,fun x=>(x.2.2.1,x.2.2.2.1)⟩ (fun x=>rfl) (fun x=>by kernel_rfl)
def Ak(m:M.aa->Option (Int)):aE K:={f:=142,sh:=⟨[.el U.Type],[]⟩,R:=Int,run:=fun x=>m x.1.1,dflt:=default,out:=fun r=>(Sh.enc D (.int .i64) r,aw.encs D [] ())}
def Ot:Cx K:={aK with mode:=aI .plain [(138,.plain)],call:=callOf D [tK M.tL],loop:=aH []}
theorem aaq:aF (Ot):=aL ah _ (aj zl (az))
theorem Ou:(Ak (M.pW)).Ok D Tryz.prog:=
 aN (cx:=Ot) (c:=Ak (M.pW)) (fz:=true) (fn:=Tryz.f142) ah (aaq) ay ⟨Tryz.func142,by kernel_rfl⟩ (aO (aJ (by kernel_rfl))) ⟨⟨[.int .i64],[]⟩,fun x=>x.1.1⟩ (fun x=>rfl) (fun x=>by kernel_rfl)
def jz(m:M.aa->Option (Int)):aE K:={f:=95,sh:=⟨[.el U.Type],[]⟩,R:=Int,run:=fun x=>m x.1.1,dflt:=default,out:=fun r=>(Sh.enc D (.int .i64) r,aw.encs D [] ())}
def Ov(y:Int){R:Type}(k:Ex->List (AV K)->List (Ob K)->R):R:=match y with
 |a0=>k (Ex.exit 0) (aA.bj D ⟨[.int .i64],[]⟩ ((a0,()),())) (aA.bk D ⟨[.int .i64],[]⟩ ((a0,()),()))
def aar:List (bV K (Int)):=[⟨(Ex.exit 0),⟨[.int .i64],[]⟩,fun x=>x.1.1⟩]
def Ox(cT:M.aa->Option (Int)):bQ K:=bZ D false 18 0 [3,6,7,8] [3] ⟨[.int .i64,.ar U.Type,.int .i64,.int .i64],[]⟩ (fun x=>M.mE cT x.1.2.1 x.1.2.2.1 ai x.1.1 x.1.2.2.2.1) Ov
def xi(m:(List M.aa)->Option (Int)):aE K:={f:=118,sh:=⟨[.ar U.Type],[]⟩,R:=Int,run:=fun x=>m x.1.1,dflt:=default,out:=fun r=>(Sh.enc D (.int .i64) r,aw.encs D [] ())}
def Am(cT:M.aa->Option (Int)):Cx K:={aK with mode:=aI .plain [(95,.plain)],call:=callOf D [jz cT],loop:=aH [(3,Ox cT)]}
theorem Oy(cT:M.aa->Option (Int))(mF:(jz cT).Ok D Tryz.prog):aF (Am cT):=aL ah _ (aj mF (az))
theorem aas(cT:M.aa->Option (Int))(mF:(jz cT).Ok D Tryz.prog):bR (Am cT) (bT (bW Tryz.f118) 0) (Ox cT):=
 cg (cx:=Am cT) (n:=18) (n0:=0) (ins:=[3,6,7,8]) (outs:=[3]) (sh:=⟨[.int .i64,.ar U.Type,.int .i64,.int .i64],[]⟩) (run:=fun n x=>M.mE cT x.1.2.1 x.1.2.2.1 n x.1.1 x.1.2.2.2.1) (bU:=aar) (out:=Ov) ah (Oy cT mF) ay (aJ (by kernel_rfl)) (fun _=>rfl) (fun m x=>by kernel_rfl) (aj ⟨cm,fun _ _ _=>rfl⟩ (az)) false ai
theorem EC(cT:M.aa->Option (Int))(mF:(jz cT).Ok D Tryz.prog):(xi (M.jX cT)).Ok D Tryz.prog:=
 aN (cx:=Am cT) (c:=xi (M.jX cT)) (fz:=true) (fn:=Tryz.f118) ah (Oy cT mF) ay ⟨Tryz.func118,by kernel_rfl⟩ (aO (cn 1 (by kernel_rfl) (ct (.mk (by kernel_rfl) (aas cT mF))))) ⟨⟨[.int .i64],[]⟩,fun x=>x.1.1⟩ (fun x=>rfl) (fun x=>by kernel_rfl)
def xj(m:M.aa->Option ((List M.aa))):aE K:={f:=143,sh:=⟨[.el U.Type],[]⟩,R:=(List M.aa),run:=fun x=>m x.1.1,dflt:=default,out:=fun r=>(Sh.enc D (.ar U.Type) r,aw.encs D [] ())}
def Oz:Cx K:={aK with mode:=aI .plain [],call:=callOf D [],loop:=aH []}
theorem aat:aF (Oz):=aL ah _ (az)
theorem ED:(xj (M.mG)).Ok D Tryz.prog:=
 aN (cx:=Oz) (c:=xj (M.mG)) (fz:=true) (fn:=Tryz.f143) ah (aat) ay ⟨Tryz.func143,by kernel_rfl⟩ (aO (aJ (by kernel_rfl))) ⟨⟨[.ar U.Type],[]⟩,fun x=>x.1.1⟩ (fun x=>rfl) (fun x=>by kernel_rfl)
def An(m:Int->Option (Int)):aE K:={f:=144,sh:=⟨[.int .i64],[]⟩,R:=Int,run:=fun x=>m x.1.1,dflt:=default,out:=fun r=>(Sh.enc D (.int .i64) r,aw.encs D [] ())}
def OA:Cx K:={aK with mode:=aI .plain [],call:=callOf D [],loop:=aH []}
theorem aau:aF (OA):=aL ah _ (az)
theorem OB:(An (M.rM)).Ok D Tryz.prog:=
 aN (cx:=OA) (c:=An (M.rM)) (fz:=true) (fn:=Tryz.f144) ah (aau) ay ⟨Tryz.func144,by kernel_rfl⟩ (aO (aJ (by kernel_rfl))) ⟨⟨[.int .i64],[]⟩,fun x=>x.1.1⟩ (fun x=>rfl) (fun x=>by kernel_rfl)
def OC(cT:M.aa->Option (Int)):Cx K:={aK with mode:=aI .plain [(142,.plain),(118,.plain),(143,.gB),(144,.plain)],call:=callOf D [Ak M.pW,xi (M.jX cT),xj M.mG,An M.rM],loop:=aH []}
theorem aav(cT:M.aa->Option (Int))(mF:(jz cT).Ok D Tryz.prog):aF (OC cT):=aL ah _ (aj Ou (aj (EC cT mF) (aj ED (aj OB (az)))))
theorem aaw(cT:M.aa->Option (Int))(mF:(jz cT).Ok D Tryz.prog):(jz (M.xk cT)).Ok D Tryz.prog:=
 aN (cx:=OC cT) (c:=jz (M.xk cT)) (fz:=true) (fn:=Tryz.f95) ah (aav cT mF) ay ⟨Tryz.func95,by kernel_rfl⟩ (aO (aJ (by kernel_rfl))) ⟨⟨[.int .i64],[]⟩,fun x=>x.1.1⟩ (fun x=>rfl) (fun x=>by kernel_rfl)
theorem OD:∀n,(jz (M.nV n)).Ok D Tryz.prog
 |0=>fp fun _=>rfl
 |n+1=>aaw (M.nV n) (OD n)
theorem uL:(jz (M.gC)).Ok D Tryz.prog:=OD ai
def rN(m:Int->Int->Option (Int)):aE K:={f:=146,sh:=⟨[.int .i64,.int .i64],[]⟩,R:=Int,run:=fun x=>m x.1.1 x.1.2.1,dflt:=default,out:=fun r=>(Sh.enc D (.int .i64) r,aw.encs D [] ())}
def OE:Cx K:={aK with mode:=aI .plain [],call:=callOf D [],loop:=aH []}
theorem aax:aF (OE):=aL ah _ (az)
theorem xl:(rN (M.iO)).Ok D Tryz.prog:=
 aN (cx:=OE) (c:=rN (M.iO)) (fz:=true) (fn:=Tryz.f146) ah (aax) ay ⟨Tryz.func146,by kernel_rfl⟩ (aO (aJ (by kernel_rfl))) ⟨⟨[.int .i64],[]⟩,fun x=>x.1.1⟩ (fun x=>rfl) (fun x=>by kernel_rfl)
def gG(m:M.aa->Option (Int)):aE K:={f:=97,sh:=⟨[.el U.Type],[]⟩,R:=Int,run:=fun x=>m x.1.1,dflt:=default,out:=fun r=>(Sh.enc D (.int .i64) r,aw.encs D [] ())}
def OF(y:Int×(List Int)){R:Type}(k:Ex->List (AV K)->List (Ob K)->R):R:=match y with
 |a0=>k (Ex.exit 0) (aA.bj D ⟨[.own 1,.int .i64],[.dead,.arr U.i64]⟩ (((),(a0.1,())),((),(a0.2,())))) (aA.bk D ⟨[.own 1,.int .i64],[.dead,.arr U.i64]⟩ (((),(a0.1,())),((),(a0.2,()))))
def aay:List (bV K (Int×(List Int))):=[⟨(Ex.exit 0),⟨[.own 1,.int .i64],[.dead,.arr U.i64]⟩,fun x=>(x.1.2.1,x.2.2.1)⟩]
def OG(bB:M.aa->Option (Int)):bQ K:=bZ D false 31 1 [4,5,10,11,12] [4,5] ⟨[.own 1,.int .i64,.ar U.Type,.int .i64,.int .i64],[.dead,.arr U.i64]⟩ (fun x=>M.mH bB x.1.2.2.1 x.1.2.2.2.1 ai x.1.2.1 x.1.2.2.2.2.1 x.2.2.1) OF
def Ao(m:(List M.aa)->Option ((List Int)×Int)):aE K:={f:=101,sh:=⟨[.ar U.Type],[]⟩,R:=(List Int)×Int,run:=fun x=>m x.1.1,dflt:=default,out:=fun r=>(Sh.enc D (.aX [.ar U.i64,.int .i64]) (r.1,(r.2,())),aw.encs D [] ())}
def Ap(bB:M.aa->Option (Int)):Cx K:={aK with mode:=aI .plain [(95,.plain),(146,.plain),(97,.plain)],call:=callOf D [jz M.gC,rN M.iO,gG bB],loop:=aH [(3,OG bB)]}
theorem OH(bB:M.aa->Option (Int))(fq:(gG bB).Ok D Tryz.prog):aF (Ap bB):=aL ah _ (aj uL (aj xl (aj fq (az))))
theorem aaz(bB:M.aa->Option (Int))(fq:(gG bB).Ok D Tryz.prog):bR (Ap bB) (bT (bW Tryz.f101) 0) (OG bB):=
 cg (cx:=Ap bB) (n:=31) (n0:=1) (ins:=[4,5,10,11,12]) (outs:=[4,5]) (sh:=⟨[.own 1,.int .i64,.ar U.Type,.int .i64,.int .i64],[.dead,.arr U.i64]⟩) (run:=fun n x=>M.mH bB x.1.2.2.1 x.1.2.2.2.1 n x.1.2.1 x.1.2.2.2.2.1 x.2.2.1) (bU:=aay) (out:=OF) ah (OH bB fq) ay (aJ (by kernel_rfl)) (fun _=>rfl) (fun m x=>by kernel_rfl) (aj ⟨cm,fun _ _ _=>rfl⟩ (az)) false ai
theorem OI(bB:M.aa->Option (Int))(fq:(gG bB).Ok D Tryz.prog):(Ao (M.pX bB)).Ok D Tryz.prog:=
 aN (cx:=Ap bB) (c:=Ao (M.pX bB)) (fz:=true) (fn:=Tryz.f101) ah (OH bB fq) ay ⟨Tryz.func101,by kernel_rfl⟩ (aO (cn 1 (by kernel_rfl) (ct (.mk (by kernel_rfl) (aaz bB fq))))) ⟨⟨[.aX [.ar U.i64,.int .i64]],[]⟩,fun x=>(x.1.1.1,x.1.1.2.1)⟩ (fun x=>rfl) (fun x=>by kernel_rfl)
def EE(m:(List M.aa)->Option (Int)):aE K:={f:=117,sh:=⟨[.ar U.Type],[]⟩,R:=Int,run:=fun x=>m x.1.1,dflt:=default,out:=fun r=>(Sh.enc D (.int .i64) r,aw.encs D [] ())}
def OJ(bB:M.aa->Option (Int)):Cx K:={aK with mode:=aI .plain [(101,.gB),(118,.plain),(146,.plain)],call:=callOf D [Ao (M.pX bB),xi (M.jX M.gC),rN M.iO],loop:=aH []}
theorem aaA(bB:M.aa->Option (Int))(fq:(gG bB).Ok D Tryz.prog):aF (OJ bB):=aL ah _ (aj (OI bB fq) (aj (EC M.gC uL) (aj xl (az))))
theorem aaB(bB:M.aa->Option (Int))(fq:(gG bB).Ok D Tryz.prog):(EE (M.rO bB)).Ok D Tryz.prog:=
 aN (cx:=OJ bB) (c:=EE (M.rO bB)) (fz:=true) (fn:=Tryz.f117) ah (aaA bB fq) ay ⟨Tryz.func117,by kernel_rfl⟩ (aO (aJ (by kernel_rfl))) ⟨⟨[.int .i64],[]⟩,fun x=>x.1.1⟩ (fun x=>rfl) (fun x=>by kernel_rfl)
def Aq(m:M.aa->Option (Int)):aE K:={f:=103,sh:=⟨[.el U.Type],[]⟩,R:=Int,run:=fun x=>m x.1.1,dflt:=default,out:=fun r=>(Sh.enc D (.int .i64) r,aw.encs D [] ())}
def OK:Cx K:={aK with mode:=aI .plain [(143,.gB),(118,.plain),(146,.plain)],call:=callOf D [xj M.mG,xi (M.jX M.gC),rN M.iO],loop:=aH []}
theorem aaC:aF (OK):=aL ah _ (aj ED (aj (EC M.gC uL) (aj xl (az))))
theorem OL:(Aq (M.nW)).Ok D Tryz.prog:=
 aN (cx:=OK) (c:=Aq (M.nW)) (fz:=true) (fn:=Tryz.f103) ah (aaC) ay ⟨Tryz.func103,by kernel_rfl⟩ (aO (aJ (by kernel_rfl))) ⟨⟨[.int .i64],[]⟩,fun x=>x.1.1⟩ (fun x=>rfl) (fun x=>by kernel_rfl)
def OM(y:Int){R:Type}(k:Ex->List (AV K)->List (Ob K)->R):R:=match y with
 |a0=>k (Ex.exit 0) (aA.bj D ⟨[.int .i64],[]⟩ ((a0,()),())) (aA.bk D ⟨[.int .i64],[]⟩ ((a0,()),()))
def aaD:List (bV K (Int)):=[⟨(Ex.exit 0),⟨[.int .i64],[]⟩,fun x=>x.1.1⟩]
def ON(bB:M.aa->Option (Int)):bQ K:=bZ D false 18 0 [3,6,7,8] [3] ⟨[.int .i64,.ar U.Type,.int .i64,.int .i64],[]⟩ (fun x=>M.mI bB x.1.2.1 x.1.2.2.1 ai x.1.1 x.1.2.2.2.1) OM
def EF(m:(List M.aa)->Option (Int)):aE K:={f:=147,sh:=⟨[.ar U.Type],[]⟩,R:=Int,run:=fun x=>m x.1.1,dflt:=default,out:=fun r=>(Sh.enc D (.int .i64) r,aw.encs D [] ())}
def Ar(bB:M.aa->Option (Int)):Cx K:={aK with mode:=aI .plain [(97,.plain)],call:=callOf D [gG bB],loop:=aH [(3,ON bB)]}
theorem OO(bB:M.aa->Option (Int))(fq:(gG bB).Ok D Tryz.prog):aF (Ar bB):=aL ah _ (aj fq (az))
theorem aaE(bB:M.aa->Option (Int))(fq:(gG bB).Ok D Tryz.prog):bR (Ar bB) (bT (bW Tryz.f147) 0) (ON bB):=
 cg (cx:=Ar bB) (n:=18) (n0:=0) (ins:=[3,6,7,8]) (outs:=[3]) (sh:=⟨[.int .i64,.ar U.Type,.int .i64,.int .i64],[]⟩) (run:=fun n x=>M.mI bB x.1.2.1 x.1.2.2.1 n x.1.1 x.1.2.2.2.1) (bU:=aaD) (out:=OM) ah (OO bB fq) ay (aJ (by kernel_rfl)) (fun _=>rfl) (fun m x=>by kernel_rfl) (aj ⟨cm,fun _ _ _=>rfl⟩ (az)) false ai
theorem aaF(bB:M.aa->Option (Int))(fq:(gG bB).Ok D Tryz.prog):(EF (M.pY bB)).Ok D Tryz.prog:=
 aN (cx:=Ar bB) (c:=EF (M.pY bB)) (fz:=true) (fn:=Tryz.f147) ah (OO bB fq) ay ⟨Tryz.func147,by kernel_rfl⟩ (aO (cn 1 (by kernel_rfl) (ct (.mk (by kernel_rfl) (aaE bB fq))))) ⟨⟨[.int .i64],[]⟩,fun x=>x.1.1⟩ (fun x=>rfl) (fun x=>by kernel_rfl)
def OP(bB:M.aa->Option (Int)):Cx K:={aK with mode:=aI .plain [(142,.plain),(117,.plain),(103,.plain),(143,.gB),(147,.plain),(95,.plain),(146,.plain),(144,.plain)],call:=callOf D [Ak M.pW,EE (M.rO bB),Aq M.nW,xj M.mG,EF (M.pY bB),jz M.gC,rN M.iO,An M.rM],loop:=aH []}
theorem aaG(bB:M.aa->Option (Int))(fq:(gG bB).Ok D Tryz.prog):aF (OP bB):=aL ah _ (aj Ou (aj (aaB bB fq) (aj OL (aj ED (aj (aaF bB fq) (aj uL (aj xl (aj OB (az)))))))))
theorem aaH(bB:M.aa->Option (Int))(fq:(gG bB).Ok D Tryz.prog):(gG (M.xm bB)).Ok D Tryz.prog:=
 aN (cx:=OP bB) (c:=gG (M.xm bB)) (fz:=true) (fn:=Tryz.f97) ah (aaG bB fq) ay ⟨Tryz.func97,by kernel_rfl⟩ (aO (aJ (by kernel_rfl))) ⟨⟨[.int .i64],[]⟩,fun x=>x.1.1⟩ (fun x=>rfl) (fun x=>by kernel_rfl)
theorem OQ:∀n,(gG (M.mJ n)).Ok D Tryz.prog
 |0=>fp fun _=>rfl
 |n+1=>aaH (M.mJ n) (OQ n)
theorem As:(gG (M.jY)).Ok D Tryz.prog:=OQ ai
def EG(m:(List UInt8)->Option (Int)):aE K:={f:=145,sh:=⟨[.ar U.u8],[]⟩,R:=Int,run:=fun x=>m x.1.1,dflt:=default,out:=fun r=>(Sh.enc D (.int .i64) r,aw.encs D [] ())}
def OR:Cx K:={aK with mode:=aI .plain [],call:=callOf D [],loop:=aH []}
theorem aaI:aF (OR):=aL ah _ (az)
theorem aaJ:(EG (M.EH)).Ok D Tryz.prog:=
 aN (cx:=OR) (c:=EG (M.EH)) (fz:=true) (fn:=Tryz.f145) ah (aaI) ay ⟨Tryz.func145,by kernel_rfl⟩ (aO (aJ (by kernel_rfl))) ⟨⟨[.int .i64],[]⟩,fun x=>x.1.1⟩ (fun x=>rfl) (fun x=>by kernel_rfl)
def Au(m:M.eQ->Int->Int->Option (Bool)):aE K:={f:=96,sh:=⟨[.rp U.store 0,.int .i64,.int .i64],[]⟩,R:=Bool,run:=fun x=>m x.1.1 x.1.2.1 x.1.2.2.1,dflt:=default,out:=fun r=>(Sh.enc D (.bool) r,aw.encs D [] ())}
def OS:Cx K:={aK with mode:=aI .plain [(145,.plain)],call:=callOf D [EG M.EH],loop:=aH []}
theorem aaK:aF (OS):=aL ah _ (aj aaJ (az))
theorem OT:(Au (M.mK)).Ok D Tryz.prog:=
 aN (cx:=OS) (c:=Au (M.mK)) (fz:=true) (fn:=Tryz.f96) ah (aaK) ay ⟨Tryz.func96,by kernel_rfl⟩ (aO (aJ (by kernel_rfl))) ⟨⟨[.bool],[]⟩,fun x=>x.1.1⟩ (fun x=>rfl) (fun x=>by kernel_rfl)
def EI(m:M.eQ->M.aa->Int->Option (Bool)):aE K:={f:=52,sh:=⟨[.rp U.store 0,.el U.Type,.int .i64],[]⟩,R:=Bool,run:=fun x=>m x.1.1 x.1.2.1 x.1.2.2.1,dflt:=default,out:=fun r=>(Sh.enc D (.bool) r,aw.encs D [] ())}
def OU:Cx K:={aK with mode:=aI .plain [(95,.plain),(97,.plain),(96,.plain)],call:=callOf D [jz M.gC,gG M.jY,Au M.mK],loop:=aH []}
theorem aaL:aF (OU):=aL ah _ (aj uL (aj As (aj OT (az))))
theorem aaM:(EI (M.uM)).Ok D Tryz.prog:=
 aN (cx:=OU) (c:=EI (M.uM)) (fz:=true) (fn:=Tryz.f52) ah (aaL) ay ⟨Tryz.func52,by kernel_rfl⟩ (aO (aJ (by kernel_rfl))) ⟨⟨[.bool],[]⟩,fun x=>x.1.1⟩ (fun x=>rfl) (fun x=>by kernel_rfl)
def OV(y:(List UInt8)){R:Type}(k:Ex->List (AV K)->List (Ob K)->R):R:=match y with
 |a0=>k (Ex.exit 0) (aA.bj D ⟨[.own 1],[.dead,.arr U.u8]⟩ (((),()),((),(a0,())))) (aA.bk D ⟨[.own 1],[.dead,.arr U.u8]⟩ (((),()),((),(a0,()))))
def aaN:List (bV K ((List UInt8))):=[⟨(Ex.exit 0),⟨[.own 1],[.dead,.arr U.u8]⟩,fun x=>x.2.2.1⟩]
def OW:bQ K:=bZ D false 20 1 [0,5,7,8] [5] ⟨[.int .i64,.own 1,.int .i64,.int .i64],[.dead,.arr U.u8]⟩ (fun x=>M.mL x.1.2.2.1 ai x.1.1 x.1.2.2.2.1 x.2.2.1) OV
def xn(m:Int->Int->Option ((List UInt8))):aE K:={f:=100,sh:=⟨[.int .i64,.int .i64],[]⟩,R:=(List UInt8),run:=fun x=>m x.1.1 x.1.2.1,dflt:=default,out:=fun r=>(Sh.enc D (.str) r,aw.encs D [] ())}
def Av:Cx K:={aK with mode:=aI .plain [],call:=callOf D [],loop:=aH [(3,OW)]}
theorem OX:aF (Av):=aL ah _ (az)
theorem aaO:bR (Av) (bT (bW Tryz.f100) 0) (OW):=
 cg (cx:=Av) (n:=20) (n0:=1) (ins:=[0,5,7,8]) (outs:=[5]) (sh:=⟨[.int .i64,.own 1,.int .i64,.int .i64],[.dead,.arr U.u8]⟩) (run:=fun n x=>M.mL x.1.2.2.1 n x.1.1 x.1.2.2.2.1 x.2.2.1) (bU:=aaN) (out:=OV) ah (OX) ay (aJ (by kernel_rfl)) (fun _=>rfl) (fun m x=>by kernel_rfl) (aj ⟨cm,fun _ _ _=>rfl⟩ (az)) false ai
theorem EJ:(xn (M.iw)).Ok D Tryz.prog:=
 aN (cx:=Av) (c:=xn (M.iw)) (fz:=true) (fn:=Tryz.f100) ah (OX) ay ⟨Tryz.func100,by kernel_rfl⟩ (aO (cn 1 (by kernel_rfl) (ct (.mk (by kernel_rfl) (aaO))))) ⟨⟨[.str],[]⟩,fun x=>x.1.1⟩ (fun x=>rfl) (fun x=>by kernel_rfl)
def EK(m:Int->Option ((List UInt8))):aE K:={f:=168,sh:=⟨[.int .i64],[]⟩,R:=(List UInt8),run:=fun x=>m x.1.1,dflt:=default,out:=fun r=>(Sh.enc D (.str) r,aw.encs D [] ())}
def OY:Cx K:={aK with mode:=aI .plain [(100,.plain)],call:=callOf D [xn M.iw],loop:=aH []}
theorem aaP:aF (OY):=aL ah _ (aj EJ (az))
theorem aaQ:(EK (M.uN)).Ok D Tryz.prog:=
 aN (cx:=OY) (c:=EK (M.uN)) (fz:=true) (fn:=Tryz.f168) ah (aaP) ay ⟨Tryz.func168,by kernel_rfl⟩ (aO (aJ (by kernel_rfl))) ⟨⟨[.str],[]⟩,fun x=>x.1.1⟩ (fun x=>rfl) (fun x=>by kernel_rfl)
def OZ(y:((List UInt8)×Int)⊕((List UInt8))){R:Type}(k:Ex->List (AV K)->List (Ob K)->R):R:=match y with
 |.inl a0=>k Ex.ret (aA.bj D ⟨[.any,.str,.int .i64],[.dead]⟩ (((),(a0.1,(a0.2,()))),((),()))) (aA.bk D ⟨[.any,.str,.int .i64],[.dead]⟩ (((),(a0.1,(a0.2,()))),((),())))
 |.inr (a1)=>k (Ex.exit 0) (aA.bj D ⟨[.str,.any,.any],[.dead]⟩ ((a1,((),((),()))),((),()))) (aA.bk D ⟨[.str,.any,.any],[.dead]⟩ ((a1,((),((),()))),((),())))
def aaR:List (bV K (((List UInt8)×Int)⊕((List UInt8)))):=[⟨Ex.ret,⟨[.any,.str,.int .i64],[.dead]⟩,fun x=>.inl (x.1.2.1,x.1.2.2.1)⟩,⟨(Ex.exit 0),⟨[.str,.any,.any],[.dead]⟩,fun x=>.inr (x.1.1)⟩]
def O0:bQ K:=bZ D false 35 1 [0,6,13,14,15] [6,4,5] ⟨[.int .i64,.str,.own 1,.int .i64,.int .i64],[.dead,.arr U.i64]⟩ (fun x=>M.lq x.1.1 x.1.2.2.2.1 x.2.2.1 ai x.1.2.1 x.1.2.2.2.2.1) OZ
def EL(m:Int->(List UInt8)->Option ((List UInt8)×Int)):aE K:={f:=148,sh:=⟨[.int .i64,.str],[]⟩,R:=(List UInt8)×Int,run:=fun x=>m x.1.1 x.1.2.1,dflt:=default,out:=fun r=>(Sh.enc D (.aX [.str,.int .i64]) (r.1,(r.2,())),aw.encs D [] ())}
def Aw:Cx K:={aK with mode:=aI .plain [(167,.fresh),(168,.plain),(100,.plain)],call:=callOf D [EM M.pZ,EK M.uN,xn M.iw],loop:=aH [(5,O0)]}
theorem O1:aF (Aw):=aL ah _ (aj aaS (aj aaQ (aj EJ (az))))
theorem aaT:bR (Aw) (bT (bW Tryz.f148) 0) (O0):=
 cg (cx:=Aw) (n:=35) (n0:=1) (ins:=[0,6,13,14,15]) (outs:=[6,4,5]) (sh:=⟨[.int .i64,.str,.own 1,.int .i64,.int .i64],[.dead,.arr U.i64]⟩) (run:=fun n x=>M.lq x.1.1 x.1.2.2.2.1 x.2.2.1 n x.1.2.1 x.1.2.2.2.2.1) (bU:=aaR) (out:=OZ) ah (O1) ay (aJ (by kernel_rfl)) (fun _=>rfl) (fun m x=>by kernel_rfl) (aj ⟨dG,fun _ _ _=>rfl⟩ (aj ⟨cm,fun _ _ _=>rfl⟩ (az))) false ai
theorem aaU:(EL (M.uO)).Ok D Tryz.prog:=
 aN (cx:=Aw) (c:=EL (M.uO)) (fz:=true) (fn:=Tryz.f148) ah (O1) ay ⟨Tryz.func148,by kernel_rfl⟩ (aO (cn 1 (by kernel_rfl) (ct (.mk (by kernel_rfl) (aaT))))) ⟨⟨[.aX [.str,.int .i64]],[]⟩,fun x=>(x.1.1.1,x.1.1.2.1)⟩ (fun x=>rfl) (fun x=>by kernel_rfl)
def EN(m:Int->Option (Int)):aE K:={f:=149,sh:=⟨[.int .i64],[]⟩,R:=Int,run:=fun x=>m x.1.1,dflt:=default,out:=fun r=>(Sh.enc D (.int .i64) r,aw.encs D [] ())}
def O2:Cx K:={aK with mode:=aI .plain [],call:=callOf D [],loop:=aH []}
theorem aaV:aF (O2):=aL ah _ (az)
theorem aaW:(EN (M.rP)).Ok D Tryz.prog:=
 aN (cx:=O2) (c:=EN (M.rP)) (fz:=true) (fn:=Tryz.f149) ah (aaV) ay ⟨Tryz.func149,by kernel_rfl⟩ (aO (aJ (by kernel_rfl))) ⟨⟨[.int .i64],[]⟩,fun x=>x.1.1⟩ (fun x=>rfl) (fun x=>by kernel_rfl)
def O3(y:(List (List M.af))×Int){R:Type}(k:Ex->List (AV K)->List (Ob K)->R):R:=match y with
 |a0=>k (Ex.exit 0) (aA.bj D ⟨[.ar U.ga,.int .i64],[]⟩ ((a0.1,(a0.2,())),())) (aA.bk D ⟨[.ar U.ga,.int .i64],[]⟩ ((a0.1,(a0.2,())),()))
def aaX:List (bV K ((List (List M.af))×Int)):=[⟨(Ex.exit 0),⟨[.ar U.ga,.int .i64],[]⟩,fun x=>(x.1.1,x.1.2.1)⟩]
def O4:bQ K:=bZ D false 36 0 [0,3,9,10,11] [0,3] ⟨[.ar U.ga,.int .i64,.ar U.ga,.int .i64,.int .i64],[]⟩ (fun x=>M.nX x.1.1 x.1.2.2.1 x.1.2.2.2.1 ai x.1.2.1 x.1.2.2.2.2.1) O3
def O5(y:(List M.af)){R:Type}(k:Ex->List (AV K)->List (Ob K)->R):R:=match y with
 |a0=>k (Ex.exit 2) (aA.bj D ⟨[.own 1],[.dead,.arr U.Block]⟩ (((),()),((),(a0,())))) (aA.bk D ⟨[.own 1],[.dead,.arr U.Block]⟩ (((),()),((),(a0,()))))
def aaY:List (bV K ((List M.af))):=[⟨(Ex.exit 2),⟨[.own 1],[.dead,.arr U.Block]⟩,fun x=>x.2.2.1⟩]
def O6:bQ K:=bZ D false 36 1 [6,25,26,27] [6] ⟨[.own 1,.ar U.ga,.int .i64,.int .i64],[.dead,.arr U.Block]⟩ (fun x=>M.nY x.1.2.1 x.1.2.2.1 ai x.1.2.2.2.1 x.2.2.1) O5
def EO(m:(List (List M.af))->Option ((List M.af))):aE K:={f:=169,sh:=⟨[.ar U.ga],[]⟩,R:=(List M.af),run:=fun x=>m x.1.1,dflt:=default,out:=fun r=>(Sh.enc D (.own 0) (),aw.encs D [.arr U.Block] (r,()))}
def uP:Cx K:={aK with mode:=aI .plain [(180,.fresh)],ir:=[[some U.Block]],deep:=fun c=>dh (D.cells c (K.zero c)),call:=callOf D [EP M.qa],loop:=aH [(3,O4),(11,O6)]}
theorem ER:aF (uP):=aL ah _ (aj aaZ (az))
theorem aa0:bR (uP) (bT (bW Tryz.f169) 0) (O4):=
 cg (cx:=uP) (n:=36) (n0:=0) (ins:=[0,3,9,10,11]) (outs:=[0,3]) (sh:=⟨[.ar U.ga,.int .i64,.ar U.ga,.int .i64,.int .i64],[]⟩) (run:=fun n x=>M.nX x.1.1 x.1.2.2.1 x.1.2.2.2.1 n x.1.2.1 x.1.2.2.2.2.1) (bU:=aaX) (out:=O3) ah (ER) ay (aJ (by kernel_rfl)) (fun _=>rfl) (fun m x=>by kernel_rfl) (aj ⟨cm,fun _ _ _=>rfl⟩ (az)) false ai
theorem aa1:bR (uP) (bT (bW Tryz.f169) 1) (O6):=
 cg (cx:=uP) (n:=36) (n0:=1) (ins:=[6,25,26,27]) (outs:=[6]) (sh:=⟨[.own 1,.ar U.ga,.int .i64,.int .i64],[.dead,.arr U.Block]⟩) (run:=fun n x=>M.nY x.1.2.1 x.1.2.2.1 n x.1.2.2.2.1 x.2.2.1) (bU:=aaY) (out:=O5) ah (ER) ay (aJ (by kernel_rfl)) (fun _=>rfl) (fun m x=>by kernel_rfl) (aj ⟨cm,fun _ _ _=>rfl⟩ (az)) false ai
theorem aa2:(EO (M.nZ)).Ok D Tryz.prog:=
 aN (cx:=uP) (c:=EO (M.nZ)) (fz:=false) (fn:=Tryz.f169) ah (ER) ay ⟨Tryz.func169,by kernel_rfl⟩ (aO (cn 2 (by kernel_rfl) (lt_succ (ct (.mk (by kernel_rfl) (aa0))) (.mk (by kernel_rfl) (aa1))))) ⟨⟨[.own 0],[.arr U.Block]⟩,fun x=>x.2.1⟩ (fun x=>rfl) (fun x=>by kernel_rfl)
def O7(y:(Int×Int×(List UInt8)×(List M.af))⊕((List UInt8)×(List M.af))){R:Type}(k:Ex->List (AV K)->List (Ob K)->R):R:=match y with
 |.inl a0=>k Ex.ret (aA.bj D ⟨[.int .i64,.int .i64],[.box [.own 3,.own 4],.dead,.dead,.arr U.u8,.arr U.Block]⟩ ((a0.1,(a0.2.1,())),(((),((),())),((),((),(a0.2.2.1,(a0.2.2.2,()))))))) (aA.bk D ⟨[.int .i64,.int .i64],[.box [.own 3,.own 4],.dead,.dead,.arr U.u8,.arr U.Block]⟩ ((a0.1,(a0.2.1,())),(((),((),())),((),((),(a0.2.2.1,(a0.2.2.2,())))))))
 |.inr (a1)=>k (Ex.exit 0) (aA.bj D ⟨[.any,.any],[.box [.own 3,.own 4],.dead,.dead,.arr U.u8,.arr U.Block]⟩ (((),((),())),(((),((),())),((),((),(a1.1,(a1.2,()))))))) (aA.bk D ⟨[.any,.any],[.box [.own 3,.own 4],.dead,.dead,.arr U.u8,.arr U.Block]⟩ (((),((),())),(((),((),())),((),((),(a1.1,(a1.2,())))))))
def aa3:List (bV K ((Int×Int×(List UInt8)×(List M.af))⊕((List UInt8)×(List M.af)))):=[⟨Ex.ret,⟨[.int .i64,.int .i64],[.box [.own 3,.own 4],.dead,.dead,.arr U.u8,.arr U.Block]⟩,fun x=>.inl (x.1.1,x.1.2.1,x.2.2.2.2.1,x.2.2.2.2.2.1)⟩,⟨(Ex.exit 0),⟨[.any,.any],[.box [.own 3,.own 4],.dead,.dead,.arr U.u8,.arr U.Block]⟩,fun x=>.inr ((x.2.2.2.2.1,x.2.2.2.2.2.1))⟩]
def O8:bQ K:=bZ D false 90 3 [0,1,2,19,20,21] [6,7] ⟨[.ptr 0 0,.int .i64,.int .i64,.own 3,.int .i64,.int .i64],[.box [.own 4,.own 3],.dead,.dead,.arr U.Block,.arr U.u8]⟩ (fun x=>M.mM x.1.2.1 x.1.2.2.1 x.1.2.2.2.2.1 x.2.2.2.2.1 x.2.2.2.2.2.1 ai x.1.2.2.2.2.2.1) O7
def ES(m:Int->Int->(List UInt8)->(List M.af)->Option (Int×Int×(List UInt8)×(List M.af))):aE K:={f:=155,sh:=⟨[.ptr 0 0,.int .i64,.int .i64],[.box [.own 1,.own 2],.arr U.u8,.arr U.Block]⟩,R:=Int×Int×(List UInt8)×(List M.af),run:=fun x=>m x.1.2.1 x.1.2.2.1 x.2.2.1 x.2.2.2.1,dflt:=default,out:=fun r=>(Sh.enc D (.aX [.int .i64,.int .i64]) (r.1,(r.2.1,())),aw.encs D [.box [.own 3,.own 4],.dead,.dead,.arr U.u8,.arr U.Block] (((),((),())),((),((),(r.2.2.1,(r.2.2.2,()))))))}
def Ax:Cx K:={aK with mode:=aI .plain [(146,.plain),(169,.fresh)],ET:=true,mv:=true,call:=callOf D [rN M.iO,EO M.nZ],loop:=aH [(4,O8)]}
theorem O9:aF (Ax):=aL ah _ (aj xl (aj aa2 (az)))
theorem aa4:bR (Ax) (bT (bW Tryz.f155) 0) (O8):=
 cg (cx:=Ax) (n:=90) (n0:=3) (ins:=[0,1,2,19,20,21]) (outs:=[6,7]) (sh:=⟨[.ptr 0 0,.int .i64,.int .i64,.own 3,.int .i64,.int .i64],[.box [.own 4,.own 3],.dead,.dead,.arr U.Block,.arr U.u8]⟩) (run:=fun n x=>M.mM x.1.2.1 x.1.2.2.1 x.1.2.2.2.2.1 x.2.2.2.2.1 x.2.2.2.2.2.1 n x.1.2.2.2.2.2.1) (bU:=aa3) (out:=O7) ah (O9) ay (aJ (by kernel_rfl)) (fun _=>rfl) (fun m x=>by kernel_rfl) (aj ⟨dG,fun _ _ _=>rfl⟩ (aj ⟨cm,fun _ _ _=>rfl⟩ (az))) false ai
theorem aa5:(ES (M.uQ)).Ok D Tryz.prog:=
 aN (cx:=Ax) (c:=ES (M.uQ)) (fz:=true) (fn:=Tryz.f155) ah (O9) ay ⟨Tryz.func155,by kernel_rfl⟩ (aO (cn 1 (by kernel_rfl) (ct (.mk (by kernel_rfl) (aa4))))) ⟨⟨[.aX [.int .i64,.int .i64]],[.box [.own 3,.own 4],.dead,.dead,.arr U.u8,.arr U.Block]⟩,fun x=>(x.1.1.1,x.1.1.2.1,x.2.2.2.2.1,x.2.2.2.2.2.1)⟩ (fun x=>rfl) (fun x=>by kernel_rfl)
def EU(m:Int->Int->Int->Int->(List UInt8)->(List M.af)->Option (Int×Int×Int×(List UInt8)×(List M.af))):aE K:={f:=113,sh:=⟨[.ptr 0 0,.int .i64,.int .i64],[.box [.ptr 1 0,.int .i64,.int .i64],.box [.own 2,.own 3],.arr U.u8,.arr U.Block]⟩,R:=Int×Int×Int×(List UInt8)×(List M.af),run:=fun x=>m x.1.2.1 x.1.2.2.1 x.2.1.2.1 x.2.1.2.2.1 x.2.2.2.1 x.2.2.2.2.1,dflt:=default,out:=fun r=>(Sh.enc D (.int .i64) r.1,aw.encs D [.box [.ptr 1 0,.int .i64,.int .i64],.box [.own 4,.own 5],.dead,.dead,.arr U.u8,.arr U.Block] (((),(r.2.1,(r.2.2.1,()))),(((),((),())),((),((),(r.2.2.2.1,(r.2.2.2.2,())))))))}
def Pe:Cx K:={aK with mode:=aI .plain [(155,.eM)],mv:=true,call:=callOf D [ES M.uQ],loop:=aH []}
theorem aa6:aF (Pe):=aL ah _ (aj aa5 (az))
theorem aa7:(EU (M.oa)).Ok D Tryz.prog:=
 aN (cx:=Pe) (c:=EU (M.oa)) (fz:=true) (fn:=Tryz.f113) ah (aa6) ay ⟨Tryz.func113,by kernel_rfl⟩ (aO (aJ (by kernel_rfl))) ⟨⟨[.int .i64],[.box [.ptr 1 0,.int .i64,.int .i64],.box [.own 4,.own 5],.dead,.dead,.arr U.u8,.arr U.Block]⟩,fun x=>(x.1.1,x.2.1.2.1,x.2.1.2.2.1,x.2.2.2.2.2.1,x.2.2.2.2.2.2.1)⟩ (fun x=>rfl) (fun x=>by kernel_rfl)
def EV(m:Int->(List UInt8)->(List UInt8)->(List M.af)->Option (Bool×(List UInt8)×(List M.af))):aE K:={f:=151,sh:=⟨[.ptr 0 0,.int .i64,.str],[.box [.own 1,.own 2],.arr U.u8,.arr U.Block]⟩,R:=Bool×(List UInt8)×(List M.af),run:=fun x=>m x.1.2.1 x.1.2.2.1 x.2.2.1 x.2.2.2.1,dflt:=default,out:=fun r=>(Sh.enc D (.bool) r.1,aw.encs D [.box [.own 3,.own 4],.dead,.dead,.arr U.u8,.arr U.Block] (((),((),())),((),((),(r.2.1,(r.2.2,()))))))}
def Pg:Cx K:={aK with mode:=aI .plain [(132,.plain),(96,.plain)],ET:=true,mv:=true,call:=callOf D [xf M.xg,Au M.mK],loop:=aH []}
theorem aa8:aF (Pg):=aL ah _ (aj En (aj OT (az)))
theorem aa9:(EV (M.uR)).Ok D Tryz.prog:=
 aN (cx:=Pg) (c:=EV (M.uR)) (fz:=true) (fn:=Tryz.f151) ah (aa8) ay ⟨Tryz.func151,by kernel_rfl⟩ (aO (aJ (by kernel_rfl))) ⟨⟨[.bool],[.box [.own 3,.own 4],.dead,.dead,.arr U.u8,.arr U.Block]⟩,fun x=>(x.1.1,x.2.2.2.2.1,x.2.2.2.2.2.1)⟩ (fun x=>rfl) (fun x=>by kernel_rfl)
def Az(m:Int->(List UInt8)->Int->Int->(List UInt8)->(List M.af)->Option (Int×Int×(List UInt8)×(List M.af))):aE K:={f:=99,sh:=⟨[.ptr 0 0,.int .i64,.str],[.box [.ptr 1 0,.int .i64,.int .i64],.box [.own 2,.own 3],.arr U.u8,.arr U.Block]⟩,R:=Int×Int×(List UInt8)×(List M.af),run:=fun x=>m x.1.2.1 x.1.2.2.1 x.2.1.2.1 x.2.1.2.2.1 x.2.2.2.1 x.2.2.2.2.1,dflt:=default,out:=fun r=>(Sh.enc D (.aX []) (),aw.encs D [.box [.ptr 1 0,.int .i64,.int .i64],.box [.own 4,.own 5],.dead,.dead,.arr U.u8,.arr U.Block] (((),(r.1,(r.2.1,()))),(((),((),())),((),((),(r.2.2.1,(r.2.2.2,())))))))}
def Ph:Cx K:={aK with mode:=aI .plain [(151,.eM)],mv:=true,call:=callOf D [EV M.uR],loop:=aH []}
theorem aba:aF (Ph):=aL ah _ (aj aa9 (az))
theorem Pj:(Az (M.jZ)).Ok D Tryz.prog:=
 aN (cx:=Ph) (c:=Az (M.jZ)) (fz:=true) (fn:=Tryz.f99) ah (aba) ay ⟨Tryz.func99,by kernel_rfl⟩ (aO (aJ (by kernel_rfl))) ⟨⟨[.aX []],[.box [.ptr 1 0,.int .i64,.int .i64],.box [.own 4,.own 5],.dead,.dead,.arr U.u8,.arr U.Block]⟩,fun x=>(x.2.1.2.1,x.2.1.2.2.1,x.2.2.2.2.2.1,x.2.2.2.2.2.2.1)⟩ (fun x=>rfl) (fun x=>by kernel_rfl)
def j0(m:M.aa->M.ae->Int->Int->Int->(List UInt8)->(List M.af)->Option (Int×Int×(List UInt8)×(List M.af))):aE K:={f:=53,sh:=⟨[.ptr 0 0,.el U.Type,.el U.Value,.int .i64],[.box [.ptr 1 0,.int .i64,.int .i64],.box [.own 2,.own 3],.arr U.u8,.arr U.Block]⟩,R:=Int×Int×(List UInt8)×(List M.af),run:=fun x=>m x.1.2.1 x.1.2.2.1 x.1.2.2.2.1 x.2.1.2.1 x.2.1.2.2.1 x.2.2.2.1 x.2.2.2.2.1,dflt:=default,out:=fun r=>(Sh.enc D (.aX []) (),aw.encs D [.box [.ptr 1 0,.int .i64,.int .i64],.box [.own 4,.own 5],.dead,.dead,.arr U.u8,.arr U.Block] (((),(r.1,(r.2.1,()))),(((),((),())),((),((),(r.2.2.1,(r.2.2.2,())))))))}
def Pl(y:Int×Int×Int×M.ae×(List UInt8)×(List M.af)){R:Type}(k:Ex->List (AV K)->List (Ob K)->R):R:=match y with
 |a0=>k (Ex.exit 0) (aA.bj D ⟨[.ptr 1 0,.int .i64],[.box [.ptr 3 0,.int .i64,.int .i64],.el U.Value,.dead,.box [.own 6,.own 7],.dead,.dead,.arr U.u8,.arr U.Block]⟩ (((),(a0.1,())),(((),(a0.2.1,(a0.2.2.1,()))),(a0.2.2.2.1,((),(((),((),())),((),((),(a0.2.2.2.2.1,(a0.2.2.2.2.2,())))))))))) (aA.bk D ⟨[.ptr 1 0,.int .i64],[.box [.ptr 3 0,.int .i64,.int .i64],.el U.Value,.dead,.box [.own 6,.own 7],.dead,.dead,.arr U.u8,.arr U.Block]⟩ (((),(a0.1,())),(((),(a0.2.1,(a0.2.2.1,()))),(a0.2.2.2.1,((),(((),((),())),((),((),(a0.2.2.2.2.1,(a0.2.2.2.2.2,()))))))))))
def abb:List (bV K (Int×Int×Int×M.ae×(List UInt8)×(List M.af))):=[⟨(Ex.exit 0),⟨[.ptr 1 0,.int .i64],[.box [.ptr 3 0,.int .i64,.int .i64],.el U.Value,.dead,.box [.own 6,.own 7],.dead,.dead,.arr U.u8,.arr U.Block]⟩,fun x=>(x.1.2.1,x.2.1.2.1,x.2.1.2.2.1,x.2.2.1,x.2.2.2.2.2.2.2.1,x.2.2.2.2.2.2.2.2.1)⟩]
def Pm(bX:M.aa->M.ae->Int->Int->Int->(List UInt8)->(List M.af)->Option (Int×Int×(List UInt8)×(List M.af))):bQ K:=bZ D false 96 6 [0,5,11,12,74,75,76] [5,12] ⟨[.ptr 0 0,.ptr 1 0,.ptr 2 0,.int .i64,.ar U.Value,.int .i64,.int .i64],[.box [.ptr 3 0,.int .i64,.int .i64],.el U.Value,.el U.Type,.box [.own 6,.own 7],.dead,.dead,.arr U.u8,.arr U.Block]⟩ (fun x=>M.iP bX x.1.2.2.2.1 x.1.2.2.2.2.1 x.1.2.2.2.2.2.1 ai x.1.2.2.2.2.2.2.1 x.2.1.2.1 x.2.1.2.2.1 x.2.2.1 x.2.2.2.1 x.2.2.2.2.2.2.2.1 x.2.2.2.2.2.2.2.2.1) Pl
def EW(m:M.aa->M.ae->Int->Int->(List UInt8)->(List M.af)->Option (Int×Int×Int×Int×(List UInt8)×(List M.af))):aE K:={f:=98,sh:=⟨[.ptr 0 0,.el U.Type,.el U.Value],[.box [.ptr 1 0,.int .i64,.int .i64],.box [.own 2,.own 3],.arr U.u8,.arr U.Block]⟩,R:=Int×Int×Int×Int×(List UInt8)×(List M.af),run:=fun x=>m x.1.2.1 x.1.2.2.1 x.2.1.2.1 x.2.1.2.2.1 x.2.2.2.1 x.2.2.2.2.1,dflt:=default,out:=fun r=>(Sh.enc D (.aX [.int .i64,.int .i64]) (r.1,(r.2.1,())),aw.encs D [.box [.ptr 1 0,.int .i64,.int .i64],.box [.own 4,.own 5],.dead,.dead,.arr U.u8,.arr U.Block] (((),(r.2.2.1,(r.2.2.2.1,()))),(((),((),())),((),((),(r.2.2.2.2.1,(r.2.2.2.2.2,())))))))}
def AA(bX:M.aa->M.ae->Int->Int->Int->(List UInt8)->(List M.af)->Option (Int×Int×(List UInt8)×(List M.af))):Cx K:={aK with mode:=aI .plain [(148,.plain),(132,.plain),(149,.plain),(113,.eM),(99,.eM),(150,.plain),(97,.plain),(95,.plain),(53,.eM)],mv:=true,call:=callOf D [EL M.uO,xf M.xg,EN M.rP,EU M.oa,Az M.jZ,DN M.DO,gG M.jY,jz M.gC,j0 bX],loop:=aH [(12,Pm bX)]}
theorem Pn(bX:M.aa->M.ae->Int->Int->Int->(List UInt8)->(List M.af)->Option (Int×Int×(List UInt8)×(List M.af)))(jA:(j0 bX).Ok D Tryz.prog):aF (AA bX):=aL ah _ (aj aaU (aj En (aj aaW (aj aa7 (aj Pj (aj Yw (aj As (aj uL (aj jA (az))))))))))
theorem abd(bX:M.aa->M.ae->Int->Int->Int->(List UInt8)->(List M.af)->Option (Int×Int×(List UInt8)×(List M.af)))(jA:(j0 bX).Ok D Tryz.prog):bR (AA bX) (bT (bW Tryz.f98) 0) (Pm bX):=
 cg (cx:=AA bX) (n:=96) (n0:=6) (ins:=[0,5,11,12,74,75,76]) (outs:=[5,12]) (sh:=⟨[.ptr 0 0,.ptr 1 0,.ptr 2 0,.int .i64,.ar U.Value,.int .i64,.int .i64],[.box [.ptr 3 0,.int .i64,.int .i64],.el U.Value,.el U.Type,.box [.own 6,.own 7],.dead,.dead,.arr U.u8,.arr U.Block]⟩) (run:=fun n x=>M.iP bX x.1.2.2.2.1 x.1.2.2.2.2.1 x.1.2.2.2.2.2.1 n x.1.2.2.2.2.2.2.1 x.2.1.2.1 x.2.1.2.2.1 x.2.2.1 x.2.2.2.1 x.2.2.2.2.2.2.2.1 x.2.2.2.2.2.2.2.2.1) (bU:=abb) (out:=Pl) ah (Pn bX jA) ay (aJ (by kernel_rfl)) (fun _=>rfl) (fun m x=>by kernel_rfl) (aj ⟨cm,fun _ _ _=>rfl⟩ (az)) false ai
theorem abe(bX:M.aa->M.ae->Int->Int->Int->(List UInt8)->(List M.af)->Option (Int×Int×(List UInt8)×(List M.af)))(jA:(j0 bX).Ok D Tryz.prog):(EW (M.uS bX)).Ok D Tryz.prog:=
 aN (cx:=AA bX) (c:=EW (M.uS bX)) (fz:=true) (fn:=Tryz.f98) ah (Pn bX jA) ay ⟨Tryz.func98,by kernel_rfl⟩ (aO (cn 1 (by kernel_rfl) (ct (.mk (by kernel_rfl) (abd bX jA))))) ⟨⟨[.aX [.int .i64,.int .i64]],[.box [.ptr 1 0,.int .i64,.int .i64],.box [.own 4,.own 5],.dead,.dead,.arr U.u8,.arr U.Block]⟩,fun x=>(x.1.1.1,x.1.1.2.1,x.2.1.2.1,x.2.1.2.2.1,x.2.2.2.2.2.1,x.2.2.2.2.2.2.1)⟩ (fun x=>rfl) (fun x=>by kernel_rfl)
def Po(y:Int×Int×(List UInt8)×(List M.af)){R:Type}(k:Ex->List (AV K)->List (Ob K)->R):R:=match y with
 |a0=>k (Ex.exit 1) (aA.bj D ⟨[],[.box [.ptr 2 0,.int .i64,.int .i64],.dead,.box [.own 5,.own 6],.dead,.dead,.arr U.u8,.arr U.Block]⟩ ((),(((),(a0.1,(a0.2.1,()))),((),(((),((),())),((),((),(a0.2.2.1,(a0.2.2.2,()))))))))) (aA.bk D ⟨[],[.box [.ptr 2 0,.int .i64,.int .i64],.dead,.box [.own 5,.own 6],.dead,.dead,.arr U.u8,.arr U.Block]⟩ ((),(((),(a0.1,(a0.2.1,()))),((),(((),((),())),((),((),(a0.2.2.1,(a0.2.2.2,())))))))))
def abf:List (bV K (Int×Int×(List UInt8)×(List M.af))):=[⟨(Ex.exit 1),⟨[],[.box [.ptr 2 0,.int .i64,.int .i64],.dead,.box [.own 5,.own 6],.dead,.dead,.arr U.u8,.arr U.Block]⟩,fun x=>(x.2.1.2.1,x.2.1.2.2.1,x.2.2.2.2.2.2.1,x.2.2.2.2.2.2.2.1)⟩]
def Pq(bX:M.aa->M.ae->Int->Int->Int->(List UInt8)->(List M.af)->Option (Int×Int×(List UInt8)×(List M.af))):bQ K:=bZ D false 113 5 [0,3,6,10,59,60,61] [] ⟨[.ptr 0 0,.int .i64,.ptr 1 0,.ar U.i64,.ar U.Type,.int .i64,.int .i64],[.box [.ptr 2 0,.int .i64,.int .i64],.el U.Value,.box [.own 5,.own 6],.dead,.dead,.arr U.u8,.arr U.Block]⟩ (fun x=>M.mN bX x.1.2.1 x.1.2.2.2.1 x.1.2.2.2.2.1 x.1.2.2.2.2.2.1 ai x.1.2.2.2.2.2.2.1 x.2.1.2.1 x.2.1.2.2.1 x.2.2.1 x.2.2.2.2.2.2.1 x.2.2.2.2.2.2.2.1) Po
def AB(bX:M.aa->M.ae->Int->Int->Int->(List UInt8)->(List M.af)->Option (Int×Int×(List UInt8)×(List M.af))):Cx K:={aK with mode:=aI .plain [(98,.eM),(100,.plain),(99,.eM),(101,.gB),(53,.eM),(102,.gB),(103,.plain),(97,.plain)],mv:=true,call:=callOf D [EW (M.uS bX),xn M.iw,Az M.jZ,Ao (M.pX M.jY),zE M.k9,Aq M.nW,j0 bX,gG M.jY],loop:=aH [(12,Pq bX)]}
theorem Pv(bX:M.aa->M.ae->Int->Int->Int->(List UInt8)->(List M.af)->Option (Int×Int×(List UInt8)×(List M.af)))(jA:(j0 bX).Ok D Tryz.prog):aF (AB bX):=aL ah _ (aj (abe bX jA) (aj EJ (aj Pj (aj (OI M.jY As) (aj Me (aj OL (aj jA (aj As (az)))))))))
theorem abg(bX:M.aa->M.ae->Int->Int->Int->(List UInt8)->(List M.af)->Option (Int×Int×(List UInt8)×(List M.af)))(jA:(j0 bX).Ok D Tryz.prog):bR (AB bX) (bT (bW Tryz.f53) 0) (Pq bX):=
 cg (cx:=AB bX) (n:=113) (n0:=5) (ins:=[0,3,6,10,59,60,61]) (outs:=[]) (sh:=⟨[.ptr 0 0,.int .i64,.ptr 1 0,.ar U.i64,.ar U.Type,.int .i64,.int .i64],[.box [.ptr 2 0,.int .i64,.int .i64],.el U.Value,.box [.own 5,.own 6],.dead,.dead,.arr U.u8,.arr U.Block]⟩) (run:=fun n x=>M.mN bX x.1.2.1 x.1.2.2.2.1 x.1.2.2.2.2.1 x.1.2.2.2.2.2.1 n x.1.2.2.2.2.2.2.1 x.2.1.2.1 x.2.1.2.2.1 x.2.2.1 x.2.2.2.2.2.2.1 x.2.2.2.2.2.2.2.1) (bU:=abf) (out:=Po) ah (Pv bX jA) ay (aJ (by kernel_rfl)) (fun _=>rfl) (fun m x=>by kernel_rfl) (aj ⟨cm,fun _ _ _=>rfl⟩ (az)) false ai
theorem abh(bX:M.aa->M.ae->Int->Int->Int->(List UInt8)->(List M.af)->Option (Int×Int×(List UInt8)×(List M.af)))(jA:(j0 bX).Ok D Tryz.prog):(j0 (M.rQ bX)).Ok D Tryz.prog:=
 aN (cx:=AB bX) (c:=j0 (M.rQ bX)) (fz:=true) (fn:=Tryz.f53) ah (Pv bX jA) ay ⟨Tryz.func53,by kernel_rfl⟩ (aO (cn 1 (by kernel_rfl) (ct (.mk (by kernel_rfl) (abg bX jA))))) ⟨⟨[.aX []],[.box [.ptr 1 0,.int .i64,.int .i64],.box [.own 4,.own 5],.dead,.dead,.arr U.u8,.arr U.Block]⟩,fun x=>(x.2.1.2.1,x.2.1.2.2.1,x.2.2.2.2.2.1,x.2.2.2.2.2.2.1)⟩ (fun x=>rfl) (fun x=>by kernel_rfl)
theorem Px:∀n,(j0 (M.mO n)).Ok D Tryz.prog
 |0=>fp fun _=>rfl
 |n+1=>abh (M.mO n) (Px n)
theorem abj:(j0 (M.AD)).Ok D Tryz.prog:=Px ai
def EX(m:M.eQ->Option ((List UInt8)×(List M.af))):aE K:={f:=54,sh:=⟨[.rp U.store 0],[]⟩,R:=(List UInt8)×(List M.af),run:=fun x=>m x.1.1,dflt:=default,out:=fun r=>(Sh.enc D (.agg [.str,.own 0]) (r.1,((),())),aw.encs D [.arr U.Block] (r.2,()))}
def Py:Cx K:={aK with mode:=aI .plain [(94,.fresh)],ir:=[[none,some U.Block]],call:=callOf D [Aj M.lp],loop:=aH []}
theorem abk:aF (Py):=aL ah _ (aj Oq (az))
theorem abl:(EX (M.uT)).Ok D Tryz.prog:=
 aN (cx:=Py) (c:=EX (M.uT)) (fz:=false) (fn:=Tryz.f54) ah (abk) ay ⟨Tryz.func54,by kernel_rfl⟩ (aO (aJ (by kernel_rfl))) ⟨⟨[.agg [.str,.own 0]],[.arr U.Block]⟩,fun x=>(x.1.1.1,x.2.1)⟩ (fun x=>rfl) (fun x=>by kernel_rfl)
def EY(m:M.ax->Int->M.aa->M.ae->Int->Option ((List UInt8)×Int×(List M.af))):aE K:={f:=14,sh:=⟨[.el U.dA,.int .i64,.el U.Type,.el U.Value,.int .i64],[]⟩,R:=(List UInt8)×Int×(List M.af),run:=fun x=>m x.1.1 x.1.2.1 x.1.2.2.1 x.1.2.2.2.1 x.1.2.2.2.2.1,dflt:=default,out:=fun r=>(Sh.enc D (.aX [.agg [.str,.own 0],.int .i64]) ((r.1,((),())),(r.2.1,())),aw.encs D [.arr U.Block] (r.2.2,()))}
def Pz:Cx K:={aK with mode:=aI .plain [(49,.plain),(50,.plain),(51,.gI),(52,.plain),(53,.eM),(54,.fresh)],ir:=[[none,some U.Block],[]],call:=callOf D [EA M.uJ,nP M.wU,EB M.uK,EI M.uM,j0 M.AD,EX M.uT],loop:=aH []}
theorem abm:aF (Pz):=aL ah _ (aj aan (aj YN (aj aap (aj aaM (aj abj (aj abl (az)))))))
theorem abn:(EY (M.rR)).Ok D Tryz.prog:=
 aN (cx:=Pz) (c:=EY (M.rR)) (fz:=false) (fn:=Tryz.f14) ah (abm) ay ⟨Tryz.func14,by kernel_rfl⟩ (aO (aJ (by kernel_rfl))) ⟨⟨[.aX [.agg [.str,.own 0],.int .i64]],[.arr U.Block]⟩,fun x=>(x.1.1.1.1,x.1.1.2.1,x.2.1)⟩ (fun x=>rfl) (fun x=>by kernel_rfl)
def EZ(m:(List M.af)->Int->Option (Int)):aE K:={f:=39,sh:=⟨[.ar U.Block,.int .i64],[]⟩,R:=Int,run:=fun x=>m x.1.1 x.1.2.1,dflt:=default,out:=fun r=>(Sh.enc D (.int .i64) r,aw.encs D [] ())}
def PC:Cx K:={aK with mode:=aI .plain [],call:=callOf D [],loop:=aH []}
theorem abo:aF (PC):=aL ah _ (az)
theorem abp:(EZ (M.uU)).Ok D Tryz.prog:=
 aN (cx:=PC) (c:=EZ (M.uU)) (fz:=true) (fn:=Tryz.f39) ah (abo) ay ⟨Tryz.func39,by kernel_rfl⟩ (aO (aJ (by kernel_rfl))) ⟨⟨[.int .i64],[]⟩,fun x=>x.1.1⟩ (fun x=>rfl) (fun x=>by kernel_rfl)
def E0(m:M.ax->Int->Option (Int)):aE K:={f:=7,sh:=⟨[.el U.dA,.int .i64],[]⟩,R:=Int,run:=fun x=>m x.1.1 x.1.2.1,dflt:=default,out:=fun r=>(Sh.enc D (.int .i64) r,aw.encs D [] ())}
def PD:Cx K:={aK with mode:=aI .plain [(39,.plain)],call:=callOf D [EZ M.uU],loop:=aH []}
theorem abq:aF (PD):=aL ah _ (aj abp (az))
theorem abr:(E0 (M.uV)).Ok D Tryz.prog:=
 aN (cx:=PD) (c:=E0 (M.uV)) (fz:=true) (fn:=Tryz.f7) ah (abq) ay ⟨Tryz.func7,by kernel_rfl⟩ (aO (aJ (by kernel_rfl))) ⟨⟨[.int .i64],[]⟩,fun x=>x.1.1⟩ (fun x=>rfl) (fun x=>by kernel_rfl)
def E1(m:M.af->Option (M.af)):aE K:={f:=87,sh:=⟨[.el U.Block],[]⟩,R:=M.af,run:=fun x=>m x.1.1,dflt:=default,out:=fun r=>(Sh.enc D (.el U.Block) r,aw.encs D [] ())}
def PE:Cx K:={aK with mode:=aI .plain [],ir:=[[]],deep:=fun c=>dh (D.cells c (K.zero c)),call:=callOf D [],loop:=aH []}
theorem abt:aF (PE):=aL ah _ (az)
theorem abu:(E1 (M.xo)).Ok D Tryz.prog:=
 aN (cx:=PE) (c:=E1 (M.xo)) (fz:=false) (fn:=Tryz.f87) ah (abt) ay ⟨Tryz.func87,by kernel_rfl⟩ (aO (aJ (by kernel_rfl))) ⟨⟨[.el U.Block],[]⟩,fun x=>x.1.1⟩ (fun x=>rfl) (fun x=>by kernel_rfl)
def PG(y:(List M.af)){R:Type}(k:Ex->List (AV K)->List (Ob K)->R):R:=match y with
 |a0=>k (Ex.exit 0) (aA.bj D ⟨[.own 1],[.dead,.arr U.Block]⟩ (((),()),((),(a0,())))) (aA.bk D ⟨[.own 1],[.dead,.arr U.Block]⟩ (((),()),((),(a0,()))))
def abv:List (bV K ((List M.af))):=[⟨(Ex.exit 0),⟨[.own 1],[.dead,.arr U.Block]⟩,fun x=>x.2.2.1⟩]
def PH:bQ K:=bZ D false 23 1 [0,3,4] [3] ⟨[.ar U.Block,.own 1,.int .i64],[.dead,.arr U.Block]⟩ (fun x=>M.qb x.1.1 ai x.1.2.2.1 x.2.2.1) PG
def E2(m:(List M.af)->Option ((List M.af))):aE K:={f:=47,sh:=⟨[.ar U.Block],[]⟩,R:=(List M.af),run:=fun x=>m x.1.1,dflt:=default,out:=fun r=>(Sh.enc D (.own 0) (),aw.encs D [.arr U.Block] (r,()))}
def AE:Cx K:={aK with mode:=aI .plain [(87,.fresh)],ir:=[[some U.Block]],deep:=fun c=>dh (D.cells c (K.zero c)),call:=callOf D [E1 M.xo],loop:=aH [(3,PH)]}
theorem PI:aF (AE):=aL ah _ (aj abu (az))
theorem abw:bR (AE) (bT (bW Tryz.f47) 0) (PH):=
 cg (cx:=AE) (n:=23) (n0:=1) (ins:=[0,3,4]) (outs:=[3]) (sh:=⟨[.ar U.Block,.own 1,.int .i64],[.dead,.arr U.Block]⟩) (run:=fun n x=>M.qb x.1.1 n x.1.2.2.1 x.2.2.1) (bU:=abv) (out:=PG) ah (PI) ay (aJ (by kernel_rfl)) (fun _=>rfl) (fun m x=>by kernel_rfl) (aj ⟨cm,fun _ _ _=>rfl⟩ (az)) false ai
theorem abx:(E2 (M.uW)).Ok D Tryz.prog:=
 aN (cx:=AE) (c:=E2 (M.uW)) (fz:=false) (fn:=Tryz.f47) ah (PI) ay ⟨Tryz.func47,by kernel_rfl⟩ (aO (cn 1 (by kernel_rfl) (ct (.mk (by kernel_rfl) (abw))))) ⟨⟨[.own 0],[.arr U.Block]⟩,fun x=>x.2.1⟩ (fun x=>rfl) (fun x=>by kernel_rfl)
def E3(m:M.ax->Option ((List UInt8)×(List M.af))):aE K:={f:=11,sh:=⟨[.el U.dA],[]⟩,R:=(List UInt8)×(List M.af),run:=fun x=>m x.1.1,dflt:=default,out:=fun r=>(Sh.enc D (.agg [.str,.own 0]) (r.1,((),())),aw.encs D [.arr U.Block] (r.2,()))}
def PK:Cx K:={aK with mode:=aI .plain [(47,.fresh)],ir:=[[none,some U.Block]],deep:=fun c=>dh (D.cells c (K.zero c)),call:=callOf D [E2 M.uW],loop:=aH []}
theorem aby:aF (PK):=aL ah _ (aj abx (az))
theorem abz:(E3 (M.uX)).Ok D Tryz.prog:=
 aN (cx:=PK) (c:=E3 (M.uX)) (fz:=false) (fn:=Tryz.f11) ah (aby) ay ⟨Tryz.func11,by kernel_rfl⟩ (aO (aJ (by kernel_rfl))) ⟨⟨[.agg [.str,.own 0]],[.arr U.Block]⟩,fun x=>(x.1.1.1,x.2.1)⟩ (fun x=>rfl) (fun x=>by kernel_rfl)
def E4(m:M.af->M.af->Option (Bool)):aE K:={f:=104,sh:=⟨[.el U.Block,.el U.Block],[]⟩,R:=Bool,run:=fun x=>m x.1.1 x.1.2.1,dflt:=default,out:=fun r=>(Sh.enc D (.bool) r,aw.encs D [] ())}
def PL:Cx K:={aK with mode:=aI .plain [],call:=callOf D [],loop:=aH []}
theorem abA:aF (PL):=aL ah _ (az)
theorem abB:(E4 (M.uY)).Ok D Tryz.prog:=
 aN (cx:=PL) (c:=E4 (M.uY)) (fz:=true) (fn:=Tryz.f104) ah (abA) ay ⟨Tryz.func104,by kernel_rfl⟩ (aO (aJ (by kernel_rfl))) ⟨⟨[.bool],[]⟩,fun x=>x.1.1⟩ (fun x=>rfl) (fun x=>by kernel_rfl)
def PM(y:(Bool)⊕(Unit)){R:Type}(k:Ex->List (AV K)->List (Ob K)->R):R:=match y with
 |.inl a0=>k Ex.ret (aA.bj D ⟨[.bool],[]⟩ ((a0,()),())) (aA.bk D ⟨[.bool],[]⟩ ((a0,()),()))
 |.inr (a1)=>k (Ex.exit 0) (aA.bj D ⟨[.any],[]⟩ (((),()),())) (aA.bk D ⟨[.any],[]⟩ (((),()),()))
def abC:List (bV K ((Bool)⊕(Unit))):=[⟨Ex.ret,⟨[.bool],[]⟩,fun x=>.inl x.1.1⟩,⟨(Ex.exit 0),⟨[.any],[]⟩,fun x=>.inr (())⟩]
def PN:bQ K:=bZ D false 27 0 [0,1,5] [4] ⟨[.ar U.Block,.ar U.Block,.int .i64],[]⟩ (fun x=>M.rS x.1.1 x.1.2.1 ai x.1.2.2.1) PM
def E5(m:(List M.af)->(List M.af)->Option (Bool)):aE K:={f:=55,sh:=⟨[.ar U.Block,.ar U.Block],[]⟩,R:=Bool,run:=fun x=>m x.1.1 x.1.2.1,dflt:=default,out:=fun r=>(Sh.enc D (.bool) r,aw.encs D [] ())}
def AG:Cx K:={aK with mode:=aI .plain [(104,.plain)],call:=callOf D [E4 M.uY],loop:=aH [(4,PN)]}
theorem PO:aF (AG):=aL ah _ (aj abB (az))
theorem abD:bR (AG) (bT (bW Tryz.f55) 0) (PN):=
 cg (cx:=AG) (n:=27) (n0:=0) (ins:=[0,1,5]) (outs:=[4]) (sh:=⟨[.ar U.Block,.ar U.Block,.int .i64],[]⟩) (run:=fun n x=>M.rS x.1.1 x.1.2.1 n x.1.2.2.1) (bU:=abC) (out:=PM) ah (PO) ay (aJ (by kernel_rfl)) (fun _=>rfl) (fun m x=>by kernel_rfl) (aj ⟨dG,fun _ _ _=>rfl⟩ (aj ⟨cm,fun _ _ _=>rfl⟩ (az))) false ai
theorem abE:(E5 (M.uZ)).Ok D Tryz.prog:=
 aN (cx:=AG) (c:=E5 (M.uZ)) (fz:=true) (fn:=Tryz.f55) ah (PO) ay ⟨Tryz.func55,by kernel_rfl⟩ (aO (cn 1 (by kernel_rfl) (ct (.mk (by kernel_rfl) (abD))))) ⟨⟨[.bool],[]⟩,fun x=>x.1.1⟩ (fun x=>rfl) (fun x=>by kernel_rfl)
def E6(m:M.ax->M.ax->Option (Bool)):aE K:={f:=15,sh:=⟨[.el U.dA,.el U.dA],[]⟩,R:=Bool,run:=fun x=>m x.1.1 x.1.2.1,dflt:=default,out:=fun r=>(Sh.enc D (.bool) r,aw.encs D [] ())}
def PQ:Cx K:={aK with mode:=aI .plain [(55,.plain)],call:=callOf D [E5 M.uZ],loop:=aH []}
theorem abG:aF (PQ):=aL ah _ (aj abE (az))
theorem abH:(E6 (M.od)).Ok D Tryz.prog:=
 aN (cx:=PQ) (c:=E6 (M.od)) (fz:=true) (fn:=Tryz.f15) ah (abG) ay ⟨Tryz.func15,by kernel_rfl⟩ (aO (aJ (by kernel_rfl))) ⟨⟨[.bool],[]⟩,fun x=>x.1.1⟩ (fun x=>rfl) (fun x=>by kernel_rfl)
def PR(y:Int×(List M.af)){R:Type}(k:Ex->List (AV K)->List (Ob K)->R):R:=match y with
 |a0=>k (Ex.exit 0) (aA.bj D ⟨[.int .i64],[.arr U.Block]⟩ ((a0.1,()),(a0.2,()))) (aA.bk D ⟨[.int .i64],[.arr U.Block]⟩ ((a0.1,()),(a0.2,())))
def abI:List (bV K (Int×(List M.af))):=[⟨(Ex.exit 0),⟨[.int .i64],[.arr U.Block]⟩,fun x=>(x.1.1,x.2.1)⟩]
def PS:bQ K:=bZ D true 27 1 [0,1,5] [1] ⟨[.own 0,.int .i64,.int .i64],[.arr U.Block]⟩ (fun x=>M.rT ai x.1.2.1 x.1.2.2.1 x.2.1) PR
def E7(m:Int->(List M.af)->Option (Int×(List M.af))):aE K:={f:=57,sh:=⟨[.own 0,.int .i64],[.arr U.Block]⟩,R:=Int×(List M.af),run:=fun x=>m x.1.2.1 x.2.1,dflt:=default,out:=fun r=>(Sh.enc D (.int .i64) r.1,aw.encs D [.arr U.Block] (r.2,()))}
def AH:Cx K:={aK with mode:=aI .plain [],deep:=fun c=>dh (D.cells c (K.zero c)),opn:=true,call:=callOf D [],loop:=aH [(2,PS)]}
theorem PT:aF (AH):=aL ah _ (az)
theorem abJ:bR (AH) (bT (bW Tryz.f57) 0) (PS):=
 cg (cx:=AH) (n:=27) (n0:=1) (ins:=[0,1,5]) (outs:=[1]) (sh:=⟨[.own 0,.int .i64,.int .i64],[.arr U.Block]⟩) (run:=fun n x=>M.rT n x.1.2.1 x.1.2.2.1 x.2.1) (bU:=abI) (out:=PR) ah (PT) ay (aJ (by kernel_rfl)) (fun _=>rfl) (fun m x=>by kernel_rfl) (aj ⟨cm,fun _ _ _=>rfl⟩ (az)) true ai
theorem abK:(E7 (M.u3)).Ok D Tryz.prog:=
 aN (cx:=AH) (c:=E7 (M.u3)) (fz:=true) (fn:=Tryz.f57) ah (PT) ay ⟨Tryz.func57,by kernel_rfl⟩ (aO (cn 1 (by kernel_rfl) (ct (.mk (by kernel_rfl) (abJ))))) ⟨⟨[.int .i64],[.arr U.Block]⟩,fun x=>(x.1.1,x.2.1)⟩ (fun x=>rfl) (fun x=>by kernel_rfl)
def E8(m:(List UInt8)->Int->(List M.af)->Option (Int×(List M.af))):aE K:={f:=18,sh:=⟨[.agg [.str,.own 0],.int .i64],[.arr U.Block]⟩,R:=Int×(List M.af),run:=fun x=>m x.1.1.1 x.1.2.1 x.2.1,dflt:=default,out:=fun r=>(Sh.enc D (.int .i64) r.1,aw.encs D [.arr U.Block] (r.2,()))}
def PU:Cx K:={aK with mode:=aI .plain [(57,.pass)],deep:=fun c=>dh (D.cells c (K.zero c)),opn:=true,call:=callOf D [E7 M.u3],loop:=aH []}
theorem abL:aF (PU):=aL ah _ (aj abK (az))
theorem abM:(E8 (M.rU)).Ok D Tryz.prog:=
 aN (cx:=PU) (c:=E8 (M.rU)) (fz:=true) (fn:=Tryz.f18) ah (abL) ay ⟨Tryz.func18,by kernel_rfl⟩ (aO (aJ (by kernel_rfl))) ⟨⟨[.int .i64],[.arr U.Block]⟩,fun x=>(x.1.1,x.2.1)⟩ (fun x=>rfl) (fun x=>by kernel_rfl)
def PV(y:(Int)⊕(Int)){R:Type}(k:Ex->List (AV K)->List (Ob K)->R):R:=match y with
 |.inl a0=>k Ex.ret (aA.bj D ⟨[.any,.int .i64],[]⟩ (((),(a0,())),())) (aA.bk D ⟨[.any,.int .i64],[]⟩ (((),(a0,())),()))
 |.inr (a1)=>k (Ex.exit 0) (aA.bj D ⟨[.int .i64,.any],[]⟩ ((a1,((),())),())) (aA.bk D ⟨[.int .i64,.any],[]⟩ ((a1,((),())),()))
def abN:List (bV K ((Int)⊕(Int))):=[⟨Ex.ret,⟨[.any,.int .i64],[]⟩,fun x=>.inl x.1.2.1⟩,⟨(Ex.exit 0),⟨[.int .i64,.any],[]⟩,fun x=>.inr (x.1.1)⟩]
def PW:bQ K:=bZ D false 31 0 [0,1,5] [1,4] ⟨[.ar U.Block,.int .i64,.int .i64],[]⟩ (fun x=>M.rV x.1.1 ai x.1.2.1 x.1.2.2.1) PV
def E9(m:(List M.af)->Int->Option (Int)):aE K:={f:=59,sh:=⟨[.ar U.Block,.int .i64],[]⟩,R:=Int,run:=fun x=>m x.1.1 x.1.2.1,dflt:=default,out:=fun r=>(Sh.enc D (.int .i64) r,aw.encs D [] ())}
def AI:Cx K:={aK with mode:=aI .plain [],call:=callOf D [],loop:=aH [(2,PW)]}
theorem PX:aF (AI):=aL ah _ (az)
theorem abO:bR (AI) (bT (bW Tryz.f59) 0) (PW):=
 cg (cx:=AI) (n:=31) (n0:=0) (ins:=[0,1,5]) (outs:=[1,4]) (sh:=⟨[.ar U.Block,.int .i64,.int .i64],[]⟩) (run:=fun n x=>M.rV x.1.1 n x.1.2.1 x.1.2.2.1) (bU:=abN) (out:=PV) ah (PX) ay (aJ (by kernel_rfl)) (fun _=>rfl) (fun m x=>by kernel_rfl) (aj ⟨dG,fun _ _ _=>rfl⟩ (aj ⟨cm,fun _ _ _=>rfl⟩ (az))) false ai
theorem abP:(E9 (M.rW)).Ok D Tryz.prog:=
 aN (cx:=AI) (c:=E9 (M.rW)) (fz:=true) (fn:=Tryz.f59) ah (PX) ay ⟨Tryz.func59,by kernel_rfl⟩ (aO (cn 1 (by kernel_rfl) (ct (.mk (by kernel_rfl) (abO))))) ⟨⟨[.int .i64],[]⟩,fun x=>x.1.1⟩ (fun x=>rfl) (fun x=>by kernel_rfl)
def Fa(m:M.ax->Int->Option (Int)):aE K:={f:=21,sh:=⟨[.el U.dA,.int .i64],[]⟩,R:=Int,run:=fun x=>m x.1.1 x.1.2.1,dflt:=default,out:=fun r=>(Sh.enc D (.int .i64) r,aw.encs D [] ())}
def PY:Cx K:={aK with mode:=aI .plain [(59,.plain)],call:=callOf D [E9 M.rW],loop:=aH []}
theorem abQ:aF (PY):=aL ah _ (aj abP (az))
theorem abR:(Fa (M.u4)).Ok D Tryz.prog:=
 aN (cx:=PY) (c:=Fa (M.u4)) (fz:=true) (fn:=Tryz.f21) ah (abQ) ay ⟨Tryz.func21,by kernel_rfl⟩ (aO (aJ (by kernel_rfl))) ⟨⟨[.int .i64],[]⟩,fun x=>x.1.1⟩ (fun x=>rfl) (fun x=>by kernel_rfl)
def Fb(m:Int->Int->(List UInt8)->Int->(List M.ae)->Option (Int×(List M.ae))):aE K:={f:=20,sh:=⟨[.agg [.int .i64,.int .i64,.str,.own 0],.int .i64],[.tree U.Value]⟩,R:=Int×(List M.ae),run:=fun x=>m x.1.1.1 x.1.1.2.1 x.1.1.2.2.1 x.1.2.1 x.2.1,dflt:=default,out:=fun r=>(Sh.enc D (.int .i64) r.1,aw.encs D [.tree U.Value] (r.2,()))}
def PZ:Cx K:={aK with mode:=aI .plain [(38,.pass)],deep:=fun c=>dh (D.cells c (K.zero c)),opn:=true,call:=callOf D [nR M.zM],loop:=aH []}
theorem abS:aF (PZ):=aL ah _ (aj Y1 (az))
theorem abT:(Fb (M.u5)).Ok D Tryz.prog:=
 aN (cx:=PZ) (c:=Fb (M.u5)) (fz:=true) (fn:=Tryz.f20) ah (abS) ay ⟨Tryz.func20,by kernel_rfl⟩ (aO (aJ (by kernel_rfl))) ⟨⟨[.int .i64],[.tree U.Value]⟩,fun x=>(x.1.1,x.2.1)⟩ (fun x=>rfl) (fun x=>by kernel_rfl)
def Fe(m:M.ax->Int->M.aa->M.ae->Int->Option (Bool)):aE K:={f:=3,sh:=⟨[.el U.dA,.int .i64,.el U.Type,.el U.Value,.int .i64],[]⟩,R:=Bool,run:=fun x=>m x.1.1 x.1.2.1 x.1.2.2.1 x.1.2.2.2.1 x.1.2.2.2.2.1,dflt:=default,out:=fun r=>(Sh.enc D (.bool) r,aw.encs D [] ())}
def P0:Cx K:={aK with mode:=aI .plain [(7,.plain),(8,.plain),(9,.plain),(11,.fresh),(12,.fresh),(13,.fresh),(10,.fresh),(14,.fresh),(15,.plain),(16,.plain),(17,.plain),(18,.pass),(19,.pass),(20,.pass),(21,.plain)],deep:=fun c=>dh (D.cells c (K.zero c)),call:=callOf D [E0 M.uV,kX M.yU,lg M.zO,E3 M.uX,kY M.yX,lh M.zQ,Em M.rK,EY M.rR,E6 M.od,kZ M.y4,kW M.yR,E8 M.rU,D1 M.ui,Fb M.u5,Fa M.u4],loop:=aH []}
theorem abU:aF (P0):=aL ah _ (aj abr (aj Wb (aj Y7 (aj abz (aj Wn (aj Zd (aj Z3 (aj abn (aj abH (aj WA (aj V2 (aj abM (aj YX (aj abT (aj abR (az))))))))))))))))
theorem abV:(Fe (M.oe)).Ok D Tryz.prog:=
 aN (cx:=P0) (c:=Fe (M.oe)) (fz:=true) (fn:=Tryz.f3) ah (abU) ay ⟨Tryz.func3,by kernel_rfl⟩ (aO (aJ (by kernel_rfl))) ⟨⟨[.bool],[]⟩,fun x=>x.1.1⟩ (fun x=>rfl) (fun x=>by kernel_rfl)
