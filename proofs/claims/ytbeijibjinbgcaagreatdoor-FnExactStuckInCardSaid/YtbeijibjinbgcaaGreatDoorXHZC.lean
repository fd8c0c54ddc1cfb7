/-
  Part of the proof of the claim.
-/
import Derived.Test.YtbeijibjinbgcaaGreatDoorXHZM
import Derived.Test.YtbeijibjinbgcaaGreatDoorXHHdA
import Derived.Test.YtbeijibjinbgcaaGreatDoorXHHdR
import Derived.Test.YtbeijibjinbgcaaGreatDoorXHHdU
import Derived.Test.YtbeijibjinbgcaaGreatDoorXWor
import Derived.Test.YtbeijibjinbgcaaGreatDoorProg
set_option linter.unusedVariables false
set_option maxRecDepth 100000
open Go Go.Proofs
open Go.V
noncomputable section
def zW:Go.TypeId->Option U:=aK [(2,U.i64),(3,U.i64),(4,U.bool),(5,U.u8),(6,U.u8),(9,U.str),(10,U.str),(11,U.str),(12,U.u64),(21,U.i32),(22,U.pv),(23,U.pw),(24,U.px),(25,U.ka),(26,U.py),(28,U.Async),(31,U.pv),(32,U.pw),(33,U.px),(34,U.py),(36,U.Async),(61,U.async),(68,U.Task),(76,U.pz),(78,U.Prog),(80,U.rx),(81,U.pA),(83,U.Type),(84,U.pB),(86,U.Stream),(88,U.Task),(91,U.pA),(93,U.Type),(94,U.pB),(96,U.Stream),(100,U.Note),(104,U.pz),(106,U.Prog),(112,U.cu),(117,U.Note),(158,U.Value),(172,U.ry),(176,U.Value),(183,U.cu),(221,U.u64),(237,U.u64),(238,U.u32),(256,U.i64),(266,U.u64),(282,U.u8),(283,U.u8),(286,U.i32),(287,U.i32)]
def L0:Go.TypeId->List (Option U):=aL [] [(22,[some U.Prog]),(23,[some U.Stream]),(24,[some U.Task]),(25,[some U.i64]),(26,[some U.Note]),(28,[some U.Prog,some U.Stream,some U.Task,some U.i64,some U.Note]),(31,[some U.Prog]),(32,[some U.Stream]),(33,[some U.Task]),(34,[some U.Note]),(36,[some U.Prog,some U.Stream,some U.Task,some U.i64,some U.Note]),(61,[some U.Prog,some U.Stream,some U.Task,some U.i64,some U.Note]),(68,[none,none,none,none,none,none,none,none,none,some U.i64,some U.i64]),(76,[some U.cu]),(78,[none,some U.cu]),(80,[some U.str]),(81,[some U.Type]),(83,[none,none,some U.str,some U.Type]),(84,[some U.Value]),(86,[none,none,some U.str,some U.Type,none,none,some U.Value,none,none,none,none]),(88,[none,none,none,none,none,none,none,none,none,some U.i64,some U.i64]),(91,[some U.Type]),(93,[none,none,some U.str,some U.Type]),(94,[some U.Value]),(96,[none,none,some U.str,some U.Type,none,none,some U.Value,none,none,none,none]),(104,[some U.cu]),(106,[none,some U.cu]),(158,[none,none,none,some U.Value]),(172,[some U.u8]),(176,[none,none,none,some U.Value])]
theorem aA:Tryz.prog.follows .mixedOrders=true:=by kernel_rfl
def aO:Cx K:={P:=Tryz.prog,D:=D,ty:=zW,kd:=L0,mode:=aL .plain [],call:=callOf D [],loop:=aK []}
def kP(m:M.af->M.af->Option (Bool)):aI K:={f:=164,sh:=⟨[.el U.Value,.el U.Value],[]⟩,R:=Bool,run:=fun x=>m x.1.1 x.1.2.1,dflt:=default,out:=fun r=>(Sh.enc D (.bool) r,aB.encs D [] ())}
def L6(y:(Bool)⊕(Unit)){R:Type}(k:Ex->List (AV K)->List (Ob K)->R):R:=match y with
 |.inl a0=>k Ex.ret (ax.aU D ⟨[.bool],[]⟩ ((a0,()),())) (ax.aY D ⟨[.bool],[]⟩ ((a0,()),()))
 |.inr (a1)=>k (Ex.exit 0) (ax.aU D ⟨[.any],[]⟩ (((),()),())) (ax.aY D ⟨[.any],[]⟩ (((),()),()))
def aaA:List (bK K ((Bool)⊕(Unit))):=[⟨Ex.ret,⟨[.bool],[]⟩,fun x=>.inl x.1.1⟩,⟨(Ex.exit 0),⟨[.any],[]⟩,fun x=>.inr (())⟩]
def L8(cZ:M.af->M.af->Option (Bool)):bD K:=bM D false 27 0 [0,1,5] [4] ⟨[.ah U.Value,.ah U.Value,.int .i64],[]⟩ (fun x=>M.rz cZ x.1.1 x.1.2.1 an x.1.2.2.1) L6
def Ei(m:(List M.af)->(List M.af)->Option (Bool)):aI K:={f:=130,sh:=⟨[.ah U.Value,.ah U.Value],[]⟩,R:=Bool,run:=fun x=>m x.1.1 x.1.2.1,dflt:=default,out:=fun r=>(Sh.enc D (.bool) r,aB.encs D [] ())}
def zX(cZ:M.af->M.af->Option (Bool)):Cx K:={aO with mode:=aL .plain [(164,.plain)],call:=callOf D [kP cZ],loop:=aK [(4,L8 cZ)]}
theorem L9(cZ:M.af->M.af->Option (Bool))(lZ:(kP cZ).Ok D Tryz.prog):aH (zX cZ):=aP aj _ (al lZ (ay))
theorem aaB(cZ:M.af->M.af->Option (Bool))(lZ:(kP cZ).Ok D Tryz.prog):bE (zX cZ) (bG (bL Tryz.f130) 0) (L8 cZ):=
 bP (cx:=zX cZ) (n:=27) (n0:=0) (ins:=[0,1,5]) (outs:=[4]) (sh:=⟨[.ah U.Value,.ah U.Value,.int .i64],[]⟩) (run:=fun n x=>M.rz cZ x.1.1 x.1.2.1 n x.1.2.2.1) (bH:=aaA) (out:=L6) aj (L9 cZ lZ) aA (aJ (by kernel_rfl)) (fun _=>rfl) (fun m x=>by kernel_rfl) (al ⟨cz,fun _ _ _=>rfl⟩ (al ⟨bQ,fun _ _ _=>rfl⟩ (ay))) false an
theorem aaC(cZ:M.af->M.af->Option (Bool))(lZ:(kP cZ).Ok D Tryz.prog):(Ei (M.uN cZ)).Ok D Tryz.prog:=
 aM (cx:=zX cZ) (c:=Ei (M.uN cZ)) (fz:=true) (fn:=Tryz.f130) aj (L9 cZ lZ) aA ⟨Tryz.func130,by kernel_rfl⟩ (aN (bX 1 (by kernel_rfl) (bZ (.mk (by kernel_rfl) (aaB cZ lZ))))) ⟨⟨[.bool],[]⟩,fun x=>x.1.1⟩ (fun x=>rfl) (fun x=>by kernel_rfl)
def Mc(cZ:M.af->M.af->Option (Bool)):Cx K:={aO with mode:=aL .plain [(130,.plain)],call:=callOf D [Ei (M.uN cZ)],loop:=aK []}
theorem aaD(cZ:M.af->M.af->Option (Bool))(lZ:(kP cZ).Ok D Tryz.prog):aH (Mc cZ):=aP aj _ (al (aaC cZ lZ) (ay))
theorem aaE(cZ:M.af->M.af->Option (Bool))(lZ:(kP cZ).Ok D Tryz.prog):(kP (M.xO cZ)).Ok D Tryz.prog:=
 aM (cx:=Mc cZ) (c:=kP (M.xO cZ)) (fz:=true) (fn:=Tryz.f164) aj (aaD cZ lZ) aA ⟨Tryz.func164,by kernel_rfl⟩ (aN (aJ (by kernel_rfl))) ⟨⟨[.bool],[]⟩,fun x=>x.1.1⟩ (fun x=>rfl) (fun x=>by kernel_rfl)
theorem Md:∀n,(kP (M.rA n)).Ok D Tryz.prog
 |0=>ia fun _=>rfl
 |n+1=>aaE (M.rA n) (Md n)
theorem aaF:(kP (M.zY)).Ok D Tryz.prog:=Md an
def Ej(m:(List M.aw)->Int->Option (Int)):aI K:={f:=81,sh:=⟨[.ah U.cu,.int .i64],[]⟩,R:=Int,run:=fun x=>m x.1.1 x.1.2.1,dflt:=default,out:=fun r=>(Sh.enc D (.int .i64) r,aB.encs D [] ())}
def Me:Cx K:={aO with mode:=aL .plain [],call:=callOf D [],loop:=aK []}
theorem aaG:aH (Me):=aP aj _ (ay)
theorem aaH:(Ej (M.uO)).Ok D Tryz.prog:=
 aM (cx:=Me) (c:=Ej (M.uO)) (fz:=true) (fn:=Tryz.f81) aj (aaG) aA ⟨Tryz.func81,by kernel_rfl⟩ (aN (aJ (by kernel_rfl))) ⟨⟨[.int .i64],[]⟩,fun x=>x.1.1⟩ (fun x=>rfl) (fun x=>by kernel_rfl)
def Ek(m:M.ar->Int->Option (Int)):aI K:={f:=41,sh:=⟨[.el U.Prog,.int .i64],[]⟩,R:=Int,run:=fun x=>m x.1.1 x.1.2.1,dflt:=default,out:=fun r=>(Sh.enc D (.int .i64) r,aB.encs D [] ())}
def MA:Cx K:={aO with mode:=aL .plain [(81,.plain)],call:=callOf D [Ej M.uO],loop:=aK []}
theorem aaI:aH (MA):=aP aj _ (al aaH (ay))
theorem aaJ:(Ek (M.uP)).Ok D Tryz.prog:=
 aM (cx:=MA) (c:=Ek (M.uP)) (fz:=true) (fn:=Tryz.f41) aj (aaI) aA ⟨Tryz.func41,by kernel_rfl⟩ (aN (aJ (by kernel_rfl))) ⟨⟨[.int .i64],[]⟩,fun x=>x.1.1⟩ (fun x=>rfl) (fun x=>by kernel_rfl)
def MB(y:(Int)⊕(Int)){R:Type}(k:Ex->List (AV K)->List (Ob K)->R):R:=match y with
 |.inl a0=>k Ex.ret (ax.aU D ⟨[.any,.int .i64],[]⟩ (((),(a0,())),())) (ax.aY D ⟨[.any,.int .i64],[]⟩ (((),(a0,())),()))
 |.inr (a1)=>k (Ex.exit 0) (ax.aU D ⟨[.int .i64,.any],[]⟩ ((a1,((),())),())) (ax.aY D ⟨[.int .i64,.any],[]⟩ ((a1,((),())),()))
def aaK:List (bK K ((Int)⊕(Int))):=[⟨Ex.ret,⟨[.any,.int .i64],[]⟩,fun x=>.inl x.1.2.1⟩,⟨(Ex.exit 0),⟨[.int .i64,.any],[]⟩,fun x=>.inr (x.1.1)⟩]
def MC:bD K:=bM D false 27 0 [0,1,5] [1,4] ⟨[.ah U.Prog,.int .i64,.int .i64],[]⟩ (fun x=>M.rB x.1.1 an x.1.2.1 x.1.2.2.1) MB
def Em(m:(List M.ar)->Int->Option (Int)):aI K:={f:=16,sh:=⟨[.ah U.Prog,.int .i64],[]⟩,R:=Int,run:=fun x=>m x.1.1 x.1.2.1,dflt:=default,out:=fun r=>(Sh.enc D (.int .i64) r,aB.encs D [] ())}
def zZ:Cx K:={aO with mode:=aL .plain [(41,.plain)],call:=callOf D [Ek M.uP],loop:=aK [(5,MC)]}
theorem MD:aH (zZ):=aP aj _ (al aaJ (ay))
theorem aaL:bE (zZ) (bG (bL Tryz.f16) 0) (MC):=
 bP (cx:=zZ) (n:=27) (n0:=0) (ins:=[0,1,5]) (outs:=[1,4]) (sh:=⟨[.ah U.Prog,.int .i64,.int .i64],[]⟩) (run:=fun n x=>M.rB x.1.1 n x.1.2.1 x.1.2.2.1) (bH:=aaK) (out:=MB) aj (MD) aA (aJ (by kernel_rfl)) (fun _=>rfl) (fun m x=>by kernel_rfl) (al ⟨cz,fun _ _ _=>rfl⟩ (al ⟨bQ,fun _ _ _=>rfl⟩ (ay))) false an
theorem aaM:(Em (M.uQ)).Ok D Tryz.prog:=
 aM (cx:=zZ) (c:=Em (M.uQ)) (fz:=true) (fn:=Tryz.f16) aj (MD) aA ⟨Tryz.func16,by kernel_rfl⟩ (aN (bX 1 (by kernel_rfl) (bZ (.mk (by kernel_rfl) (aaL))))) ⟨⟨[.int .i64],[]⟩,fun x=>x.1.1⟩ (fun x=>rfl) (fun x=>by kernel_rfl)
def En(m:M.aw->Option (M.aw)):aI K:={f:=144,sh:=⟨[.el U.cu],[]⟩,R:=M.aw,run:=fun x=>m x.1.1,dflt:=default,out:=fun r=>(Sh.enc D (.el U.cu) r,aB.encs D [] ())}
def ME:Cx K:={aO with mode:=aL .plain [],d5:=[[]],deep:=fun c=>dn (D.cells c (K.zero c)),call:=callOf D [],loop:=aK []}
theorem aaN:aH (ME):=aP aj _ (ay)
theorem aaO:(En (M.xP)).Ok D Tryz.prog:=
 aM (cx:=ME) (c:=En (M.xP)) (fz:=false) (fn:=Tryz.f144) aj (aaN) aA ⟨Tryz.func144,by kernel_rfl⟩ (aN (aJ (by kernel_rfl))) ⟨⟨[.el U.cu],[]⟩,fun x=>x.1.1⟩ (fun x=>rfl) (fun x=>by kernel_rfl)
def MF(y:(List M.aw)){R:Type}(k:Ex->List (AV K)->List (Ob K)->R):R:=match y with
 |a0=>k (Ex.exit 0) (ax.aU D ⟨[.own 1],[.dead,.arr U.cu]⟩ (((),()),((),(a0,())))) (ax.aY D ⟨[.own 1],[.dead,.arr U.cu]⟩ (((),()),((),(a0,()))))
def aaP:List (bK K ((List M.aw))):=[⟨(Ex.exit 0),⟨[.own 1],[.dead,.arr U.cu]⟩,fun x=>x.2.2.1⟩]
def MG:bD K:=bM D false 23 1 [0,3,4] [3] ⟨[.ah U.cu,.own 1,.int .i64],[.dead,.arr U.cu]⟩ (fun x=>M.pC x.1.1 an x.1.2.2.1 x.2.2.1) MF
def Eo(m:(List M.aw)->Option ((List M.aw))):aI K:={f:=105,sh:=⟨[.ah U.cu],[]⟩,R:=(List M.aw),run:=fun x=>m x.1.1,dflt:=default,out:=fun r=>(Sh.enc D (.own 0) (),aB.encs D [.arr U.cu] (r,()))}
def Aa:Cx K:={aO with mode:=aL .plain [(144,.fresh)],d5:=[[some U.cu]],deep:=fun c=>dn (D.cells c (K.zero c)),call:=callOf D [En M.xP],loop:=aK [(3,MG)]}
theorem MH:aH (Aa):=aP aj _ (al aaO (ay))
theorem aaQ:bE (Aa) (bG (bL Tryz.f105) 0) (MG):=
 bP (cx:=Aa) (n:=23) (n0:=1) (ins:=[0,3,4]) (outs:=[3]) (sh:=⟨[.ah U.cu,.own 1,.int .i64],[.dead,.arr U.cu]⟩) (run:=fun n x=>M.pC x.1.1 n x.1.2.2.1 x.2.2.1) (bH:=aaP) (out:=MF) aj (MH) aA (aJ (by kernel_rfl)) (fun _=>rfl) (fun m x=>by kernel_rfl) (al ⟨bQ,fun _ _ _=>rfl⟩ (ay)) false an
theorem aaR:(Eo (M.uR)).Ok D Tryz.prog:=
 aM (cx:=Aa) (c:=Eo (M.uR)) (fz:=false) (fn:=Tryz.f105) aj (MH) aA ⟨Tryz.func105,by kernel_rfl⟩ (aN (bX 1 (by kernel_rfl) (bZ (.mk (by kernel_rfl) (aaQ))))) ⟨⟨[.own 0],[.arr U.cu]⟩,fun x=>x.2.1⟩ (fun x=>rfl) (fun x=>by kernel_rfl)
def Ep(m:M.ar->Option (Int×(List M.aw))):aI K:={f:=55,sh:=⟨[.el U.Prog],[]⟩,R:=Int×(List M.aw),run:=fun x=>m x.1.1,dflt:=default,out:=fun r=>(Sh.enc D (.agg [.int .i64,.own 0]) (r.1,((),())),aB.encs D [.arr U.cu] (r.2,()))}
def MI:Cx K:={aO with mode:=aL .plain [(105,.fresh)],d5:=[[none,some U.cu]],deep:=fun c=>dn (D.cells c (K.zero c)),call:=callOf D [Eo M.uR],loop:=aK []}
theorem aaS:aH (MI):=aP aj _ (al aaR (ay))
theorem aaT:(Ep (M.uS)).Ok D Tryz.prog:=
 aM (cx:=MI) (c:=Ep (M.uS)) (fz:=false) (fn:=Tryz.f55) aj (aaS) aA ⟨Tryz.func55,by kernel_rfl⟩ (aN (aJ (by kernel_rfl))) ⟨⟨[.agg [.int .i64,.own 0]],[.arr U.cu]⟩,fun x=>(x.1.1.1,x.2.1)⟩ (fun x=>rfl) (fun x=>by kernel_rfl)
def MJ(y:(List M.ar)){R:Type}(k:Ex->List (AV K)->List (Ob K)->R):R:=match y with
 |a0=>k (Ex.exit 0) (ax.aU D ⟨[.own 1],[.dead,.tree U.Prog]⟩ (((),()),((),(a0,())))) (ax.aY D ⟨[.own 1],[.dead,.tree U.Prog]⟩ (((),()),((),(a0,()))))
def aaU:List (bK K ((List M.ar))):=[⟨(Ex.exit 0),⟨[.own 1],[.dead,.tree U.Prog]⟩,fun x=>x.2.2.1⟩]
def MK:bD K:=bM D false 23 1 [0,3,4] [3] ⟨[.ah U.Prog,.own 1,.int .i64],[.dead,.tree U.Prog]⟩ (fun x=>M.pD x.1.1 an x.1.2.2.1 x.2.2.1) MJ
def Es(m:(List M.ar)->Option ((List M.ar))):aI K:={f:=24,sh:=⟨[.ah U.Prog],[]⟩,R:=(List M.ar),run:=fun x=>m x.1.1,dflt:=default,out:=fun r=>(Sh.enc D (.own 0) (),aB.encs D [.tree U.Prog] (r,()))}
def Ab:Cx K:={aO with mode:=aL .plain [(55,.fresh)],d5:=[[some U.Prog]],deep:=fun c=>dn (D.cells c (K.zero c)),call:=callOf D [Ep M.uS],loop:=aK [(3,MK)]}
theorem ML:aH (Ab):=aP aj _ (al aaT (ay))
theorem aaV:bE (Ab) (bG (bL Tryz.f24) 0) (MK):=
 bP (cx:=Ab) (n:=23) (n0:=1) (ins:=[0,3,4]) (outs:=[3]) (sh:=⟨[.ah U.Prog,.own 1,.int .i64],[.dead,.tree U.Prog]⟩) (run:=fun n x=>M.pD x.1.1 n x.1.2.2.1 x.2.2.1) (bH:=aaU) (out:=MJ) aj (ML) aA (aJ (by kernel_rfl)) (fun _=>rfl) (fun m x=>by kernel_rfl) (al ⟨bQ,fun _ _ _=>rfl⟩ (ay)) false an
theorem aaW:(Es (M.uT)).Ok D Tryz.prog:=
 aM (cx:=Ab) (c:=Es (M.uT)) (fz:=false) (fn:=Tryz.f24) aj (ML) aA ⟨Tryz.func24,by kernel_rfl⟩ (aN (bX 1 (by kernel_rfl) (bZ (.mk (by kernel_rfl) (aaV))))) ⟨⟨[.own 0],[.tree U.Prog]⟩,fun x=>x.2.1⟩ (fun x=>rfl) (fun x=>by kernel_rfl)
def MM(y:(List Int)){R:Type}(k:Ex->List (AV K)->List (Ob K)->R):R:=match y with
 |a0=>k (Ex.exit 0) (ax.aU D ⟨[.own 1],[.dead,.arr U.i64]⟩ (((),()),((),(a0,())))) (ax.aY D ⟨[.own 1],[.dead,.arr U.i64]⟩ (((),()),((),(a0,()))))
def aaX:List (bK K ((List Int))):=[⟨(Ex.exit 0),⟨[.own 1],[.dead,.arr U.i64]⟩,fun x=>x.2.2.1⟩]
def MN:bD K:=bM D false 22 1 [0,3,4] [3] ⟨[.ah U.i64,.own 1,.int .i64],[.dead,.arr U.i64]⟩ (fun x=>M.pE x.1.1 an x.1.2.2.1 x.2.2.1) MM
def Ac(m:(List Int)->Option ((List Int))):aI K:={f:=27,sh:=⟨[.ah U.i64],[]⟩,R:=(List Int),run:=fun x=>m x.1.1,dflt:=default,out:=fun r=>(Sh.enc D (.own 0) (),aB.encs D [.arr U.i64] (r,()))}
def Ad:Cx K:={aO with mode:=aL .plain [],d5:=[[some U.i64]],deep:=fun c=>dn (D.cells c (K.zero c)),call:=callOf D [],loop:=aK [(3,MN)]}
theorem MO:aH (Ad):=aP aj _ (ay)
theorem aaY:bE (Ad) (bG (bL Tryz.f27) 0) (MN):=
 bP (cx:=Ad) (n:=22) (n0:=1) (ins:=[0,3,4]) (outs:=[3]) (sh:=⟨[.ah U.i64,.own 1,.int .i64],[.dead,.arr U.i64]⟩) (run:=fun n x=>M.pE x.1.1 n x.1.2.2.1 x.2.2.1) (bH:=aaX) (out:=MM) aj (MO) aA (aJ (by kernel_rfl)) (fun _=>rfl) (fun m x=>by kernel_rfl) (al ⟨bQ,fun _ _ _=>rfl⟩ (ay)) false an
theorem MP:(Ac (M.m5)).Ok D Tryz.prog:=
 aM (cx:=Ad) (c:=Ac (M.m5)) (fz:=false) (fn:=Tryz.f27) aj (MO) aA ⟨Tryz.func27,by kernel_rfl⟩ (aN (bX 1 (by kernel_rfl) (bZ (.mk (by kernel_rfl) (aaY))))) ⟨⟨[.own 0],[.arr U.i64]⟩,fun x=>x.2.1⟩ (fun x=>rfl) (fun x=>by kernel_rfl)
def MQ(y:(List M.ar)){R:Type}(k:Ex->List (AV K)->List (Ob K)->R):R:=match y with
 |a0=>k (Ex.exit 0) (ax.aU D ⟨[.own 1],[.dead,.arr U.Prog]⟩ (((),()),((),(a0,())))) (ax.aY D ⟨[.own 1],[.dead,.arr U.Prog]⟩ (((),()),((),(a0,()))))
def aaZ:List (bK K ((List M.ar))):=[⟨(Ex.exit 0),⟨[.own 1],[.dead,.arr U.Prog]⟩,fun x=>x.2.2.1⟩]
def MR:bD K:=bM D false 29 1 [0,3,4] [3] ⟨[.ah U.Prog,.own 1,.int .i64],[.dead,.arr U.Prog]⟩ (fun x=>M.qE x.1.1 an x.1.2.2.1 x.2.2.1) MQ
def Et(m:(List M.ar)->Option ((List M.ar))):aI K:={f:=48,sh:=⟨[.ah U.Prog],[]⟩,R:=(List M.ar),run:=fun x=>m x.1.1,dflt:=default,out:=fun r=>(Sh.enc D (.ah U.Prog) r,aB.encs D [] ())}
def Ae:Cx K:={aO with mode:=aL .plain [],call:=callOf D [],loop:=aK [(3,MR)]}
theorem MS:aH (Ae):=aP aj _ (ay)
theorem aa0:bE (Ae) (bG (bL Tryz.f48) 0) (MR):=
 bP (cx:=Ae) (n:=29) (n0:=1) (ins:=[0,3,4]) (outs:=[3]) (sh:=⟨[.ah U.Prog,.own 1,.int .i64],[.dead,.arr U.Prog]⟩) (run:=fun n x=>M.qE x.1.1 n x.1.2.2.1 x.2.2.1) (bH:=aaZ) (out:=MQ) aj (MS) aA (aJ (by kernel_rfl)) (fun _=>rfl) (fun m x=>by kernel_rfl) (al ⟨bQ,fun _ _ _=>rfl⟩ (ay)) false an
theorem aa1:(Et (M.tB)).Ok D Tryz.prog:=
 aM (cx:=Ae) (c:=Et (M.tB)) (fz:=true) (fn:=Tryz.f48) aj (MS) aA ⟨Tryz.func48,by kernel_rfl⟩ (aN (bX 1 (by kernel_rfl) (bZ (.mk (by kernel_rfl) (aa0))))) ⟨⟨[.ah U.Prog],[]⟩,fun x=>x.1.1⟩ (fun x=>rfl) (fun x=>by kernel_rfl)
def xQ(m:(List M.ar)->Option (Int)):aI K:={f:=71,sh:=⟨[.ah U.Prog],[]⟩,R:=Int,run:=fun x=>m x.1.1,dflt:=default,out:=fun r=>(Sh.enc D (.int .i64) r,aB.encs D [] ())}
def MU:Cx K:={aO with mode:=aL .plain [],call:=callOf D [],loop:=aK []}
theorem aa2:aH (MU):=aP aj _ (ay)
theorem Eu:(xQ (M.xR)).Ok D Tryz.prog:=
 aM (cx:=MU) (c:=xQ (M.xR)) (fz:=true) (fn:=Tryz.f71) aj (aa2) aA ⟨Tryz.func71,by kernel_rfl⟩ (aN (aJ (by kernel_rfl))) ⟨⟨[.int .i64],[]⟩,fun x=>x.1.1⟩ (fun x=>rfl) (fun x=>by kernel_rfl)
def Ew(m:M.aw->M.aw->Option (Bool)):aI K:={f:=161,sh:=⟨[.el U.cu,.el U.cu],[]⟩,R:=Bool,run:=fun x=>m x.1.1 x.1.2.1,dflt:=default,out:=fun r=>(Sh.enc D (.bool) r,aB.encs D [] ())}
def MV:Cx K:={aO with mode:=aL .plain [],call:=callOf D [],loop:=aK []}
theorem aa3:aH (MV):=aP aj _ (ay)
theorem aa4:(Ew (M.uU)).Ok D Tryz.prog:=
 aM (cx:=MV) (c:=Ew (M.uU)) (fz:=true) (fn:=Tryz.f161) aj (aa3) aA ⟨Tryz.func161,by kernel_rfl⟩ (aN (aJ (by kernel_rfl))) ⟨⟨[.bool],[]⟩,fun x=>x.1.1⟩ (fun x=>rfl) (fun x=>by kernel_rfl)
def MW(y:(Bool)⊕(Unit)){R:Type}(k:Ex->List (AV K)->List (Ob K)->R):R:=match y with
 |.inl a0=>k Ex.ret (ax.aU D ⟨[.bool],[]⟩ ((a0,()),())) (ax.aY D ⟨[.bool],[]⟩ ((a0,()),()))
 |.inr (a1)=>k (Ex.exit 0) (ax.aU D ⟨[.any],[]⟩ (((),()),())) (ax.aY D ⟨[.any],[]⟩ (((),()),()))
def aa5:List (bK K ((Bool)⊕(Unit))):=[⟨Ex.ret,⟨[.bool],[]⟩,fun x=>.inl x.1.1⟩,⟨(Ex.exit 0),⟨[.any],[]⟩,fun x=>.inr (())⟩]
def MX:bD K:=bM D false 27 0 [0,1,5] [4] ⟨[.ah U.cu,.ah U.cu,.int .i64],[]⟩ (fun x=>M.rC x.1.1 x.1.2.1 an x.1.2.2.1) MW
def Ey(m:(List M.aw)->(List M.aw)->Option (Bool)):aI K:={f:=128,sh:=⟨[.ah U.cu,.ah U.cu],[]⟩,R:=Bool,run:=fun x=>m x.1.1 x.1.2.1,dflt:=default,out:=fun r=>(Sh.enc D (.bool) r,aB.encs D [] ())}
def Af:Cx K:={aO with mode:=aL .plain [(161,.plain)],call:=callOf D [Ew M.uU],loop:=aK [(4,MX)]}
theorem MY:aH (Af):=aP aj _ (al aa4 (ay))
theorem aa6:bE (Af) (bG (bL Tryz.f128) 0) (MX):=
 bP (cx:=Af) (n:=27) (n0:=0) (ins:=[0,1,5]) (outs:=[4]) (sh:=⟨[.ah U.cu,.ah U.cu,.int .i64],[]⟩) (run:=fun n x=>M.rC x.1.1 x.1.2.1 n x.1.2.2.1) (bH:=aa5) (out:=MW) aj (MY) aA (aJ (by kernel_rfl)) (fun _=>rfl) (fun m x=>by kernel_rfl) (al ⟨cz,fun _ _ _=>rfl⟩ (al ⟨bQ,fun _ _ _=>rfl⟩ (ay))) false an
theorem aa7:(Ey (M.uV)).Ok D Tryz.prog:=
 aM (cx:=Af) (c:=Ey (M.uV)) (fz:=true) (fn:=Tryz.f128) aj (MY) aA ⟨Tryz.func128,by kernel_rfl⟩ (aN (bX 1 (by kernel_rfl) (bZ (.mk (by kernel_rfl) (aa6))))) ⟨⟨[.bool],[]⟩,fun x=>x.1.1⟩ (fun x=>rfl) (fun x=>by kernel_rfl)
def Ez(m:M.ar->M.ar->Option (Bool)):aI K:={f:=72,sh:=⟨[.el U.Prog,.el U.Prog],[]⟩,R:=Bool,run:=fun x=>m x.1.1 x.1.2.1,dflt:=default,out:=fun r=>(Sh.enc D (.bool) r,aB.encs D [] ())}
def MZ:Cx K:={aO with mode:=aL .plain [(128,.plain)],call:=callOf D [Ey M.uV],loop:=aK []}
theorem aa8:aH (MZ):=aP aj _ (al aa7 (ay))
theorem aa9:(Ez (M.uW)).Ok D Tryz.prog:=
 aM (cx:=MZ) (c:=Ez (M.uW)) (fz:=true) (fn:=Tryz.f72) aj (aa8) aA ⟨Tryz.func72,by kernel_rfl⟩ (aN (aJ (by kernel_rfl))) ⟨⟨[.bool],[]⟩,fun x=>x.1.1⟩ (fun x=>rfl) (fun x=>by kernel_rfl)
def M1(y:(Bool)⊕(Unit)){R:Type}(k:Ex->List (AV K)->List (Ob K)->R):R:=match y with
 |.inl a0=>k Ex.ret (ax.aU D ⟨[.bool],[]⟩ ((a0,()),())) (ax.aY D ⟨[.bool],[]⟩ ((a0,()),()))
 |.inr (a1)=>k (Ex.exit 0) (ax.aU D ⟨[.any],[]⟩ (((),()),())) (ax.aY D ⟨[.any],[]⟩ (((),()),()))
def aba:List (bK K ((Bool)⊕(Unit))):=[⟨Ex.ret,⟨[.bool],[]⟩,fun x=>.inl x.1.1⟩,⟨(Ex.exit 0),⟨[.any],[]⟩,fun x=>.inr (())⟩]
def M3:bD K:=bM D false 27 0 [0,1,5] [4] ⟨[.ah U.Prog,.ah U.Prog,.int .i64],[]⟩ (fun x=>M.rD x.1.1 x.1.2.1 an x.1.2.2.1) M1
def EA(m:(List M.ar)->(List M.ar)->Option (Bool)):aI K:={f:=31,sh:=⟨[.ah U.Prog,.ah U.Prog],[]⟩,R:=Bool,run:=fun x=>m x.1.1 x.1.2.1,dflt:=default,out:=fun r=>(Sh.enc D (.bool) r,aB.encs D [] ())}
def Ag:Cx K:={aO with mode:=aL .plain [(72,.plain)],call:=callOf D [Ez M.uW],loop:=aK [(4,M3)]}
theorem M4:aH (Ag):=aP aj _ (al aa9 (ay))
theorem abb:bE (Ag) (bG (bL Tryz.f31) 0) (M3):=
 bP (cx:=Ag) (n:=27) (n0:=0) (ins:=[0,1,5]) (outs:=[4]) (sh:=⟨[.ah U.Prog,.ah U.Prog,.int .i64],[]⟩) (run:=fun n x=>M.rD x.1.1 x.1.2.1 n x.1.2.2.1) (bH:=aba) (out:=M1) aj (M4) aA (aJ (by kernel_rfl)) (fun _=>rfl) (fun m x=>by kernel_rfl) (al ⟨cz,fun _ _ _=>rfl⟩ (al ⟨bQ,fun _ _ _=>rfl⟩ (ay))) false an
theorem abd:(EA (M.uX)).Ok D Tryz.prog:=
 aM (cx:=Ag) (c:=EA (M.uX)) (fz:=true) (fn:=Tryz.f31) aj (M4) aA ⟨Tryz.func31,by kernel_rfl⟩ (aN (bX 1 (by kernel_rfl) (bZ (.mk (by kernel_rfl) (abb))))) ⟨⟨[.bool],[]⟩,fun x=>x.1.1⟩ (fun x=>rfl) (fun x=>by kernel_rfl)
def M5(y:(Bool)⊕(Unit)){R:Type}(k:Ex->List (AV K)->List (Ob K)->R):R:=match y with
 |.inl a0=>k Ex.ret (ax.aU D ⟨[.bool],[]⟩ ((a0,()),())) (ax.aY D ⟨[.bool],[]⟩ ((a0,()),()))
 |.inr (a1)=>k (Ex.exit 0) (ax.aU D ⟨[.any],[]⟩ (((),()),())) (ax.aY D ⟨[.any],[]⟩ (((),()),()))
def abe:List (bK K ((Bool)⊕(Unit))):=[⟨Ex.ret,⟨[.bool],[]⟩,fun x=>.inl x.1.1⟩,⟨(Ex.exit 0),⟨[.any],[]⟩,fun x=>.inr (())⟩]
def M6:bD K:=bM D false 26 0 [0,1,5] [4] ⟨[.ah U.i64,.ah U.i64,.int .i64],[]⟩ (fun x=>M.rE x.1.1 x.1.2.1 an x.1.2.2.1) M5
def Ah(m:(List Int)->(List Int)->Option (Bool)):aI K:={f:=12,sh:=⟨[.ah U.i64,.ah U.i64],[]⟩,R:=Bool,run:=fun x=>m x.1.1 x.1.2.1,dflt:=default,out:=fun r=>(Sh.enc D (.bool) r,aB.encs D [] ())}
def Ai:Cx K:={aO with mode:=aL .plain [],call:=callOf D [],loop:=aK [(4,M6)]}
theorem M7:aH (Ai):=aP aj _ (ay)
theorem abf:bE (Ai) (bG (bL Tryz.f12) 0) (M6):=
 bP (cx:=Ai) (n:=26) (n0:=0) (ins:=[0,1,5]) (outs:=[4]) (sh:=⟨[.ah U.i64,.ah U.i64,.int .i64],[]⟩) (run:=fun n x=>M.rE x.1.1 x.1.2.1 n x.1.2.2.1) (bH:=abe) (out:=M5) aj (M7) aA (aJ (by kernel_rfl)) (fun _=>rfl) (fun m x=>by kernel_rfl) (al ⟨cz,fun _ _ _=>rfl⟩ (al ⟨bQ,fun _ _ _=>rfl⟩ (ay))) false an
theorem M8:(Ah (M.m6)).Ok D Tryz.prog:=
 aM (cx:=Ai) (c:=Ah (M.m6)) (fz:=true) (fn:=Tryz.f12) aj (M7) aA ⟨Tryz.func12,by kernel_rfl⟩ (aN (bX 1 (by kernel_rfl) (bZ (.mk (by kernel_rfl) (abf))))) ⟨⟨[.bool],[]⟩,fun x=>x.1.1⟩ (fun x=>rfl) (fun x=>by kernel_rfl)
def EB(m:M.ad->M.ad->Option (Bool)):aI K:={f:=74,sh:=⟨[.el U.Task,.el U.Task],[]⟩,R:=Bool,run:=fun x=>m x.1.1 x.1.2.1,dflt:=default,out:=fun r=>(Sh.enc D (.bool) r,aB.encs D [] ())}
def M9:Cx K:={aO with mode:=aL .plain [(12,.plain)],call:=callOf D [Ah M.m6],loop:=aK []}
theorem abg:aH (M9):=aP aj _ (al M8 (ay))
theorem abh:(EB (M.uY)).Ok D Tryz.prog:=
 aM (cx:=M9) (c:=EB (M.uY)) (fz:=true) (fn:=Tryz.f74) aj (abg) aA ⟨Tryz.func74,by kernel_rfl⟩ (aN (aJ (by kernel_rfl))) ⟨⟨[.bool],[]⟩,fun x=>x.1.1⟩ (fun x=>rfl) (fun x=>by kernel_rfl)
def Na(y:(Bool)⊕(Unit)){R:Type}(k:Ex->List (AV K)->List (Ob K)->R):R:=match y with
 |.inl a0=>k Ex.ret (ax.aU D ⟨[.bool],[]⟩ ((a0,()),())) (ax.aY D ⟨[.bool],[]⟩ ((a0,()),()))
 |.inr (a1)=>k (Ex.exit 0) (ax.aU D ⟨[.any],[]⟩ (((),()),())) (ax.aY D ⟨[.any],[]⟩ (((),()),()))
def abj:List (bK K ((Bool)⊕(Unit))):=[⟨Ex.ret,⟨[.bool],[]⟩,fun x=>.inl x.1.1⟩,⟨(Ex.exit 0),⟨[.any],[]⟩,fun x=>.inr (())⟩]
def Nb:bD K:=bM D false 27 0 [0,1,5] [4] ⟨[.ah U.Task,.ah U.Task,.int .i64],[]⟩ (fun x=>M.rF x.1.1 x.1.2.1 an x.1.2.2.1) Na
def EC(m:(List M.ad)->(List M.ad)->Option (Bool)):aI K:={f:=33,sh:=⟨[.ah U.Task,.ah U.Task],[]⟩,R:=Bool,run:=fun x=>m x.1.1 x.1.2.1,dflt:=default,out:=fun r=>(Sh.enc D (.bool) r,aB.encs D [] ())}
def Aj:Cx K:={aO with mode:=aL .plain [(74,.plain)],call:=callOf D [EB M.uY],loop:=aK [(4,Nb)]}
theorem Nc:aH (Aj):=aP aj _ (al abh (ay))
theorem abk:bE (Aj) (bG (bL Tryz.f33) 0) (Nb):=
 bP (cx:=Aj) (n:=27) (n0:=0) (ins:=[0,1,5]) (outs:=[4]) (sh:=⟨[.ah U.Task,.ah U.Task,.int .i64],[]⟩) (run:=fun n x=>M.rF x.1.1 x.1.2.1 n x.1.2.2.1) (bH:=abj) (out:=Na) aj (Nc) aA (aJ (by kernel_rfl)) (fun _=>rfl) (fun m x=>by kernel_rfl) (al ⟨cz,fun _ _ _=>rfl⟩ (al ⟨bQ,fun _ _ _=>rfl⟩ (ay))) false an
theorem abl:(EC (M.uZ)).Ok D Tryz.prog:=
 aM (cx:=Aj) (c:=EC (M.uZ)) (fz:=true) (fn:=Tryz.f33) aj (Nc) aA ⟨Tryz.func33,by kernel_rfl⟩ (aN (bX 1 (by kernel_rfl) (bZ (.mk (by kernel_rfl) (abk))))) ⟨⟨[.bool],[]⟩,fun x=>x.1.1⟩ (fun x=>rfl) (fun x=>by kernel_rfl)
def ED(m:M.az->M.az->Option (Bool)):aI K:={f:=75,sh:=⟨[.el U.Note,.el U.Note],[]⟩,R:=Bool,run:=fun x=>m x.1.1 x.1.2.1,dflt:=default,out:=fun r=>(Sh.enc D (.bool) r,aB.encs D [] ())}
def Nh:Cx K:={aO with mode:=aL .plain [],call:=callOf D [],loop:=aK []}
theorem abm:aH (Nh):=aP aj _ (ay)
theorem abn:(ED (M.u0)).Ok D Tryz.prog:=
 aM (cx:=Nh) (c:=ED (M.u0)) (fz:=true) (fn:=Tryz.f75) aj (abm) aA ⟨Tryz.func75,by kernel_rfl⟩ (aN (aJ (by kernel_rfl))) ⟨⟨[.bool],[]⟩,fun x=>x.1.1⟩ (fun x=>rfl) (fun x=>by kernel_rfl)
def Ni(y:(Bool)⊕(Unit)){R:Type}(k:Ex->List (AV K)->List (Ob K)->R):R:=match y with
 |.inl a0=>k Ex.ret (ax.aU D ⟨[.bool],[]⟩ ((a0,()),())) (ax.aY D ⟨[.bool],[]⟩ ((a0,()),()))
 |.inr (a1)=>k (Ex.exit 0) (ax.aU D ⟨[.any],[]⟩ (((),()),())) (ax.aY D ⟨[.any],[]⟩ (((),()),()))
def abo:List (bK K ((Bool)⊕(Unit))):=[⟨Ex.ret,⟨[.bool],[]⟩,fun x=>.inl x.1.1⟩,⟨(Ex.exit 0),⟨[.any],[]⟩,fun x=>.inr (())⟩]
def Nj:bD K:=bM D false 27 0 [0,1,5] [4] ⟨[.ah U.Note,.ah U.Note,.int .i64],[]⟩ (fun x=>M.rG x.1.1 x.1.2.1 an x.1.2.2.1) Ni
def EE(m:(List M.az)->(List M.az)->Option (Bool)):aI K:={f:=34,sh:=⟨[.ah U.Note,.ah U.Note],[]⟩,R:=Bool,run:=fun x=>m x.1.1 x.1.2.1,dflt:=default,out:=fun r=>(Sh.enc D (.bool) r,aB.encs D [] ())}
def Ak:Cx K:={aO with mode:=aL .plain [(75,.plain)],call:=callOf D [ED M.u0],loop:=aK [(4,Nj)]}
theorem Nk:aH (Ak):=aP aj _ (al abn (ay))
theorem abp:bE (Ak) (bG (bL Tryz.f34) 0) (Nj):=
 bP (cx:=Ak) (n:=27) (n0:=0) (ins:=[0,1,5]) (outs:=[4]) (sh:=⟨[.ah U.Note,.ah U.Note,.int .i64],[]⟩) (run:=fun n x=>M.rG x.1.1 x.1.2.1 n x.1.2.2.1) (bH:=abo) (out:=Ni) aj (Nk) aA (aJ (by kernel_rfl)) (fun _=>rfl) (fun m x=>by kernel_rfl) (al ⟨cz,fun _ _ _=>rfl⟩ (al ⟨bQ,fun _ _ _=>rfl⟩ (ay))) false an
theorem abq:(EE (M.u3)).Ok D Tryz.prog:=
 aM (cx:=Ak) (c:=EE (M.u3)) (fz:=true) (fn:=Tryz.f34) aj (Nk) aA ⟨Tryz.func34,by kernel_rfl⟩ (aN (bX 1 (by kernel_rfl) (bZ (.mk (by kernel_rfl) (abp))))) ⟨⟨[.bool],[]⟩,fun x=>x.1.1⟩ (fun x=>rfl) (fun x=>by kernel_rfl)
def anp(y:Int×(List M.aw)){R:Type}(k:Ex->List (AV K)->List (Ob K)->R):R:=match y with
 |a0=>k (Ex.exit 0) (ax.aU D ⟨[.int .i64],[.arr U.cu]⟩ ((a0.1,()),(a0.2,()))) (ax.aY D ⟨[.int .i64],[.arr U.cu]⟩ ((a0.1,()),(a0.2,())))
def aow:List (bK K (Int×(List M.aw))):=[⟨(Ex.exit 0),⟨[.int .i64],[.arr U.cu]⟩,fun x=>(x.1.1,x.2.1)⟩]
def anq:bD K:=bM D true 34 1 [0,1,5] [1] ⟨[.own 0,.int .i64,.int .i64],[.arr U.cu]⟩ (fun x=>M.amh an x.1.2.1 x.1.2.2.1 x.2.1) anp
def am6(m:Int->(List M.aw)->Option (Int×(List M.aw))):aI K:={f:=76,sh:=⟨[.own 0,.int .i64],[.arr U.cu]⟩,R:=Int×(List M.aw),run:=fun x=>m x.1.2.1 x.2.1,dflt:=default,out:=fun r=>(Sh.enc D (.int .i64) r.1,aB.encs D [.arr U.cu] (r.2,()))}
def amP:Cx K:={aO with mode:=aL .plain [],deep:=fun c=>dn (D.cells c (K.zero c)),opn:=true,call:=callOf D [],loop:=aK [(2,anq)]}
theorem anr:aH (amP):=aP aj _ (ay)
theorem aox:bE (amP) (bG (bL Tryz.f76) 0) (anq):=
 bP (cx:=amP) (n:=34) (n0:=1) (ins:=[0,1,5]) (outs:=[1]) (sh:=⟨[.own 0,.int .i64,.int .i64],[.arr U.cu]⟩) (run:=fun n x=>M.amh n x.1.2.1 x.1.2.2.1 x.2.1) (bH:=aow) (out:=anp) aj (anr) aA (aJ (by kernel_rfl)) (fun _=>rfl) (fun m x=>by kernel_rfl) (al ⟨bQ,fun _ _ _=>rfl⟩ (ay)) true an
theorem aoy:(am6 (M.amr)).Ok D Tryz.prog:=
 aM (cx:=amP) (c:=am6 (M.amr)) (fz:=true) (fn:=Tryz.f76) aj (anr) aA ⟨Tryz.func76,by kernel_rfl⟩ (aN (bX 1 (by kernel_rfl) (bZ (.mk (by kernel_rfl) (aox))))) ⟨⟨[.int .i64],[.arr U.cu]⟩,fun x=>(x.1.1,x.2.1)⟩ (fun x=>rfl) (fun x=>by kernel_rfl)
def ant(y:Int×(List M.ar)){R:Type}(k:Ex->List (AV K)->List (Ob K)->R):R:=match y with
 |a0=>k (Ex.exit 0) (ax.aU D ⟨[.int .i64],[.tree U.Prog]⟩ ((a0.1,()),(a0.2,()))) (ax.aY D ⟨[.int .i64],[.tree U.Prog]⟩ ((a0.1,()),(a0.2,())))
def aoz:List (bK K (Int×(List M.ar))):=[⟨(Ex.exit 0),⟨[.int .i64],[.tree U.Prog]⟩,fun x=>(x.1.1,x.2.1)⟩]
def anu:bD K:=bM D true 27 1 [0,1,5] [1] ⟨[.own 0,.int .i64,.int .i64],[.tree U.Prog]⟩ (fun x=>M.ami an x.1.2.1 x.1.2.2.1 x.2.1) ant
def am7(m:Int->(List M.ar)->Option (Int×(List M.ar))):aI K:={f:=37,sh:=⟨[.own 0,.int .i64],[.tree U.Prog]⟩,R:=Int×(List M.ar),run:=fun x=>m x.1.2.1 x.2.1,dflt:=default,out:=fun r=>(Sh.enc D (.int .i64) r.1,aB.encs D [.tree U.Prog] (r.2,()))}
def amQ:Cx K:={aO with mode:=aL .plain [(76,.pass)],deep:=fun c=>dn (D.cells c (K.zero c)),opn:=true,call:=callOf D [am6 M.amr],loop:=aK [(2,anu)]}
theorem anv:aH (amQ):=aP aj _ (al aoy (ay))
theorem aoA:bE (amQ) (bG (bL Tryz.f37) 0) (anu):=
 bP (cx:=amQ) (n:=27) (n0:=1) (ins:=[0,1,5]) (outs:=[1]) (sh:=⟨[.own 0,.int .i64,.int .i64],[.tree U.Prog]⟩) (run:=fun n x=>M.ami n x.1.2.1 x.1.2.2.1 x.2.1) (bH:=aoz) (out:=ant) aj (anv) aA (aJ (by kernel_rfl)) (fun _=>rfl) (fun m x=>by kernel_rfl) (al ⟨bQ,fun _ _ _=>rfl⟩ (ay)) true an
theorem aoB:(am7 (M.ams)).Ok D Tryz.prog:=
 aM (cx:=amQ) (c:=am7 (M.ams)) (fz:=true) (fn:=Tryz.f37) aj (anv) aA ⟨Tryz.func37,by kernel_rfl⟩ (aN (bX 1 (by kernel_rfl) (bZ (.mk (by kernel_rfl) (aoA))))) ⟨⟨[.int .i64],[.tree U.Prog]⟩,fun x=>(x.1.1,x.2.1)⟩ (fun x=>rfl) (fun x=>by kernel_rfl)
def anw(y:Int×(List Int)){R:Type}(k:Ex->List (AV K)->List (Ob K)->R):R:=match y with
 |a0=>k (Ex.exit 0) (ax.aU D ⟨[.int .i64],[.arr U.i64]⟩ ((a0.1,()),(a0.2,()))) (ax.aY D ⟨[.int .i64],[.arr U.i64]⟩ ((a0.1,()),(a0.2,())))
def aoC:List (bK K (Int×(List Int))):=[⟨(Ex.exit 0),⟨[.int .i64],[.arr U.i64]⟩,fun x=>(x.1.1,x.2.1)⟩]
def anx:bD K:=bM D true 19 1 [0,1,5] [1] ⟨[.own 0,.int .i64,.int .i64],[.arr U.i64]⟩ (fun x=>M.ajK an x.1.2.1 x.1.2.2.1 x.2.1) anw
def amI(m:Int->(List Int)->Option (Int×(List Int))):aI K:={f:=14,sh:=⟨[.own 0,.int .i64],[.arr U.i64]⟩,R:=Int×(List Int),run:=fun x=>m x.1.2.1 x.2.1,dflt:=default,out:=fun r=>(Sh.enc D (.int .i64) r.1,aB.encs D [.arr U.i64] (r.2,()))}
def amR:Cx K:={aO with mode:=aL .plain [],deep:=fun c=>dn (D.cells c (K.zero c)),opn:=true,call:=callOf D [],loop:=aK [(2,anx)]}
theorem anz:aH (amR):=aP aj _ (ay)
theorem aoD:bE (amR) (bG (bL Tryz.f14) 0) (anx):=
 bP (cx:=amR) (n:=19) (n0:=1) (ins:=[0,1,5]) (outs:=[1]) (sh:=⟨[.own 0,.int .i64,.int .i64],[.arr U.i64]⟩) (run:=fun n x=>M.ajK n x.1.2.1 x.1.2.2.1 x.2.1) (bH:=aoC) (out:=anw) aj (anz) aA (aJ (by kernel_rfl)) (fun _=>rfl) (fun m x=>by kernel_rfl) (al ⟨bQ,fun _ _ _=>rfl⟩ (ay)) true an
theorem am8:(amI (M.ajI)).Ok D Tryz.prog:=
 aM (cx:=amR) (c:=amI (M.ajI)) (fz:=true) (fn:=Tryz.f14) aj (anz) aA ⟨Tryz.func14,by kernel_rfl⟩ (aN (bX 1 (by kernel_rfl) (bZ (.mk (by kernel_rfl) (aoD))))) ⟨⟨[.int .i64],[.arr U.i64]⟩,fun x=>(x.1.1,x.2.1)⟩ (fun x=>rfl) (fun x=>by kernel_rfl)
def anA(y:Int×(List M.ad)){R:Type}(k:Ex->List (AV K)->List (Ob K)->R):R:=match y with
 |a0=>k (Ex.exit 0) (ax.aU D ⟨[.int .i64],[.tree U.Task]⟩ ((a0.1,()),(a0.2,()))) (ax.aY D ⟨[.int .i64],[.tree U.Task]⟩ ((a0.1,()),(a0.2,())))
def aoE:List (bK K (Int×(List M.ad))):=[⟨(Ex.exit 0),⟨[.int .i64],[.tree U.Task]⟩,fun x=>(x.1.1,x.2.1)⟩]
def anB:bD K:=bM D true 96 1 [0,1,5] [1] ⟨[.own 0,.int .i64,.int .i64],[.tree U.Task]⟩ (fun x=>M.amk an x.1.2.1 x.1.2.2.1 x.2.1) anA
def am9(m:Int->(List M.ad)->Option (Int×(List M.ad))):aI K:={f:=39,sh:=⟨[.own 0,.int .i64],[.tree U.Task]⟩,R:=Int×(List M.ad),run:=fun x=>m x.1.2.1 x.2.1,dflt:=default,out:=fun r=>(Sh.enc D (.int .i64) r.1,aB.encs D [.tree U.Task] (r.2,()))}
def amS:Cx K:={aO with mode:=aL .plain [(14,.pass)],deep:=fun c=>dn (D.cells c (K.zero c)),opn:=true,call:=callOf D [amI M.ajI],loop:=aK [(2,anB)]}
theorem anC:aH (amS):=aP aj _ (al am8 (ay))
theorem aoF:bE (amS) (bG (bL Tryz.f39) 0) (anB):=
 bP (cx:=amS) (n:=96) (n0:=1) (ins:=[0,1,5]) (outs:=[1]) (sh:=⟨[.own 0,.int .i64,.int .i64],[.tree U.Task]⟩) (run:=fun n x=>M.amk n x.1.2.1 x.1.2.2.1 x.2.1) (bH:=aoE) (out:=anA) aj (anC) aA (aJ (by kernel_rfl)) (fun _=>rfl) (fun m x=>by kernel_rfl) (al ⟨bQ,fun _ _ _=>rfl⟩ (ay)) true an
theorem aoG:(am9 (M.amv)).Ok D Tryz.prog:=
 aM (cx:=amS) (c:=am9 (M.amv)) (fz:=true) (fn:=Tryz.f39) aj (anC) aA ⟨Tryz.func39,by kernel_rfl⟩ (aN (bX 1 (by kernel_rfl) (bZ (.mk (by kernel_rfl) (aoF))))) ⟨⟨[.int .i64],[.tree U.Task]⟩,fun x=>(x.1.1,x.2.1)⟩ (fun x=>rfl) (fun x=>by kernel_rfl)
def anD(y:Int×(List M.az)){R:Type}(k:Ex->List (AV K)->List (Ob K)->R):R:=match y with
 |a0=>k (Ex.exit 0) (ax.aU D ⟨[.int .i64],[.arr U.Note]⟩ ((a0.1,()),(a0.2,()))) (ax.aY D ⟨[.int .i64],[.arr U.Note]⟩ ((a0.1,()),(a0.2,())))
def aoH:List (bK K (Int×(List M.az))):=[⟨(Ex.exit 0),⟨[.int .i64],[.arr U.Note]⟩,fun x=>(x.1.1,x.2.1)⟩]
def anE:bD K:=bM D true 41 1 [0,1,5] [1] ⟨[.own 0,.int .i64,.int .i64],[.arr U.Note]⟩ (fun x=>M.amx an x.1.2.1 x.1.2.2.1 x.2.1) anD
def ana(m:Int->(List M.az)->Option (Int×(List M.az))):aI K:={f:=40,sh:=⟨[.own 0,.int .i64],[.arr U.Note]⟩,R:=Int×(List M.az),run:=fun x=>m x.1.2.1 x.2.1,dflt:=default,out:=fun r=>(Sh.enc D (.int .i64) r.1,aB.encs D [.arr U.Note] (r.2,()))}
def amT:Cx K:={aO with mode:=aL .plain [],deep:=fun c=>dn (D.cells c (K.zero c)),opn:=true,call:=callOf D [],loop:=aK [(2,anE)]}
theorem anF:aH (amT):=aP aj _ (ay)
theorem aoI:bE (amT) (bG (bL Tryz.f40) 0) (anE):=
 bP (cx:=amT) (n:=41) (n0:=1) (ins:=[0,1,5]) (outs:=[1]) (sh:=⟨[.own 0,.int .i64,.int .i64],[.arr U.Note]⟩) (run:=fun n x=>M.amx n x.1.2.1 x.1.2.2.1 x.2.1) (bH:=aoH) (out:=anD) aj (anF) aA (aJ (by kernel_rfl)) (fun _=>rfl) (fun m x=>by kernel_rfl) (al ⟨bQ,fun _ _ _=>rfl⟩ (ay)) true an
theorem aoJ:(ana (M.amw)).Ok D Tryz.prog:=
 aM (cx:=amT) (c:=ana (M.amw)) (fz:=true) (fn:=Tryz.f40) aj (anF) aA ⟨Tryz.func40,by kernel_rfl⟩ (aN (bX 1 (by kernel_rfl) (bZ (.mk (by kernel_rfl) (aoI))))) ⟨⟨[.int .i64],[.arr U.Note]⟩,fun x=>(x.1.1,x.2.1)⟩ (fun x=>rfl) (fun x=>by kernel_rfl)
def anG(y:(Int)⊕(Int)){R:Type}(k:Ex->List (AV K)->List (Ob K)->R):R:=match y with
 |.inl a0=>k Ex.ret (ax.aU D ⟨[.any,.int .i64],[]⟩ (((),(a0,())),())) (ax.aY D ⟨[.any,.int .i64],[]⟩ (((),(a0,())),()))
 |.inr (a1)=>k (Ex.exit 0) (ax.aU D ⟨[.int .i64,.any],[]⟩ ((a1,((),())),())) (ax.aY D ⟨[.int .i64,.any],[]⟩ ((a1,((),())),()))
def aoK:List (bK K ((Int)⊕(Int))):=[⟨Ex.ret,⟨[.any,.int .i64],[]⟩,fun x=>.inl x.1.2.1⟩,⟨(Ex.exit 0),⟨[.int .i64,.any],[]⟩,fun x=>.inr (x.1.1)⟩]
def anH:bD K:=bM D false 21 0 [0,1,5] [1,4] ⟨[.ah U.i64,.int .i64,.int .i64],[]⟩ (fun x=>M.aml x.1.1 an x.1.2.1 x.1.2.2.1) anG
def anb(m:(List Int)->Int->Option (Int)):aI K:={f:=15,sh:=⟨[.ah U.i64,.int .i64],[]⟩,R:=Int,run:=fun x=>m x.1.1 x.1.2.1,dflt:=default,out:=fun r=>(Sh.enc D (.int .i64) r,aB.encs D [] ())}
def amU:Cx K:={aO with mode:=aL .plain [],call:=callOf D [],loop:=aK [(2,anH)]}
theorem anI:aH (amU):=aP aj _ (ay)
theorem aoL:bE (amU) (bG (bL Tryz.f15) 0) (anH):=
 bP (cx:=amU) (n:=21) (n0:=0) (ins:=[0,1,5]) (outs:=[1,4]) (sh:=⟨[.ah U.i64,.int .i64,.int .i64],[]⟩) (run:=fun n x=>M.aml x.1.1 n x.1.2.1 x.1.2.2.1) (bH:=aoK) (out:=anG) aj (anI) aA (aJ (by kernel_rfl)) (fun _=>rfl) (fun m x=>by kernel_rfl) (al ⟨cz,fun _ _ _=>rfl⟩ (al ⟨bQ,fun _ _ _=>rfl⟩ (ay))) false an
theorem aoM:(anb (M.amz)).Ok D Tryz.prog:=
 aM (cx:=amU) (c:=anb (M.amz)) (fz:=true) (fn:=Tryz.f15) aj (anI) aA ⟨Tryz.func15,by kernel_rfl⟩ (aN (bX 1 (by kernel_rfl) (bZ (.mk (by kernel_rfl) (aoL))))) ⟨⟨[.int .i64],[]⟩,fun x=>x.1.1⟩ (fun x=>rfl) (fun x=>by kernel_rfl)
def Nl(y:(Int)⊕(Int)){R:Type}(k:Ex->List (AV K)->List (Ob K)->R):R:=match y with
 |.inl a0=>k Ex.ret (ax.aU D ⟨[.any,.int .i64],[]⟩ (((),(a0,())),())) (ax.aY D ⟨[.any,.int .i64],[]⟩ (((),(a0,())),()))
 |.inr (a1)=>k (Ex.exit 0) (ax.aU D ⟨[.int .i64,.any],[]⟩ ((a1,((),())),())) (ax.aY D ⟨[.int .i64,.any],[]⟩ ((a1,((),())),()))
def abr:List (bK K ((Int)⊕(Int))):=[⟨Ex.ret,⟨[.any,.int .i64],[]⟩,fun x=>.inl x.1.2.1⟩,⟨(Ex.exit 0),⟨[.int .i64,.any],[]⟩,fun x=>.inr (x.1.1)⟩]
def Nn:bD K:=bM D false 28 0 [0,1,5] [1,4] ⟨[.ah U.str,.int .i64,.int .i64],[]⟩ (fun x=>M.rH x.1.1 an x.1.2.1 x.1.2.2.1) Nl
def EF(m:(List (List UInt8))->Int->Option (Int)):aI K:={f:=131,sh:=⟨[.ah U.str,.int .i64],[]⟩,R:=Int,run:=fun x=>m x.1.1 x.1.2.1,dflt:=default,out:=fun r=>(Sh.enc D (.int .i64) r,aB.encs D [] ())}
def Am:Cx K:={aO with mode:=aL .plain [],call:=callOf D [],loop:=aK [(5,Nn)]}
theorem Np:aH (Am):=aP aj _ (ay)
theorem abt:bE (Am) (bG (bL Tryz.f131) 0) (Nn):=
 bP (cx:=Am) (n:=28) (n0:=0) (ins:=[0,1,5]) (outs:=[1,4]) (sh:=⟨[.ah U.str,.int .i64,.int .i64],[]⟩) (run:=fun n x=>M.rH x.1.1 n x.1.2.1 x.1.2.2.1) (bH:=abr) (out:=Nl) aj (Np) aA (aJ (by kernel_rfl)) (fun _=>rfl) (fun m x=>by kernel_rfl) (al ⟨cz,fun _ _ _=>rfl⟩ (al ⟨bQ,fun _ _ _=>rfl⟩ (ay))) false an
theorem abu:(EF (M.u4)).Ok D Tryz.prog:=
 aM (cx:=Am) (c:=EF (M.u4)) (fz:=true) (fn:=Tryz.f131) aj (Np) aA ⟨Tryz.func131,by kernel_rfl⟩ (aN (bX 1 (by kernel_rfl) (bZ (.mk (by kernel_rfl) (abt))))) ⟨⟨[.int .i64],[]⟩,fun x=>x.1.1⟩ (fun x=>rfl) (fun x=>by kernel_rfl)
def kQ(m:M.aa->Int->Option (Int)):aI K:={f:=82,sh:=⟨[.el U.Type,.int .i64],[]⟩,R:=Int,run:=fun x=>m x.1.1 x.1.2.1,dflt:=default,out:=fun r=>(Sh.enc D (.int .i64) r,aB.encs D [] ())}
def Nq(y:(Int)⊕(Int)){R:Type}(k:Ex->List (AV K)->List (Ob K)->R):R:=match y with
 |.inl a0=>k Ex.ret (ax.aU D ⟨[.any,.int .i64],[]⟩ (((),(a0,())),())) (ax.aY D ⟨[.any,.int .i64],[]⟩ (((),(a0,())),()))
 |.inr (a1)=>k (Ex.exit 0) (ax.aU D ⟨[.int .i64,.any],[]⟩ ((a1,((),())),())) (ax.aY D ⟨[.int .i64,.any],[]⟩ ((a1,((),())),()))
def abv:List (bK K ((Int)⊕(Int))):=[⟨Ex.ret,⟨[.any,.int .i64],[]⟩,fun x=>.inl x.1.2.1⟩,⟨(Ex.exit 0),⟨[.int .i64,.any],[]⟩,fun x=>.inr (x.1.1)⟩]
def Nr(c9:M.aa->Int->Option (Int)):bD K:=bM D false 27 0 [0,1,5] [1,4] ⟨[.ah U.Type,.int .i64,.int .i64],[]⟩ (fun x=>M.rI c9 x.1.1 an x.1.2.1 x.1.2.2.1) Nq
def EG(m:(List M.aa)->Int->Option (Int)):aI K:={f:=132,sh:=⟨[.ah U.Type,.int .i64],[]⟩,R:=Int,run:=fun x=>m x.1.1 x.1.2.1,dflt:=default,out:=fun r=>(Sh.enc D (.int .i64) r,aB.encs D [] ())}
def An(c9:M.aa->Int->Option (Int)):Cx K:={aO with mode:=aL .plain [(82,.plain)],call:=callOf D [kQ c9],loop:=aK [(5,Nr c9)]}
theorem Ns(c9:M.aa->Int->Option (Int))(aj6:(kQ c9).Ok D Tryz.prog):aH (An c9):=aP aj _ (al aj6 (ay))
theorem abw(c9:M.aa->Int->Option (Int))(aj6:(kQ c9).Ok D Tryz.prog):bE (An c9) (bG (bL Tryz.f132) 0) (Nr c9):=
 bP (cx:=An c9) (n:=27) (n0:=0) (ins:=[0,1,5]) (outs:=[1,4]) (sh:=⟨[.ah U.Type,.int .i64,.int .i64],[]⟩) (run:=fun n x=>M.rI c9 x.1.1 n x.1.2.1 x.1.2.2.1) (bH:=abv) (out:=Nq) aj (Ns c9 aj6) aA (aJ (by kernel_rfl)) (fun _=>rfl) (fun m x=>by kernel_rfl) (al ⟨cz,fun _ _ _=>rfl⟩ (al ⟨bQ,fun _ _ _=>rfl⟩ (ay))) false an
theorem abx(c9:M.aa->Int->Option (Int))(aj6:(kQ c9).Ok D Tryz.prog):(EG (M.u5 c9)).Ok D Tryz.prog:=
 aM (cx:=An c9) (c:=EG (M.u5 c9)) (fz:=true) (fn:=Tryz.f132) aj (Ns c9 aj6) aA ⟨Tryz.func132,by kernel_rfl⟩ (aN (bX 1 (by kernel_rfl) (bZ (.mk (by kernel_rfl) (abw c9 aj6))))) ⟨⟨[.int .i64],[]⟩,fun x=>x.1.1⟩ (fun x=>rfl) (fun x=>by kernel_rfl)
def Nu(c9:M.aa->Int->Option (Int)):Cx K:={aO with mode:=aL .plain [(131,.plain),(132,.plain)],call:=callOf D [EF M.u4,EG (M.u5 c9)],loop:=aK []}
theorem aby(c9:M.aa->Int->Option (Int))(aj6:(kQ c9).Ok D Tryz.prog):aH (Nu c9):=aP aj _ (al abu (al (abx c9 aj6) (ay)))
theorem abz(c9:M.aa->Int->Option (Int))(aj6:(kQ c9).Ok D Tryz.prog):(kQ (M.xU c9)).Ok D Tryz.prog:=
 aM (cx:=Nu c9) (c:=kQ (M.xU c9)) (fz:=true) (fn:=Tryz.f82) aj (aby c9 aj6) aA ⟨Tryz.func82,by kernel_rfl⟩ (aN (aJ (by kernel_rfl))) ⟨⟨[.int .i64],[]⟩,fun x=>x.1.1⟩ (fun x=>rfl) (fun x=>by kernel_rfl)
theorem Nv:∀n,(kQ (M.rJ n)).Ok D Tryz.prog
 |0=>ia fun _=>rfl
 |n+1=>abz (M.rJ n) (Nv n)
theorem abA:(kQ (M.Ao)).Ok D Tryz.prog:=Nv an
def Nw(y:(List (List UInt8))){R:Type}(k:Ex->List (AV K)->List (Ob K)->R):R:=match y with
 |a0=>k (Ex.exit 0) (ax.aU D ⟨[.own 1],[.dead,.arr U.str]⟩ (((),()),((),(a0,())))) (ax.aY D ⟨[.own 1],[.dead,.arr U.str]⟩ (((),()),((),(a0,()))))
def abB:List (bK K ((List (List UInt8)))):=[⟨(Ex.exit 0),⟨[.own 1],[.dead,.arr U.str]⟩,fun x=>x.2.2.1⟩]
def Nx:bD K:=bM D false 22 1 [0,3,4] [3] ⟨[.ah U.str,.own 1,.int .i64],[.dead,.arr U.str]⟩ (fun x=>M.pF x.1.1 an x.1.2.2.1 x.2.2.1) Nw
def EH(m:(List (List UInt8))->Option ((List (List UInt8)))):aI K:={f:=145,sh:=⟨[.ah U.str],[]⟩,R:=(List (List UInt8)),run:=fun x=>m x.1.1,dflt:=default,out:=fun r=>(Sh.enc D (.own 0) (),aB.encs D [.arr U.str] (r,()))}
def Ap:Cx K:={aO with mode:=aL .plain [],d5:=[[some U.str]],deep:=fun c=>dn (D.cells c (K.zero c)),call:=callOf D [],loop:=aK [(3,Nx)]}
theorem Ny:aH (Ap):=aP aj _ (ay)
theorem abC:bE (Ap) (bG (bL Tryz.f145) 0) (Nx):=
 bP (cx:=Ap) (n:=22) (n0:=1) (ins:=[0,3,4]) (outs:=[3]) (sh:=⟨[.ah U.str,.own 1,.int .i64],[.dead,.arr U.str]⟩) (run:=fun n x=>M.pF x.1.1 n x.1.2.2.1 x.2.2.1) (bH:=abB) (out:=Nw) aj (Ny) aA (aJ (by kernel_rfl)) (fun _=>rfl) (fun m x=>by kernel_rfl) (al ⟨bQ,fun _ _ _=>rfl⟩ (ay)) false an
theorem abD:(EH (M.u6)).Ok D Tryz.prog:=
 aM (cx:=Ap) (c:=EH (M.u6)) (fz:=false) (fn:=Tryz.f145) aj (Ny) aA ⟨Tryz.func145,by kernel_rfl⟩ (aN (bX 1 (by kernel_rfl) (bZ (.mk (by kernel_rfl) (abC))))) ⟨⟨[.own 0],[.arr U.str]⟩,fun x=>x.2.1⟩ (fun x=>rfl) (fun x=>by kernel_rfl)
def kR(m:M.aa->Option (Int×(List UInt8)×(List (List UInt8))×(List M.aa))):aI K:={f:=106,sh:=⟨[.el U.Type],[]⟩,R:=Int×(List UInt8)×(List (List UInt8))×(List M.aa),run:=fun x=>m x.1.1,dflt:=default,out:=fun r=>(Sh.enc D (.agg [.int .i64,.str,.own 0,.own 1]) (r.1,(r.2.1,((),((),())))),aB.encs D [.arr U.str,.tree U.Type] (r.2.2.1,(r.2.2.2,())))}
def Nz(y:(List M.aa)){R:Type}(k:Ex->List (AV K)->List (Ob K)->R):R:=match y with
 |a0=>k (Ex.exit 0) (ax.aU D ⟨[.own 1],[.dead,.tree U.Type]⟩ (((),()),((),(a0,())))) (ax.aY D ⟨[.own 1],[.dead,.tree U.Type]⟩ (((),()),((),(a0,()))))
def abE:List (bK K ((List M.aa))):=[⟨(Ex.exit 0),⟨[.own 1],[.dead,.tree U.Type]⟩,fun x=>x.2.2.1⟩]
def NA(dc:M.aa->Option (Int×(List UInt8)×(List (List UInt8))×(List M.aa))):bD K:=bM D false 23 1 [0,3,4] [3] ⟨[.ah U.Type,.own 1,.int .i64],[.dead,.tree U.Type]⟩ (fun x=>M.pG dc x.1.1 an x.1.2.2.1 x.2.2.1) Nz
def EI(m:(List M.aa)->Option ((List M.aa))):aI K:={f:=146,sh:=⟨[.ah U.Type],[]⟩,R:=(List M.aa),run:=fun x=>m x.1.1,dflt:=default,out:=fun r=>(Sh.enc D (.own 0) (),aB.encs D [.tree U.Type] (r,()))}
def Aq(dc:M.aa->Option (Int×(List UInt8)×(List (List UInt8))×(List M.aa))):Cx K:={aO with mode:=aL .plain [(106,.fresh)],d5:=[[some U.Type]],deep:=fun c=>dn (D.cells c (K.zero c)),call:=callOf D [kR dc],loop:=aK [(3,NA dc)]}
theorem NB(dc:M.aa->Option (Int×(List UInt8)×(List (List UInt8))×(List M.aa)))(l4:(kR dc).Ok D Tryz.prog):aH (Aq dc):=aP aj _ (al l4 (ay))
theorem abG(dc:M.aa->Option (Int×(List UInt8)×(List (List UInt8))×(List M.aa)))(l4:(kR dc).Ok D Tryz.prog):bE (Aq dc) (bG (bL Tryz.f146) 0) (NA dc):=
 bP (cx:=Aq dc) (n:=23) (n0:=1) (ins:=[0,3,4]) (outs:=[3]) (sh:=⟨[.ah U.Type,.own 1,.int .i64],[.dead,.tree U.Type]⟩) (run:=fun n x=>M.pG dc x.1.1 n x.1.2.2.1 x.2.2.1) (bH:=abE) (out:=Nz) aj (NB dc l4) aA (aJ (by kernel_rfl)) (fun _=>rfl) (fun m x=>by kernel_rfl) (al ⟨bQ,fun _ _ _=>rfl⟩ (ay)) false an
theorem abH(dc:M.aa->Option (Int×(List UInt8)×(List (List UInt8))×(List M.aa)))(l4:(kR dc).Ok D Tryz.prog):(EI (M.u7 dc)).Ok D Tryz.prog:=
 aM (cx:=Aq dc) (c:=EI (M.u7 dc)) (fz:=false) (fn:=Tryz.f146) aj (NB dc l4) aA ⟨Tryz.func146,by kernel_rfl⟩ (aN (bX 1 (by kernel_rfl) (bZ (.mk (by kernel_rfl) (abG dc l4))))) ⟨⟨[.own 0],[.tree U.Type]⟩,fun x=>x.2.1⟩ (fun x=>rfl) (fun x=>by kernel_rfl)
def NC(dc:M.aa->Option (Int×(List UInt8)×(List (List UInt8))×(List M.aa))):Cx K:={aO with mode:=aL .plain [(145,.fresh),(146,.fresh)],d5:=[[none,none,some U.str,some U.Type]],deep:=fun c=>dn (D.cells c (K.zero c)),call:=callOf D [EH M.u6,EI (M.u7 dc)],loop:=aK []}
theorem abI(dc:M.aa->Option (Int×(List UInt8)×(List (List UInt8))×(List M.aa)))(l4:(kR dc).Ok D Tryz.prog):aH (NC dc):=aP aj _ (al abD (al (abH dc l4) (ay)))
theorem abJ(dc:M.aa->Option (Int×(List UInt8)×(List (List UInt8))×(List M.aa)))(l4:(kR dc).Ok D Tryz.prog):(kR (M.xW dc)).Ok D Tryz.prog:=
 aM (cx:=NC dc) (c:=kR (M.xW dc)) (fz:=false) (fn:=Tryz.f106) aj (abI dc l4) aA ⟨Tryz.func106,by kernel_rfl⟩ (aN (aJ (by kernel_rfl))) ⟨⟨[.agg [.int .i64,.str,.own 0,.own 1]],[.arr U.str,.tree U.Type]⟩,fun x=>(x.1.1.1,x.1.1.2.1,x.2.1,x.2.2.1)⟩ (fun x=>rfl) (fun x=>by kernel_rfl)
theorem ND:∀n,(kR (M.rK n)).Ok D Tryz.prog
 |0=>ia fun _=>rfl
 |n+1=>abJ (M.rK n) (ND n)
theorem abK:(kR (M.Ar)).Ok D Tryz.prog:=ND an
def NF(y:(Bool)⊕(Unit)){R:Type}(k:Ex->List (AV K)->List (Ob K)->R):R:=match y with
 |.inl a0=>k Ex.ret (ax.aU D ⟨[.bool],[]⟩ ((a0,()),())) (ax.aY D ⟨[.bool],[]⟩ ((a0,()),()))
 |.inr (a1)=>k (Ex.exit 0) (ax.aU D ⟨[.any],[]⟩ (((),()),())) (ax.aY D ⟨[.any],[]⟩ (((),()),()))
def abL:List (bK K ((Bool)⊕(Unit))):=[⟨Ex.ret,⟨[.bool],[]⟩,fun x=>.inl x.1.1⟩,⟨(Ex.exit 0),⟨[.any],[]⟩,fun x=>.inr (())⟩]
def NG:bD K:=bM D false 26 0 [0,1,5] [4] ⟨[.ah U.str,.ah U.str,.int .i64],[]⟩ (fun x=>M.rL x.1.1 x.1.2.1 an x.1.2.2.1) NF
def EJ(m:(List (List UInt8))->(List (List UInt8))->Option (Bool)):aI K:={f:=162,sh:=⟨[.ah U.str,.ah U.str],[]⟩,R:=Bool,run:=fun x=>m x.1.1 x.1.2.1,dflt:=default,out:=fun r=>(Sh.enc D (.bool) r,aB.encs D [] ())}
def As:Cx K:={aO with mode:=aL .plain [],call:=callOf D [],loop:=aK [(4,NG)]}
theorem NH:aH (As):=aP aj _ (ay)
theorem abM:bE (As) (bG (bL Tryz.f162) 0) (NG):=
 bP (cx:=As) (n:=26) (n0:=0) (ins:=[0,1,5]) (outs:=[4]) (sh:=⟨[.ah U.str,.ah U.str,.int .i64],[]⟩) (run:=fun n x=>M.rL x.1.1 x.1.2.1 n x.1.2.2.1) (bH:=abL) (out:=NF) aj (NH) aA (aJ (by kernel_rfl)) (fun _=>rfl) (fun m x=>by kernel_rfl) (al ⟨cz,fun _ _ _=>rfl⟩ (al ⟨bQ,fun _ _ _=>rfl⟩ (ay))) false an
theorem abN:(EJ (M.u9)).Ok D Tryz.prog:=
 aM (cx:=As) (c:=EJ (M.u9)) (fz:=true) (fn:=Tryz.f162) aj (NH) aA ⟨Tryz.func162,by kernel_rfl⟩ (aN (bX 1 (by kernel_rfl) (bZ (.mk (by kernel_rfl) (abM))))) ⟨⟨[.bool],[]⟩,fun x=>x.1.1⟩ (fun x=>rfl) (fun x=>by kernel_rfl)
def kS(m:M.aa->M.aa->Option (Bool)):aI K:={f:=129,sh:=⟨[.el U.Type,.el U.Type],[]⟩,R:=Bool,run:=fun x=>m x.1.1 x.1.2.1,dflt:=default,out:=fun r=>(Sh.enc D (.bool) r,aB.encs D [] ())}
def NI(y:(Bool)⊕(Unit)){R:Type}(k:Ex->List (AV K)->List (Ob K)->R):R:=match y with
 |.inl a0=>k Ex.ret (ax.aU D ⟨[.bool],[]⟩ ((a0,()),())) (ax.aY D ⟨[.bool],[]⟩ ((a0,()),()))
 |.inr (a1)=>k (Ex.exit 0) (ax.aU D ⟨[.any],[]⟩ (((),()),())) (ax.aY D ⟨[.any],[]⟩ (((),()),()))
def abO:List (bK K ((Bool)⊕(Unit))):=[⟨Ex.ret,⟨[.bool],[]⟩,fun x=>.inl x.1.1⟩,⟨(Ex.exit 0),⟨[.any],[]⟩,fun x=>.inr (())⟩]
def NJ(da:M.aa->M.aa->Option (Bool)):bD K:=bM D false 27 0 [0,1,5] [4] ⟨[.ah U.Type,.ah U.Type,.int .i64],[]⟩ (fun x=>M.rM da x.1.1 x.1.2.1 an x.1.2.2.1) NI
def EK(m:(List M.aa)->(List M.aa)->Option (Bool)):aI K:={f:=163,sh:=⟨[.ah U.Type,.ah U.Type],[]⟩,R:=Bool,run:=fun x=>m x.1.1 x.1.2.1,dflt:=default,out:=fun r=>(Sh.enc D (.bool) r,aB.encs D [] ())}
def Au(da:M.aa->M.aa->Option (Bool)):Cx K:={aO with mode:=aL .plain [(129,.plain)],call:=callOf D [kS da],loop:=aK [(4,NJ da)]}
theorem NK(da:M.aa->M.aa->Option (Bool))(l5:(kS da).Ok D Tryz.prog):aH (Au da):=aP aj _ (al l5 (ay))
theorem abP(da:M.aa->M.aa->Option (Bool))(l5:(kS da).Ok D Tryz.prog):bE (Au da) (bG (bL Tryz.f163) 0) (NJ da):=
 bP (cx:=Au da) (n:=27) (n0:=0) (ins:=[0,1,5]) (outs:=[4]) (sh:=⟨[.ah U.Type,.ah U.Type,.int .i64],[]⟩) (run:=fun n x=>M.rM da x.1.1 x.1.2.1 n x.1.2.2.1) (bH:=abO) (out:=NI) aj (NK da l5) aA (aJ (by kernel_rfl)) (fun _=>rfl) (fun m x=>by kernel_rfl) (al ⟨cz,fun _ _ _=>rfl⟩ (al ⟨bQ,fun _ _ _=>rfl⟩ (ay))) false an
theorem abQ(da:M.aa->M.aa->Option (Bool))(l5:(kS da).Ok D Tryz.prog):(EK (M.va da)).Ok D Tryz.prog:=
 aM (cx:=Au da) (c:=EK (M.va da)) (fz:=true) (fn:=Tryz.f163) aj (NK da l5) aA ⟨Tryz.func163,by kernel_rfl⟩ (aN (bX 1 (by kernel_rfl) (bZ (.mk (by kernel_rfl) (abP da l5))))) ⟨⟨[.bool],[]⟩,fun x=>x.1.1⟩ (fun x=>rfl) (fun x=>by kernel_rfl)
def NL(da:M.aa->M.aa->Option (Bool)):Cx K:={aO with mode:=aL .plain [(162,.plain),(163,.plain)],call:=callOf D [EJ M.u9,EK (M.va da)],loop:=aK []}
theorem abR(da:M.aa->M.aa->Option (Bool))(l5:(kS da).Ok D Tryz.prog):aH (NL da):=aP aj _ (al abN (al (abQ da l5) (ay)))
theorem abS(da:M.aa->M.aa->Option (Bool))(l5:(kS da).Ok D Tryz.prog):(kS (M.xX da)).Ok D Tryz.prog:=
 aM (cx:=NL da) (c:=kS (M.xX da)) (fz:=true) (fn:=Tryz.f129) aj (abR da l5) aA ⟨Tryz.func129,by kernel_rfl⟩ (aN (aJ (by kernel_rfl))) ⟨⟨[.bool],[]⟩,fun x=>x.1.1⟩ (fun x=>rfl) (fun x=>by kernel_rfl)
theorem NM:∀n,(kS (M.rN n)).Ok D Tryz.prog
 |0=>ia fun _=>rfl
 |n+1=>abS (M.rN n) (NM n)
theorem abT:(kS (M.Av)).Ok D Tryz.prog:=NM an
def m7(m:M.aa->Int->Option (Int×Int)):aI K:={f:=165,sh:=⟨[.el U.Type,.int .i64],[]⟩,R:=Int×Int,run:=fun x=>m x.1.1 x.1.2.1,dflt:=default,out:=fun r=>(Sh.enc D (.bu [.int .i64,.int .i64]) (r.1,(r.2,())),aB.encs D [] ())}
def EL(m:Int->Int->Option (Int)):aI K:={f:=185,sh:=⟨[.int .i64,.int .i64],[]⟩,R:=Int,run:=fun x=>m x.1.1 x.1.2.1,dflt:=default,out:=fun r=>(Sh.enc D (.int .i64) r,aB.encs D [] ())}
def NN:Cx K:={aO with mode:=aL .plain [],call:=callOf D [],loop:=aK []}
theorem abU:aH (NN):=aP aj _ (ay)
theorem abV:(EL (M.oP)).Ok D Tryz.prog:=
 aM (cx:=NN) (c:=EL (M.oP)) (fz:=true) (fn:=Tryz.f185) aj (abU) aA ⟨Tryz.func185,by kernel_rfl⟩ (aN (aJ (by kernel_rfl))) ⟨⟨[.int .i64],[]⟩,fun x=>x.1.1⟩ (fun x=>rfl) (fun x=>by kernel_rfl)
def NP(y:(Int×Int)⊕(Int×Int)){R:Type}(k:Ex->List (AV K)->List (Ob K)->R):R:=match y with
 |.inl a0=>k Ex.ret (ax.aU D ⟨[.any,.any,.int .i64,.int .i64],[.dead]⟩ (((),((),(a0.1,(a0.2,())))),((),()))) (ax.aY D ⟨[.any,.any,.int .i64,.int .i64],[.dead]⟩ (((),((),(a0.1,(a0.2,())))),((),())))
 |.inr (a1)=>k (Ex.exit 0) (ax.aU D ⟨[.int .i64,.int .i64,.any,.any],[.dead]⟩ ((a1.1,(a1.2,((),((),())))),((),()))) (ax.aY D ⟨[.int .i64,.int .i64,.any,.any],[.dead]⟩ ((a1.1,(a1.2,((),((),())))),((),())))
def abW:List (bK K ((Int×Int)⊕(Int×Int))):=[⟨Ex.ret,⟨[.any,.any,.int .i64,.int .i64],[.dead]⟩,fun x=>.inl (x.1.2.2.1,x.1.2.2.2.1)⟩,⟨(Ex.exit 0),⟨[.int .i64,.int .i64,.any,.any],[.dead]⟩,fun x=>.inr ((x.1.1,x.1.2.1))⟩]
def NQ(ez:M.aa->Int->Option (Int×Int)):bD K:=bM D false 48 1 [1,2,6,7,8] [6,7,4,5] ⟨[.int .i64,.ptr 0 0,.int .i64,.int .i64,.int .i64],[.el U.Type]⟩ (fun x=>M.oQ ez x.1.1 an x.1.2.2.1 x.1.2.2.2.1 x.1.2.2.2.2.1 x.2.1) NP
def Aw(ez:M.aa->Int->Option (Int×Int)):Cx K:={aO with mode:=aL .plain [(165,.plain),(185,.plain)],call:=callOf D [m7 ez,EL M.oP],loop:=aK [(6,NQ ez)]}
theorem NR(ez:M.aa->Int->Option (Int×Int))(vb:(m7 ez).Ok D Tryz.prog):aH (Aw ez):=aP aj _ (al vb (al abV (ay)))
theorem abX(ez:M.aa->Int->Option (Int×Int))(vb:(m7 ez).Ok D Tryz.prog):bE (Aw ez) (bG (bL Tryz.f165) 0) (NQ ez):=
 bP (cx:=Aw ez) (n:=48) (n0:=1) (ins:=[1,2,6,7,8]) (outs:=[6,7,4,5]) (sh:=⟨[.int .i64,.ptr 0 0,.int .i64,.int .i64,.int .i64],[.el U.Type]⟩) (run:=fun n x=>M.oQ ez x.1.1 n x.1.2.2.1 x.1.2.2.2.1 x.1.2.2.2.2.1 x.2.1) (bH:=abW) (out:=NP) aj (NR ez vb) aA (aJ (by kernel_rfl)) (fun _=>rfl) (fun m x=>by kernel_rfl) (al ⟨cz,fun _ _ _=>rfl⟩ (al ⟨bQ,fun _ _ _=>rfl⟩ (ay))) false an
theorem abY(ez:M.aa->Int->Option (Int×Int))(vb:(m7 ez).Ok D Tryz.prog):(m7 (M.xu ez)).Ok D Tryz.prog:=
 aM (cx:=Aw ez) (c:=m7 (M.xu ez)) (fz:=true) (fn:=Tryz.f165) aj (NR ez vb) aA ⟨Tryz.func165,by kernel_rfl⟩ (aN (bX 1 (by kernel_rfl) (bZ (.mk (by kernel_rfl) (abX ez vb))))) ⟨⟨[.bu [.int .i64,.int .i64]],[]⟩,fun x=>(x.1.1.1,x.1.1.2.1)⟩ (fun x=>rfl) (fun x=>by kernel_rfl)
theorem NS:∀n,(m7 (M.oO n)).Ok D Tryz.prog
 |0=>ia fun _=>rfl
 |n+1=>abY (M.oO n) (NS n)
theorem abZ:(m7 (M.zE)).Ok D Tryz.prog:=NS an
def ke(m:Int->Int->Int->Option (Bool)):aI K:={f:=47,sh:=⟨[.int .i64,.int .i64,.int .i64],[]⟩,R:=Bool,run:=fun x=>m x.1.1 x.1.2.1 x.1.2.2.1,dflt:=default,out:=fun r=>(Sh.enc D (.bool) r,aB.encs D [] ())}
def NT:Cx K:={aO with mode:=aL .plain [],call:=callOf D [],loop:=aK []}
theorem ab1:aH (NT):=aP aj _ (ay)
theorem l6:(ke (M.kf)).Ok D Tryz.prog:=
 aM (cx:=NT) (c:=ke (M.kf)) (fz:=true) (fn:=Tryz.f47) aj (ab1) aA ⟨Tryz.func47,by kernel_rfl⟩ (aN (aJ (by kernel_rfl))) ⟨⟨[.bool],[]⟩,fun x=>x.1.1⟩ (fun x=>rfl) (fun x=>by kernel_rfl)
def NU(y:(Bool)⊕(Unit)){R:Type}(k:Ex->List (AV K)->List (Ob K)->R):R:=match y with
 |.inl a0=>k Ex.ret (ax.aU D ⟨[.bool],[]⟩ ((a0,()),())) (ax.aY D ⟨[.bool],[]⟩ ((a0,()),()))
 |.inr (a1)=>k (Ex.exit 0) (ax.aU D ⟨[.any],[]⟩ (((),()),())) (ax.aY D ⟨[.any],[]⟩ (((),()),()))
def ab2:List (bK K ((Bool)⊕(Unit))):=[⟨Ex.ret,⟨[.bool],[]⟩,fun x=>.inl x.1.1⟩,⟨(Ex.exit 0),⟨[.any],[]⟩,fun x=>.inr (())⟩]
def NV:bD K:=bM D false 69 0 [0,3] [2] ⟨[.str,.int .i64],[]⟩ (fun x=>M.qG x.1.1 an x.1.2.1) NU
def Ax(m:(List UInt8)->Option (Bool)):aI K:={f:=201,sh:=⟨[.str],[]⟩,R:=Bool,run:=fun x=>m x.1.1,dflt:=default,out:=fun r=>(Sh.enc D (.bool) r,aB.encs D [] ())}
def Az:Cx K:={aO with mode:=aL .plain [],call:=callOf D [],loop:=aK [(4,NV)]}
theorem NW:aH (Az):=aP aj _ (ay)
theorem ab3:bE (Az) (bG (bL Tryz.f201) 0) (NV):=
 bP (cx:=Az) (n:=69) (n0:=0) (ins:=[0,3]) (outs:=[2]) (sh:=⟨[.str,.int .i64],[]⟩) (run:=fun n x=>M.qG x.1.1 n x.1.2.1) (bH:=ab2) (out:=NU) aj (NW) aA (aJ (by kernel_rfl)) (fun _=>rfl) (fun m x=>by kernel_rfl) (al ⟨cz,fun _ _ _=>rfl⟩ (al ⟨bQ,fun _ _ _=>rfl⟩ (ay))) false an
theorem NY:(Ax (M.oH)).Ok D Tryz.prog:=
 aM (cx:=Az) (c:=Ax (M.oH)) (fz:=true) (fn:=Tryz.f201) aj (NW) aA ⟨Tryz.func201,by kernel_rfl⟩ (aN (bX 1 (by kernel_rfl) (bZ (.mk (by kernel_rfl) (ab3))))) ⟨⟨[.bool],[]⟩,fun x=>x.1.1⟩ (fun x=>rfl) (fun x=>by kernel_rfl)
def NZ(y:(Bool)⊕((List (List UInt8))×Int)){R:Type}(k:Ex->List (AV K)->List (Ob K)->R):R:=match y with
 |.inl a0=>k Ex.ret (ax.aU D ⟨[.any,.any,.bool],[]⟩ (((),((),(a0,()))),())) (ax.aY D ⟨[.any,.any,.bool],[]⟩ (((),((),(a0,()))),()))
 |.inr (a1)=>k (Ex.exit 2) (ax.aU D ⟨[.ah U.str,.int .i64,.any],[]⟩ ((a1.1,(a1.2,((),()))),())) (ax.aY D ⟨[.ah U.str,.int .i64,.any],[]⟩ ((a1.1,(a1.2,((),()))),()))
def ab4:List (bK K ((Bool)⊕((List (List UInt8))×Int))):=[⟨Ex.ret,⟨[.any,.any,.bool],[]⟩,fun x=>.inl x.1.2.2.1⟩,⟨(Ex.exit 2),⟨[.ah U.str,.int .i64,.any],[]⟩,fun x=>.inr ((x.1.1,x.1.2.1))⟩]
def N2:bD K:=bM D false 39 0 [0,3,4] [0,3,2] ⟨[.ah U.str,.int .i64,.int .i64],[]⟩ (fun x=>M.oI x.1.1 x.1.2.1 an x.1.2.2.1) NZ
def N3(y:(Bool)⊕(Unit)){R:Type}(k:Ex->List (AV K)->List (Ob K)->R):R:=match y with
 |.inl a0=>k Ex.ret (ax.aU D ⟨[.bool],[]⟩ ((a0,()),())) (ax.aY D ⟨[.bool],[]⟩ ((a0,()),()))
 |.inr (a1)=>k (Ex.exit 0) (ax.aU D ⟨[.any],[]⟩ (((),()),())) (ax.aY D ⟨[.any],[]⟩ (((),()),()))
def ab5:List (bK K ((Bool)⊕(Unit))):=[⟨Ex.ret,⟨[.bool],[]⟩,fun x=>.inl x.1.1⟩,⟨(Ex.exit 0),⟨[.any],[]⟩,fun x=>.inr (())⟩]
def N4:bD K:=bM D false 39 0 [0,3] [2] ⟨[.ah U.str,.int .i64],[]⟩ (fun x=>M.akp an x.1.1 x.1.2.1) N3
def EM(m:(List (List UInt8))->Option (Bool)):aI K:={f:=202,sh:=⟨[.ah U.str],[]⟩,R:=Bool,run:=fun x=>m x.1.1,dflt:=default,out:=fun r=>(Sh.enc D (.bool) r,aB.encs D [] ())}
def vc:Cx K:={aO with mode:=aL .plain [(201,.plain)],call:=callOf D [Ax M.oH],loop:=aK [(9,N2),(4,N4)]}
theorem EN:aH (vc):=aP aj _ (al NY (ay))
theorem ab6:bE (vc) (bG (bG (bL Tryz.f202) 0) 0) (N2):=
 bP (cx:=vc) (n:=39) (n0:=0) (ins:=[0,3,4]) (outs:=[0,3,2]) (sh:=⟨[.ah U.str,.int .i64,.int .i64],[]⟩) (run:=fun n x=>M.oI x.1.1 x.1.2.1 n x.1.2.2.1) (bH:=ab4) (out:=NZ) aj (EN) aA (aJ (by kernel_rfl)) (fun _=>rfl) (fun m x=>by kernel_rfl) (al ⟨cz,fun _ _ _=>rfl⟩ (al ⟨bQ,fun _ _ _=>rfl⟩ (ay))) false an
theorem ab7:bE (vc) (bG (bL Tryz.f202) 0) (N4):=
 bP (cx:=vc) (n:=39) (n0:=0) (ins:=[0,3]) (outs:=[2]) (sh:=⟨[.ah U.str,.int .i64],[]⟩) (run:=fun n x=>M.akp n x.1.1 x.1.2.1) (bH:=ab5) (out:=N3) aj (EN) aA (bX 1 (by kernel_rfl) (bZ (.mk (by kernel_rfl) (ab6)))) (fun _=>rfl) (fun m x=>by kernel_rfl) (al ⟨cz,fun _ _ _=>rfl⟩ (al ⟨bQ,fun _ _ _=>rfl⟩ (ay))) false an
theorem ab8:(EM (M.tJ)).Ok D Tryz.prog:=
 aM (cx:=vc) (c:=EM (M.tJ)) (fz:=true) (fn:=Tryz.f202) aj (EN) aA ⟨Tryz.func202,by kernel_rfl⟩ (aN (bX 1 (by kernel_rfl) (bZ (.mk (by kernel_rfl) (ab7))))) ⟨⟨[.bool],[]⟩,fun x=>x.1.1⟩ (fun x=>rfl) (fun x=>by kernel_rfl)
def N5(y:(Bool)⊕(Unit)){R:Type}(k:Ex->List (AV K)->List (Ob K)->R):R:=match y with
 |.inl a0=>k Ex.ret (ax.aU D ⟨[.bool],[.dead]⟩ ((a0,()),((),()))) (ax.aY D ⟨[.bool],[.dead]⟩ ((a0,()),((),())))
 |.inr (a1)=>k (Ex.exit 0) (ax.aU D ⟨[.any],[.dead]⟩ (((),()),((),()))) (ax.aY D ⟨[.any],[.dead]⟩ (((),()),((),())))
def ab9:List (bK K ((Bool)⊕(Unit))):=[⟨Ex.ret,⟨[.bool],[.dead]⟩,fun x=>.inl x.1.1⟩,⟨(Ex.exit 0),⟨[.any],[.dead]⟩,fun x=>.inr (())⟩]
def N6:bD K:=bM D false 18 1 [1,3] [2] ⟨[.ptr 0 0,.int .i64],[.el U.Type]⟩ (fun x=>M.lJ an x.1.2.1 x.2.1) N5
def EO(m:M.aa->Option (Bool)):aI K:={f:=203,sh:=⟨[.el U.Type],[]⟩,R:=Bool,run:=fun x=>m x.1.1,dflt:=default,out:=fun r=>(Sh.enc D (.bool) r,aB.encs D [] ())}
def AA:Cx K:={aO with mode:=aL .plain [],call:=callOf D [],loop:=aK [(2,N6)]}
theorem N7:aH (AA):=aP aj _ (ay)
theorem aca:bE (AA) (bG (bL Tryz.f203) 0) (N6):=
 bP (cx:=AA) (n:=18) (n0:=1) (ins:=[1,3]) (outs:=[2]) (sh:=⟨[.ptr 0 0,.int .i64],[.el U.Type]⟩) (run:=fun n x=>M.lJ n x.1.2.1 x.2.1) (bH:=ab9) (out:=N5) aj (N7) aA (aJ (by kernel_rfl)) (fun _=>rfl) (fun m x=>by kernel_rfl) (al ⟨cz,fun _ _ _=>rfl⟩ (al ⟨bQ,fun _ _ _=>rfl⟩ (ay))) false an
theorem acb:(EO (M.oJ)).Ok D Tryz.prog:=
 aM (cx:=AA) (c:=EO (M.oJ)) (fz:=true) (fn:=Tryz.f203) aj (N7) aA ⟨Tryz.func203,by kernel_rfl⟩ (aN (bX 1 (by kernel_rfl) (bZ (.mk (by kernel_rfl) (aca))))) ⟨⟨[.bool],[]⟩,fun x=>x.1.1⟩ (fun x=>rfl) (fun x=>by kernel_rfl)
def l7(m:M.aa->Int->Int->Option (Bool)):aI K:={f:=136,sh:=⟨[.el U.Type,.int .i64,.int .i64],[]⟩,R:=Bool,run:=fun x=>m x.1.1 x.1.2.1 x.1.2.2.1,dflt:=default,out:=fun r=>(Sh.enc D (.bool) r,aB.encs D [] ())}
def N8(y:(Bool)⊕(Unit)){R:Type}(k:Ex->List (AV K)->List (Ob K)->R):R:=match y with
 |.inl a0=>k Ex.ret (ax.aU D ⟨[.bool],[.dead]⟩ ((a0,()),((),()))) (ax.aY D ⟨[.bool],[.dead]⟩ ((a0,()),((),())))
 |.inr (a1)=>k (Ex.exit 0) (ax.aU D ⟨[.any],[.dead]⟩ (((),()),((),()))) (ax.aY D ⟨[.any],[.dead]⟩ (((),()),((),())))
def acd:List (bK K ((Bool)⊕(Unit))):=[⟨Ex.ret,⟨[.bool],[.dead]⟩,fun x=>.inl x.1.1⟩,⟨(Ex.exit 0),⟨[.any],[.dead]⟩,fun x=>.inr (())⟩]
def N9(eA:M.aa->Int->Int->Option (Bool)):bD K:=bM D false 28 1 [1,2,3,7] [6] ⟨[.int .i64,.int .i64,.ptr 0 0,.int .i64],[.el U.Type]⟩ (fun x=>M.lK eA x.1.1 x.1.2.1 an x.1.2.2.2.1 x.2.1) N8
def AB(eA:M.aa->Int->Int->Option (Bool)):Cx K:={aO with mode:=aL .plain [(47,.plain),(136,.plain)],call:=callOf D [ke M.kf,l7 eA],loop:=aK [(4,N9 eA)]}
theorem Oa(eA:M.aa->Int->Int->Option (Bool))(vd:(l7 eA).Ok D Tryz.prog):aH (AB eA):=aP aj _ (al l6 (al vd (ay)))
theorem ace(eA:M.aa->Int->Int->Option (Bool))(vd:(l7 eA).Ok D Tryz.prog):bE (AB eA) (bG (bL Tryz.f136) 0) (N9 eA):=
 bP (cx:=AB eA) (n:=28) (n0:=1) (ins:=[1,2,3,7]) (outs:=[6]) (sh:=⟨[.int .i64,.int .i64,.ptr 0 0,.int .i64],[.el U.Type]⟩) (run:=fun n x=>M.lK eA x.1.1 x.1.2.1 n x.1.2.2.2.1 x.2.1) (bH:=acd) (out:=N8) aj (Oa eA vd) aA (aJ (by kernel_rfl)) (fun _=>rfl) (fun m x=>by kernel_rfl) (al ⟨cz,fun _ _ _=>rfl⟩ (al ⟨bQ,fun _ _ _=>rfl⟩ (ay))) false an
theorem acf(eA:M.aa->Int->Int->Option (Bool))(vd:(l7 eA).Ok D Tryz.prog):(l7 (M.xm eA)).Ok D Tryz.prog:=
 aM (cx:=AB eA) (c:=l7 (M.xm eA)) (fz:=true) (fn:=Tryz.f136) aj (Oa eA vd) aA ⟨Tryz.func136,by kernel_rfl⟩ (aN (bX 1 (by kernel_rfl) (bZ (.mk (by kernel_rfl) (ace eA vd))))) ⟨⟨[.bool],[]⟩,fun x=>x.1.1⟩ (fun x=>rfl) (fun x=>by kernel_rfl)
theorem Oc:∀n,(l7 (M.kM n)).Ok D Tryz.prog
 |0=>ia fun _=>rfl
 |n+1=>acf (M.kM n) (Oc n)
theorem Oe:(l7 (M.lM)).Ok D Tryz.prog:=Oc an
def EP(m:M.aa->Option (Bool)):aI K:={f:=186,sh:=⟨[.el U.Type],[]⟩,R:=Bool,run:=fun x=>m x.1.1,dflt:=default,out:=fun r=>(Sh.enc D (.bool) r,aB.encs D [] ())}
def Of:Cx K:={aO with mode:=aL .plain [(47,.plain),(201,.plain),(202,.plain),(203,.plain),(136,.plain)],call:=callOf D [ke M.kf,Ax M.oH,EM M.tJ,EO M.oJ,l7 M.lM],loop:=aK []}
theorem acg:aH (Of):=aP aj _ (al l6 (al NY (al ab8 (al acb (al Oe (ay))))))
theorem ach:(EP (M.tU)).Ok D Tryz.prog:=
 aM (cx:=Of) (c:=EP (M.tU)) (fz:=true) (fn:=Tryz.f186) aj (acg) aA ⟨Tryz.func186,by kernel_rfl⟩ (aN (aJ (by kernel_rfl))) ⟨⟨[.bool],[]⟩,fun x=>x.1.1⟩ (fun x=>rfl) (fun x=>by kernel_rfl)
def m8(m:M.aa->Option (Bool)):aI K:={f:=166,sh:=⟨[.el U.Type],[]⟩,R:=Bool,run:=fun x=>m x.1.1,dflt:=default,out:=fun r=>(Sh.enc D (.bool) r,aB.encs D [] ())}
def Og(y:(Bool)⊕(Unit)){R:Type}(k:Ex->List (AV K)->List (Ob K)->R):R:=match y with
 |.inl a0=>k Ex.ret (ax.aU D ⟨[.bool],[.dead]⟩ ((a0,()),((),()))) (ax.aY D ⟨[.bool],[.dead]⟩ ((a0,()),((),())))
 |.inr (a1)=>k (Ex.exit 0) (ax.aU D ⟨[.any],[.dead]⟩ (((),()),((),()))) (ax.aY D ⟨[.any],[.dead]⟩ (((),()),((),())))
def aci:List (bK K ((Bool)⊕(Unit))):=[⟨Ex.ret,⟨[.bool],[.dead]⟩,fun x=>.inl x.1.1⟩,⟨(Ex.exit 0),⟨[.any],[.dead]⟩,fun x=>.inr (())⟩]
def Oh(eB:M.aa->Option (Bool)):bD K:=bM D false 21 1 [1,3] [2] ⟨[.ptr 0 0,.int .i64],[.el U.Type]⟩ (fun x=>M.lO eB an x.1.2.1 x.2.1) Og
def AD(eB:M.aa->Option (Bool)):Cx K:={aO with mode:=aL .plain [(186,.plain),(166,.plain)],call:=callOf D [EP M.tU,m8 eB],loop:=aK [(4,Oh eB)]}
theorem Oi(eB:M.aa->Option (Bool))(ve:(m8 eB).Ok D Tryz.prog):aH (AD eB):=aP aj _ (al ach (al ve (ay)))
theorem acj(eB:M.aa->Option (Bool))(ve:(m8 eB).Ok D Tryz.prog):bE (AD eB) (bG (bL Tryz.f166) 0) (Oh eB):=
 bP (cx:=AD eB) (n:=21) (n0:=1) (ins:=[1,3]) (outs:=[2]) (sh:=⟨[.ptr 0 0,.int .i64],[.el U.Type]⟩) (run:=fun n x=>M.lO eB n x.1.2.1 x.2.1) (bH:=aci) (out:=Og) aj (Oi eB ve) aA (aJ (by kernel_rfl)) (fun _=>rfl) (fun m x=>by kernel_rfl) (al ⟨cz,fun _ _ _=>rfl⟩ (al ⟨bQ,fun _ _ _=>rfl⟩ (ay))) false an
theorem ack(eB:M.aa->Option (Bool))(ve:(m8 eB).Ok D Tryz.prog):(m8 (M.xy eB)).Ok D Tryz.prog:=
 aM (cx:=AD eB) (c:=m8 (M.xy eB)) (fz:=true) (fn:=Tryz.f166) aj (Oi eB ve) aA ⟨Tryz.func166,by kernel_rfl⟩ (aN (bX 1 (by kernel_rfl) (bZ (.mk (by kernel_rfl) (acj eB ve))))) ⟨⟨[.bool],[]⟩,fun x=>x.1.1⟩ (fun x=>rfl) (fun x=>by kernel_rfl)
theorem Oj:∀n,(m8 (M.lN n)).Ok D Tryz.prog
 |0=>ia fun _=>rfl
 |n+1=>ack (M.lN n) (Oj n)
theorem acm:(m8 (M.zD)).Ok D Tryz.prog:=Oj an
def m9(m:M.aa->Int->Option (Int)):aI K:={f:=174,sh:=⟨[.el U.Type,.int .i64],[]⟩,R:=Int,run:=fun x=>m x.1.1 x.1.2.1,dflt:=default,out:=fun r=>(Sh.enc D (.int .i64) r,aB.encs D [] ())}
def Ol(y:Int){R:Type}(k:Ex->List (AV K)->List (Ob K)->R):R:=match y with
 |a0=>k (Ex.exit 0) (ax.aU D ⟨[.int .i64],[]⟩ ((a0,()),())) (ax.aY D ⟨[.int .i64],[]⟩ ((a0,()),()))
def acn:List (bK K (Int)):=[⟨(Ex.exit 0),⟨[.int .i64],[]⟩,fun x=>x.1.1⟩]
def Om(eJ:M.aa->Int->Option (Int)):bD K:=bM D false 26 0 [1,5,11,12,13] [5] ⟨[.int .i64,.int .i64,.ah U.Type,.int .i64,.int .i64],[]⟩ (fun x=>M.oN eJ x.1.1 x.1.2.2.1 x.1.2.2.2.1 an x.1.2.1 x.1.2.2.2.2.1) Ol
def AE(eJ:M.aa->Int->Option (Int)):Cx K:={aO with mode:=aL .plain [(174,.plain)],call:=callOf D [m9 eJ],loop:=aK [(5,Om eJ)]}
theorem On(eJ:M.aa->Int->Option (Int))(vf:(m9 eJ).Ok D Tryz.prog):aH (AE eJ):=aP aj _ (al vf (ay))
theorem aco(eJ:M.aa->Int->Option (Int))(vf:(m9 eJ).Ok D Tryz.prog):bE (AE eJ) (bG (bL Tryz.f174) 0) (Om eJ):=
 bP (cx:=AE eJ) (n:=26) (n0:=0) (ins:=[1,5,11,12,13]) (outs:=[5]) (sh:=⟨[.int .i64,.int .i64,.ah U.Type,.int .i64,.int .i64],[]⟩) (run:=fun n x=>M.oN eJ x.1.1 x.1.2.2.1 x.1.2.2.2.1 n x.1.2.1 x.1.2.2.2.2.1) (bH:=acn) (out:=Ol) aj (On eJ vf) aA (aJ (by kernel_rfl)) (fun _=>rfl) (fun m x=>by kernel_rfl) (al ⟨bQ,fun _ _ _=>rfl⟩ (ay)) false an
theorem acp(eJ:M.aa->Int->Option (Int))(vf:(m9 eJ).Ok D Tryz.prog):(m9 (M.xt eJ)).Ok D Tryz.prog:=
 aM (cx:=AE eJ) (c:=m9 (M.xt eJ)) (fz:=true) (fn:=Tryz.f174) aj (On eJ vf) aA ⟨Tryz.func174,by kernel_rfl⟩ (aN (bX 1 (by kernel_rfl) (bZ (.mk (by kernel_rfl) (aco eJ vf))))) ⟨⟨[.int .i64],[]⟩,fun x=>x.1.1⟩ (fun x=>rfl) (fun x=>by kernel_rfl)
theorem Oo:∀n,(m9 (M.oM n)).Ok D Tryz.prog
 |0=>ia fun _=>rfl
 |n+1=>acp (M.oM n) (Oo n)
theorem acr:(m9 (M.zG)).Ok D Tryz.prog:=Oo an
def na(m:M.aa->Option (Int)):aI K:={f:=175,sh:=⟨[.el U.Type],[]⟩,R:=Int,run:=fun x=>m x.1.1,dflt:=default,out:=fun r=>(Sh.enc D (.int .i64) r,aB.encs D [] ())}
def Oq(y:Int){R:Type}(k:Ex->List (AV K)->List (Ob K)->R):R:=match y with
 |a0=>k (Ex.exit 0) (ax.aU D ⟨[.int .i64],[]⟩ ((a0,()),())) (ax.aY D ⟨[.int .i64],[]⟩ ((a0,()),()))
def acs:List (bK K (Int)):=[⟨(Ex.exit 0),⟨[.int .i64],[]⟩,fun x=>x.1.1⟩]
def Ot(eK:M.aa->Option (Int)):bD K:=bM D false 19 0 [3,7,8,9] [3] ⟨[.int .i64,.ah U.Type,.int .i64,.int .i64],[]⟩ (fun x=>M.oL eK x.1.2.1 x.1.2.2.1 an x.1.1 x.1.2.2.2.1) Oq
def AG(eK:M.aa->Option (Int)):Cx K:={aO with mode:=aL .plain [(175,.plain)],call:=callOf D [na eK],loop:=aK [(3,Ot eK)]}
theorem Ou(eK:M.aa->Option (Int))(vg:(na eK).Ok D Tryz.prog):aH (AG eK):=aP aj _ (al vg (ay))
theorem acu(eK:M.aa->Option (Int))(vg:(na eK).Ok D Tryz.prog):bE (AG eK) (bG (bL Tryz.f175) 0) (Ot eK):=
 bP (cx:=AG eK) (n:=19) (n0:=0) (ins:=[3,7,8,9]) (outs:=[3]) (sh:=⟨[.int .i64,.ah U.Type,.int .i64,.int .i64],[]⟩) (run:=fun n x=>M.oL eK x.1.2.1 x.1.2.2.1 n x.1.1 x.1.2.2.2.1) (bH:=acs) (out:=Oq) aj (Ou eK vg) aA (aJ (by kernel_rfl)) (fun _=>rfl) (fun m x=>by kernel_rfl) (al ⟨bQ,fun _ _ _=>rfl⟩ (ay)) false an
theorem acv(eK:M.aa->Option (Int))(vg:(na eK).Ok D Tryz.prog):(na (M.xr eK)).Ok D Tryz.prog:=
 aM (cx:=AG eK) (c:=na (M.xr eK)) (fz:=true) (fn:=Tryz.f175) aj (Ou eK vg) aA ⟨Tryz.func175,by kernel_rfl⟩ (aN (bX 1 (by kernel_rfl) (bZ (.mk (by kernel_rfl) (acu eK vg))))) ⟨⟨[.int .i64],[]⟩,fun x=>x.1.1⟩ (fun x=>rfl) (fun x=>by kernel_rfl)
theorem Ov:∀n,(na (M.oK n)).Ok D Tryz.prog
 |0=>ia fun _=>rfl
 |n+1=>acv (M.oK n) (Ov n)
theorem acw:(na (M.zH)).Ok D Tryz.prog:=Ov an
def iT(m:M.aa->Option (Bool)):aI K:={f:=176,sh:=⟨[.el U.Type],[]⟩,R:=Bool,run:=fun x=>m x.1.1,dflt:=default,out:=fun r=>(Sh.enc D (.bool) r,aB.encs D [] ())}
def ER(m:M.aa->Option (Bool)):aI K:={f:=193,sh:=⟨[.el U.Type],[]⟩,R:=Bool,run:=fun x=>m x.1.1,dflt:=default,out:=fun r=>(Sh.enc D (.bool) r,aB.encs D [] ())}
def Ox(cb:M.aa->Option (Bool)):Cx K:={aO with mode:=aL .plain [(176,.plain)],call:=callOf D [iT cb],loop:=aK []}
theorem acx(cb:M.aa->Option (Bool))(gP:(iT cb).Ok D Tryz.prog):aH (Ox cb):=aP aj _ (al gP (ay))
theorem acy(cb:M.aa->Option (Bool))(gP:(iT cb).Ok D Tryz.prog):(ER (M.tY cb)).Ok D Tryz.prog:=
 aM (cx:=Ox cb) (c:=ER (M.tY cb)) (fz:=true) (fn:=Tryz.f193) aj (acx cb gP) aA ⟨Tryz.func193,by kernel_rfl⟩ (aN (aJ (by kernel_rfl))) ⟨⟨[.bool],[]⟩,fun x=>x.1.1⟩ (fun x=>rfl) (fun x=>by kernel_rfl)
def Oy(y:(Int)⊕(Unit)){R:Type}(k:Ex->List (AV K)->List (Ob K)->R):R:=match y with
 |.inl a0=>k Ex.ret (ax.aU D ⟨[.int .i64],[]⟩ ((a0,()),())) (ax.aY D ⟨[.int .i64],[]⟩ ((a0,()),()))
 |.inr (a1)=>k (Ex.exit 0) (ax.aU D ⟨[.any],[]⟩ (((),()),())) (ax.aY D ⟨[.any],[]⟩ (((),()),()))
def acz:List (bK K ((Int)⊕(Unit))):=[⟨Ex.ret,⟨[.int .i64],[]⟩,fun x=>.inl x.1.1⟩,⟨(Ex.exit 0),⟨[.any],[]⟩,fun x=>.inr (())⟩]
def Oz(cb:M.aa->Option (Bool)):bD K:=bM D false 19 0 [0,1,7,8] [4] ⟨[.ah U.Type,.fn 193 [],.int .i64,.int .i64],[]⟩ (fun x=>M.qN cb x.1.1 x.1.2.2.1 an x.1.2.2.2.1) Oy
def ES(m:(List M.aa)->Option (Int)):aI K:={f:=198,sh:=⟨[.ah U.Type,.fn 193 []],[]⟩,R:=Int,run:=fun x=>m x.1.1,dflt:=default,out:=fun r=>(Sh.enc D (.int .i64) r,aB.encs D [] ())}
def AH(cb:M.aa->Option (Bool)):Cx K:={aO with mode:=aL .plain [(193,.plain)],call:=callOf D [ER (M.tY cb)],loop:=aK [(2,Oz cb)]}
theorem OA(cb:M.aa->Option (Bool))(gP:(iT cb).Ok D Tryz.prog):aH (AH cb):=aP aj _ (al (acy cb gP) (ay))
theorem acA(cb:M.aa->Option (Bool))(gP:(iT cb).Ok D Tryz.prog):bE (AH cb) (bG (bL Tryz.f198) 0) (Oz cb):=
 bP (cx:=AH cb) (n:=19) (n0:=0) (ins:=[0,1,7,8]) (outs:=[4]) (sh:=⟨[.ah U.Type,.fn 193 [],.int .i64,.int .i64],[]⟩) (run:=fun n x=>M.qN cb x.1.1 x.1.2.2.1 n x.1.2.2.2.1) (bH:=acz) (out:=Oy) aj (OA cb gP) aA (aJ (by kernel_rfl)) (fun _=>rfl) (fun m x=>by kernel_rfl) (al ⟨cz,fun _ _ _=>rfl⟩ (al ⟨bQ,fun _ _ _=>rfl⟩ (ay))) false an
theorem acB(cb:M.aa->Option (Bool))(gP:(iT cb).Ok D Tryz.prog):(ES (M.xA cb)).Ok D Tryz.prog:=
 aM (cx:=AH cb) (c:=ES (M.xA cb)) (fz:=true) (fn:=Tryz.f198) aj (OA cb gP) aA ⟨Tryz.func198,by kernel_rfl⟩ (aN (bX 1 (by kernel_rfl) (bZ (.mk (by kernel_rfl) (acA cb gP))))) ⟨⟨[.int .i64],[]⟩,fun x=>x.1.1⟩ (fun x=>rfl) (fun x=>by kernel_rfl)
def ET(m:(List M.aa)->Option (Bool)):aI K:={f:=177,sh:=⟨[.ah U.Type,.fn 193 []],[]⟩,R:=Bool,run:=fun x=>m x.1.1,dflt:=default,out:=fun r=>(Sh.enc D (.bool) r,aB.encs D [] ())}
def OB(cb:M.aa->Option (Bool)):Cx K:={aO with mode:=aL .plain [(198,.plain)],call:=callOf D [ES (M.xA cb)],loop:=aK []}
theorem acC(cb:M.aa->Option (Bool))(gP:(iT cb).Ok D Tryz.prog):aH (OB cb):=aP aj _ (al (acB cb gP) (ay))
theorem acD(cb:M.aa->Option (Bool))(gP:(iT cb).Ok D Tryz.prog):(ET (M.qM cb)).Ok D Tryz.prog:=
 aM (cx:=OB cb) (c:=ET (M.qM cb)) (fz:=true) (fn:=Tryz.f177) aj (acC cb gP) aA ⟨Tryz.func177,by kernel_rfl⟩ (aN (aJ (by kernel_rfl))) ⟨⟨[.bool],[]⟩,fun x=>x.1.1⟩ (fun x=>rfl) (fun x=>by kernel_rfl)
def gq(m:Int->Int->Int->Option (Bool)):aI K:={f:=65,sh:=⟨[.int .i64,.int .i64,.int .i64],[]⟩,R:=Bool,run:=fun x=>m x.1.1 x.1.2.1 x.1.2.2.1,dflt:=default,out:=fun r=>(Sh.enc D (.bool) r,aB.encs D [] ())}
def OC:Cx K:={aO with mode:=aL .plain [],call:=callOf D [],loop:=aK []}
theorem acE:aH (OC):=aP aj _ (ay)
theorem ib:(gq (M.gu)).Ok D Tryz.prog:=
 aM (cx:=OC) (c:=gq (M.gu)) (fz:=true) (fn:=Tryz.f65) aj (acE) aA ⟨Tryz.func65,by kernel_rfl⟩ (aN (aJ (by kernel_rfl))) ⟨⟨[.bool],[]⟩,fun x=>x.1.1⟩ (fun x=>rfl) (fun x=>by kernel_rfl)
def xY(m:(List (List UInt8))->Option (Int)):aI K:={f:=181,sh:=⟨[.ah U.str],[]⟩,R:=Int,run:=fun x=>m x.1.1,dflt:=default,out:=fun r=>(Sh.enc D (.int .i64) r,aB.encs D [] ())}
def OD:Cx K:={aO with mode:=aL .plain [],call:=callOf D [],loop:=aK []}
theorem acF:aH (OD):=aP aj _ (ay)
theorem EU:(xY (M.xZ)).Ok D Tryz.prog:=
 aM (cx:=OD) (c:=xY (M.xZ)) (fz:=true) (fn:=Tryz.f181) aj (acF) aA ⟨Tryz.func181,by kernel_rfl⟩ (aN (aJ (by kernel_rfl))) ⟨⟨[.int .i64],[]⟩,fun x=>x.1.1⟩ (fun x=>rfl) (fun x=>by kernel_rfl)
def OE(y:(Bool)⊕((List UInt8))){R:Type}(k:Ex->List (AV K)->List (Ob K)->R):R:=match y with
 |.inl a0=>k Ex.ret (ax.aU D ⟨[.any,.bool],[]⟩ (((),(a0,())),())) (ax.aY D ⟨[.any,.bool],[]⟩ (((),(a0,())),()))
 |.inr (a1)=>k (Ex.exit 0) (ax.aU D ⟨[.str,.any],[]⟩ ((a1,((),())),())) (ax.aY D ⟨[.str,.any],[]⟩ ((a1,((),())),()))
def acG:List (bK K ((Bool)⊕((List UInt8)))):=[⟨Ex.ret,⟨[.any,.bool],[]⟩,fun x=>.inl x.1.2.1⟩,⟨(Ex.exit 0),⟨[.str,.any],[]⟩,fun x=>.inr (x.1.1)⟩]
def OF:bD K:=bM D false 75 0 [0,7,8] [0,2] ⟨[.str,.int .i64,.int .i64],[]⟩ (fun x=>M.oG x.1.1 x.1.2.1 an x.1.2.2.1) OE
def AI(m:(List UInt8)->Option (Bool)):aI K:={f:=195,sh:=⟨[.str],[]⟩,R:=Bool,run:=fun x=>m x.1.1,dflt:=default,out:=fun r=>(Sh.enc D (.bool) r,aB.encs D [] ())}
def AK:Cx K:={aO with mode:=aL .plain [],call:=callOf D [],loop:=aK [(2,OF)]}
theorem OG:aH (AK):=aP aj _ (ay)
theorem acH:bE (AK) (bG (bL Tryz.f195) 0) (OF):=
 bP (cx:=AK) (n:=75) (n0:=0) (ins:=[0,7,8]) (outs:=[0,2]) (sh:=⟨[.str,.int .i64,.int .i64],[]⟩) (run:=fun n x=>M.oG x.1.1 x.1.2.1 n x.1.2.2.1) (bH:=acG) (out:=OE) aj (OG) aA (aJ (by kernel_rfl)) (fun _=>rfl) (fun m x=>by kernel_rfl) (al ⟨cz,fun _ _ _=>rfl⟩ (al ⟨bQ,fun _ _ _=>rfl⟩ (ay))) false an
theorem OH:(AI (M.oD)).Ok D Tryz.prog:=
 aM (cx:=AK) (c:=AI (M.oD)) (fz:=true) (fn:=Tryz.f195) aj (OG) aA ⟨Tryz.func195,by kernel_rfl⟩ (aN (bX 1 (by kernel_rfl) (bZ (.mk (by kernel_rfl) (acH))))) ⟨⟨[.bool],[]⟩,fun x=>x.1.1⟩ (fun x=>rfl) (fun x=>by kernel_rfl)
def EV(m:(List UInt8)->Option (Bool)):aI K:={f:=207,sh:=⟨[.str],[]⟩,R:=Bool,run:=fun x=>m x.1.1,dflt:=default,out:=fun r=>(Sh.enc D (.bool) r,aB.encs D [] ())}
def OI:Cx K:={aO with mode:=aL .plain [(195,.plain)],call:=callOf D [AI M.oD],loop:=aK []}
theorem acI:aH (OI):=aP aj _ (al OH (ay))
theorem acJ:(EV (M.tL)).Ok D Tryz.prog:=
 aM (cx:=OI) (c:=EV (M.tL)) (fz:=true) (fn:=Tryz.f207) aj (acI) aA ⟨Tryz.func207,by kernel_rfl⟩ (aN (aJ (by kernel_rfl))) ⟨⟨[.bool],[]⟩,fun x=>x.1.1⟩ (fun x=>rfl) (fun x=>by kernel_rfl)
def OJ(y:(Int)⊕(Unit)){R:Type}(k:Ex->List (AV K)->List (Ob K)->R):R:=match y with
 |.inl a0=>k Ex.ret (ax.aU D ⟨[.int .i64],[]⟩ ((a0,()),())) (ax.aY D ⟨[.int .i64],[]⟩ ((a0,()),()))
 |.inr (a1)=>k (Ex.exit 0) (ax.aU D ⟨[.any],[]⟩ (((),()),())) (ax.aY D ⟨[.any],[]⟩ (((),()),()))
def acK:List (bK K ((Int)⊕(Unit))):=[⟨Ex.ret,⟨[.int .i64],[]⟩,fun x=>.inl x.1.1⟩,⟨(Ex.exit 0),⟨[.any],[]⟩,fun x=>.inr (())⟩]
def OK:bD K:=bM D false 19 0 [0,1,7,8] [4] ⟨[.ah U.str,.fn 207 [],.int .i64,.int .i64],[]⟩ (fun x=>M.qI x.1.1 x.1.2.2.1 an x.1.2.2.2.1) OJ
def EW(m:(List (List UInt8))->Option (Int)):aI K:={f:=214,sh:=⟨[.ah U.str,.fn 207 []],[]⟩,R:=Int,run:=fun x=>m x.1.1,dflt:=default,out:=fun r=>(Sh.enc D (.int .i64) r,aB.encs D [] ())}
def AL:Cx K:={aO with mode:=aL .plain [(207,.plain)],call:=callOf D [EV M.tL],loop:=aK [(2,OK)]}
theorem OL:aH (AL):=aP aj _ (al acJ (ay))
theorem acL:bE (AL) (bG (bL Tryz.f214) 0) (OK):=
 bP (cx:=AL) (n:=19) (n0:=0) (ins:=[0,1,7,8]) (outs:=[4]) (sh:=⟨[.ah U.str,.fn 207 [],.int .i64,.int .i64],[]⟩) (run:=fun n x=>M.qI x.1.1 x.1.2.2.1 n x.1.2.2.2.1) (bH:=acK) (out:=OJ) aj (OL) aA (aJ (by kernel_rfl)) (fun _=>rfl) (fun m x=>by kernel_rfl) (al ⟨cz,fun _ _ _=>rfl⟩ (al ⟨bQ,fun _ _ _=>rfl⟩ (ay))) false an
theorem acM:(EW (M.xl)).Ok D Tryz.prog:=
 aM (cx:=AL) (c:=EW (M.xl)) (fz:=true) (fn:=Tryz.f214) aj (OL) aA ⟨Tryz.func214,by kernel_rfl⟩ (aN (bX 1 (by kernel_rfl) (bZ (.mk (by kernel_rfl) (acL))))) ⟨⟨[.int .i64],[]⟩,fun x=>x.1.1⟩ (fun x=>rfl) (fun x=>by kernel_rfl)
def EX(m:(List (List UInt8))->Option (Bool)):aI K:={f:=206,sh:=⟨[.ah U.str,.fn 207 []],[]⟩,R:=Bool,run:=fun x=>m x.1.1,dflt:=default,out:=fun r=>(Sh.enc D (.bool) r,aB.encs D [] ())}
def OM:Cx K:={aO with mode:=aL .plain [(214,.plain)],call:=callOf D [EW M.xl],loop:=aK []}
theorem acN:aH (OM):=aP aj _ (al acM (ay))
theorem acO:(EX (M.tM)).Ok D Tryz.prog:=
 aM (cx:=OM) (c:=EX (M.tM)) (fz:=true) (fn:=Tryz.f206) aj (acN) aA ⟨Tryz.func206,by kernel_rfl⟩ (aN (aJ (by kernel_rfl))) ⟨⟨[.bool],[]⟩,fun x=>x.1.1⟩ (fun x=>rfl) (fun x=>by kernel_rfl)
def EY(m:(List (List UInt8))->Option (Bool)):aI K:={f:=194,sh:=⟨[.ah U.str],[]⟩,R:=Bool,run:=fun x=>m x.1.1,dflt:=default,out:=fun r=>(Sh.enc D (.bool) r,aB.encs D [] ())}
def ON:Cx K:={aO with mode:=aL .plain [(181,.plain),(65,.plain),(205,.plain),(206,.plain)],call:=callOf D [xY M.xZ,gq M.gu,Du M.nP,EX M.tM],loop:=aK []}
theorem acP:aH (ON):=aP aj _ (al EU (al ib (al XY (al acO (ay)))))
theorem acQ:(EY (M.tK)).Ok D Tryz.prog:=
 aM (cx:=ON) (c:=EY (M.tK)) (fz:=true) (fn:=Tryz.f194) aj (acP) aA ⟨Tryz.func194,by kernel_rfl⟩ (aN (aJ (by kernel_rfl))) ⟨⟨[.bool],[]⟩,fun x=>x.1.1⟩ (fun x=>rfl) (fun x=>by kernel_rfl)
def amJ(m:(List M.aa)->Option (Int)):aI K:={f:=197,sh:=⟨[.ah U.Type],[]⟩,R:=Int,run:=fun x=>m x.1.1,dflt:=default,out:=fun r=>(Sh.enc D (.int .i64) r,aB.encs D [] ())}
def OO:Cx K:={aO with mode:=aL .plain [],call:=callOf D [],loop:=aK []}
theorem acR:aH (OO):=aP aj _ (ay)
theorem EZ:(amJ (M.amK)).Ok D Tryz.prog:=
 aM (cx:=OO) (c:=amJ (M.amK)) (fz:=true) (fn:=Tryz.f197) aj (acR) aA ⟨Tryz.func197,by kernel_rfl⟩ (aN (aJ (by kernel_rfl))) ⟨⟨[.int .i64],[]⟩,fun x=>x.1.1⟩ (fun x=>rfl) (fun x=>by kernel_rfl)
def amL(m:M.aa->Option (Bool)):aI K:={f:=154,sh:=⟨[.el U.Type],[]⟩,R:=Bool,run:=fun x=>m x.1.1,dflt:=default,out:=fun r=>(Sh.enc D (.bool) r,aB.encs D [] ())}
def OP:Cx K:={aO with mode:=aL .plain [],call:=callOf D [],loop:=aK []}
theorem acS:aH (OP):=aP aj _ (ay)
theorem E0:(amL (M.x6)).Ok D Tryz.prog:=
 aM (cx:=OP) (c:=amL (M.x6)) (fz:=true) (fn:=Tryz.f154) aj (acS) aA ⟨Tryz.func154,by kernel_rfl⟩ (aN (aJ (by kernel_rfl))) ⟨⟨[.bool],[]⟩,fun x=>x.1.1⟩ (fun x=>rfl) (fun x=>by kernel_rfl)
def OQ(y:(Int)⊕(Unit)){R:Type}(k:Ex->List (AV K)->List (Ob K)->R):R:=match y with
 |.inl a0=>k Ex.ret (ax.aU D ⟨[.int .i64],[]⟩ ((a0,()),())) (ax.aY D ⟨[.int .i64],[]⟩ ((a0,()),()))
 |.inr (a1)=>k (Ex.exit 0) (ax.aU D ⟨[.any],[]⟩ (((),()),())) (ax.aY D ⟨[.any],[]⟩ (((),()),()))
def acT:List (bK K ((Int)⊕(Unit))):=[⟨Ex.ret,⟨[.int .i64],[]⟩,fun x=>.inl x.1.1⟩,⟨(Ex.exit 0),⟨[.any],[]⟩,fun x=>.inr (())⟩]
def OR:bD K:=bM D false 19 0 [0,1,7,8] [4] ⟨[.ah U.Type,.fn 154 [],.int .i64,.int .i64],[]⟩ (fun x=>M.qL x.1.1 x.1.2.2.1 an x.1.2.2.2.1) OQ
def E1(m:(List M.aa)->Option (Int)):aI K:={f:=198,sh:=⟨[.ah U.Type,.fn 154 []],[]⟩,R:=Int,run:=fun x=>m x.1.1,dflt:=default,out:=fun r=>(Sh.enc D (.int .i64) r,aB.encs D [] ())}
def AM:Cx K:={aO with mode:=aL .plain [(154,.plain)],call:=callOf D [amL M.x6],loop:=aK [(2,OR)]}
theorem OS:aH (AM):=aP aj _ (al E0 (ay))
theorem acU:bE (AM) (bG (bL Tryz.f198) 0) (OR):=
 bP (cx:=AM) (n:=19) (n0:=0) (ins:=[0,1,7,8]) (outs:=[4]) (sh:=⟨[.ah U.Type,.fn 154 [],.int .i64,.int .i64],[]⟩) (run:=fun n x=>M.qL x.1.1 x.1.2.2.1 n x.1.2.2.2.1) (bH:=acT) (out:=OQ) aj (OS) aA (aJ (by kernel_rfl)) (fun _=>rfl) (fun m x=>by kernel_rfl) (al ⟨cz,fun _ _ _=>rfl⟩ (al ⟨bQ,fun _ _ _=>rfl⟩ (ay))) false an
theorem acV:(E1 (M.xz)).Ok D Tryz.prog:=
 aM (cx:=AM) (c:=E1 (M.xz)) (fz:=true) (fn:=Tryz.f198) aj (OS) aA ⟨Tryz.func198,by kernel_rfl⟩ (aN (bX 1 (by kernel_rfl) (bZ (.mk (by kernel_rfl) (acU))))) ⟨⟨[.int .i64],[]⟩,fun x=>x.1.1⟩ (fun x=>rfl) (fun x=>by kernel_rfl)
def E2(m:(List M.aa)->Option (Bool)):aI K:={f:=177,sh:=⟨[.ah U.Type,.fn 154 []],[]⟩,R:=Bool,run:=fun x=>m x.1.1,dflt:=default,out:=fun r=>(Sh.enc D (.bool) r,aB.encs D [] ())}
def OT:Cx K:={aO with mode:=aL .plain [(198,.plain)],call:=callOf D [E1 M.xz],loop:=aK []}
theorem acW:aH (OT):=aP aj _ (al acV (ay))
theorem acX:(E2 (M.tW)).Ok D Tryz.prog:=
 aM (cx:=OT) (c:=E2 (M.tW)) (fz:=true) (fn:=Tryz.f177) aj (acW) aA ⟨Tryz.func177,by kernel_rfl⟩ (aN (aJ (by kernel_rfl))) ⟨⟨[.bool],[]⟩,fun x=>x.1.1⟩ (fun x=>rfl) (fun x=>by kernel_rfl)
def E3(m:M.aa->Int->Option (Bool)):aI K:={f:=196,sh:=⟨[.el U.Type,.int .i64],[]⟩,R:=Bool,run:=fun x=>m x.1.1 x.1.2.1,dflt:=default,out:=fun r=>(Sh.enc D (.bool) r,aB.encs D [] ())}
def OU:Cx K:={aO with mode:=aL .plain [(197,.plain),(177,.plain)],call:=callOf D [amJ M.amK,E2 M.tW],loop:=aK []}
theorem acY:aH (OU):=aP aj _ (al EZ (al acX (ay)))
theorem acZ:(E3 (M.mV)).Ok D Tryz.prog:=
 aM (cx:=OU) (c:=E3 (M.mV)) (fz:=true) (fn:=Tryz.f196) aj (acY) aA ⟨Tryz.func196,by kernel_rfl⟩ (aN (aJ (by kernel_rfl))) ⟨⟨[.bool],[]⟩,fun x=>x.1.1⟩ (fun x=>rfl) (fun x=>by kernel_rfl)
def OV(y:(Int)⊕(Unit)){R:Type}(k:Ex->List (AV K)->List (Ob K)->R):R:=match y with
 |.inl a0=>k Ex.ret (ax.aU D ⟨[.int .i64],[]⟩ ((a0,()),())) (ax.aY D ⟨[.int .i64],[]⟩ ((a0,()),()))
 |.inr (a1)=>k (Ex.exit 0) (ax.aU D ⟨[.any],[]⟩ (((),()),())) (ax.aY D ⟨[.any],[]⟩ (((),()),()))
def ac0:List (bK K ((Int)⊕(Unit))):=[⟨Ex.ret,⟨[.int .i64],[]⟩,fun x=>.inl x.1.1⟩,⟨(Ex.exit 0),⟨[.any],[]⟩,fun x=>.inr (())⟩]
def OW:bD K:=bM D false 19 0 [0,1,7,8] [4] ⟨[.ah U.i64,.int .i64,.int .i64,.int .i64],[]⟩ (fun x=>M.qJ x.1.1 x.1.2.1 x.1.2.2.1 an x.1.2.2.2.1) OV
def E4(m:(List Int)->Int->Option (Int)):aI K:={f:=123,sh:=⟨[.ah U.i64,.int .i64],[]⟩,R:=Int,run:=fun x=>m x.1.1 x.1.2.1,dflt:=default,out:=fun r=>(Sh.enc D (.int .i64) r,aB.encs D [] ())}
def AN:Cx K:={aO with mode:=aL .plain [],call:=callOf D [],loop:=aK [(2,OW)]}
theorem OX:aH (AN):=aP aj _ (ay)
theorem ac1:bE (AN) (bG (bL Tryz.f123) 0) (OW):=
 bP (cx:=AN) (n:=19) (n0:=0) (ins:=[0,1,7,8]) (outs:=[4]) (sh:=⟨[.ah U.i64,.int .i64,.int .i64,.int .i64],[]⟩) (run:=fun n x=>M.qJ x.1.1 x.1.2.1 x.1.2.2.1 n x.1.2.2.2.1) (bH:=ac0) (out:=OV) aj (OX) aA (aJ (by kernel_rfl)) (fun _=>rfl) (fun m x=>by kernel_rfl) (al ⟨cz,fun _ _ _=>rfl⟩ (al ⟨bQ,fun _ _ _=>rfl⟩ (ay))) false an
theorem ac2:(E4 (M.xo)).Ok D Tryz.prog:=
 aM (cx:=AN) (c:=E4 (M.xo)) (fz:=true) (fn:=Tryz.f123) aj (OX) aA ⟨Tryz.func123,by kernel_rfl⟩ (aN (bX 1 (by kernel_rfl) (bZ (.mk (by kernel_rfl) (ac1))))) ⟨⟨[.int .i64],[]⟩,fun x=>x.1.1⟩ (fun x=>rfl) (fun x=>by kernel_rfl)
def x7(m:(List Int)->Int->Option (Bool)):aI K:={f:=69,sh:=⟨[.ah U.i64,.int .i64],[]⟩,R:=Bool,run:=fun x=>m x.1.1 x.1.2.1,dflt:=default,out:=fun r=>(Sh.enc D (.bool) r,aB.encs D [] ())}
def OY:Cx K:={aO with mode:=aL .plain [(123,.plain)],call:=callOf D [E4 M.xo],loop:=aK []}
theorem ac3:aH (OY):=aP aj _ (al ac2 (ay))
theorem E5:(x7 (M.kN)).Ok D Tryz.prog:=
 aM (cx:=OY) (c:=x7 (M.kN)) (fz:=true) (fn:=Tryz.f69) aj (ac3) aA ⟨Tryz.func69,by kernel_rfl⟩ (aN (aJ (by kernel_rfl))) ⟨⟨[.bool],[]⟩,fun x=>x.1.1⟩ (fun x=>rfl) (fun x=>by kernel_rfl)
def iE(m:M.aa->(List Int)->Option (Bool)):aI K:={f:=155,sh:=⟨[.el U.Type,.ah U.i64],[]⟩,R:=Bool,run:=fun x=>m x.1.1 x.1.2.1,dflt:=default,out:=fun r=>(Sh.enc D (.bool) r,aB.encs D [] ())}
def E6(m:M.aa->(List Int)->Option (Bool)):aI K:={f:=178,sh:=⟨[.el U.Type,.rp U.ka 0],[]⟩,R:=Bool,run:=fun x=>m x.1.1 x.1.2.1,dflt:=default,out:=fun r=>(Sh.enc D (.bool) r,aB.encs D [] ())}
def OZ(cg:M.aa->(List Int)->Option (Bool)):Cx K:={aO with mode:=aL .plain [(155,.plain)],call:=callOf D [iE cg],loop:=aK []}
theorem ac4(cg:M.aa->(List Int)->Option (Bool))(gQ:(iE cg).Ok D Tryz.prog):aH (OZ cg):=aP aj _ (al gQ (ay))
theorem ac5(cg:M.aa->(List Int)->Option (Bool))(gQ:(iE cg).Ok D Tryz.prog):(E6 (M.tO cg)).Ok D Tryz.prog:=
 aM (cx:=OZ cg) (c:=E6 (M.tO cg)) (fz:=true) (fn:=Tryz.f178) aj (ac4 cg gQ) aA ⟨Tryz.func178,by kernel_rfl⟩ (aN (aJ (by kernel_rfl))) ⟨⟨[.bool],[]⟩,fun x=>x.1.1⟩ (fun x=>rfl) (fun x=>by kernel_rfl)
def O0(y:(Int)⊕(Unit)){R:Type}(k:Ex->List (AV K)->List (Ob K)->R):R:=match y with
 |.inl a0=>k Ex.ret (ax.aU D ⟨[.int .i64],[]⟩ ((a0,()),())) (ax.aY D ⟨[.int .i64],[]⟩ ((a0,()),()))
 |.inr (a1)=>k (Ex.exit 0) (ax.aU D ⟨[.any],[]⟩ (((),()),())) (ax.aY D ⟨[.any],[]⟩ (((),()),()))
def ac6:List (bK K ((Int)⊕(Unit))):=[⟨Ex.ret,⟨[.int .i64],[]⟩,fun x=>.inl x.1.1⟩,⟨(Ex.exit 0),⟨[.any],[]⟩,fun x=>.inr (())⟩]
def O1(cg:M.aa->(List Int)->Option (Bool)):bD K:=bM D false 19 0 [0,1,7,8] [4] ⟨[.ah U.Type,.fn 178 [.rp U.ka 0],.int .i64,.int .i64],[]⟩ (fun x=>M.qK cg x.1.1 x.1.2.1.1 x.1.2.2.1 an x.1.2.2.2.1) O0
def E7(m:(List M.aa)->(List Int)->Option (Int)):aI K:={f:=198,sh:=⟨[.ah U.Type,.fn 178 [.rp U.ka 0]],[]⟩,R:=Int,run:=fun x=>m x.1.1 x.1.2.1.1,dflt:=default,out:=fun r=>(Sh.enc D (.int .i64) r,aB.encs D [] ())}
def AO(cg:M.aa->(List Int)->Option (Bool)):Cx K:={aO with mode:=aL .plain [(178,.plain)],call:=callOf D [E6 (M.tO cg)],loop:=aK [(2,O1 cg)]}
theorem O2(cg:M.aa->(List Int)->Option (Bool))(gQ:(iE cg).Ok D Tryz.prog):aH (AO cg):=aP aj _ (al (ac5 cg gQ) (ay))
theorem ac7(cg:M.aa->(List Int)->Option (Bool))(gQ:(iE cg).Ok D Tryz.prog):bE (AO cg) (bG (bL Tryz.f198) 0) (O1 cg):=
 bP (cx:=AO cg) (n:=19) (n0:=0) (ins:=[0,1,7,8]) (outs:=[4]) (sh:=⟨[.ah U.Type,.fn 178 [.rp U.ka 0],.int .i64,.int .i64],[]⟩) (run:=fun n x=>M.qK cg x.1.1 x.1.2.1.1 x.1.2.2.1 n x.1.2.2.2.1) (bH:=ac6) (out:=O0) aj (O2 cg gQ) aA (aJ (by kernel_rfl)) (fun _=>rfl) (fun m x=>by kernel_rfl) (al ⟨cz,fun _ _ _=>rfl⟩ (al ⟨bQ,fun _ _ _=>rfl⟩ (ay))) false an
theorem ac8(cg:M.aa->(List Int)->Option (Bool))(gQ:(iE cg).Ok D Tryz.prog):(E7 (M.xp cg)).Ok D Tryz.prog:=
 aM (cx:=AO cg) (c:=E7 (M.xp cg)) (fz:=true) (fn:=Tryz.f198) aj (O2 cg gQ) aA ⟨Tryz.func198,by kernel_rfl⟩ (aN (bX 1 (by kernel_rfl) (bZ (.mk (by kernel_rfl) (ac7 cg gQ))))) ⟨⟨[.int .i64],[]⟩,fun x=>x.1.1⟩ (fun x=>rfl) (fun x=>by kernel_rfl)
def E8(m:(List M.aa)->(List Int)->Option (Bool)):aI K:={f:=177,sh:=⟨[.ah U.Type,.fn 178 [.rp U.ka 0]],[]⟩,R:=Bool,run:=fun x=>m x.1.1 x.1.2.1.1,dflt:=default,out:=fun r=>(Sh.enc D (.bool) r,aB.encs D [] ())}
def O3(cg:M.aa->(List Int)->Option (Bool)):Cx K:={aO with mode:=aL .plain [(198,.plain)],call:=callOf D [E7 (M.xp cg)],loop:=aK []}
theorem ac9(cg:M.aa->(List Int)->Option (Bool))(gQ:(iE cg).Ok D Tryz.prog):aH (O3 cg):=aP aj _ (al (ac8 cg gQ) (ay))
theorem ada(cg:M.aa->(List Int)->Option (Bool))(gQ:(iE cg).Ok D Tryz.prog):(E8 (M.tP cg)).Ok D Tryz.prog:=
 aM (cx:=O3 cg) (c:=E8 (M.tP cg)) (fz:=true) (fn:=Tryz.f177) aj (ac9 cg gQ) aA ⟨Tryz.func177,by kernel_rfl⟩ (aN (aJ (by kernel_rfl))) ⟨⟨[.bool],[]⟩,fun x=>x.1.1⟩ (fun x=>rfl) (fun x=>by kernel_rfl)
def O4(cg:M.aa->(List Int)->Option (Bool)):Cx K:={aO with mode:=aL .plain [(69,.plain),(177,.plain)],call:=callOf D [x7 M.kN,E8 (M.tP cg)],loop:=aK []}
theorem adb(cg:M.aa->(List Int)->Option (Bool))(gQ:(iE cg).Ok D Tryz.prog):aH (O4 cg):=aP aj _ (al E5 (al (ada cg gQ) (ay)))
theorem ade(cg:M.aa->(List Int)->Option (Bool))(gQ:(iE cg).Ok D Tryz.prog):(iE (M.xq cg)).Ok D Tryz.prog:=
 aM (cx:=O4 cg) (c:=iE (M.xq cg)) (fz:=true) (fn:=Tryz.f155) aj (adb cg gQ) aA ⟨Tryz.func155,by kernel_rfl⟩ (aN (aJ (by kernel_rfl))) ⟨⟨[.bool],[]⟩,fun x=>x.1.1⟩ (fun x=>rfl) (fun x=>by kernel_rfl)
theorem O5:∀n,(iE (M.lL n)).Ok D Tryz.prog
 |0=>ia fun _=>rfl
 |n+1=>ade (M.lL n) (O5 n)
theorem O6:(iE (M.lP)).Ok D Tryz.prog:=O5 an
def O7(cb:M.aa->Option (Bool)):Cx K:={aO with mode:=aL .plain [(177,.plain),(65,.plain),(194,.plain),(195,.plain),(196,.plain),(197,.plain),(181,.plain),(155,.plain)],call:=callOf D [ET (M.qM cb),gq M.gu,EY M.tK,AI M.oD,E3 M.mV,amJ M.amK,xY M.xZ,iE M.lP],loop:=aK []}
theorem adf(cb:M.aa->Option (Bool))(gP:(iT cb).Ok D Tryz.prog):aH (O7 cb):=aP aj _ (al (acD cb gP) (al ib (al acQ (al OH (al acZ (al EZ (al EU (al O6 (ay)))))))))
theorem adg(cb:M.aa->Option (Bool))(gP:(iT cb).Ok D Tryz.prog):(iT (M.tX cb)).Ok D Tryz.prog:=
 aM (cx:=O7 cb) (c:=iT (M.tX cb)) (fz:=true) (fn:=Tryz.f176) aj (adf cb gP) aA ⟨Tryz.func176,by kernel_rfl⟩ (aN (aJ (by kernel_rfl))) ⟨⟨[.bool],[]⟩,fun x=>x.1.1⟩ (fun x=>rfl) (fun x=>by kernel_rfl)
theorem O8:∀n,(iT (M.mW n)).Ok D Tryz.prog
 |0=>ia fun _=>rfl
 |n+1=>adg (M.mW n) (O8 n)
theorem adh:(iT (M.zF)).Ok D Tryz.prog:=O8 an
def AP(m:M.aa->Option (Bool)):aI K:={f:=135,sh:=⟨[.el U.Type],[]⟩,R:=Bool,run:=fun x=>m x.1.1,dflt:=default,out:=fun r=>(Sh.enc D (.bool) r,aB.encs D [] ())}
def O9:Cx K:={aO with mode:=aL .plain [(165,.plain),(166,.plain)],call:=callOf D [m7 M.zE,m8 M.zD],loop:=aK []}
theorem adi:aH (O9):=aP aj _ (al abZ (al acm (ay)))
theorem Pe:(AP (M.oR)).Ok D Tryz.prog:=
 aM (cx:=O9) (c:=AP (M.oR)) (fz:=true) (fn:=Tryz.f135) aj (adi) aA ⟨Tryz.func135,by kernel_rfl⟩ (aN (aJ (by kernel_rfl))) ⟨⟨[.bool],[]⟩,fun x=>x.1.1⟩ (fun x=>rfl) (fun x=>by kernel_rfl)
def E9(m:M.aa->Option (Bool)):aI K:={f:=85,sh:=⟨[.el U.Type],[]⟩,R:=Bool,run:=fun x=>m x.1.1,dflt:=default,out:=fun r=>(Sh.enc D (.bool) r,aB.encs D [] ())}
def Pg:Cx K:={aO with mode:=aL .plain [(135,.plain),(136,.plain)],call:=callOf D [AP M.oR,l7 M.lM],loop:=aK []}
theorem adk:aH (Pg):=aP aj _ (al Pe (al Oe (ay)))
theorem adl:(E9 (M.uj)).Ok D Tryz.prog:=
 aM (cx:=Pg) (c:=E9 (M.uj)) (fz:=true) (fn:=Tryz.f85) aj (adk) aA ⟨Tryz.func85,by kernel_rfl⟩ (aN (aJ (by kernel_rfl))) ⟨⟨[.bool],[]⟩,fun x=>x.1.1⟩ (fun x=>rfl) (fun x=>by kernel_rfl)
def Fa(m:M.aa->Option (Bool)):aI K:={f:=167,sh:=⟨[.el U.Type],[]⟩,R:=Bool,run:=fun x=>m x.1.1,dflt:=default,out:=fun r=>(Sh.enc D (.bool) r,aB.encs D [] ())}
def Ph:Cx K:={aO with mode:=aL .plain [(135,.plain)],call:=callOf D [AP M.oR],loop:=aK []}
theorem adm:aH (Ph):=aP aj _ (al Pe (ay))
theorem adn:(Fa (M.tV)).Ok D Tryz.prog:=
 aM (cx:=Ph) (c:=Fa (M.tV)) (fz:=true) (fn:=Tryz.f167) aj (adm) aA ⟨Tryz.func167,by kernel_rfl⟩ (aN (aJ (by kernel_rfl))) ⟨⟨[.bool],[]⟩,fun x=>x.1.1⟩ (fun x=>rfl) (fun x=>by kernel_rfl)
def gR(m:M.af->M.aa->Option (Bool)):aI K:={f:=168,sh:=⟨[.el U.Value,.el U.Type],[]⟩,R:=Bool,run:=fun x=>m x.1.1 x.1.2.1,dflt:=default,out:=fun r=>(Sh.enc D (.bool) r,aB.encs D [] ())}
def Fb(m:(List M.af)->M.aa->Option (Bool)):aI K:={f:=192,sh:=⟨[.ah U.Value,.el U.Type],[]⟩,R:=Bool,run:=fun x=>m x.1.1 x.1.2.1,dflt:=default,out:=fun r=>(Sh.enc D (.bool) r,aB.encs D [] ())}
def Pj(bw:M.af->M.aa->Option (Bool)):Cx K:={aO with mode:=aL .plain [(168,.plain)],call:=callOf D [gR bw],loop:=aK []}
theorem ado(bw:M.af->M.aa->Option (Bool))(fk:(gR bw).Ok D Tryz.prog):aH (Pj bw):=aP aj _ (al fk (ay))
theorem adp(bw:M.af->M.aa->Option (Bool))(fk:(gR bw).Ok D Tryz.prog):(Fb (M.qT bw)).Ok D Tryz.prog:=
 aM (cx:=Pj bw) (c:=Fb (M.qT bw)) (fz:=true) (fn:=Tryz.f192) aj (ado bw fk) aA ⟨Tryz.func192,by kernel_rfl⟩ (aN (aJ (by kernel_rfl))) ⟨⟨[.bool],[]⟩,fun x=>x.1.1⟩ (fun x=>rfl) (fun x=>by kernel_rfl)
def Pl(y:(Bool)⊕(Unit)){R:Type}(k:Ex->List (AV K)->List (Ob K)->R):R:=match y with
 |.inl a0=>k Ex.ret (ax.aU D ⟨[.bool],[.dead]⟩ ((a0,()),((),()))) (ax.aY D ⟨[.bool],[.dead]⟩ ((a0,()),((),())))
 |.inr (a1)=>k (Ex.exit 0) (ax.aU D ⟨[.any],[.dead]⟩ (((),()),((),()))) (ax.aY D ⟨[.any],[.dead]⟩ (((),()),((),())))
def adq:List (bK K ((Bool)⊕(Unit))):=[⟨Ex.ret,⟨[.bool],[.dead]⟩,fun x=>.inl x.1.1⟩,⟨(Ex.exit 0),⟨[.any],[.dead]⟩,fun x=>.inr (())⟩]
def Pm(bw:M.af->M.aa->Option (Bool)):bD K:=bM D false 25 1 [0,5,7] [6] ⟨[.ah U.Value,.ptr 0 0,.int .i64],[.el U.Type]⟩ (fun x=>M.lV bw x.1.1 an x.1.2.2.1 x.2.1) Pl
def Fe(m:(List M.af)->Int->M.aa->Option (Bool)):aI K:={f:=187,sh:=⟨[.ah U.Value,.int .i64,.el U.Type],[]⟩,R:=Bool,run:=fun x=>m x.1.1 x.1.2.1 x.1.2.2.1,dflt:=default,out:=fun r=>(Sh.enc D (.bool) r,aB.encs D [] ())}
def AQ(bw:M.af->M.aa->Option (Bool)):Cx K:={aO with mode:=aL .plain [(168,.plain)],call:=callOf D [gR bw],loop:=aK [(4,Pm bw)]}
theorem Pn(bw:M.af->M.aa->Option (Bool))(fk:(gR bw).Ok D Tryz.prog):aH (AQ bw):=aP aj _ (al fk (ay))
theorem adr(bw:M.af->M.aa->Option (Bool))(fk:(gR bw).Ok D Tryz.prog):bE (AQ bw) (bG (bL Tryz.f187) 0) (Pm bw):=
 bP (cx:=AQ bw) (n:=25) (n0:=1) (ins:=[0,5,7]) (outs:=[6]) (sh:=⟨[.ah U.Value,.ptr 0 0,.int .i64],[.el U.Type]⟩) (run:=fun n x=>M.lV bw x.1.1 n x.1.2.2.1 x.2.1) (bH:=adq) (out:=Pl) aj (Pn bw fk) aA (aJ (by kernel_rfl)) (fun _=>rfl) (fun m x=>by kernel_rfl) (al ⟨cz,fun _ _ _=>rfl⟩ (al ⟨bQ,fun _ _ _=>rfl⟩ (ay))) false an
theorem ads(bw:M.af->M.aa->Option (Bool))(fk:(gR bw).Ok D Tryz.prog):(Fe (M.qS bw)).Ok D Tryz.prog:=
 aM (cx:=AQ bw) (c:=Fe (M.qS bw)) (fz:=true) (fn:=Tryz.f187) aj (Pn bw fk) aA ⟨Tryz.func187,by kernel_rfl⟩ (aN (bX 1 (by kernel_rfl) (bZ (.mk (by kernel_rfl) (adr bw fk))))) ⟨⟨[.bool],[]⟩,fun x=>x.1.1⟩ (fun x=>rfl) (fun x=>by kernel_rfl)
def AS(m:Int->Option (Bool)):aI K:={f:=188,sh:=⟨[.int .i64],[]⟩,R:=Bool,run:=fun x=>m x.1.1,dflt:=default,out:=fun r=>(Sh.enc D (.bool) r,aB.encs D [] ())}
def Po:Cx K:={aO with mode:=aL .plain [(47,.plain)],call:=callOf D [ke M.kf],loop:=aK []}
theorem adt:aH (Po):=aP aj _ (al l6 (ay))
theorem Pq:(AS (M.iC)).Ok D Tryz.prog:=
 aM (cx:=Po) (c:=AS (M.iC)) (fz:=true) (fn:=Tryz.f188) aj (adt) aA ⟨Tryz.func188,by kernel_rfl⟩ (aN (aJ (by kernel_rfl))) ⟨⟨[.bool],[]⟩,fun x=>x.1.1⟩ (fun x=>rfl) (fun x=>by kernel_rfl)
def Pv(y:(List UInt8)×Int×Int){R:Type}(k:Ex->List (AV K)->List (Ob K)->R):R:=match y with
 |a0=>k (Ex.exit 1) (ax.aU D ⟨[.str,.int .i64,.int .i64],[]⟩ ((a0.1,(a0.2.1,(a0.2.2,()))),())) (ax.aY D ⟨[.str,.int .i64,.int .i64],[]⟩ ((a0.1,(a0.2.1,(a0.2.2,()))),()))
def adu:List (bK K ((List UInt8)×Int×Int)):=[⟨(Ex.exit 1),⟨[.str,.int .i64,.int .i64],[]⟩,fun x=>(x.1.1,x.1.2.1,x.1.2.2.1)⟩]
def Px:bD K:=bM D false 66 0 [0,4,5,6] [0,4,5] ⟨[.str,.int .i64,.int .i64,.int .i64],[]⟩ (fun x=>M.oS x.1.1 x.1.2.1 an x.1.2.2.1 x.1.2.2.2.1) Pv
def Ff(m:Int->Option ((List UInt8))):aI K:={f:=215,sh:=⟨[.int .i64],[]⟩,R:=(List UInt8),run:=fun x=>m x.1.1,dflt:=default,out:=fun r=>(Sh.enc D (.str) r,aB.encs D [] ())}
def Py:Cx K:={aO with mode:=aL .plain [],call:=callOf D [],loop:=aK []}
theorem adv:aH (Py):=aP aj _ (ay)
theorem adw:(Ff (M.mZ)).Ok D Tryz.prog:=
 aM (cx:=Py) (c:=Ff (M.mZ)) (fz:=true) (fn:=Tryz.f215) aj (adv) aA ⟨Tryz.func215,by kernel_rfl⟩ (aN (aJ (by kernel_rfl))) ⟨⟨[.str],[]⟩,fun x=>x.1.1⟩ (fun x=>rfl) (fun x=>by kernel_rfl)
def Fg(m:(List UInt8)->Option (Int×Int)):aI K:={f:=210,sh:=⟨[.str],[]⟩,R:=Int×Int,run:=fun x=>m x.1.1,dflt:=default,out:=fun r=>(Sh.enc D (.bu [.int .i64,.int .i64]) (r.1,(r.2,())),aB.encs D [] ())}
def AT:Cx K:={aO with mode:=aL .plain [(188,.plain),(215,.plain)],call:=callOf D [AS M.iC,Ff M.mZ],loop:=aK [(13,Px)]}
theorem Pz:aH (AT):=aP aj _ (al Pq (al adw (ay)))
theorem adx:bE (AT) (bG (bL Tryz.f210) 0) (Px):=
 bP (cx:=AT) (n:=66) (n0:=0) (ins:=[0,4,5,6]) (outs:=[0,4,5]) (sh:=⟨[.str,.int .i64,.int .i64,.int .i64],[]⟩) (run:=fun n x=>M.oS x.1.1 x.1.2.1 n x.1.2.2.1 x.1.2.2.2.1) (bH:=adu) (out:=Pv) aj (Pz) aA (aJ (by kernel_rfl)) (fun _=>rfl) (fun m x=>by kernel_rfl) (al ⟨bQ,fun _ _ _=>rfl⟩ (ay)) false an
theorem ady:(Fg (M.ub)).Ok D Tryz.prog:=
 aM (cx:=AT) (c:=Fg (M.ub)) (fz:=true) (fn:=Tryz.f210) aj (Pz) aA ⟨Tryz.func210,by kernel_rfl⟩ (aN (bX 1 (by kernel_rfl) (bZ (.mk (by kernel_rfl) (adx))))) ⟨⟨[.bu [.int .i64,.int .i64]],[]⟩,fun x=>(x.1.1.1,x.1.1.2.1)⟩ (fun x=>rfl) (fun x=>by kernel_rfl)
def PD(y:(Bool×(List Int))⊕((List Int))){R:Type}(k:Ex->List (AV K)->List (Ob K)->R):R:=match y with
 |.inl a0=>k Ex.ret (ax.aU D ⟨[.any,.own 2,.bool],[.dead,.dead,.arr U.i64]⟩ (((),((),(a0.1,()))),((),((),(a0.2,()))))) (ax.aY D ⟨[.any,.own 2,.bool],[.dead,.dead,.arr U.i64]⟩ (((),((),(a0.1,()))),((),((),(a0.2,())))))
 |.inr (a1)=>k (Ex.exit 0) (ax.aU D ⟨[.own 1,.any,.any],[.dead,.arr U.i64]⟩ (((),((),((),()))),((),(a1,())))) (ax.aY D ⟨[.own 1,.any,.any],[.dead,.arr U.i64]⟩ (((),((),((),()))),((),(a1,()))))
def adz:List (bK K ((Bool×(List Int))⊕((List Int)))):=[⟨Ex.ret,⟨[.any,.own 2,.bool],[.dead,.dead,.arr U.i64]⟩,fun x=>.inl (x.1.2.2.1,x.2.2.2.1)⟩,⟨(Ex.exit 0),⟨[.own 1,.any,.any],[.dead,.arr U.i64]⟩,fun x=>.inr (x.2.2.1)⟩]
def PE:bD K:=bM D false 26 1 [0,4] [4,2,3] ⟨[.str,.own 1],[.dead,.arr U.i64]⟩ (fun x=>M.qP an x.1.1 x.2.2.1) PD
def Fh(m:(List UInt8)->Option ((List Int)×Bool)):aI K:={f:=204,sh:=⟨[.str],[]⟩,R:=(List Int)×Bool,run:=fun x=>m x.1.1,dflt:=default,out:=fun r=>(Sh.enc D (.bu [.ah U.i64,.bool]) (r.1,(r.2,())),aB.encs D [] ())}
def AU:Cx K:={aO with mode:=aL .plain [(210,.plain)],call:=callOf D [Fg M.ub],loop:=aK [(2,PE)]}
theorem PG:aH (AU):=aP aj _ (al ady (ay))
theorem adA:bE (AU) (bG (bL Tryz.f204) 0) (PE):=
 bP (cx:=AU) (n:=26) (n0:=1) (ins:=[0,4]) (outs:=[4,2,3]) (sh:=⟨[.str,.own 1],[.dead,.arr U.i64]⟩) (run:=fun n x=>M.qP n x.1.1 x.2.2.1) (bH:=adz) (out:=PD) aj (PG) aA (aJ (by kernel_rfl)) (fun _=>rfl) (fun m x=>by kernel_rfl) (al ⟨cz,fun _ _ _=>rfl⟩ (al ⟨bQ,fun _ _ _=>rfl⟩ (ay))) false an
theorem adB:(Fh (M.ud)).Ok D Tryz.prog:=
 aM (cx:=AU) (c:=Fh (M.ud)) (fz:=true) (fn:=Tryz.f204) aj (PG) aA ⟨Tryz.func204,by kernel_rfl⟩ (aN (bX 1 (by kernel_rfl) (bZ (.mk (by kernel_rfl) (adA))))) ⟨⟨[.bu [.ah U.i64,.bool]],[]⟩,fun x=>(x.1.1.1,x.1.1.2.1)⟩ (fun x=>rfl) (fun x=>by kernel_rfl)
def Fj(m:(List UInt8)->Option (Bool)):aI K:={f:=189,sh:=⟨[.str],[]⟩,R:=Bool,run:=fun x=>m x.1.1,dflt:=default,out:=fun r=>(Sh.enc D (.bool) r,aB.encs D [] ())}
def PH:Cx K:={aO with mode:=aL .plain [(204,.gU)],call:=callOf D [Fh M.ud],loop:=aK []}
theorem adC:aH (PH):=aP aj _ (al adB (ay))
theorem adD:(Fj (M.uc)).Ok D Tryz.prog:=
 aM (cx:=PH) (c:=Fj (M.uc)) (fz:=true) (fn:=Tryz.f189) aj (adC) aA ⟨Tryz.func189,by kernel_rfl⟩ (aN (aJ (by kernel_rfl))) ⟨⟨[.bool],[]⟩,fun x=>x.1.1⟩ (fun x=>rfl) (fun x=>by kernel_rfl)
def PI(y:(Bool)⊕(Unit)){R:Type}(k:Ex->List (AV K)->List (Ob K)->R):R:=match y with
 |.inl a0=>k Ex.ret (ax.aU D ⟨[.bool],[]⟩ ((a0,()),())) (ax.aY D ⟨[.bool],[]⟩ ((a0,()),()))
 |.inr (a1)=>k (Ex.exit 0) (ax.aU D ⟨[.any],[]⟩ (((),()),())) (ax.aY D ⟨[.any],[]⟩ (((),()),()))
def adE:List (bK K ((Bool)⊕(Unit))):=[⟨Ex.ret,⟨[.bool],[]⟩,fun x=>.inl x.1.1⟩,⟨(Ex.exit 0),⟨[.any],[]⟩,fun x=>.inr (())⟩]
def PK(bw:M.af->M.aa->Option (Bool)):bD K:=bM D false 27 0 [0,1,5] [4] ⟨[.ah U.Value,.ah U.Type,.int .i64],[]⟩ (fun x=>M.lW bw x.1.1 x.1.2.1 an x.1.2.2.1) PI
def Fo(m:(List M.af)->(List M.aa)->Option (Bool)):aI K:={f:=190,sh:=⟨[.ah U.Value,.ah U.Type],[]⟩,R:=Bool,run:=fun x=>m x.1.1 x.1.2.1,dflt:=default,out:=fun r=>(Sh.enc D (.bool) r,aB.encs D [] ())}
def AW(bw:M.af->M.aa->Option (Bool)):Cx K:={aO with mode:=aL .plain [(168,.plain)],call:=callOf D [gR bw],loop:=aK [(4,PK bw)]}
theorem PL(bw:M.af->M.aa->Option (Bool))(fk:(gR bw).Ok D Tryz.prog):aH (AW bw):=aP aj _ (al fk (ay))
theorem adF(bw:M.af->M.aa->Option (Bool))(fk:(gR bw).Ok D Tryz.prog):bE (AW bw) (bG (bL Tryz.f190) 0) (PK bw):=
 bP (cx:=AW bw) (n:=27) (n0:=0) (ins:=[0,1,5]) (outs:=[4]) (sh:=⟨[.ah U.Value,.ah U.Type,.int .i64],[]⟩) (run:=fun n x=>M.lW bw x.1.1 x.1.2.1 n x.1.2.2.1) (bH:=adE) (out:=PI) aj (PL bw fk) aA (aJ (by kernel_rfl)) (fun _=>rfl) (fun m x=>by kernel_rfl) (al ⟨cz,fun _ _ _=>rfl⟩ (al ⟨bQ,fun _ _ _=>rfl⟩ (ay))) false an
theorem adG(bw:M.af->M.aa->Option (Bool))(fk:(gR bw).Ok D Tryz.prog):(Fo (M.ui bw)).Ok D Tryz.prog:=
 aM (cx:=AW bw) (c:=Fo (M.ui bw)) (fz:=true) (fn:=Tryz.f190) aj (PL bw fk) aA ⟨Tryz.func190,by kernel_rfl⟩ (aN (bX 1 (by kernel_rfl) (bZ (.mk (by kernel_rfl) (adF bw fk))))) ⟨⟨[.bool],[]⟩,fun x=>x.1.1⟩ (fun x=>rfl) (fun x=>by kernel_rfl)
def Fp(m:Int->Option (Int×Int×Bool)):aI K:={f:=191,sh:=⟨[.int .i64],[]⟩,R:=Int×Int×Bool,run:=fun x=>m x.1.1,dflt:=default,out:=fun r=>(Sh.enc D (.bu [.int .i64,.int .i64,.bool]) (r.1,(r.2.1,(r.2.2,()))),aB.encs D [] ())}
def PM:Cx K:={aO with mode:=aL .plain [],call:=callOf D [],loop:=aK []}
theorem adH:aH (PM):=aP aj _ (ay)
theorem adI:(Fp (M.xC)).Ok D Tryz.prog:=
 aM (cx:=PM) (c:=Fp (M.xC)) (fz:=true) (fn:=Tryz.f191) aj (adH) aA ⟨Tryz.func191,by kernel_rfl⟩ (aN (aJ (by kernel_rfl))) ⟨⟨[.bu [.int .i64,.int .i64,.bool]],[]⟩,fun x=>(x.1.1.1,x.1.1.2.1,x.1.1.2.2.1)⟩ (fun x=>rfl) (fun x=>by kernel_rfl)
def PN(bw:M.af->M.aa->Option (Bool)):Cx K:={aO with mode:=aL .plain [(187,.plain),(188,.plain),(189,.plain),(190,.plain),(191,.plain),(47,.plain),(192,.plain)],call:=callOf D [ke M.kf,Fb (M.qT bw),Fe (M.qS bw),AS M.iC,Fj M.uc,Fo (M.ui bw),Fp M.xC],loop:=aK []}
theorem adJ(bw:M.af->M.aa->Option (Bool))(fk:(gR bw).Ok D Tryz.prog):aH (PN bw):=aP aj _ (al l6 (al (adp bw fk) (al (ads bw fk) (al Pq (al adD (al (adG bw fk) (al adI (ay))))))))
theorem adK(bw:M.af->M.aa->Option (Bool))(fk:(gR bw).Ok D Tryz.prog):(gR (M.m4 bw)).Ok D Tryz.prog:=
 aM (cx:=PN bw) (c:=gR (M.m4 bw)) (fz:=true) (fn:=Tryz.f168) aj (adJ bw fk) aA ⟨Tryz.func168,by kernel_rfl⟩ (aN (aJ (by kernel_rfl))) ⟨⟨[.bool],[]⟩,fun x=>x.1.1⟩ (fun x=>rfl) (fun x=>by kernel_rfl)
theorem PO:∀n,(gR (M.qU n)).Ok D Tryz.prog
 |0=>ia fun _=>rfl
 |n+1=>adK (M.qU n) (PO n)
theorem adL:(gR (M.zP)).Ok D Tryz.prog:=PO an
def Fq(m:M.af->M.aa->Option (Bool)):aI K:={f:=137,sh:=⟨[.el U.Value,.el U.Type],[]⟩,R:=Bool,run:=fun x=>m x.1.1 x.1.2.1,dflt:=default,out:=fun r=>(Sh.enc D (.bool) r,aB.encs D [] ())}
def PQ:Cx K:={aO with mode:=aL .plain [(167,.plain),(168,.plain)],call:=callOf D [Fa M.tV,gR M.zP],loop:=aK []}
theorem adM:aH (PQ):=aP aj _ (al adn (al adL (ay)))
theorem adN:(Fq (M.um)).Ok D Tryz.prog:=
 aM (cx:=PQ) (c:=Fq (M.um)) (fz:=true) (fn:=Tryz.f137) aj (adM) aA ⟨Tryz.func137,by kernel_rfl⟩ (aN (aJ (by kernel_rfl))) ⟨⟨[.bool],[]⟩,fun x=>x.1.1⟩ (fun x=>rfl) (fun x=>by kernel_rfl)
def PR(y:(Bool)⊕(Unit)){R:Type}(k:Ex->List (AV K)->List (Ob K)->R):R:=match y with
 |.inl a0=>k Ex.ret (ax.aU D ⟨[.bool],[.dead]⟩ ((a0,()),((),()))) (ax.aY D ⟨[.bool],[.dead]⟩ ((a0,()),((),())))
 |.inr (a1)=>k (Ex.exit 0) (ax.aU D ⟨[.any],[.dead]⟩ (((),()),((),()))) (ax.aY D ⟨[.any],[.dead]⟩ (((),()),((),())))
def adO:List (bK K ((Bool)⊕(Unit))):=[⟨Ex.ret,⟨[.bool],[.dead]⟩,fun x=>.inl x.1.1⟩,⟨(Ex.exit 0),⟨[.any],[.dead]⟩,fun x=>.inr (())⟩]
def PS:bD K:=bM D false 25 1 [0,4,7] [6] ⟨[.ah U.Value,.ptr 0 0,.int .i64],[.el U.Type]⟩ (fun x=>M.lX x.1.1 an x.1.2.2.1 x.2.1) PR
def Ft(m:(List M.af)->M.aa->Int->Option (Bool)):aI K:={f:=86,sh:=⟨[.ah U.Value,.el U.Type,.int .i64],[]⟩,R:=Bool,run:=fun x=>m x.1.1 x.1.2.1 x.1.2.2.1,dflt:=default,out:=fun r=>(Sh.enc D (.bool) r,aB.encs D [] ())}
def AX:Cx K:={aO with mode:=aL .plain [(137,.plain)],call:=callOf D [Fq M.um],loop:=aK [(4,PS)]}
theorem PT:aH (AX):=aP aj _ (al adN (ay))
theorem adP:bE (AX) (bG (bL Tryz.f86) 0) (PS):=
 bP (cx:=AX) (n:=25) (n0:=1) (ins:=[0,4,7]) (outs:=[6]) (sh:=⟨[.ah U.Value,.ptr 0 0,.int .i64],[.el U.Type]⟩) (run:=fun n x=>M.lX x.1.1 n x.1.2.2.1 x.2.1) (bH:=adO) (out:=PR) aj (PT) aA (aJ (by kernel_rfl)) (fun _=>rfl) (fun m x=>by kernel_rfl) (al ⟨cz,fun _ _ _=>rfl⟩ (al ⟨bQ,fun _ _ _=>rfl⟩ (ay))) false an
theorem adQ:(Ft (M.uo)).Ok D Tryz.prog:=
 aM (cx:=AX) (c:=Ft (M.uo)) (fz:=true) (fn:=Tryz.f86) aj (PT) aA ⟨Tryz.func86,by kernel_rfl⟩ (aN (bX 1 (by kernel_rfl) (bZ (.mk (by kernel_rfl) (adP))))) ⟨⟨[.bool],[]⟩,fun x=>x.1.1⟩ (fun x=>rfl) (fun x=>by kernel_rfl)
def Fv(m:M.ae->Option (Bool)):aI K:={f:=45,sh:=⟨[.el U.Stream],[]⟩,R:=Bool,run:=fun x=>m x.1.1,dflt:=default,out:=fun r=>(Sh.enc D (.bool) r,aB.encs D [] ())}
def PU:Cx K:={aO with mode:=aL .plain [(85,.plain),(47,.plain),(86,.plain)],call:=callOf D [E9 M.uj,ke M.kf,Ft M.uo],loop:=aK []}
theorem adR:aH (PU):=aP aj _ (al adl (al l6 (al adQ (ay))))
theorem adS:(Fv (M.uw)).Ok D Tryz.prog:=
 aM (cx:=PU) (c:=Fv (M.uw)) (fz:=true) (fn:=Tryz.f45) aj (adR) aA ⟨Tryz.func45,by kernel_rfl⟩ (aN (aJ (by kernel_rfl))) ⟨⟨[.bool],[]⟩,fun x=>x.1.1⟩ (fun x=>rfl) (fun x=>by kernel_rfl)
def nb(m:M.aa->Option (M.aa)):aI K:={f:=90,sh:=⟨[.el U.Type],[]⟩,R:=M.aa,run:=fun x=>m x.1.1,dflt:=default,out:=fun r=>(Sh.enc D (.el U.Type) r,aB.encs D [] ())}
def PV(y:Int×(List UInt8)×Int×(List UInt8)×(List (List UInt8))×(List M.aa)×(List (List UInt8))×(List M.aa)){R:Type}(k:Ex->List (AV K)->List (Ob K)->R):R:=match y with
 |a0=>k (Ex.exit 0) (ax.aU D ⟨[.ptr 1 0,.ptr 2 0],[.dead,.box [.int .i64,.str,.own 7,.own 8],.box [.int .i64,.str,.own 9,.own 10],.dead,.dead,.dead,.dead,.arr U.str,.arr U.Type,.arr U.str,.arr U.Type]⟩ (((),((),())),((),((a0.1,(a0.2.1,((),((),())))),((a0.2.2.1,(a0.2.2.2.1,((),((),())))),((),((),((),((),(a0.2.2.2.2.1,(a0.2.2.2.2.2.1,(a0.2.2.2.2.2.2.1,(a0.2.2.2.2.2.2.2,()))))))))))))) (ax.aY D ⟨[.ptr 1 0,.ptr 2 0],[.dead,.box [.int .i64,.str,.own 7,.own 8],.box [.int .i64,.str,.own 9,.own 10],.dead,.dead,.dead,.dead,.arr U.str,.arr U.Type,.arr U.str,.arr U.Type]⟩ (((),((),())),((),((a0.1,(a0.2.1,((),((),())))),((a0.2.2.1,(a0.2.2.2.1,((),((),())))),((),((),((),((),(a0.2.2.2.2.1,(a0.2.2.2.2.2.1,(a0.2.2.2.2.2.2.1,(a0.2.2.2.2.2.2.2,())))))))))))))
def adT:List (bK K (Int×(List UInt8)×Int×(List UInt8)×(List (List UInt8))×(List M.aa)×(List (List UInt8))×(List M.aa))):=[⟨(Ex.exit 0),⟨[.ptr 1 0,.ptr 2 0],[.dead,.box [.int .i64,.str,.own 7,.own 8],.box [.int .i64,.str,.own 9,.own 10],.dead,.dead,.dead,.dead,.arr U.str,.arr U.Type,.arr U.str,.arr U.Type]⟩,fun x=>(x.2.2.1.1,x.2.2.1.2.1,x.2.2.2.1.1,x.2.2.2.1.2.1,x.2.2.2.2.2.2.2.2.1,x.2.2.2.2.2.2.2.2.2.1,x.2.2.2.2.2.2.2.2.2.2.1,x.2.2.2.2.2.2.2.2.2.2.2.1)⟩]
def PW(eL:M.aa->Option (M.aa)):bD K:=bM D false 33 7 [1,2,3,4] [2,3] ⟨[.ptr 0 0,.ptr 1 0,.ptr 2 0,.int .i64],[.el U.Type,.box [.int .i64,.str,.own 7,.own 8],.box [.int .i64,.str,.own 9,.own 10],.dead,.dead,.dead,.dead,.arr U.str,.arr U.Type,.arr U.str,.arr U.Type]⟩ (fun x=>M.nZ eL x.2.2.1.1 x.2.2.1.2.1 x.2.2.2.1.1 x.2.2.2.1.2.1 x.2.2.2.2.2.2.2.2.1 x.2.2.2.2.2.2.2.2.2.1 x.2.2.2.2.2.2.2.2.2.2.1 an x.1.2.2.2.1 x.2.1 x.2.2.2.2.2.2.2.2.2.2.2.1) PV
def AY(eL:M.aa->Option (M.aa)):Cx K:={aO with mode:=aL .plain [(90,.gU)],call:=callOf D [nb eL],loop:=aK [(3,PW eL)]}
theorem PX(eL:M.aa->Option (M.aa))(vh:(nb eL).Ok D Tryz.prog):aH (AY eL):=aP aj _ (al vh (ay))
theorem adU(eL:M.aa->Option (M.aa))(vh:(nb eL).Ok D Tryz.prog):bE (AY eL) (bG (bL Tryz.f90) 0) (PW eL):=
 bP (cx:=AY eL) (n:=33) (n0:=7) (ins:=[1,2,3,4]) (outs:=[2,3]) (sh:=⟨[.ptr 0 0,.ptr 1 0,.ptr 2 0,.int .i64],[.el U.Type,.box [.int .i64,.str,.own 7,.own 8],.box [.int .i64,.str,.own 9,.own 10],.dead,.dead,.dead,.dead,.arr U.str,.arr U.Type,.arr U.str,.arr U.Type]⟩) (run:=fun n x=>M.nZ eL x.2.2.1.1 x.2.2.1.2.1 x.2.2.2.1.1 x.2.2.2.1.2.1 x.2.2.2.2.2.2.2.2.1 x.2.2.2.2.2.2.2.2.2.1 x.2.2.2.2.2.2.2.2.2.2.1 n x.1.2.2.2.1 x.2.1 x.2.2.2.2.2.2.2.2.2.2.2.1) (bH:=adT) (out:=PV) aj (PX eL vh) aA (aJ (by kernel_rfl)) (fun _=>rfl) (fun m x=>by kernel_rfl) (al ⟨bQ,fun _ _ _=>rfl⟩ (ay)) false an
theorem adV(eL:M.aa->Option (M.aa))(vh:(nb eL).Ok D Tryz.prog):(nb (M.wZ eL)).Ok D Tryz.prog:=
 aM (cx:=AY eL) (c:=nb (M.wZ eL)) (fz:=true) (fn:=Tryz.f90) aj (PX eL vh) aA ⟨Tryz.func90,by kernel_rfl⟩ (aN (bX 1 (by kernel_rfl) (bZ (.mk (by kernel_rfl) (adU eL vh))))) ⟨⟨[.el U.Type],[]⟩,fun x=>x.1.1⟩ (fun x=>rfl) (fun x=>by kernel_rfl)
theorem PY:∀n,(nb (M.nY n)).Ok D Tryz.prog
 |0=>ia fun _=>rfl
 |n+1=>adV (M.nY n) (PY n)
theorem adW:(nb (M.zu)).Ok D Tryz.prog:=PY an
def nc(m:M.af->Option (M.af)):aI K:={f:=138,sh:=⟨[.el U.Value],[]⟩,R:=M.af,run:=fun x=>m x.1.1,dflt:=default,out:=fun r=>(Sh.enc D (.el U.Value) r,aB.encs D [] ())}
def PZ(y:Int×Int×(List UInt8)×Int×Int×(List UInt8)×(List M.af)×(List M.af)){R:Type}(k:Ex->List (AV K)->List (Ob K)->R):R:=match y with
 |a0=>k (Ex.exit 0) (ax.aU D ⟨[.ptr 1 0,.ptr 2 0],[.dead,.box [.int .i64,.int .i64,.str,.own 5],.box [.int .i64,.int .i64,.str,.own 6],.dead,.dead,.arr U.Value,.arr U.Value]⟩ (((),((),())),((),((a0.1,(a0.2.1,(a0.2.2.1,((),())))),((a0.2.2.2.1,(a0.2.2.2.2.1,(a0.2.2.2.2.2.1,((),())))),((),((),(a0.2.2.2.2.2.2.1,(a0.2.2.2.2.2.2.2,()))))))))) (ax.aY D ⟨[.ptr 1 0,.ptr 2 0],[.dead,.box [.int .i64,.int .i64,.str,.own 5],.box [.int .i64,.int .i64,.str,.own 6],.dead,.dead,.arr U.Value,.arr U.Value]⟩ (((),((),())),((),((a0.1,(a0.2.1,(a0.2.2.1,((),())))),((a0.2.2.2.1,(a0.2.2.2.2.1,(a0.2.2.2.2.2.1,((),())))),((),((),(a0.2.2.2.2.2.2.1,(a0.2.2.2.2.2.2.2,())))))))))
def adX:List (bK K (Int×Int×(List UInt8)×Int×Int×(List UInt8)×(List M.af)×(List M.af))):=[⟨(Ex.exit 0),⟨[.ptr 1 0,.ptr 2 0],[.dead,.box [.int .i64,.int .i64,.str,.own 5],.box [.int .i64,.int .i64,.str,.own 6],.dead,.dead,.arr U.Value,.arr U.Value]⟩,fun x=>(x.2.2.1.1,x.2.2.1.2.1,x.2.2.1.2.2.1,x.2.2.2.1.1,x.2.2.2.1.2.1,x.2.2.2.1.2.2.1,x.2.2.2.2.2.2.1,x.2.2.2.2.2.2.2.1)⟩]
def P0(eM:M.af->Option (M.af)):bD K:=bM D false 31 5 [1,2,3,4] [2,3] ⟨[.ptr 0 0,.ptr 1 0,.ptr 2 0,.int .i64],[.el U.Value,.box [.int .i64,.int .i64,.str,.own 5],.box [.int .i64,.int .i64,.str,.own 6],.dead,.dead,.arr U.Value,.arr U.Value]⟩ (fun x=>M.mF eM x.2.2.1.1 x.2.2.1.2.1 x.2.2.1.2.2.1 x.2.2.2.1.1 x.2.2.2.1.2.1 x.2.2.2.1.2.2.1 x.2.2.2.2.2.2.1 an x.1.2.2.2.1 x.2.1 x.2.2.2.2.2.2.2.1) PZ
def AZ(eM:M.af->Option (M.af)):Cx K:={aO with mode:=aL .plain [(138,.gU)],call:=callOf D [nc eM],loop:=aK [(3,P0 eM)]}
theorem P1(eM:M.af->Option (M.af))(vi:(nc eM).Ok D Tryz.prog):aH (AZ eM):=aP aj _ (al vi (ay))
theorem adY(eM:M.af->Option (M.af))(vi:(nc eM).Ok D Tryz.prog):bE (AZ eM) (bG (bL Tryz.f138) 0) (P0 eM):=
 bP (cx:=AZ eM) (n:=31) (n0:=5) (ins:=[1,2,3,4]) (outs:=[2,3]) (sh:=⟨[.ptr 0 0,.ptr 1 0,.ptr 2 0,.int .i64],[.el U.Value,.box [.int .i64,.int .i64,.str,.own 5],.box [.int .i64,.int .i64,.str,.own 6],.dead,.dead,.arr U.Value,.arr U.Value]⟩) (run:=fun n x=>M.mF eM x.2.2.1.1 x.2.2.1.2.1 x.2.2.1.2.2.1 x.2.2.2.1.1 x.2.2.2.1.2.1 x.2.2.2.1.2.2.1 x.2.2.2.2.2.2.1 n x.1.2.2.2.1 x.2.1 x.2.2.2.2.2.2.2.1) (bH:=adX) (out:=PZ) aj (P1 eM vi) aA (aJ (by kernel_rfl)) (fun _=>rfl) (fun m x=>by kernel_rfl) (al ⟨bQ,fun _ _ _=>rfl⟩ (ay)) false an
theorem adZ(eM:M.af->Option (M.af))(vi:(nc eM).Ok D Tryz.prog):(nc (M.w8 eM)).Ok D Tryz.prog:=
 aM (cx:=AZ eM) (c:=nc (M.w8 eM)) (fz:=true) (fn:=Tryz.f138) aj (P1 eM vi) aA ⟨Tryz.func138,by kernel_rfl⟩ (aN (bX 1 (by kernel_rfl) (bZ (.mk (by kernel_rfl) (adY eM vi))))) ⟨⟨[.el U.Value],[]⟩,fun x=>x.1.1⟩ (fun x=>rfl) (fun x=>by kernel_rfl)
theorem P2:∀n,(nc (M.mE n)).Ok D Tryz.prog
 |0=>ia fun _=>rfl
 |n+1=>adZ (M.mE n) (P2 n)
theorem ad1:(nc (M.zt)).Ok D Tryz.prog:=P2 an
def Fz(m:M.ae->Option (M.ae×Int)):aI K:={f:=143,sh:=⟨[.el U.Stream],[]⟩,R:=M.ae×Int,run:=fun x=>m x.1.1,dflt:=default,out:=fun r=>(Sh.enc D (.bu [.el U.Stream,.int .i64]) (r.1,(r.2,())),aB.encs D [] ())}
def P3:Cx K:={aO with mode:=aL .plain [],call:=callOf D [],loop:=aK []}
theorem ad2:aH (P3):=aP aj _ (ay)
theorem ad3:(Fz (M.sX)).Ok D Tryz.prog:=
 aM (cx:=P3) (c:=Fz (M.sX)) (fz:=true) (fn:=Tryz.f143) aj (ad2) aA ⟨Tryz.func143,by kernel_rfl⟩ (aN (aJ (by kernel_rfl))) ⟨⟨[.bu [.el U.Stream,.int .i64]],[]⟩,fun x=>(x.1.1.1,x.1.1.2.1)⟩ (fun x=>rfl) (fun x=>by kernel_rfl)
def FA(m:M.aa->Option (Bool)):aI K:={f:=153,sh:=⟨[.el U.Type],[]⟩,R:=Bool,run:=fun x=>m x.1.1,dflt:=default,out:=fun r=>(Sh.enc D (.bool) r,aB.encs D [] ())}
def P4:Cx K:={aO with mode:=aL .plain [(174,.plain),(175,.plain),(176,.plain)],call:=callOf D [m9 M.zG,na M.zH,iT M.zF],loop:=aK []}
theorem ad4:aH (P4):=aP aj _ (al acr (al acw (al adh (ay))))
theorem ad5:(FA (M.tZ)).Ok D Tryz.prog:=
 aM (cx:=P4) (c:=FA (M.tZ)) (fz:=true) (fn:=Tryz.f153) aj (ad4) aA ⟨Tryz.func153,by kernel_rfl⟩ (aN (aJ (by kernel_rfl))) ⟨⟨[.bool],[]⟩,fun x=>x.1.1⟩ (fun x=>rfl) (fun x=>by kernel_rfl)
def FB(m:M.aa->Option (Bool)):aI K:={f:=114,sh:=⟨[.el U.Type],[]⟩,R:=Bool,run:=fun x=>m x.1.1,dflt:=default,out:=fun r=>(Sh.enc D (.bool) r,aB.encs D [] ())}
def P5:Cx K:={aO with mode:=aL .plain [(153,.plain),(154,.plain),(155,.plain)],call:=callOf D [FA M.tZ,amL M.x6,iE M.lP],loop:=aK []}
theorem ad6:aH (P5):=aP aj _ (al ad5 (al E0 (al O6 (ay))))
theorem ad7:(FB (M.uk)).Ok D Tryz.prog:=
 aM (cx:=P5) (c:=FB (M.uk)) (fz:=true) (fn:=Tryz.f114) aj (ad6) aA ⟨Tryz.func114,by kernel_rfl⟩ (aN (aJ (by kernel_rfl))) ⟨⟨[.bool],[]⟩,fun x=>x.1.1⟩ (fun x=>rfl) (fun x=>by kernel_rfl)
def A0(m:(List M.af)->Option (Int)):aI K:={f:=115,sh:=⟨[.ah U.Value],[]⟩,R:=Int,run:=fun x=>m x.1.1,dflt:=default,out:=fun r=>(Sh.enc D (.int .i64) r,aB.encs D [] ())}
def P6:Cx K:={aO with mode:=aL .plain [],call:=callOf D [],loop:=aK []}
theorem ad8:aH (P6):=aP aj _ (ay)
theorem P7:(A0 (M.A4)).Ok D Tryz.prog:=
 aM (cx:=P6) (c:=A0 (M.A4)) (fz:=true) (fn:=Tryz.f115) aj (ad8) aA ⟨Tryz.func115,by kernel_rfl⟩ (aN (aJ (by kernel_rfl))) ⟨⟨[.int .i64],[]⟩,fun x=>x.1.1⟩ (fun x=>rfl) (fun x=>by kernel_rfl)
def FC(m:Int->Option (Int×Int×Bool)):aI K:={f:=179,sh:=⟨[.int .i64],[]⟩,R:=Int×Int×Bool,run:=fun x=>m x.1.1,dflt:=default,out:=fun r=>(Sh.enc D (.bu [.int .i64,.int .i64,.bool]) (r.1,(r.2.1,(r.2.2,()))),aB.encs D [] ())}
def P8:Cx K:={aO with mode:=aL .plain [],call:=callOf D [],loop:=aK []}
theorem ad9:aH (P8):=aP aj _ (ay)
theorem aea:(FC (M.uf)).Ok D Tryz.prog:=
 aM (cx:=P8) (c:=FC (M.uf)) (fz:=true) (fn:=Tryz.f179) aj (ad9) aA ⟨Tryz.func179,by kernel_rfl⟩ (aN (aJ (by kernel_rfl))) ⟨⟨[.bu [.int .i64,.int .i64,.bool]],[]⟩,fun x=>(x.1.1.1,x.1.1.2.1,x.1.1.2.2.1)⟩ (fun x=>rfl) (fun x=>by kernel_rfl)
def FD(m:Int->Option (Bool)):aI K:={f:=180,sh:=⟨[.int .i64],[]⟩,R:=Bool,run:=fun x=>m x.1.1,dflt:=default,out:=fun r=>(Sh.enc D (.bool) r,aB.encs D [] ())}
def P9:Cx K:={aO with mode:=aL .plain [(65,.plain)],call:=callOf D [gq M.gu],loop:=aK []}
theorem aeb:aH (P9):=aP aj _ (al ib (ay))
theorem aec:(FD (M.A5)).Ok D Tryz.prog:=
 aM (cx:=P9) (c:=FD (M.A5)) (fz:=true) (fn:=Tryz.f180) aj (aeb) aA ⟨Tryz.func180,by kernel_rfl⟩ (aN (aJ (by kernel_rfl))) ⟨⟨[.bool],[]⟩,fun x=>x.1.1⟩ (fun x=>rfl) (fun x=>by kernel_rfl)
def FG(m:M.af->M.aa->Option (Bool)):aI K:={f:=157,sh:=⟨[.el U.Value,.el U.Type],[]⟩,R:=Bool,run:=fun x=>m x.1.1 x.1.2.1,dflt:=default,out:=fun r=>(Sh.enc D (.bool) r,aB.encs D [] ())}
def Qa:Cx K:={aO with mode:=aL .plain [(179,.plain),(180,.plain),(181,.plain),(65,.plain)],call:=callOf D [gq M.gu,FC M.uf,FD M.A5,xY M.xZ],loop:=aK []}
theorem aed:aH (Qa):=aP aj _ (al ib (al aea (al aec (al EU (ay)))))
theorem aee:(FG (M.ug)).Ok D Tryz.prog:=
 aM (cx:=Qa) (c:=FG (M.ug)) (fz:=true) (fn:=Tryz.f157) aj (aed) aA ⟨Tryz.func157,by kernel_rfl⟩ (aN (aJ (by kernel_rfl))) ⟨⟨[.bool],[]⟩,fun x=>x.1.1⟩ (fun x=>rfl) (fun x=>by kernel_rfl)
def FH(m:(List UInt8)->Option (Bool)):aI K:={f:=158,sh:=⟨[.str],[]⟩,R:=Bool,run:=fun x=>m x.1.1,dflt:=default,out:=fun r=>(Sh.enc D (.bool) r,aB.encs D [] ())}
def Qb:Cx K:={aO with mode:=aL .plain [(182,.plain)],call:=callOf D [Dz M.nW],loop:=aK []}
theorem aef:aH (Qb):=aP aj _ (al Yb (ay))
theorem aeg:(FH (M.ue)).Ok D Tryz.prog:=
 aM (cx:=Qb) (c:=FH (M.ue)) (fz:=true) (fn:=Tryz.f158) aj (aef) aA ⟨Tryz.func158,by kernel_rfl⟩ (aN (aJ (by kernel_rfl))) ⟨⟨[.bool],[]⟩,fun x=>x.1.1⟩ (fun x=>rfl) (fun x=>by kernel_rfl)
def FI(m:M.aa->Int->Option (M.aa×Bool)):aI K:={f:=184,sh:=⟨[.el U.Type,.int .i64],[]⟩,R:=M.aa×Bool,run:=fun x=>m x.1.1 x.1.2.1,dflt:=default,out:=fun r=>(Sh.enc D (.bu [.el U.Type,.bool]) (r.1,(r.2,())),aB.encs D [] ())}
def Qc:Cx K:={aO with mode:=aL .plain [(197,.plain),(65,.plain)],call:=callOf D [amJ M.amK,gq M.gu],loop:=aK []}
theorem aeh:aH (Qc):=aP aj _ (al EZ (al ib (ay)))
theorem aei:(FI (M.oW)).Ok D Tryz.prog:=
 aM (cx:=Qc) (c:=FI (M.oW)) (fz:=true) (fn:=Tryz.f184) aj (aeh) aA ⟨Tryz.func184,by kernel_rfl⟩ (aN (aJ (by kernel_rfl))) ⟨⟨[.bu [.el U.Type,.bool]],[]⟩,fun x=>(x.1.1.1,x.1.1.2.1)⟩ (fun x=>rfl) (fun x=>by kernel_rfl)
def FK(m:M.af->M.aa->Option ((List M.aa)×Bool)):aI K:={f:=159,sh:=⟨[.el U.Value,.el U.Type],[]⟩,R:=(List M.aa)×Bool,run:=fun x=>m x.1.1 x.1.2.1,dflt:=default,out:=fun r=>(Sh.enc D (.bu [.ah U.Type,.bool]) (r.1,(r.2,())),aB.encs D [] ())}
def Qd:Cx K:={aO with mode:=aL .plain [(183,.gU),(184,.gU),(154,.plain)],call:=callOf D [Dv M.nV,FI M.oW,amL M.x6],loop:=aK []}
theorem aej:aH (Qd):=aP aj _ (al X7 (al aei (al E0 (ay))))
theorem aek:(FK (M.uh)).Ok D Tryz.prog:=
 aM (cx:=Qd) (c:=FK (M.uh)) (fz:=true) (fn:=Tryz.f159) aj (aej) aA ⟨Tryz.func159,by kernel_rfl⟩ (aN (aJ (by kernel_rfl))) ⟨⟨[.bu [.ah U.Type,.bool]],[]⟩,fun x=>(x.1.1.1,x.1.1.2.1)⟩ (fun x=>rfl) (fun x=>by kernel_rfl)
def nf(m:M.af->M.aa->Option (Bool)):aI K:={f:=118,sh:=⟨[.el U.Value,.el U.Type],[]⟩,R:=Bool,run:=fun x=>m x.1.1 x.1.2.1,dflt:=default,out:=fun r=>(Sh.enc D (.bool) r,aB.encs D [] ())}
def Qe(y:(Bool)⊕(Unit)){R:Type}(k:Ex->List (AV K)->List (Ob K)->R):R:=match y with
 |.inl a0=>k Ex.ret (ax.aU D ⟨[.bool],[]⟩ ((a0,()),())) (ax.aY D ⟨[.bool],[]⟩ ((a0,()),()))
 |.inr (a1)=>k (Ex.exit 0) (ax.aU D ⟨[.any],[]⟩ (((),()),())) (ax.aY D ⟨[.any],[]⟩ (((),()),()))
def ael:List (bK K ((Bool)⊕(Unit))):=[⟨Ex.ret,⟨[.bool],[]⟩,fun x=>.inl x.1.1⟩,⟨(Ex.exit 0),⟨[.any],[]⟩,fun x=>.inr (())⟩]
def Qf(eC:M.af->M.aa->Option (Bool)):bD K:=bM D false 68 0 [5,53,54,55] [4] ⟨[.ah U.Type,.ah U.Value,.int .i64,.int .i64],[]⟩ (fun x=>M.lU eC x.1.1 x.1.2.1 x.1.2.2.1 an x.1.2.2.2.1) Qe
def A6(eC:M.af->M.aa->Option (Bool)):Cx K:={aO with mode:=aL .plain [(157,.plain),(158,.plain),(159,.gU),(118,.plain)],call:=callOf D [FG M.ug,FH M.ue,FK M.uh,nf eC],loop:=aK [(7,Qf eC)]}
theorem Qg(eC:M.af->M.aa->Option (Bool))(vj:(nf eC).Ok D Tryz.prog):aH (A6 eC):=aP aj _ (al aee (al aeg (al aek (al vj (ay)))))
theorem aem(eC:M.af->M.aa->Option (Bool))(vj:(nf eC).Ok D Tryz.prog):bE (A6 eC) (bG (bL Tryz.f118) 0) (Qf eC):=
 bP (cx:=A6 eC) (n:=68) (n0:=0) (ins:=[5,53,54,55]) (outs:=[4]) (sh:=⟨[.ah U.Type,.ah U.Value,.int .i64,.int .i64],[]⟩) (run:=fun n x=>M.lU eC x.1.1 x.1.2.1 x.1.2.2.1 n x.1.2.2.2.1) (bH:=ael) (out:=Qe) aj (Qg eC vj) aA (aJ (by kernel_rfl)) (fun _=>rfl) (fun m x=>by kernel_rfl) (al ⟨cz,fun _ _ _=>rfl⟩ (al ⟨bQ,fun _ _ _=>rfl⟩ (ay))) false an
theorem aen(eC:M.af->M.aa->Option (Bool))(vj:(nf eC).Ok D Tryz.prog):(nf (M.xE eC)).Ok D Tryz.prog:=
 aM (cx:=A6 eC) (c:=nf (M.xE eC)) (fz:=true) (fn:=Tryz.f118) aj (Qg eC vj) aA ⟨Tryz.func118,by kernel_rfl⟩ (aN (bX 1 (by kernel_rfl) (bZ (.mk (by kernel_rfl) (aem eC vj))))) ⟨⟨[.bool],[]⟩,fun x=>x.1.1⟩ (fun x=>rfl) (fun x=>by kernel_rfl)
theorem Qh:∀n,(nf (M.lT n)).Ok D Tryz.prog
 |0=>ia fun _=>rfl
 |n+1=>aen (M.lT n) (Qh n)
theorem aeo:(nf (M.zQ)).Ok D Tryz.prog:=Qh an
def FM(m:M.af->M.ae->Option (Bool)):aI K:={f:=117,sh:=⟨[.el U.Value,.rp U.Stream 0],[]⟩,R:=Bool,run:=fun x=>m x.1.1 x.1.2.1,dflt:=default,out:=fun r=>(Sh.enc D (.bool) r,aB.encs D [] ())}
def Qi:Cx K:={aO with mode:=aL .plain [(118,.plain)],call:=callOf D [nf M.zQ],loop:=aK []}
theorem aep:aH (Qi):=aP aj _ (al aeo (ay))
theorem aeq:(FM (M.uv)).Ok D Tryz.prog:=
 aM (cx:=Qi) (c:=FM (M.uv)) (fz:=true) (fn:=Tryz.f117) aj (aep) aA ⟨Tryz.func117,by kernel_rfl⟩ (aN (aJ (by kernel_rfl))) ⟨⟨[.bool],[]⟩,fun x=>x.1.1⟩ (fun x=>rfl) (fun x=>by kernel_rfl)
def Qj(y:(Int)⊕(Unit)){R:Type}(k:Ex->List (AV K)->List (Ob K)->R):R:=match y with
 |.inl a0=>k Ex.ret (ax.aU D ⟨[.int .i64],[]⟩ ((a0,()),())) (ax.aY D ⟨[.int .i64],[]⟩ ((a0,()),()))
 |.inr (a1)=>k (Ex.exit 0) (ax.aU D ⟨[.any],[]⟩ (((),()),())) (ax.aY D ⟨[.any],[]⟩ (((),()),()))
def aer:List (bK K ((Int)⊕(Unit))):=[⟨Ex.ret,⟨[.int .i64],[]⟩,fun x=>.inl x.1.1⟩,⟨(Ex.exit 0),⟨[.any],[]⟩,fun x=>.inr (())⟩]
def Qk:bD K:=bM D false 19 0 [0,1,7,8] [4] ⟨[.ah U.Value,.fn 117 [.rp U.Stream 0],.int .i64,.int .i64],[]⟩ (fun x=>M.qV x.1.1 x.1.2.1.1 x.1.2.2.1 an x.1.2.2.2.1) Qj
def FN(m:(List M.af)->M.ae->Option (Int)):aI K:={f:=156,sh:=⟨[.ah U.Value,.fn 117 [.rp U.Stream 0]],[]⟩,R:=Int,run:=fun x=>m x.1.1 x.1.2.1.1,dflt:=default,out:=fun r=>(Sh.enc D (.int .i64) r,aB.encs D [] ())}
def A7:Cx K:={aO with mode:=aL .plain [(117,.plain)],call:=callOf D [FM M.uv],loop:=aK [(2,Qk)]}
theorem Ql:aH (A7):=aP aj _ (al aeq (ay))
theorem aes:bE (A7) (bG (bL Tryz.f156) 0) (Qk):=
 bP (cx:=A7) (n:=19) (n0:=0) (ins:=[0,1,7,8]) (outs:=[4]) (sh:=⟨[.ah U.Value,.fn 117 [.rp U.Stream 0],.int .i64,.int .i64],[]⟩) (run:=fun n x=>M.qV x.1.1 x.1.2.1.1 x.1.2.2.1 n x.1.2.2.2.1) (bH:=aer) (out:=Qj) aj (Ql) aA (aJ (by kernel_rfl)) (fun _=>rfl) (fun m x=>by kernel_rfl) (al ⟨cz,fun _ _ _=>rfl⟩ (al ⟨bQ,fun _ _ _=>rfl⟩ (ay))) false an
theorem aet:(FN (M.xG)).Ok D Tryz.prog:=
 aM (cx:=A7) (c:=FN (M.xG)) (fz:=true) (fn:=Tryz.f156) aj (Ql) aA ⟨Tryz.func156,by kernel_rfl⟩ (aN (bX 1 (by kernel_rfl) (bZ (.mk (by kernel_rfl) (aes))))) ⟨⟨[.int .i64],[]⟩,fun x=>x.1.1⟩ (fun x=>rfl) (fun x=>by kernel_rfl)
def FO(m:(List M.af)->M.ae->Option (Bool)):aI K:={f:=116,sh:=⟨[.ah U.Value,.fn 117 [.rp U.Stream 0]],[]⟩,R:=Bool,run:=fun x=>m x.1.1 x.1.2.1.1,dflt:=default,out:=fun r=>(Sh.enc D (.bool) r,aB.encs D [] ())}
def Qm:Cx K:={aO with mode:=aL .plain [(156,.plain)],call:=callOf D [FN M.xG],loop:=aK []}
theorem aeu:aH (Qm):=aP aj _ (al aet (ay))
theorem aev:(FO (M.uu)).Ok D Tryz.prog:=
 aM (cx:=Qm) (c:=FO (M.uu)) (fz:=true) (fn:=Tryz.f116) aj (aeu) aA ⟨Tryz.func116,by kernel_rfl⟩ (aN (aJ (by kernel_rfl))) ⟨⟨[.bool],[]⟩,fun x=>x.1.1⟩ (fun x=>rfl) (fun x=>by kernel_rfl)
def A8(m:M.ae->Option (Int)):aI K:={f:=119,sh:=⟨[.el U.Stream],[]⟩,R:=Int,run:=fun x=>m x.1.1,dflt:=default,out:=fun r=>(Sh.enc D (.int .i64) r,aB.encs D [] ())}
def Qn:Cx K:={aO with mode:=aL .plain [],call:=callOf D [],loop:=aK []}
theorem aew:aH (Qn):=aP aj _ (ay)
theorem Qo:(A8 (M.kC)).Ok D Tryz.prog:=
 aM (cx:=Qn) (c:=A8 (M.kC)) (fz:=true) (fn:=Tryz.f119) aj (aew) aA ⟨Tryz.func119,by kernel_rfl⟩ (aN (aJ (by kernel_rfl))) ⟨⟨[.int .i64],[]⟩,fun x=>x.1.1⟩ (fun x=>rfl) (fun x=>by kernel_rfl)
def FP(m:M.ae->Option (Bool)):aI K:={f:=63,sh:=⟨[.el U.Stream],[]⟩,R:=Bool,run:=fun x=>m x.1.1,dflt:=default,out:=fun r=>(Sh.enc D (.bool) r,aB.encs D [] ())}
def Qp:Cx K:={aO with mode:=aL .plain [(114,.plain),(65,.plain),(115,.plain),(116,.plain),(119,.plain)],call:=callOf D [FB M.uk,gq M.gu,A0 M.A4,FO M.uu,A8 M.kC],loop:=aK []}
theorem aex:aH (Qp):=aP aj _ (al ad7 (al ib (al P7 (al aev (al Qo (ay))))))
theorem aey:(FP (M.ux)).Ok D Tryz.prog:=
 aM (cx:=Qp) (c:=FP (M.ux)) (fz:=true) (fn:=Tryz.f63) aj (aex) aA ⟨Tryz.func63,by kernel_rfl⟩ (aN (aJ (by kernel_rfl))) ⟨⟨[.bool],[]⟩,fun x=>x.1.1⟩ (fun x=>rfl) (fun x=>by kernel_rfl)
def anJ(y:(List UInt8)){R:Type}(k:Ex->List (AV K)->List (Ob K)->R):R:=match y with
 |a0=>k (Ex.exit 0) (ax.aU D ⟨[.str],[]⟩ ((a0,()),())) (ax.aY D ⟨[.str],[]⟩ ((a0,()),()))
def aoN:List (bK K ((List UInt8))):=[⟨(Ex.exit 0),⟨[.str],[]⟩,fun x=>x.1.1⟩]
def anK:bD K:=bM D false 20 0 [0,3] [3] ⟨[.int .i64,.str],[]⟩ (fun x=>M.alV an x.1.1 x.1.2.1) anJ
def amC(m:Int->Option ((List UInt8))):aI K:={f:=77,sh:=⟨[.int .i64],[]⟩,R:=(List UInt8),run:=fun x=>m x.1.1,dflt:=default,out:=fun r=>(Sh.enc D (.str) r,aB.encs D [] ())}
def amV:Cx K:={aO with mode:=aL .plain [],deep:=fun c=>dn (D.cells c (K.zero c)),call:=callOf D [],loop:=aK [(4,anK)]}
theorem anL:aH (amV):=aP aj _ (ay)
theorem aoO:bE (amV) (bG (bL Tryz.f77) 0) (anK):=
 bP (cx:=amV) (n:=20) (n0:=0) (ins:=[0,3]) (outs:=[3]) (sh:=⟨[.int .i64,.str],[]⟩) (run:=fun n x=>M.alV n x.1.1 x.1.2.1) (bH:=aoN) (out:=anJ) aj (anL) aA (aJ (by kernel_rfl)) (fun _=>rfl) (fun m x=>by kernel_rfl) (al ⟨bQ,fun _ _ _=>rfl⟩ (ay)) false an
theorem amW:(amC (M.ajx)).Ok D Tryz.prog:=
 aM (cx:=amV) (c:=amC (M.ajx)) (fz:=true) (fn:=Tryz.f77) aj (anL) aA ⟨Tryz.func77,by kernel_rfl⟩ (aN (bX 1 (by kernel_rfl) (bZ (.mk (by kernel_rfl) (aoO))))) ⟨⟨[.str],[]⟩,fun x=>x.1.1⟩ (fun x=>rfl) (fun x=>by kernel_rfl)
def anM(y:Int×(List (List UInt8))){R:Type}(k:Ex->List (AV K)->List (Ob K)->R):R:=match y with
 |a0=>k (Ex.exit 0) (ax.aU D ⟨[.int .i64],[.arr U.str]⟩ ((a0.1,()),(a0.2,()))) (ax.aY D ⟨[.int .i64],[.arr U.str]⟩ ((a0.1,()),(a0.2,())))
def aoP:List (bK K (Int×(List (List UInt8)))):=[⟨(Ex.exit 0),⟨[.int .i64],[.arr U.str]⟩,fun x=>(x.1.1,x.2.1)⟩]
def anN:bD K:=bM D true 20 1 [0,1,5] [1] ⟨[.own 0,.int .i64,.int .i64],[.arr U.str]⟩ (fun x=>M.amq an x.1.2.1 x.1.2.2.1 x.2.1) anM
def amX(m:Int->(List (List UInt8))->Option (Int×(List (List UInt8)))):aI K:={f:=78,sh:=⟨[.own 0,.int .i64],[.arr U.str]⟩,R:=Int×(List (List UInt8)),run:=fun x=>m x.1.2.1 x.2.1,dflt:=default,out:=fun r=>(Sh.enc D (.int .i64) r.1,aB.encs D [.arr U.str] (r.2,()))}
def amY:Cx K:={aO with mode:=aL .plain [(77,.plain)],deep:=fun c=>dn (D.cells c (K.zero c)),opn:=true,call:=callOf D [amC M.ajx],loop:=aK [(2,anN)]}
theorem anO:aH (amY):=aP aj _ (al amW (ay))
theorem aoQ:bE (amY) (bG (bL Tryz.f78) 0) (anN):=
 bP (cx:=amY) (n:=20) (n0:=1) (ins:=[0,1,5]) (outs:=[1]) (sh:=⟨[.own 0,.int .i64,.int .i64],[.arr U.str]⟩) (run:=fun n x=>M.amq n x.1.2.1 x.1.2.2.1 x.2.1) (bH:=aoP) (out:=anM) aj (anO) aA (aJ (by kernel_rfl)) (fun _=>rfl) (fun m x=>by kernel_rfl) (al ⟨bQ,fun _ _ _=>rfl⟩ (ay)) true an
theorem anP:(amX (M.akm)).Ok D Tryz.prog:=
 aM (cx:=amY) (c:=amX (M.akm)) (fz:=true) (fn:=Tryz.f78) aj (anO) aA ⟨Tryz.func78,by kernel_rfl⟩ (aN (bX 1 (by kernel_rfl) (bZ (.mk (by kernel_rfl) (aoQ))))) ⟨⟨[.int .i64],[.arr U.str]⟩,fun x=>(x.1.1,x.2.1)⟩ (fun x=>rfl) (fun x=>by kernel_rfl)
def akv(m:Int->(List M.aa)->Option (Int×(List M.aa))):aI K:={f:=79,sh:=⟨[.own 0,.int .i64],[.tree U.Type]⟩,R:=Int×(List M.aa),run:=fun x=>m x.1.2.1 x.2.1,dflt:=default,out:=fun r=>(Sh.enc D (.int .i64) r.1,aB.encs D [.tree U.Type] (r.2,()))}
def anQ(y:Int×(List M.aa)){R:Type}(k:Ex->List (AV K)->List (Ob K)->R):R:=match y with
 |a0=>k (Ex.exit 0) (ax.aU D ⟨[.int .i64],[.tree U.Type]⟩ ((a0.1,()),(a0.2,()))) (ax.aY D ⟨[.int .i64],[.tree U.Type]⟩ ((a0.1,()),(a0.2,())))
def aoR:List (bK K (Int×(List M.aa))):=[⟨(Ex.exit 0),⟨[.int .i64],[.tree U.Type]⟩,fun x=>(x.1.1,x.2.1)⟩]
def anR(f8:Int->(List M.aa)->Option (Int×(List M.aa))):bD K:=bM D true 42 1 [0,1,5] [1] ⟨[.own 0,.int .i64,.int .i64],[.tree U.Type]⟩ (fun x=>M.ame f8 an x.1.2.1 x.1.2.2.1 x.2.1) anQ
def amZ(f8:Int->(List M.aa)->Option (Int×(List M.aa))):Cx K:={aO with mode:=aL .plain [(77,.plain),(78,.pass),(79,.pass)],deep:=fun c=>dn (D.cells c (K.zero c)),opn:=true,call:=callOf D [amC M.ajx,amX M.akm,akv f8],loop:=aK [(2,anR f8)]}
theorem anS(f8:Int->(List M.aa)->Option (Int×(List M.aa)))(amD:(akv f8).Ok D Tryz.prog):aH (amZ f8):=aP aj _ (al amW (al anP (al amD (ay))))
theorem aoS(f8:Int->(List M.aa)->Option (Int×(List M.aa)))(amD:(akv f8).Ok D Tryz.prog):bE (amZ f8) (bG (bL Tryz.f79) 0) (anR f8):=
 bP (cx:=amZ f8) (n:=42) (n0:=1) (ins:=[0,1,5]) (outs:=[1]) (sh:=⟨[.own 0,.int .i64,.int .i64],[.tree U.Type]⟩) (run:=fun n x=>M.ame f8 n x.1.2.1 x.1.2.2.1 x.2.1) (bH:=aoR) (out:=anQ) aj (anS f8 amD) aA (aJ (by kernel_rfl)) (fun _=>rfl) (fun m x=>by kernel_rfl) (al ⟨bQ,fun _ _ _=>rfl⟩ (ay)) true an
theorem aoT(f8:Int->(List M.aa)->Option (Int×(List M.aa)))(amD:(akv f8).Ok D Tryz.prog):(akv (M.amF f8)).Ok D Tryz.prog:=
 aM (cx:=amZ f8) (c:=akv (M.amF f8)) (fz:=true) (fn:=Tryz.f79) aj (anS f8 amD) aA ⟨Tryz.func79,by kernel_rfl⟩ (aN (bX 1 (by kernel_rfl) (bZ (.mk (by kernel_rfl) (aoS f8 amD))))) ⟨⟨[.int .i64],[.tree U.Type]⟩,fun x=>(x.1.1,x.2.1)⟩ (fun x=>rfl) (fun x=>by kernel_rfl)
theorem anT:∀n,(akv (M.amd n)).Ok D Tryz.prog
 |0=>ia fun _=>rfl
 |n+1=>aoT (M.amd n) (anT n)
theorem aoU:(akv (M.amN)).Ok D Tryz.prog:=anT an
def aky(m:Int->(List M.af)->Option (Int×(List M.af))):aI K:={f:=80,sh:=⟨[.own 0,.int .i64],[.tree U.Value]⟩,R:=Int×(List M.af),run:=fun x=>m x.1.2.1 x.2.1,dflt:=default,out:=fun r=>(Sh.enc D (.int .i64) r.1,aB.encs D [.tree U.Value] (r.2,()))}
def anU(y:Int×(List M.af)){R:Type}(k:Ex->List (AV K)->List (Ob K)->R):R:=match y with
 |a0=>k (Ex.exit 0) (ax.aU D ⟨[.int .i64],[.tree U.Value]⟩ ((a0.1,()),(a0.2,()))) (ax.aY D ⟨[.int .i64],[.tree U.Value]⟩ ((a0.1,()),(a0.2,())))
def aoV:List (bK K (Int×(List M.af))):=[⟨(Ex.exit 0),⟨[.int .i64],[.tree U.Value]⟩,fun x=>(x.1.1,x.2.1)⟩]
def anV(aiV:Int->(List M.af)->Option (Int×(List M.af))):bD K:=bM D true 42 1 [0,1,5] [1] ⟨[.own 0,.int .i64,.int .i64],[.tree U.Value]⟩ (fun x=>M.amg aiV an x.1.2.1 x.1.2.2.1 x.2.1) anU
def am0(aiV:Int->(List M.af)->Option (Int×(List M.af))):Cx K:={aO with mode:=aL .plain [(77,.plain),(80,.pass)],deep:=fun c=>dn (D.cells c (K.zero c)),opn:=true,call:=callOf D [amC M.ajx,aky aiV],loop:=aK [(2,anV aiV)]}
theorem anW(aiV:Int->(List M.af)->Option (Int×(List M.af)))(amE:(aky aiV).Ok D Tryz.prog):aH (am0 aiV):=aP aj _ (al amW (al amE (ay)))
theorem aoW(aiV:Int->(List M.af)->Option (Int×(List M.af)))(amE:(aky aiV).Ok D Tryz.prog):bE (am0 aiV) (bG (bL Tryz.f80) 0) (anV aiV):=
 bP (cx:=am0 aiV) (n:=42) (n0:=1) (ins:=[0,1,5]) (outs:=[1]) (sh:=⟨[.own 0,.int .i64,.int .i64],[.tree U.Value]⟩) (run:=fun n x=>M.amg aiV n x.1.2.1 x.1.2.2.1 x.2.1) (bH:=aoV) (out:=anU) aj (anW aiV amE) aA (aJ (by kernel_rfl)) (fun _=>rfl) (fun m x=>by kernel_rfl) (al ⟨bQ,fun _ _ _=>rfl⟩ (ay)) true an
theorem aoX(aiV:Int->(List M.af)->Option (Int×(List M.af)))(amE:(aky aiV).Ok D Tryz.prog):(aky (M.amG aiV)).Ok D Tryz.prog:=
 aM (cx:=am0 aiV) (c:=aky (M.amG aiV)) (fz:=true) (fn:=Tryz.f80) aj (anW aiV amE) aA ⟨Tryz.func80,by kernel_rfl⟩ (aN (bX 1 (by kernel_rfl) (bZ (.mk (by kernel_rfl) (aoW aiV amE))))) ⟨⟨[.int .i64],[.tree U.Value]⟩,fun x=>(x.1.1,x.2.1)⟩ (fun x=>rfl) (fun x=>by kernel_rfl)
theorem anX:∀n,(aky (M.amf n)).Ok D Tryz.prog
 |0=>ia fun _=>rfl
 |n+1=>aoX (M.amf n) (anX n)
theorem aoY:(aky (M.amO)).Ok D Tryz.prog:=anX an
def FQ(m:M.ae->Option (M.ae×Int)):aI K:={f:=142,sh:=⟨[.el U.Stream],[]⟩,R:=M.ae×Int,run:=fun x=>m x.1.1,dflt:=default,out:=fun r=>(Sh.enc D (.bu [.el U.Stream,.int .i64]) (r.1,(r.2,())),aB.encs D [] ())}
def Qq:Cx K:={aO with mode:=aL .plain [],call:=callOf D [],loop:=aK []}
theorem aez:aH (Qq):=aP aj _ (ay)
theorem aeA:(FQ (M.sW)).Ok D Tryz.prog:=
 aM (cx:=Qq) (c:=FQ (M.sW)) (fz:=true) (fn:=Tryz.f142) aj (aez) aA ⟨Tryz.func142,by kernel_rfl⟩ (aN (aJ (by kernel_rfl))) ⟨⟨[.bu [.el U.Stream,.int .i64]],[]⟩,fun x=>(x.1.1.1,x.1.1.2.1)⟩ (fun x=>rfl) (fun x=>by kernel_rfl)
def A9(m:M.ae->Option (Int)):aI K:={f:=139,sh:=⟨[.el U.Stream],[]⟩,R:=Int,run:=fun x=>m x.1.1,dflt:=default,out:=fun r=>(Sh.enc D (.int .i64) r,aB.encs D [] ())}
def Qr:Cx K:={aO with mode:=aL .plain [],call:=callOf D [],loop:=aK []}
theorem aeB:aH (Qr):=aP aj _ (ay)
theorem Qs:(A9 (M.mH)).Ok D Tryz.prog:=
 aM (cx:=Qr) (c:=A9 (M.mH)) (fz:=true) (fn:=Tryz.f139) aj (aeB) aA ⟨Tryz.func139,by kernel_rfl⟩ (aN (aJ (by kernel_rfl))) ⟨⟨[.int .i64],[]⟩,fun x=>x.1.1⟩ (fun x=>rfl) (fun x=>by kernel_rfl)
def x8(m:Int->Int->Option (Int)):aI K:={f:=171,sh:=⟨[.int .i64,.int .i64],[]⟩,R:=Int,run:=fun x=>m x.1.1 x.1.2.1,dflt:=default,out:=fun r=>(Sh.enc D (.int .i64) r,aB.encs D [] ())}
def Qu:Cx K:={aO with mode:=aL .plain [],call:=callOf D [],loop:=aK []}
theorem aeC:aH (Qu):=aP aj _ (ay)
theorem FR:(x8 (M.jd)).Ok D Tryz.prog:=
 aM (cx:=Qu) (c:=x8 (M.jd)) (fz:=true) (fn:=Tryz.f171) aj (aeC) aA ⟨Tryz.func171,by kernel_rfl⟩ (aN (aJ (by kernel_rfl))) ⟨⟨[.int .i64],[]⟩,fun x=>x.1.1⟩ (fun x=>rfl) (fun x=>by kernel_rfl)
def Qv(y:(List M.af)){R:Type}(k:Ex->List (AV K)->List (Ob K)->R):R:=match y with
 |a0=>k (Ex.exit 0) (ax.aU D ⟨[.own 1],[.dead,.arr U.Value]⟩ (((),()),((),(a0,())))) (ax.aY D ⟨[.own 1],[.dead,.arr U.Value]⟩ (((),()),((),(a0,()))))
def aeD:List (bK K ((List M.af))):=[⟨(Ex.exit 0),⟨[.own 1],[.dead,.arr U.Value]⟩,fun x=>x.2.2.1⟩]
def Qw:bD K:=bM D false 21 1 [0,1,5,6] [5] ⟨[.int .i64,.int .i64,.own 1,.int .i64],[.dead,.arr U.Value]⟩ (fun x=>M.qs x.1.1 x.1.2.1 an x.1.2.2.2.1 x.2.2.1) Qv
def FT(m:Int->Int->Option ((List M.af))):aI K:={f:=170,sh:=⟨[.int .i64,.int .i64],[]⟩,R:=(List M.af),run:=fun x=>m x.1.1 x.1.2.1,dflt:=default,out:=fun r=>(Sh.enc D (.ah U.Value) r,aB.encs D [] ())}
def Ba:Cx K:={aO with mode:=aL .plain [],call:=callOf D [],loop:=aK [(3,Qw)]}
theorem Qx:aH (Ba):=aP aj _ (ay)
theorem aeE:bE (Ba) (bG (bL Tryz.f170) 0) (Qw):=
 bP (cx:=Ba) (n:=21) (n0:=1) (ins:=[0,1,5,6]) (outs:=[5]) (sh:=⟨[.int .i64,.int .i64,.own 1,.int .i64],[.dead,.arr U.Value]⟩) (run:=fun n x=>M.qs x.1.1 x.1.2.1 n x.1.2.2.2.1 x.2.2.1) (bH:=aeD) (out:=Qv) aj (Qx) aA (aJ (by kernel_rfl)) (fun _=>rfl) (fun m x=>by kernel_rfl) (al ⟨bQ,fun _ _ _=>rfl⟩ (ay)) false an
theorem aeF:(FT (M.s6)).Ok D Tryz.prog:=
 aM (cx:=Ba) (c:=FT (M.s6)) (fz:=true) (fn:=Tryz.f170) aj (Qx) aA ⟨Tryz.func170,by kernel_rfl⟩ (aN (bX 1 (by kernel_rfl) (bZ (.mk (by kernel_rfl) (aeE))))) ⟨⟨[.ah U.Value],[]⟩,fun x=>x.1.1⟩ (fun x=>rfl) (fun x=>by kernel_rfl)
def l9(m:M.af->Int->Option (Int)):aI K:={f:=133,sh:=⟨[.el U.Value,.int .i64],[]⟩,R:=Int,run:=fun x=>m x.1.1 x.1.2.1,dflt:=default,out:=fun r=>(Sh.enc D (.int .i64) r,aB.encs D [] ())}
def Qy(y:(Int)⊕(Int)){R:Type}(k:Ex->List (AV K)->List (Ob K)->R):R:=match y with
 |.inl a0=>k Ex.ret (ax.aU D ⟨[.any,.int .i64],[]⟩ (((),(a0,())),())) (ax.aY D ⟨[.any,.int .i64],[]⟩ (((),(a0,())),()))
 |.inr (a1)=>k (Ex.exit 0) (ax.aU D ⟨[.int .i64,.any],[]⟩ ((a1,((),())),())) (ax.aY D ⟨[.int .i64,.any],[]⟩ ((a1,((),())),()))
def aeG:List (bK K ((Int)⊕(Int))):=[⟨Ex.ret,⟨[.any,.int .i64],[]⟩,fun x=>.inl x.1.2.1⟩,⟨(Ex.exit 0),⟨[.int .i64,.any],[]⟩,fun x=>.inr (x.1.1)⟩]
def Qz(db:M.af->Int->Option (Int)):bD K:=bM D false 27 0 [0,1,5] [1,4] ⟨[.ah U.Value,.int .i64,.int .i64],[]⟩ (fun x=>M.rO db x.1.1 an x.1.2.1 x.1.2.2.1) Qy
def Bc(m:(List M.af)->Int->Option (Int)):aI K:={f:=83,sh:=⟨[.ah U.Value,.int .i64],[]⟩,R:=Int,run:=fun x=>m x.1.1 x.1.2.1,dflt:=default,out:=fun r=>(Sh.enc D (.int .i64) r,aB.encs D [] ())}
def Bd(db:M.af->Int->Option (Int)):Cx K:={aO with mode:=aL .plain [(133,.plain)],call:=callOf D [l9 db],loop:=aK [(5,Qz db)]}
theorem QA(db:M.af->Int->Option (Int))(ma:(l9 db).Ok D Tryz.prog):aH (Bd db):=aP aj _ (al ma (ay))
theorem aeH(db:M.af->Int->Option (Int))(ma:(l9 db).Ok D Tryz.prog):bE (Bd db) (bG (bL Tryz.f83) 0) (Qz db):=
 bP (cx:=Bd db) (n:=27) (n0:=0) (ins:=[0,1,5]) (outs:=[1,4]) (sh:=⟨[.ah U.Value,.int .i64,.int .i64],[]⟩) (run:=fun n x=>M.rO db x.1.1 n x.1.2.1 x.1.2.2.1) (bH:=aeG) (out:=Qy) aj (QA db ma) aA (aJ (by kernel_rfl)) (fun _=>rfl) (fun m x=>by kernel_rfl) (al ⟨cz,fun _ _ _=>rfl⟩ (al ⟨bQ,fun _ _ _=>rfl⟩ (ay))) false an
theorem QB(db:M.af->Int->Option (Int))(ma:(l9 db).Ok D Tryz.prog):(Bc (M.ng db)).Ok D Tryz.prog:=
 aM (cx:=Bd db) (c:=Bc (M.ng db)) (fz:=true) (fn:=Tryz.f83) aj (QA db ma) aA ⟨Tryz.func83,by kernel_rfl⟩ (aN (bX 1 (by kernel_rfl) (bZ (.mk (by kernel_rfl) (aeH db ma))))) ⟨⟨[.int .i64],[]⟩,fun x=>x.1.1⟩ (fun x=>rfl) (fun x=>by kernel_rfl)
def QC(db:M.af->Int->Option (Int)):Cx K:={aO with mode:=aL .plain [(83,.plain)],call:=callOf D [Bc (M.ng db)],loop:=aK []}
theorem aeI(db:M.af->Int->Option (Int))(ma:(l9 db).Ok D Tryz.prog):aH (QC db):=aP aj _ (al (QB db ma) (ay))
theorem aeJ(db:M.af->Int->Option (Int))(ma:(l9 db).Ok D Tryz.prog):(l9 (M.x9 db)).Ok D Tryz.prog:=
 aM (cx:=QC db) (c:=l9 (M.x9 db)) (fz:=true) (fn:=Tryz.f133) aj (aeI db ma) aA ⟨Tryz.func133,by kernel_rfl⟩ (aN (aJ (by kernel_rfl))) ⟨⟨[.int .i64],[]⟩,fun x=>x.1.1⟩ (fun x=>rfl) (fun x=>by kernel_rfl)
theorem QD:∀n,(l9 (M.rP n)).Ok D Tryz.prog
 |0=>ia fun _=>rfl
 |n+1=>aeJ (M.rP n) (QD n)
theorem aeK:(l9 (M.vk)).Ok D Tryz.prog:=QD an
def mb(m:M.af->Option (Int×Int×(List UInt8)×(List M.af))):aI K:={f:=147,sh:=⟨[.el U.Value],[]⟩,R:=Int×Int×(List UInt8)×(List M.af),run:=fun x=>m x.1.1,dflt:=default,out:=fun r=>(Sh.enc D (.agg [.int .i64,.int .i64,.str,.own 0]) (r.1,(r.2.1,(r.2.2.1,((),())))),aB.encs D [.tree U.Value] (r.2.2.2,()))}
def QE(y:(List M.af)){R:Type}(k:Ex->List (AV K)->List (Ob K)->R):R:=match y with
 |a0=>k (Ex.exit 0) (ax.aU D ⟨[.own 1],[.dead,.tree U.Value]⟩ (((),()),((),(a0,())))) (ax.aY D ⟨[.own 1],[.dead,.tree U.Value]⟩ (((),()),((),(a0,()))))
def aeL:List (bK K ((List M.af))):=[⟨(Ex.exit 0),⟨[.own 1],[.dead,.tree U.Value]⟩,fun x=>x.2.2.1⟩]
def QF(de:M.af->Option (Int×Int×(List UInt8)×(List M.af))):bD K:=bM D false 23 1 [0,3,4] [3] ⟨[.ah U.Value,.own 1,.int .i64],[.dead,.tree U.Value]⟩ (fun x=>M.pH de x.1.1 an x.1.2.2.1 x.2.2.1) QE
def Be(m:(List M.af)->Option ((List M.af))):aI K:={f:=107,sh:=⟨[.ah U.Value],[]⟩,R:=(List M.af),run:=fun x=>m x.1.1,dflt:=default,out:=fun r=>(Sh.enc D (.own 0) (),aB.encs D [.tree U.Value] (r,()))}
def Bf(de:M.af->Option (Int×Int×(List UInt8)×(List M.af))):Cx K:={aO with mode:=aL .plain [(147,.fresh)],d5:=[[some U.Value]],deep:=fun c=>dn (D.cells c (K.zero c)),call:=callOf D [mb de],loop:=aK [(3,QF de)]}
theorem QG(de:M.af->Option (Int×Int×(List UInt8)×(List M.af)))(mc:(mb de).Ok D Tryz.prog):aH (Bf de):=aP aj _ (al mc (ay))
theorem aeM(de:M.af->Option (Int×Int×(List UInt8)×(List M.af)))(mc:(mb de).Ok D Tryz.prog):bE (Bf de) (bG (bL Tryz.f107) 0) (QF de):=
 bP (cx:=Bf de) (n:=23) (n0:=1) (ins:=[0,3,4]) (outs:=[3]) (sh:=⟨[.ah U.Value,.own 1,.int .i64],[.dead,.tree U.Value]⟩) (run:=fun n x=>M.pH de x.1.1 n x.1.2.2.1 x.2.2.1) (bH:=aeL) (out:=QE) aj (QG de mc) aA (aJ (by kernel_rfl)) (fun _=>rfl) (fun m x=>by kernel_rfl) (al ⟨bQ,fun _ _ _=>rfl⟩ (ay)) false an
theorem QH(de:M.af->Option (Int×Int×(List UInt8)×(List M.af)))(mc:(mb de).Ok D Tryz.prog):(Be (M.ni de)).Ok D Tryz.prog:=
 aM (cx:=Bf de) (c:=Be (M.ni de)) (fz:=false) (fn:=Tryz.f107) aj (QG de mc) aA ⟨Tryz.func107,by kernel_rfl⟩ (aN (bX 1 (by kernel_rfl) (bZ (.mk (by kernel_rfl) (aeM de mc))))) ⟨⟨[.own 0],[.tree U.Value]⟩,fun x=>x.2.1⟩ (fun x=>rfl) (fun x=>by kernel_rfl)
def QI(de:M.af->Option (Int×Int×(List UInt8)×(List M.af))):Cx K:={aO with mode:=aL .plain [(107,.fresh)],d5:=[[none,none,none,some U.Value]],deep:=fun c=>dn (D.cells c (K.zero c)),call:=callOf D [Be (M.ni de)],loop:=aK []}
theorem aeN(de:M.af->Option (Int×Int×(List UInt8)×(List M.af)))(mc:(mb de).Ok D Tryz.prog):aH (QI de):=aP aj _ (al (QH de mc) (ay))
theorem aeO(de:M.af->Option (Int×Int×(List UInt8)×(List M.af)))(mc:(mb de).Ok D Tryz.prog):(mb (M.ya de)).Ok D Tryz.prog:=
 aM (cx:=QI de) (c:=mb (M.ya de)) (fz:=false) (fn:=Tryz.f147) aj (aeN de mc) aA ⟨Tryz.func147,by kernel_rfl⟩ (aN (aJ (by kernel_rfl))) ⟨⟨[.agg [.int .i64,.int .i64,.str,.own 0]],[.tree U.Value]⟩,fun x=>(x.1.1.1,x.1.1.2.1,x.1.1.2.2.1,x.2.1)⟩ (fun x=>rfl) (fun x=>by kernel_rfl)
theorem QJ:∀n,(mb (M.rQ n)).Ok D Tryz.prog
 |0=>ia fun _=>rfl
 |n+1=>aeO (M.rQ n) (QJ n)
theorem aeP:(mb (M.vl)).Ok D Tryz.prog:=QJ an
def FU(m:M.ae->Int->Option (Int)):aI K:={f:=42,sh:=⟨[.el U.Stream,.int .i64],[]⟩,R:=Int,run:=fun x=>m x.1.1 x.1.2.1,dflt:=default,out:=fun r=>(Sh.enc D (.int .i64) r,aB.encs D [] ())}
def QK:Cx K:={aO with mode:=aL .plain [(82,.plain),(83,.plain)],call:=callOf D [kQ M.Ao,Bc (M.ng M.vk)],loop:=aK []}
theorem aeQ:aH (QK):=aP aj _ (al abA (al (QB M.vk aeK) (ay)))
theorem aeR:(FU (M.vm)).Ok D Tryz.prog:=
 aM (cx:=QK) (c:=FU (M.vm)) (fz:=true) (fn:=Tryz.f42) aj (aeQ) aA ⟨Tryz.func42,by kernel_rfl⟩ (aN (aJ (by kernel_rfl))) ⟨⟨[.int .i64],[]⟩,fun x=>x.1.1⟩ (fun x=>rfl) (fun x=>by kernel_rfl)
def FV(m:M.ae->Option (Int×(List UInt8)×Int×Bool×Int×Int×Bool×Bool×(List (List UInt8))×(List M.aa)×(List M.af))):aI K:={f:=56,sh:=⟨[.el U.Stream],[]⟩,R:=Int×(List UInt8)×Int×Bool×Int×Int×Bool×Bool×(List (List UInt8))×(List M.aa)×(List M.af),run:=fun x=>m x.1.1,dflt:=default,out:=fun r=>(Sh.enc D (.agg [.int .i64,.str,.own 0,.own 1,.int .i64,.bool,.own 2,.int .i64,.int .i64,.bool,.bool]) (r.1,(r.2.1,((),((),(r.2.2.1,(r.2.2.2.1,((),(r.2.2.2.2.1,(r.2.2.2.2.2.1,(r.2.2.2.2.2.2.1,(r.2.2.2.2.2.2.2.1,()))))))))))),aB.encs D [.arr U.str,.tree U.Type,.tree U.Value] (r.2.2.2.2.2.2.2.2.1,(r.2.2.2.2.2.2.2.2.2.1,(r.2.2.2.2.2.2.2.2.2.2,()))))}
def QL:Cx K:={aO with mode:=aL .plain [(106,.fresh),(107,.fresh)],d5:=[[none,none,some U.str,some U.Type,none,none,some U.Value,none,none,none,none]],deep:=fun c=>dn (D.cells c (K.zero c)),call:=callOf D [kR M.Ar,Be (M.ni M.vl)],loop:=aK []}
theorem aeS:aH (QL):=aP aj _ (al abK (al (QH M.vl aeP) (ay)))
theorem aeT:(FV (M.vn)).Ok D Tryz.prog:=
 aM (cx:=QL) (c:=FV (M.vn)) (fz:=false) (fn:=Tryz.f56) aj (aeS) aA ⟨Tryz.func56,by kernel_rfl⟩ (aN (aJ (by kernel_rfl))) ⟨⟨[.agg [.int .i64,.str,.own 0,.own 1,.int .i64,.bool,.own 2,.int .i64,.int .i64,.bool,.bool]],[.arr U.str,.tree U.Type,.tree U.Value]⟩,fun x=>(x.1.1.1,x.1.1.2.1,x.1.1.2.2.2.2.1,x.1.1.2.2.2.2.2.1,x.1.1.2.2.2.2.2.2.2.1,x.1.1.2.2.2.2.2.2.2.2.1,x.1.1.2.2.2.2.2.2.2.2.2.1,x.1.1.2.2.2.2.2.2.2.2.2.2.1,x.2.1,x.2.2.1,x.2.2.2.1)⟩ (fun x=>rfl) (fun x=>by kernel_rfl)
def QM(y:(List M.af)){R:Type}(k:Ex->List (AV K)->List (Ob K)->R):R:=match y with
 |a0=>k (Ex.exit 0) (ax.aU D ⟨[.own 1],[.dead,.arr U.Value]⟩ (((),()),((),(a0,())))) (ax.aY D ⟨[.own 1],[.dead,.arr U.Value]⟩ (((),()),((),(a0,()))))
def aeU:List (bK K ((List M.af))):=[⟨(Ex.exit 0),⟨[.own 1],[.dead,.arr U.Value]⟩,fun x=>x.2.2.1⟩]
def QN:bD K:=bM D false 21 1 [0,3,4] [3] ⟨[.ah U.Value,.own 1,.int .i64],[.dead,.arr U.Value]⟩ (fun x=>M.qn x.1.1 an x.1.2.2.1 x.2.2.1) QM
def yb(m:(List M.af)->Option ((List M.af))):aI K:={f:=91,sh:=⟨[.ah U.Value],[]⟩,R:=(List M.af),run:=fun x=>m x.1.1,dflt:=default,out:=fun r=>(Sh.enc D (.own 0) (),aB.encs D [.arr U.Value] (r,()))}
def Bg:Cx K:={aO with mode:=aL .plain [(138,.gU)],d5:=[[some U.Value]],call:=callOf D [nc M.zt],loop:=aK [(3,QN)]}
theorem QO:aH (Bg):=aP aj _ (al ad1 (ay))
theorem aeV:bE (Bg) (bG (bL Tryz.f91) 0) (QN):=
 bP (cx:=Bg) (n:=21) (n0:=1) (ins:=[0,3,4]) (outs:=[3]) (sh:=⟨[.ah U.Value,.own 1,.int .i64],[.dead,.arr U.Value]⟩) (run:=fun n x=>M.qn x.1.1 n x.1.2.2.1 x.2.2.1) (bH:=aeU) (out:=QM) aj (QO) aA (aJ (by kernel_rfl)) (fun _=>rfl) (fun m x=>by kernel_rfl) (al ⟨bQ,fun _ _ _=>rfl⟩ (ay)) false an
theorem FW:(yb (M.j0)).Ok D Tryz.prog:=
 aM (cx:=Bg) (c:=yb (M.j0)) (fz:=false) (fn:=Tryz.f91) aj (QO) aA ⟨Tryz.func91,by kernel_rfl⟩ (aN (bX 1 (by kernel_rfl) (bZ (.mk (by kernel_rfl) (aeV))))) ⟨⟨[.own 0],[.arr U.Value]⟩,fun x=>x.2.1⟩ (fun x=>rfl) (fun x=>by kernel_rfl)
def FX(m:M.ae->Option (M.ae)):aI K:={f:=50,sh:=⟨[.el U.Stream],[]⟩,R:=M.ae,run:=fun x=>m x.1.1,dflt:=default,out:=fun r=>(Sh.enc D (.el U.Stream) r,aB.encs D [] ())}
def QP:Cx K:={aO with mode:=aL .plain [(90,.gU),(91,.fresh)],call:=callOf D [nb M.zu,yb M.j0],loop:=aK []}
theorem aeW:aH (QP):=aP aj _ (al adW (al FW (ay)))
theorem aeX:(FX (M.sR)).Ok D Tryz.prog:=
 aM (cx:=QP) (c:=FX (M.sR)) (fz:=true) (fn:=Tryz.f50) aj (aeW) aA ⟨Tryz.func50,by kernel_rfl⟩ (aN (aJ (by kernel_rfl))) ⟨⟨[.el U.Stream],[]⟩,fun x=>x.1.1⟩ (fun x=>rfl) (fun x=>by kernel_rfl)
def FY(m:M.ae->(List M.af)->Option (M.ae×Int×Int)):aI K:={f:=169,sh:=⟨[.el U.Stream,.ah U.Value],[]⟩,R:=M.ae×Int×Int,run:=fun x=>m x.1.1 x.1.2.1,dflt:=default,out:=fun r=>(Sh.enc D (.bu [.el U.Stream,.int .i64,.int .i64]) (r.1,(r.2.1,(r.2.2,()))),aB.encs D [] ())}
def QQ:Cx K:={aO with mode:=aL .plain [(139,.plain),(171,.plain),(91,.fresh)],call:=callOf D [A9 M.mH,x8 M.jd,yb M.j0],loop:=aK []}
theorem aeY:aH (QQ):=aP aj _ (al Qs (al FR (al FW (ay))))
theorem aeZ:(FY (M.sV)).Ok D Tryz.prog:=
 aM (cx:=QQ) (c:=FY (M.sV)) (fz:=true) (fn:=Tryz.f169) aj (aeY) aA ⟨Tryz.func169,by kernel_rfl⟩ (aN (aJ (by kernel_rfl))) ⟨⟨[.bu [.el U.Stream,.int .i64,.int .i64]],[]⟩,fun x=>(x.1.1.1,x.1.1.2.1,x.1.1.2.2.1)⟩ (fun x=>rfl) (fun x=>by kernel_rfl)
def FZ(m:M.aw->Option (Bool)):aI K:={f:=151,sh:=⟨[.el U.cu],[]⟩,R:=Bool,run:=fun x=>m x.1.1,dflt:=default,out:=fun r=>(Sh.enc D (.bool) r,aB.encs D [] ())}
def QR:Cx K:={aO with mode:=aL .plain [(65,.plain)],call:=callOf D [gq M.gu],loop:=aK []}
theorem ae0:aH (QR):=aP aj _ (al ib (ay))
theorem ae1:(FZ (M.oY)).Ok D Tryz.prog:=
 aM (cx:=QR) (c:=FZ (M.oY)) (fz:=true) (fn:=Tryz.f151) aj (ae0) aA ⟨Tryz.func151,by kernel_rfl⟩ (aN (aJ (by kernel_rfl))) ⟨⟨[.bool],[]⟩,fun x=>x.1.1⟩ (fun x=>rfl) (fun x=>by kernel_rfl)
def F3(m:M.aw->Option (Bool)):aI K:={f:=150,sh:=⟨[.el U.cu],[]⟩,R:=Bool,run:=fun x=>m x.1.1,dflt:=default,out:=fun r=>(Sh.enc D (.bool) r,aB.encs D [] ())}
def QS:Cx K:={aO with mode:=aL .plain [(151,.plain)],call:=callOf D [FZ M.oY],loop:=aK []}
theorem ae2:aH (QS):=aP aj _ (al ae1 (ay))
theorem ae3:(F3 (M.F4)).Ok D Tryz.prog:=
 aM (cx:=QS) (c:=F3 (M.F4)) (fz:=true) (fn:=Tryz.f150) aj (ae2) aA ⟨Tryz.func150,by kernel_rfl⟩ (aN (aJ (by kernel_rfl))) ⟨⟨[.bool],[]⟩,fun x=>x.1.1⟩ (fun x=>rfl) (fun x=>by kernel_rfl)
def QT(y:(Int)⊕(Unit)){R:Type}(k:Ex->List (AV K)->List (Ob K)->R):R:=match y with
 |.inl a0=>k Ex.ret (ax.aU D ⟨[.int .i64],[]⟩ ((a0,()),())) (ax.aY D ⟨[.int .i64],[]⟩ ((a0,()),()))
 |.inr (a1)=>k (Ex.exit 0) (ax.aU D ⟨[.any],[]⟩ (((),()),())) (ax.aY D ⟨[.any],[]⟩ (((),()),()))
def ae4:List (bK K ((Int)⊕(Unit))):=[⟨Ex.ret,⟨[.int .i64],[]⟩,fun x=>.inl x.1.1⟩,⟨(Ex.exit 0),⟨[.any],[]⟩,fun x=>.inr (())⟩]
def QU:bD K:=bM D false 19 0 [0,1,7,8] [4] ⟨[.ah U.cu,.fn 150 [],.int .i64,.int .i64],[]⟩ (fun x=>M.pe x.1.1 x.1.2.2.1 an x.1.2.2.2.1) QT
def F5(m:(List M.aw)->Option (Int)):aI K:={f:=173,sh:=⟨[.ah U.cu,.fn 150 []],[]⟩,R:=Int,run:=fun x=>m x.1.1,dflt:=default,out:=fun r=>(Sh.enc D (.int .i64) r,aB.encs D [] ())}
def Bh:Cx K:={aO with mode:=aL .plain [(150,.plain)],call:=callOf D [F3 M.F4],loop:=aK [(2,QU)]}
theorem QV:aH (Bh):=aP aj _ (al ae3 (ay))
theorem ae5:bE (Bh) (bG (bL Tryz.f173) 0) (QU):=
 bP (cx:=Bh) (n:=19) (n0:=0) (ins:=[0,1,7,8]) (outs:=[4]) (sh:=⟨[.ah U.cu,.fn 150 [],.int .i64,.int .i64],[]⟩) (run:=fun n x=>M.pe x.1.1 x.1.2.2.1 n x.1.2.2.2.1) (bH:=ae4) (out:=QT) aj (QV) aA (aJ (by kernel_rfl)) (fun _=>rfl) (fun m x=>by kernel_rfl) (al ⟨cz,fun _ _ _=>rfl⟩ (al ⟨bQ,fun _ _ _=>rfl⟩ (ay))) false an
theorem ae6:(F5 (M.xH)).Ok D Tryz.prog:=
 aM (cx:=Bh) (c:=F5 (M.xH)) (fz:=true) (fn:=Tryz.f173) aj (QV) aA ⟨Tryz.func173,by kernel_rfl⟩ (aN (bX 1 (by kernel_rfl) (bZ (.mk (by kernel_rfl) (ae5))))) ⟨⟨[.int .i64],[]⟩,fun x=>x.1.1⟩ (fun x=>rfl) (fun x=>by kernel_rfl)
def F6(m:(List M.aw)->Option (Bool)):aI K:={f:=149,sh:=⟨[.ah U.cu,.fn 150 []],[]⟩,R:=Bool,run:=fun x=>m x.1.1,dflt:=default,out:=fun r=>(Sh.enc D (.bool) r,aB.encs D [] ())}
def QW:Cx K:={aO with mode:=aL .plain [(173,.plain)],call:=callOf D [F5 M.xH],loop:=aK []}
theorem ae7:aH (QW):=aP aj _ (al ae6 (ay))
theorem ae8:(F6 (M.uz)).Ok D Tryz.prog:=
 aM (cx:=QW) (c:=F6 (M.uz)) (fz:=true) (fn:=Tryz.f149) aj (ae7) aA ⟨Tryz.func149,by kernel_rfl⟩ (aN (aJ (by kernel_rfl))) ⟨⟨[.bool],[]⟩,fun x=>x.1.1⟩ (fun x=>rfl) (fun x=>by kernel_rfl)
def F7(m:M.ar->Option (Bool)):aI K:={f:=110,sh:=⟨[.el U.Prog],[]⟩,R:=Bool,run:=fun x=>m x.1.1,dflt:=default,out:=fun r=>(Sh.enc D (.bool) r,aB.encs D [] ())}
def QX:Cx K:={aO with mode:=aL .plain [(65,.plain),(149,.plain)],call:=callOf D [gq M.gu,F6 M.uz],loop:=aK []}
theorem ae9:aH (QX):=aP aj _ (al ib (al ae8 (ay)))
theorem afa:(F7 (M.qX)).Ok D Tryz.prog:=
 aM (cx:=QX) (c:=F7 (M.qX)) (fz:=true) (fn:=Tryz.f110) aj (ae9) aA ⟨Tryz.func110,by kernel_rfl⟩ (aN (aJ (by kernel_rfl))) ⟨⟨[.bool],[]⟩,fun x=>x.1.1⟩ (fun x=>rfl) (fun x=>by kernel_rfl)
def F8(m:M.ar->Option (Bool)):aI K:={f:=109,sh:=⟨[.el U.Prog],[]⟩,R:=Bool,run:=fun x=>m x.1.1,dflt:=default,out:=fun r=>(Sh.enc D (.bool) r,aB.encs D [] ())}
def QY:Cx K:={aO with mode:=aL .plain [(110,.plain)],call:=callOf D [F7 M.qX],loop:=aK []}
theorem afb:aH (QY):=aP aj _ (al afa (ay))
theorem afc:(F8 (M.uC)).Ok D Tryz.prog:=
 aM (cx:=QY) (c:=F8 (M.uC)) (fz:=true) (fn:=Tryz.f109) aj (afb) aA ⟨Tryz.func109,by kernel_rfl⟩ (aN (aJ (by kernel_rfl))) ⟨⟨[.bool],[]⟩,fun x=>x.1.1⟩ (fun x=>rfl) (fun x=>by kernel_rfl)
def QZ(y:(Int)⊕(Unit)){R:Type}(k:Ex->List (AV K)->List (Ob K)->R):R:=match y with
 |.inl a0=>k Ex.ret (ax.aU D ⟨[.int .i64],[]⟩ ((a0,()),())) (ax.aY D ⟨[.int .i64],[]⟩ ((a0,()),()))
 |.inr (a1)=>k (Ex.exit 0) (ax.aU D ⟨[.any],[]⟩ (((),()),())) (ax.aY D ⟨[.any],[]⟩ (((),()),()))
def afd:List (bK K ((Int)⊕(Unit))):=[⟨Ex.ret,⟨[.int .i64],[]⟩,fun x=>.inl x.1.1⟩,⟨(Ex.exit 0),⟨[.any],[]⟩,fun x=>.inr (())⟩]
def Q0:bD K:=bM D false 19 0 [0,1,7,8] [4] ⟨[.ah U.Prog,.fn 109 [],.int .i64,.int .i64],[]⟩ (fun x=>M.qZ x.1.1 x.1.2.2.1 an x.1.2.2.2.1) QZ
def F9(m:(List M.ar)->Option (Int)):aI K:={f:=148,sh:=⟨[.ah U.Prog,.fn 109 []],[]⟩,R:=Int,run:=fun x=>m x.1.1,dflt:=default,out:=fun r=>(Sh.enc D (.int .i64) r,aB.encs D [] ())}
def Bi:Cx K:={aO with mode:=aL .plain [(109,.plain)],call:=callOf D [F8 M.uC],loop:=aK [(2,Q0)]}
theorem Q1:aH (Bi):=aP aj _ (al afc (ay))
theorem afe:bE (Bi) (bG (bL Tryz.f148) 0) (Q0):=
 bP (cx:=Bi) (n:=19) (n0:=0) (ins:=[0,1,7,8]) (outs:=[4]) (sh:=⟨[.ah U.Prog,.fn 109 [],.int .i64,.int .i64],[]⟩) (run:=fun n x=>M.qZ x.1.1 x.1.2.2.1 n x.1.2.2.2.1) (bH:=afd) (out:=QZ) aj (Q1) aA (aJ (by kernel_rfl)) (fun _=>rfl) (fun m x=>by kernel_rfl) (al ⟨cz,fun _ _ _=>rfl⟩ (al ⟨bQ,fun _ _ _=>rfl⟩ (ay))) false an
theorem aff:(F9 (M.xI)).Ok D Tryz.prog:=
 aM (cx:=Bi) (c:=F9 (M.xI)) (fz:=true) (fn:=Tryz.f148) aj (Q1) aA ⟨Tryz.func148,by kernel_rfl⟩ (aN (bX 1 (by kernel_rfl) (bZ (.mk (by kernel_rfl) (afe))))) ⟨⟨[.int .i64],[]⟩,fun x=>x.1.1⟩ (fun x=>rfl) (fun x=>by kernel_rfl)
def Ge(m:(List M.ar)->Option (Bool)):aI K:={f:=108,sh:=⟨[.ah U.Prog,.fn 109 []],[]⟩,R:=Bool,run:=fun x=>m x.1.1,dflt:=default,out:=fun r=>(Sh.enc D (.bool) r,aB.encs D [] ())}
def Q2:Cx K:={aO with mode:=aL .plain [(148,.plain)],call:=callOf D [F9 M.xI],loop:=aK []}
theorem afg:aH (Q2):=aP aj _ (al aff (ay))
theorem afh:(Ge (M.uD)).Ok D Tryz.prog:=
 aM (cx:=Q2) (c:=Ge (M.uD)) (fz:=true) (fn:=Tryz.f108) aj (afg) aA ⟨Tryz.func108,by kernel_rfl⟩ (aN (aJ (by kernel_rfl))) ⟨⟨[.bool],[]⟩,fun x=>x.1.1⟩ (fun x=>rfl) (fun x=>by kernel_rfl)
def Gf(m:(List M.ar)->Option (Bool)):aI K:={f:=59,sh:=⟨[.ah U.Prog],[]⟩,R:=Bool,run:=fun x=>m x.1.1,dflt:=default,out:=fun r=>(Sh.enc D (.bool) r,aB.encs D [] ())}
def Q3:Cx K:={aO with mode:=aL .plain [(71,.plain),(65,.plain),(108,.plain)],call:=callOf D [xQ M.xR,gq M.gu,Ge M.uD],loop:=aK []}
theorem afi:aH (Q3):=aP aj _ (al Eu (al ib (al afh (ay))))
theorem afj:(Gf (M.uB)).Ok D Tryz.prog:=
 aM (cx:=Q3) (c:=Gf (M.uB)) (fz:=true) (fn:=Tryz.f59) aj (afi) aA ⟨Tryz.func59,by kernel_rfl⟩ (aN (aJ (by kernel_rfl))) ⟨⟨[.bool],[]⟩,fun x=>x.1.1⟩ (fun x=>rfl) (fun x=>by kernel_rfl)
def Gg(m:M.az->Option (Bool)):aI K:={f:=112,sh:=⟨[.el U.Note],[]⟩,R:=Bool,run:=fun x=>m x.1.1,dflt:=default,out:=fun r=>(Sh.enc D (.bool) r,aB.encs D [] ())}
def Q4:Cx K:={aO with mode:=aL .plain [(65,.plain)],call:=callOf D [gq M.gu],loop:=aK []}
theorem afk:aH (Q4):=aP aj _ (al ib (ay))
theorem afl:(Gg (M.uF)).Ok D Tryz.prog:=
 aM (cx:=Q4) (c:=Gg (M.uF)) (fz:=true) (fn:=Tryz.f112) aj (afk) aA ⟨Tryz.func112,by kernel_rfl⟩ (aN (aJ (by kernel_rfl))) ⟨⟨[.bool],[]⟩,fun x=>x.1.1⟩ (fun x=>rfl) (fun x=>by kernel_rfl)
def Q5(y:(Int)⊕(Unit)){R:Type}(k:Ex->List (AV K)->List (Ob K)->R):R:=match y with
 |.inl a0=>k Ex.ret (ax.aU D ⟨[.int .i64],[]⟩ ((a0,()),())) (ax.aY D ⟨[.int .i64],[]⟩ ((a0,()),()))
 |.inr (a1)=>k (Ex.exit 0) (ax.aU D ⟨[.any],[]⟩ (((),()),())) (ax.aY D ⟨[.any],[]⟩ (((),()),()))
def afm:List (bK K ((Int)⊕(Unit))):=[⟨Ex.ret,⟨[.int .i64],[]⟩,fun x=>.inl x.1.1⟩,⟨(Ex.exit 0),⟨[.any],[]⟩,fun x=>.inr (())⟩]
def Q6:bD K:=bM D false 19 0 [0,1,7,8] [4] ⟨[.ah U.Note,.fn 112 [],.int .i64,.int .i64],[]⟩ (fun x=>M.rf x.1.1 x.1.2.2.1 an x.1.2.2.2.1) Q5
def Gh(m:(List M.az)->Option (Int)):aI K:={f:=152,sh:=⟨[.ah U.Note,.fn 112 []],[]⟩,R:=Int,run:=fun x=>m x.1.1,dflt:=default,out:=fun r=>(Sh.enc D (.int .i64) r,aB.encs D [] ())}
def Bj:Cx K:={aO with mode:=aL .plain [(112,.plain)],call:=callOf D [Gg M.uF],loop:=aK [(2,Q6)]}
theorem Q7:aH (Bj):=aP aj _ (al afl (ay))
theorem afn:bE (Bj) (bG (bL Tryz.f152) 0) (Q6):=
 bP (cx:=Bj) (n:=19) (n0:=0) (ins:=[0,1,7,8]) (outs:=[4]) (sh:=⟨[.ah U.Note,.fn 112 [],.int .i64,.int .i64],[]⟩) (run:=fun n x=>M.rf x.1.1 x.1.2.2.1 n x.1.2.2.2.1) (bH:=afm) (out:=Q5) aj (Q7) aA (aJ (by kernel_rfl)) (fun _=>rfl) (fun m x=>by kernel_rfl) (al ⟨cz,fun _ _ _=>rfl⟩ (al ⟨bQ,fun _ _ _=>rfl⟩ (ay))) false an
theorem afo:(Gh (M.xJ)).Ok D Tryz.prog:=
 aM (cx:=Bj) (c:=Gh (M.xJ)) (fz:=true) (fn:=Tryz.f152) aj (Q7) aA ⟨Tryz.func152,by kernel_rfl⟩ (aN (bX 1 (by kernel_rfl) (bZ (.mk (by kernel_rfl) (afn))))) ⟨⟨[.int .i64],[]⟩,fun x=>x.1.1⟩ (fun x=>rfl) (fun x=>by kernel_rfl)
def Gi(m:(List M.az)->Option (Bool)):aI K:={f:=111,sh:=⟨[.ah U.Note,.fn 112 []],[]⟩,R:=Bool,run:=fun x=>m x.1.1,dflt:=default,out:=fun r=>(Sh.enc D (.bool) r,aB.encs D [] ())}
def Q8:Cx K:={aO with mode:=aL .plain [(152,.plain)],call:=callOf D [Gh M.xJ],loop:=aK []}
theorem afp:aH (Q8):=aP aj _ (al afo (ay))
theorem afq:(Gi (M.uG)).Ok D Tryz.prog:=
 aM (cx:=Q8) (c:=Gi (M.uG)) (fz:=true) (fn:=Tryz.f111) aj (afp) aA ⟨Tryz.func111,by kernel_rfl⟩ (aN (aJ (by kernel_rfl))) ⟨⟨[.bool],[]⟩,fun x=>x.1.1⟩ (fun x=>rfl) (fun x=>by kernel_rfl)
def Gj(m:(List M.az)->Option (Bool)):aI K:={f:=60,sh:=⟨[.ah U.Note],[]⟩,R:=Bool,run:=fun x=>m x.1.1,dflt:=default,out:=fun r=>(Sh.enc D (.bool) r,aB.encs D [] ())}
def Q9:Cx K:={aO with mode:=aL .plain [(111,.plain)],call:=callOf D [Gi M.uG],loop:=aK []}
theorem afr:aH (Q9):=aP aj _ (al afq (ay))
theorem afs:(Gj (M.uE)).Ok D Tryz.prog:=
 aM (cx:=Q9) (c:=Gj (M.uE)) (fz:=true) (fn:=Tryz.f60) aj (afr) aA ⟨Tryz.func60,by kernel_rfl⟩ (aN (aJ (by kernel_rfl))) ⟨⟨[.bool],[]⟩,fun x=>x.1.1⟩ (fun x=>rfl) (fun x=>by kernel_rfl)
def Gk(m:M.ae->Option (Bool)):aI K:={f:=62,sh:=⟨[.el U.Stream],[]⟩,R:=Bool,run:=fun x=>m x.1.1,dflt:=default,out:=fun r=>(Sh.enc D (.bool) r,aB.encs D [] ())}
def Rb:Cx K:={aO with mode:=aL .plain [(63,.plain)],call:=callOf D [FP M.ux],loop:=aK []}
theorem aft:aH (Rb):=aP aj _ (al aey (ay))
theorem afu:(Gk (M.uL)).Ok D Tryz.prog:=
 aM (cx:=Rb) (c:=Gk (M.uL)) (fz:=true) (fn:=Tryz.f62) aj (aft) aA ⟨Tryz.func62,by kernel_rfl⟩ (aN (aJ (by kernel_rfl))) ⟨⟨[.bool],[]⟩,fun x=>x.1.1⟩ (fun x=>rfl) (fun x=>by kernel_rfl)
def Re(y:(Int)⊕(Unit)){R:Type}(k:Ex->List (AV K)->List (Ob K)->R):R:=match y with
 |.inl a0=>k Ex.ret (ax.aU D ⟨[.int .i64],[]⟩ ((a0,()),())) (ax.aY D ⟨[.int .i64],[]⟩ ((a0,()),()))
 |.inr (a1)=>k (Ex.exit 0) (ax.aU D ⟨[.any],[]⟩ (((),()),())) (ax.aY D ⟨[.any],[]⟩ (((),()),()))
def afv:List (bK K ((Int)⊕(Unit))):=[⟨Ex.ret,⟨[.int .i64],[]⟩,fun x=>.inl x.1.1⟩,⟨(Ex.exit 0),⟨[.any],[]⟩,fun x=>.inr (())⟩]
def Rf:bD K:=bM D false 19 0 [0,1,7,8] [4] ⟨[.ah U.Stream,.fn 62 [],.int .i64,.int .i64],[]⟩ (fun x=>M.rq x.1.1 x.1.2.2.1 an x.1.2.2.2.1) Re
def Gl(m:(List M.ae)->Option (Int)):aI K:={f:=113,sh:=⟨[.ah U.Stream,.fn 62 []],[]⟩,R:=Int,run:=fun x=>m x.1.1,dflt:=default,out:=fun r=>(Sh.enc D (.int .i64) r,aB.encs D [] ())}
def Bl:Cx K:={aO with mode:=aL .plain [(62,.plain)],call:=callOf D [Gk M.uL],loop:=aK [(2,Rf)]}
theorem Rh:aH (Bl):=aP aj _ (al afu (ay))
theorem afw:bE (Bl) (bG (bL Tryz.f113) 0) (Rf):=
 bP (cx:=Bl) (n:=19) (n0:=0) (ins:=[0,1,7,8]) (outs:=[4]) (sh:=⟨[.ah U.Stream,.fn 62 [],.int .i64,.int .i64],[]⟩) (run:=fun n x=>M.rq x.1.1 x.1.2.2.1 n x.1.2.2.2.1) (bH:=afv) (out:=Re) aj (Rh) aA (aJ (by kernel_rfl)) (fun _=>rfl) (fun m x=>by kernel_rfl) (al ⟨cz,fun _ _ _=>rfl⟩ (al ⟨bQ,fun _ _ _=>rfl⟩ (ay))) false an
theorem afx:(Gl (M.xN)).Ok D Tryz.prog:=
 aM (cx:=Bl) (c:=Gl (M.xN)) (fz:=true) (fn:=Tryz.f113) aj (Rh) aA ⟨Tryz.func113,by kernel_rfl⟩ (aN (bX 1 (by kernel_rfl) (bZ (.mk (by kernel_rfl) (afw))))) ⟨⟨[.int .i64],[]⟩,fun x=>x.1.1⟩ (fun x=>rfl) (fun x=>by kernel_rfl)
def Gm(m:(List M.ae)->Option (Bool)):aI K:={f:=61,sh:=⟨[.ah U.Stream,.fn 62 []],[]⟩,R:=Bool,run:=fun x=>m x.1.1,dflt:=default,out:=fun r=>(Sh.enc D (.bool) r,aB.encs D [] ())}
def Ri:Cx K:={aO with mode:=aL .plain [(113,.plain)],call:=callOf D [Gl M.xN],loop:=aK []}
theorem afy:aH (Ri):=aP aj _ (al afx (ay))
theorem afz:(Gm (M.uK)).Ok D Tryz.prog:=
 aM (cx:=Ri) (c:=Gm (M.uK)) (fz:=true) (fn:=Tryz.f61) aj (afy) aA ⟨Tryz.func61,by kernel_rfl⟩ (aN (aJ (by kernel_rfl))) ⟨⟨[.bool],[]⟩,fun x=>x.1.1⟩ (fun x=>rfl) (fun x=>by kernel_rfl)
def Bm(m:(List M.aw)->Option (Int)):aI K:={f:=120,sh:=⟨[.ah U.cu],[]⟩,R:=Int,run:=fun x=>m x.1.1,dflt:=default,out:=fun r=>(Sh.enc D (.int .i64) r,aB.encs D [] ())}
def Rj:Cx K:={aO with mode:=aL .plain [],call:=callOf D [],loop:=aK []}
theorem afA:aH (Rj):=aP aj _ (ay)
theorem Rk:(Bm (M.Bn)).Ok D Tryz.prog:=
 aM (cx:=Rj) (c:=Bm (M.Bn)) (fz:=true) (fn:=Tryz.f120) aj (afA) aA ⟨Tryz.func120,by kernel_rfl⟩ (aN (aJ (by kernel_rfl))) ⟨⟨[.int .i64],[]⟩,fun x=>x.1.1⟩ (fun x=>rfl) (fun x=>by kernel_rfl)
def Bo(m:(List M.ad)->Option (Int)):aI K:={f:=66,sh:=⟨[.ah U.Task],[]⟩,R:=Int,run:=fun x=>m x.1.1,dflt:=default,out:=fun r=>(Sh.enc D (.int .i64) r,aB.encs D [] ())}
def Rl:Cx K:={aO with mode:=aL .plain [],call:=callOf D [],loop:=aK []}
theorem afB:aH (Rl):=aP aj _ (ay)
theorem Rm:(Bo (M.Bq)).Ok D Tryz.prog:=
 aM (cx:=Rl) (c:=Bo (M.Bq)) (fz:=true) (fn:=Tryz.f66) aj (afB) aA ⟨Tryz.func66,by kernel_rfl⟩ (aN (aJ (by kernel_rfl))) ⟨⟨[.int .i64],[]⟩,fun x=>x.1.1⟩ (fun x=>rfl) (fun x=>by kernel_rfl)
def Rn(y:(Bool)⊕(M.ad)){R:Type}(k:Ex->List (AV K)->List (Ob K)->R):R:=match y with
 |.inl a0=>k Ex.ret (ax.aU D ⟨[.any,.bool],[.dead,.dead]⟩ (((),(a0,())),((),((),())))) (ax.aY D ⟨[.any,.bool],[.dead,.dead]⟩ (((),(a0,())),((),((),()))))
 |.inr (a1)=>k (Ex.exit 0) (ax.aU D ⟨[.ptr 1 0,.any],[.dead,.el U.Task]⟩ (((),((),())),((),(a1,())))) (ax.aY D ⟨[.ptr 1 0,.any],[.dead,.el U.Task]⟩ (((),((),())),((),(a1,()))))
def afC:List (bK K ((Bool)⊕(M.ad))):=[⟨Ex.ret,⟨[.any,.bool],[.dead,.dead]⟩,fun x=>.inl x.1.2.1⟩,⟨(Ex.exit 0),⟨[.ptr 1 0,.any],[.dead,.el U.Task]⟩,fun x=>.inr (x.2.2.1)⟩]
def Ro:bD K:=bM D false 78 2 [2,3,10,11,12] [3,4] ⟨[.ptr 0 0,.ptr 1 0,.ah U.i64,.int .i64,.int .i64],[.el U.Async,.el U.Task]⟩ (fun x=>M.rm x.1.2.2.1 x.1.2.2.2.1 x.2.1 x.2.2.1 an x.1.2.2.2.2.1) Rn
def Rq(y:(Bool)⊕(Unit)){R:Type}(k:Ex->List (AV K)->List (Ob K)->R):R:=match y with
 |.inl a0=>k Ex.ret (ax.aU D ⟨[.bool],[.dead]⟩ ((a0,()),((),()))) (ax.aY D ⟨[.bool],[.dead]⟩ ((a0,()),((),())))
 |.inr (a1)=>k (Ex.exit 2) (ax.aU D ⟨[.any],[.dead]⟩ (((),()),((),()))) (ax.aY D ⟨[.any],[.dead]⟩ (((),()),((),())))
def afD:List (bK K ((Bool)⊕(Unit))):=[⟨Ex.ret,⟨[.bool],[.dead]⟩,fun x=>.inl x.1.1⟩,⟨(Ex.exit 2),⟨[.any],[.dead]⟩,fun x=>.inr (())⟩]
def Rr:bD K:=bM D false 78 1 [3,51,52,53] [4] ⟨[.ptr 0 0,.ah U.i64,.int .i64,.int .i64],[.el U.Task]⟩ (fun x=>M.rn x.1.2.1 x.1.2.2.1 x.2.1 an x.1.2.2.2.1) Rq
def Gn(m:M.ai->M.ad->Option (Bool)):aI K:={f:=121,sh:=⟨[.el U.Async,.el U.Task],[]⟩,R:=Bool,run:=fun x=>m x.1.1 x.1.2.1,dflt:=default,out:=fun r=>(Sh.enc D (.bool) r,aB.encs D [] ())}
def vo:Cx K:={aO with mode:=aL .plain [(66,.plain),(65,.plain),(69,.plain)],call:=callOf D [Bo M.Bq,gq M.gu,x7 M.kN],loop:=aK [(2,Ro),(8,Rr)]}
theorem Gp:aH (vo):=aP aj _ (al Rm (al ib (al E5 (ay))))
theorem afE:bE (vo) (bG (bL Tryz.f121) 0) (Ro):=
 bP (cx:=vo) (n:=78) (n0:=2) (ins:=[2,3,10,11,12]) (outs:=[3,4]) (sh:=⟨[.ptr 0 0,.ptr 1 0,.ah U.i64,.int .i64,.int .i64],[.el U.Async,.el U.Task]⟩) (run:=fun n x=>M.rm x.1.2.2.1 x.1.2.2.2.1 x.2.1 x.2.2.1 n x.1.2.2.2.2.1) (bH:=afC) (out:=Rn) aj (Gp) aA (aJ (by kernel_rfl)) (fun _=>rfl) (fun m x=>by kernel_rfl) (al ⟨cz,fun _ _ _=>rfl⟩ (al ⟨bQ,fun _ _ _=>rfl⟩ (ay))) false an
theorem afF:bE (vo) (bG (bL Tryz.f121) 1) (Rr):=
 bP (cx:=vo) (n:=78) (n0:=1) (ins:=[3,51,52,53]) (outs:=[4]) (sh:=⟨[.ptr 0 0,.ah U.i64,.int .i64,.int .i64],[.el U.Task]⟩) (run:=fun n x=>M.rn x.1.2.1 x.1.2.2.1 x.2.1 n x.1.2.2.2.1) (bH:=afD) (out:=Rq) aj (Gp) aA (aJ (by kernel_rfl)) (fun _=>rfl) (fun m x=>by kernel_rfl) (al ⟨cz,fun _ _ _=>rfl⟩ (al ⟨bQ,fun _ _ _=>rfl⟩ (ay))) false an
theorem afG:(Gn (M.uH)).Ok D Tryz.prog:=
 aM (cx:=vo) (c:=Gn (M.uH)) (fz:=true) (fn:=Tryz.f121) aj (Gp) aA ⟨Tryz.func121,by kernel_rfl⟩ (aN (bX 2 (by kernel_rfl) (lt_succ (bZ (.mk (by kernel_rfl) (afE))) (.mk (by kernel_rfl) (afF))))) ⟨⟨[.bool],[]⟩,fun x=>x.1.1⟩ (fun x=>rfl) (fun x=>by kernel_rfl)
def yc(m:M.ad->Option (Bool)):aI K:={f:=122,sh:=⟨[.el U.Task],[]⟩,R:=Bool,run:=fun x=>m x.1.1,dflt:=default,out:=fun r=>(Sh.enc D (.bool) r,aB.encs D [] ())}
def Rt:Cx K:={aO with mode:=aL .plain [],call:=callOf D [],loop:=aK []}
theorem afH:aH (Rt):=aP aj _ (ay)
theorem Gq:(yc (M.yd)).Ok D Tryz.prog:=
 aM (cx:=Rt) (c:=yc (M.yd)) (fz:=true) (fn:=Tryz.f122) aj (afH) aA ⟨Tryz.func122,by kernel_rfl⟩ (aN (aJ (by kernel_rfl))) ⟨⟨[.bool],[]⟩,fun x=>x.1.1⟩ (fun x=>rfl) (fun x=>by kernel_rfl)
def Gs(m:M.ai->Int->Option (Bool)):aI K:={f:=64,sh:=⟨[.el U.Async,.int .i64],[]⟩,R:=Bool,run:=fun x=>m x.1.1 x.1.2.1,dflt:=default,out:=fun r=>(Sh.enc D (.bool) r,aB.encs D [] ())}
def Ru:Cx K:={aO with mode:=aL .plain [(71,.plain),(65,.plain),(120,.plain),(121,.plain),(122,.plain)],call:=callOf D [xQ M.xR,gq M.gu,Bm M.Bn,Gn M.uH,yc M.yd],loop:=aK []}
theorem afI:aH (Ru):=aP aj _ (al Eu (al ib (al Rk (al afG (al Gq (ay))))))
theorem afJ:(Gs (M.uI)).Ok D Tryz.prog:=
 aM (cx:=Ru) (c:=Gs (M.uI)) (fz:=true) (fn:=Tryz.f64) aj (afI) aA ⟨Tryz.func64,by kernel_rfl⟩ (aN (aJ (by kernel_rfl))) ⟨⟨[.bool],[]⟩,fun x=>x.1.1⟩ (fun x=>rfl) (fun x=>by kernel_rfl)
def Rw(y:(Bool)⊕(M.ai)){R:Type}(k:Ex->List (AV K)->List (Ob K)->R):R:=match y with
 |.inl a0=>k Ex.ret (ax.aU D ⟨[.any,.bool],[.dead]⟩ (((),(a0,())),((),()))) (ax.aY D ⟨[.any,.bool],[.dead]⟩ (((),(a0,())),((),())))
 |.inr (a1)=>k (Ex.exit 0) (ax.aU D ⟨[.ptr 0 0,.any],[.el U.Async]⟩ (((),((),())),(a1,()))) (ax.aY D ⟨[.ptr 0 0,.any],[.el U.Async]⟩ (((),((),())),(a1,())))
def afK:List (bK K ((Bool)⊕(M.ai))):=[⟨Ex.ret,⟨[.any,.bool],[.dead]⟩,fun x=>.inl x.1.2.1⟩,⟨(Ex.exit 0),⟨[.ptr 0 0,.any],[.el U.Async]⟩,fun x=>.inr (x.2.1)⟩]
def Rx:bD K:=bM D false 68 1 [1,33,34] [1,2] ⟨[.ptr 0 0,.int .i64,.int .i64],[.el U.Async]⟩ (fun x=>M.po x.1.2.1 x.2.1 an x.1.2.2.1) Rw
def Ry(y:(Bool)⊕(Unit)){R:Type}(k:Ex->List (AV K)->List (Ob K)->R):R:=match y with
 |.inl a0=>k Ex.ret (ax.aU D ⟨[.bool],[.dead]⟩ ((a0,()),((),()))) (ax.aY D ⟨[.bool],[.dead]⟩ ((a0,()),((),())))
 |.inr (a1)=>k (Ex.exit 2) (ax.aU D ⟨[.any],[.dead]⟩ (((),()),((),()))) (ax.aY D ⟨[.any],[.dead]⟩ (((),()),((),())))
def afL:List (bK K ((Bool)⊕(Unit))):=[⟨Ex.ret,⟨[.bool],[.dead]⟩,fun x=>.inl x.1.1⟩,⟨(Ex.exit 2),⟨[.any],[.dead]⟩,fun x=>.inr (())⟩]
def Rz:bD K:=bM D false 68 1 [1,43,44,45] [2] ⟨[.ptr 0 0,.ah U.i64,.int .i64,.int .i64],[.el U.Async]⟩ (fun x=>M.pq x.1.2.1 x.1.2.2.1 x.2.1 an x.1.2.2.2.1) Ry
def Gt(m:M.ai->Option (Bool)):aI K:={f:=29,sh:=⟨[.el U.Async],[]⟩,R:=Bool,run:=fun x=>m x.1.1,dflt:=default,out:=fun r=>(Sh.enc D (.bool) r,aB.encs D [] ())}
def vp:Cx K:={aO with mode:=aL .plain [(59,.plain),(60,.plain),(61,.plain),(64,.plain),(65,.plain)],call:=callOf D [Gf M.uB,Gj M.uE,Gm M.uK,Gs M.uI,gq M.gu],loop:=aK [(6,Rx),(12,Rz)]}
theorem Gu:aH (vp):=aP aj _ (al afj (al afs (al afz (al afJ (al ib (ay))))))
theorem afM:bE (vp) (bG (bL Tryz.f29) 0) (Rx):=
 bP (cx:=vp) (n:=68) (n0:=1) (ins:=[1,33,34]) (outs:=[1,2]) (sh:=⟨[.ptr 0 0,.int .i64,.int .i64],[.el U.Async]⟩) (run:=fun n x=>M.po x.1.2.1 x.2.1 n x.1.2.2.1) (bH:=afK) (out:=Rw) aj (Gu) aA (aJ (by kernel_rfl)) (fun _=>rfl) (fun m x=>by kernel_rfl) (al ⟨cz,fun _ _ _=>rfl⟩ (al ⟨bQ,fun _ _ _=>rfl⟩ (ay))) false an
theorem afN:bE (vp) (bG (bL Tryz.f29) 1) (Rz):=
 bP (cx:=vp) (n:=68) (n0:=1) (ins:=[1,43,44,45]) (outs:=[2]) (sh:=⟨[.ptr 0 0,.ah U.i64,.int .i64,.int .i64],[.el U.Async]⟩) (run:=fun n x=>M.pq x.1.2.1 x.1.2.2.1 x.2.1 n x.1.2.2.2.1) (bH:=afL) (out:=Ry) aj (Gu) aA (aJ (by kernel_rfl)) (fun _=>rfl) (fun m x=>by kernel_rfl) (al ⟨cz,fun _ _ _=>rfl⟩ (al ⟨bQ,fun _ _ _=>rfl⟩ (ay))) false an
theorem afO:(Gt (M.uM)).Ok D Tryz.prog:=
 aM (cx:=vp) (c:=Gt (M.uM)) (fz:=true) (fn:=Tryz.f29) aj (Gu) aA ⟨Tryz.func29,by kernel_rfl⟩ (aN (bX 2 (by kernel_rfl) (lt_succ (bZ (.mk (by kernel_rfl) (afM))) (.mk (by kernel_rfl) (afN))))) ⟨⟨[.bool],[]⟩,fun x=>x.1.1⟩ (fun x=>rfl) (fun x=>by kernel_rfl)
def ye(m:Int->M.bh->Option (M.ad×M.bh)):aI K:={f:=67,sh:=⟨[.ptr 0 0,.int .i64],[.el U.async]⟩,R:=M.ad×M.bh,run:=fun x=>m x.1.2.1 x.2.1,dflt:=default,out:=fun r=>(Sh.enc D (.rp U.Task 0) r.1,aB.encs D [.el U.async] (r.2,()))}
def RB:Cx K:={aO with mode:=aL .plain [],call:=callOf D [],loop:=aK []}
theorem afP:aH (RB):=aP aj _ (ay)
theorem Gv:(ye (M.lE)).Ok D Tryz.prog:=
 aM (cx:=RB) (c:=ye (M.lE)) (fz:=true) (fn:=Tryz.f67) aj (afP) aA ⟨Tryz.func67,by kernel_rfl⟩ (aN (aJ (by kernel_rfl))) ⟨⟨[.rp U.Task 0],[.el U.async]⟩,fun x=>(x.1.1,x.2.1)⟩ (fun x=>rfl) (fun x=>by kernel_rfl)
def Gw(m:M.ad->M.bh->Option (M.aw×Bool×M.bh)):aI K:={f:=68,sh:=⟨[.ptr 0 0,.rp U.Task 0],[.el U.async]⟩,R:=M.aw×Bool×M.bh,run:=fun x=>m x.1.2.1 x.2.1,dflt:=default,out:=fun r=>(Sh.enc D (.bu [.el U.cu,.bool]) (r.1,(r.2.1,())),aB.encs D [.el U.async] (r.2.2,()))}
def RD:Cx K:={aO with mode:=aL .plain [(120,.plain)],call:=callOf D [Bm M.Bn],loop:=aK []}
theorem afQ:aH (RD):=aP aj _ (al Rk (ay))
theorem afR:(Gw (M.ta)).Ok D Tryz.prog:=
 aM (cx:=RD) (c:=Gw (M.ta)) (fz:=true) (fn:=Tryz.f68) aj (afQ) aA ⟨Tryz.func68,by kernel_rfl⟩ (aN (aJ (by kernel_rfl))) ⟨⟨[.bu [.el U.cu,.bool]],[.el U.async]⟩,fun x=>(x.1.1.1,x.1.1.2.1,x.2.1)⟩ (fun x=>rfl) (fun x=>by kernel_rfl)
def Gx(m:M.ad->Option (Bool)):aI K:={f:=36,sh:=⟨[.el U.Task],[]⟩,R:=Bool,run:=fun x=>m x.1.1,dflt:=default,out:=fun r=>(Sh.enc D (.bool) r,aB.encs D [] ())}
def RE:Cx K:={aO with mode:=aL .plain [(65,.plain)],call:=callOf D [gq M.gu],loop:=aK []}
theorem afS:aH (RE):=aP aj _ (al ib (ay))
theorem afT:(Gx (M.Gy)).Ok D Tryz.prog:=
 aM (cx:=RE) (c:=Gx (M.Gy)) (fz:=true) (fn:=Tryz.f36) aj (afS) aA ⟨Tryz.func36,by kernel_rfl⟩ (aN (aJ (by kernel_rfl))) ⟨⟨[.bool],[]⟩,fun x=>x.1.1⟩ (fun x=>rfl) (fun x=>by kernel_rfl)
def Br(m:(List M.ae)->Option (Int)):aI K:={f:=160,sh:=⟨[.ah U.Stream],[]⟩,R:=Int,run:=fun x=>m x.1.1,dflt:=default,out:=fun r=>(Sh.enc D (.int .i64) r,aB.encs D [] ())}
def RF:Cx K:={aO with mode:=aL .plain [],call:=callOf D [],loop:=aK []}
theorem afU:aH (RF):=aP aj _ (ay)
theorem RG:(Br (M.Bt)).Ok D Tryz.prog:=
 aM (cx:=RF) (c:=Br (M.Bt)) (fz:=true) (fn:=Tryz.f160) aj (afU) aA ⟨Tryz.func160,by kernel_rfl⟩ (aN (aJ (by kernel_rfl))) ⟨⟨[.int .i64],[]⟩,fun x=>x.1.1⟩ (fun x=>rfl) (fun x=>by kernel_rfl)
def Gz(m:M.aw->Option (Bool)):aI K:={f:=134,sh:=⟨[.el U.cu],[]⟩,R:=Bool,run:=fun x=>m x.1.1,dflt:=default,out:=fun r=>(Sh.enc D (.bool) r,aB.encs D [] ())}
def RH:Cx K:={aO with mode:=aL .plain [(47,.plain)],call:=callOf D [ke M.kf],loop:=aK []}
theorem afV:aH (RH):=aP aj _ (al l6 (ay))
theorem afW:(Gz (M.kF)).Ok D Tryz.prog:=
 aM (cx:=RH) (c:=Gz (M.kF)) (fz:=true) (fn:=Tryz.f134) aj (afV) aA ⟨Tryz.func134,by kernel_rfl⟩ (aN (aJ (by kernel_rfl))) ⟨⟨[.bool],[]⟩,fun x=>x.1.1⟩ (fun x=>rfl) (fun x=>by kernel_rfl)
def RI(y:(Bool)⊕(Unit)){R:Type}(k:Ex->List (AV K)->List (Ob K)->R):R:=match y with
 |.inl a0=>k Ex.ret (ax.aU D ⟨[.bool],[.dead]⟩ ((a0,()),((),()))) (ax.aY D ⟨[.bool],[.dead]⟩ ((a0,()),((),())))
 |.inr (a1)=>k (Ex.exit 0) (ax.aU D ⟨[.any],[.dead]⟩ (((),()),((),()))) (ax.aY D ⟨[.any],[.dead]⟩ (((),()),((),())))
def afX:List (bK K ((Bool)⊕(Unit))):=[⟨Ex.ret,⟨[.bool],[.dead]⟩,fun x=>.inl x.1.1⟩,⟨(Ex.exit 0),⟨[.any],[.dead]⟩,fun x=>.inr (())⟩]
def RJ:bD K:=bM D false 28 1 [1,3] [2] ⟨[.ptr 0 0,.int .i64],[.el U.Prog]⟩ (fun x=>M.oZ x.2.1 an x.1.2.1) RI
def GF(m:M.ar->Option (Bool)):aI K:={f:=84,sh:=⟨[.el U.Prog],[]⟩,R:=Bool,run:=fun x=>m x.1.1,dflt:=default,out:=fun r=>(Sh.enc D (.bool) r,aB.encs D [] ())}
def Bv:Cx K:={aO with mode:=aL .plain [(47,.plain),(134,.plain)],call:=callOf D [ke M.kf,Gz M.kF],loop:=aK [(4,RJ)]}
theorem RL:aH (Bv):=aP aj _ (al l6 (al afW (ay)))
theorem afY:bE (Bv) (bG (bL Tryz.f84) 0) (RJ):=
 bP (cx:=Bv) (n:=28) (n0:=1) (ins:=[1,3]) (outs:=[2]) (sh:=⟨[.ptr 0 0,.int .i64],[.el U.Prog]⟩) (run:=fun n x=>M.oZ x.2.1 n x.1.2.1) (bH:=afX) (out:=RI) aj (RL) aA (aJ (by kernel_rfl)) (fun _=>rfl) (fun m x=>by kernel_rfl) (al ⟨cz,fun _ _ _=>rfl⟩ (al ⟨bQ,fun _ _ _=>rfl⟩ (ay))) false an
theorem afZ:(GF (M.qW)).Ok D Tryz.prog:=
 aM (cx:=Bv) (c:=GF (M.qW)) (fz:=true) (fn:=Tryz.f84) aj (RL) aA ⟨Tryz.func84,by kernel_rfl⟩ (aN (bX 1 (by kernel_rfl) (bZ (.mk (by kernel_rfl) (afY))))) ⟨⟨[.bool],[]⟩,fun x=>x.1.1⟩ (fun x=>rfl) (fun x=>by kernel_rfl)
def RN(y:(Bool)⊕(Unit)){R:Type}(k:Ex->List (AV K)->List (Ob K)->R):R:=match y with
 |.inl a0=>k Ex.ret (ax.aU D ⟨[.bool],[]⟩ ((a0,()),())) (ax.aY D ⟨[.bool],[]⟩ ((a0,()),()))
 |.inr (a1)=>k (Ex.exit 0) (ax.aU D ⟨[.any],[]⟩ (((),()),())) (ax.aY D ⟨[.any],[]⟩ (((),()),()))
def af0:List (bK K ((Bool)⊕(Unit))):=[⟨Ex.ret,⟨[.bool],[]⟩,fun x=>.inl x.1.1⟩,⟨(Ex.exit 0),⟨[.any],[]⟩,fun x=>.inr (())⟩]
def RO:bD K:=bM D false 24 0 [0,3] [2] ⟨[.ah U.Prog,.int .i64],[]⟩ (fun x=>M.qY x.1.1 an x.1.2.1) RN
def GG(m:(List M.ar)->Option (Bool)):aI K:={f:=44,sh:=⟨[.ah U.Prog],[]⟩,R:=Bool,run:=fun x=>m x.1.1,dflt:=default,out:=fun r=>(Sh.enc D (.bool) r,aB.encs D [] ())}
def By:Cx K:={aO with mode:=aL .plain [(84,.plain)],call:=callOf D [GF M.qW],loop:=aK [(4,RO)]}
theorem RP:aH (By):=aP aj _ (al afZ (ay))
theorem af1:bE (By) (bG (bL Tryz.f44) 0) (RO):=
 bP (cx:=By) (n:=24) (n0:=0) (ins:=[0,3]) (outs:=[2]) (sh:=⟨[.ah U.Prog,.int .i64],[]⟩) (run:=fun n x=>M.qY x.1.1 n x.1.2.1) (bH:=af0) (out:=RN) aj (RP) aA (aJ (by kernel_rfl)) (fun _=>rfl) (fun m x=>by kernel_rfl) (al ⟨cz,fun _ _ _=>rfl⟩ (al ⟨bQ,fun _ _ _=>rfl⟩ (ay))) false an
theorem af2:(GG (M.uA)).Ok D Tryz.prog:=
 aM (cx:=By) (c:=GG (M.uA)) (fz:=true) (fn:=Tryz.f44) aj (RP) aA ⟨Tryz.func44,by kernel_rfl⟩ (aN (bX 1 (by kernel_rfl) (bZ (.mk (by kernel_rfl) (af1))))) ⟨⟨[.bool],[]⟩,fun x=>x.1.1⟩ (fun x=>rfl) (fun x=>by kernel_rfl)
def RQ(y:(Bool×(List M.ar)×(List M.ae)×(List M.ad)×(List Int)×(List M.az))⊕(M.ai)){R:Type}(k:Ex->List (AV K)->List (Ob K)->R):R:=match y with
 |.inl a0=>k Ex.ret (ax.aU D ⟨[.any,.bool],[.box [.ah U.Prog,.ah U.Stream,.ah U.Task,.ah U.i64,.ah U.Note]]⟩ (((),(a0.1,())),((a0.2.1,(a0.2.2.1,(a0.2.2.2.1,(a0.2.2.2.2.1,(a0.2.2.2.2.2,()))))),()))) (ax.aY D ⟨[.any,.bool],[.box [.ah U.Prog,.ah U.Stream,.ah U.Task,.ah U.i64,.ah U.Note]]⟩ (((),(a0.1,())),((a0.2.1,(a0.2.2.1,(a0.2.2.2.1,(a0.2.2.2.2.1,(a0.2.2.2.2.2,()))))),())))
 |.inr (a1)=>k (Ex.exit 0) (ax.aU D ⟨[.ptr 0 0,.any],[.el U.Async]⟩ (((),((),())),(a1,()))) (ax.aY D ⟨[.ptr 0 0,.any],[.el U.Async]⟩ (((),((),())),(a1,())))
def af4:List (bK K ((Bool×(List M.ar)×(List M.ae)×(List M.ad)×(List Int)×(List M.az))⊕(M.ai))):=[⟨Ex.ret,⟨[.any,.bool],[.box [.ah U.Prog,.ah U.Stream,.ah U.Task,.ah U.i64,.ah U.Note]]⟩,fun x=>.inl (x.1.2.1,x.2.1.1,x.2.1.2.1,x.2.1.2.2.1,x.2.1.2.2.2.1,x.2.1.2.2.2.2.1)⟩,⟨(Ex.exit 0),⟨[.ptr 0 0,.any],[.el U.Async]⟩,fun x=>.inr (x.2.1)⟩]
def RR:bD K:=bM D false 169 1 [0,3] [0,2] ⟨[.ptr 0 0,.int .i64],[.el U.Async]⟩ (fun x=>M.pn x.2.1 an x.1.2.1) RQ
def RS(y:(Bool)⊕(Unit)){R:Type}(k:Ex->List (AV K)->List (Ob K)->R):R:=match y with
 |.inl a0=>k Ex.ret (ax.aU D ⟨[.bool],[]⟩ ((a0,()),())) (ax.aY D ⟨[.bool],[]⟩ ((a0,()),()))
 |.inr (a1)=>k (Ex.exit 0) (ax.aU D ⟨[.any],[]⟩ (((),()),())) (ax.aY D ⟨[.any],[]⟩ (((),()),()))
def af5:List (bK K ((Bool)⊕(Unit))):=[⟨Ex.ret,⟨[.bool],[]⟩,fun x=>.inl x.1.1⟩,⟨(Ex.exit 0),⟨[.any],[]⟩,fun x=>.inr (())⟩]
def RU:bD K:=bM D false 20 0 [0,3] [2] ⟨[.ah U.i64,.int .i64],[]⟩ (fun x=>M.ri x.1.1 an x.1.2.1) RS
def GH(m:(List Int)->Option (Bool)):aI K:={f:=87,sh:=⟨[.ah U.i64],[]⟩,R:=Bool,run:=fun x=>m x.1.1,dflt:=default,out:=fun r=>(Sh.enc D (.bool) r,aB.encs D [] ())}
def Bz:Cx K:={aO with mode:=aL .plain [],call:=callOf D [],loop:=aK [(2,RU)]}
theorem RV:aH (Bz):=aP aj _ (ay)
theorem af6:bE (Bz) (bG (bL Tryz.f87) 0) (RU):=
 bP (cx:=Bz) (n:=20) (n0:=0) (ins:=[0,3]) (outs:=[2]) (sh:=⟨[.ah U.i64,.int .i64],[]⟩) (run:=fun n x=>M.ri x.1.1 n x.1.2.1) (bH:=af5) (out:=RS) aj (RV) aA (aJ (by kernel_rfl)) (fun _=>rfl) (fun m x=>by kernel_rfl) (al ⟨cz,fun _ _ _=>rfl⟩ (al ⟨bQ,fun _ _ _=>rfl⟩ (ay))) false an
theorem af7:(GH (M.rj)).Ok D Tryz.prog:=
 aM (cx:=Bz) (c:=GH (M.rj)) (fz:=true) (fn:=Tryz.f87) aj (RV) aA ⟨Tryz.func87,by kernel_rfl⟩ (aN (bX 1 (by kernel_rfl) (bZ (.mk (by kernel_rfl) (af6))))) ⟨⟨[.bool],[]⟩,fun x=>x.1.1⟩ (fun x=>rfl) (fun x=>by kernel_rfl)
def RX(y:(Bool×(List M.ar)×(List M.ae)×(List M.ad)×(List Int)×(List M.az))⊕(Int×(List M.ar)×(List M.ae)×(List M.ad)×(List Int)×(List M.az)×M.ad)){R:Type}(k:Ex->List (AV K)->List (Ob K)->R):R:=match y with
 |.inl a0=>k Ex.ret (ax.aU D ⟨[.any,.any,.bool],[.box [.ah U.Prog,.ah U.Stream,.ah U.Task,.ah U.i64,.ah U.Note],.dead]⟩ (((),((),(a0.1,()))),((a0.2.1,(a0.2.2.1,(a0.2.2.2.1,(a0.2.2.2.2.1,(a0.2.2.2.2.2,()))))),((),())))) (ax.aY D ⟨[.any,.any,.bool],[.box [.ah U.Prog,.ah U.Stream,.ah U.Task,.ah U.i64,.ah U.Note],.dead]⟩ (((),((),(a0.1,()))),((a0.2.1,(a0.2.2.1,(a0.2.2.2.1,(a0.2.2.2.2.1,(a0.2.2.2.2.2,()))))),((),()))))
 |.inr (a1)=>k (Ex.exit 0) (ax.aU D ⟨[.ptr 1 0,.int .i64,.any],[.box [.ah U.Prog,.ah U.Stream,.ah U.Task,.ah U.i64,.ah U.Note],.el U.Task]⟩ (((),(a1.1,((),()))),((a1.2.1,(a1.2.2.1,(a1.2.2.2.1,(a1.2.2.2.2.1,(a1.2.2.2.2.2.1,()))))),(a1.2.2.2.2.2.2,())))) (ax.aY D ⟨[.ptr 1 0,.int .i64,.any],[.box [.ah U.Prog,.ah U.Stream,.ah U.Task,.ah U.i64,.ah U.Note],.el U.Task]⟩ (((),(a1.1,((),()))),((a1.2.1,(a1.2.2.1,(a1.2.2.2.1,(a1.2.2.2.2.1,(a1.2.2.2.2.2.1,()))))),(a1.2.2.2.2.2.2,()))))
def af8:List (bK K ((Bool×(List M.ar)×(List M.ae)×(List M.ad)×(List Int)×(List M.az))⊕(Int×(List M.ar)×(List M.ae)×(List M.ad)×(List Int)×(List M.az)×M.ad))):=[⟨Ex.ret,⟨[.any,.any,.bool],[.box [.ah U.Prog,.ah U.Stream,.ah U.Task,.ah U.i64,.ah U.Note],.dead]⟩,fun x=>.inl (x.1.2.2.1,x.2.1.1,x.2.1.2.1,x.2.1.2.2.1,x.2.1.2.2.2.1,x.2.1.2.2.2.2.1)⟩,⟨(Ex.exit 0),⟨[.ptr 1 0,.int .i64,.any],[.box [.ah U.Prog,.ah U.Stream,.ah U.Task,.ah U.i64,.ah U.Note],.el U.Task]⟩,fun x=>.inr ((x.1.2.1,x.2.1.1,x.2.1.2.1,x.2.1.2.2.1,x.2.1.2.2.2.1,x.2.1.2.2.2.2.1,x.2.2.1))⟩]
def RY:bD K:=bM D false 202 2 [0,5,6,7] [5,6,4] ⟨[.ptr 0 0,.ptr 1 0,.int .i64,.int .i64],[.el U.Async,.el U.Task]⟩ (fun x=>M.pg x.1.2.2.1 x.2.1 x.2.2.1 an x.1.2.2.2.1) RX
def RZ(y:(Bool)⊕(Unit)){R:Type}(k:Ex->List (AV K)->List (Ob K)->R):R:=match y with
 |.inl a0=>k Ex.ret (ax.aU D ⟨[.bool],[]⟩ ((a0,()),())) (ax.aY D ⟨[.bool],[]⟩ ((a0,()),()))
 |.inr (a1)=>k (Ex.exit 0) (ax.aU D ⟨[.any],[]⟩ (((),()),())) (ax.aY D ⟨[.any],[]⟩ (((),()),()))
def af9:List (bK K ((Bool)⊕(Unit))):=[⟨Ex.ret,⟨[.bool],[]⟩,fun x=>.inl x.1.1⟩,⟨(Ex.exit 0),⟨[.any],[]⟩,fun x=>.inr (())⟩]
def R7:bD K:=bM D false 18 0 [0,1,5] [4] ⟨[.ah U.i64,.int .i64,.int .i64],[]⟩ (fun x=>M.rl x.1.1 x.1.2.1 an x.1.2.2.1) RZ
def BA(m:(List Int)->Int->Option (Bool)):aI K:={f:=88,sh:=⟨[.ah U.i64,.int .i64],[]⟩,R:=Bool,run:=fun x=>m x.1.1 x.1.2.1,dflt:=default,out:=fun r=>(Sh.enc D (.bool) r,aB.encs D [] ())}
def BB:Cx K:={aO with mode:=aL .plain [],call:=callOf D [],loop:=aK [(2,R7)]}
theorem R9:aH (BB):=aP aj _ (ay)
theorem aga:bE (BB) (bG (bL Tryz.f88) 0) (R7):=
 bP (cx:=BB) (n:=18) (n0:=0) (ins:=[0,1,5]) (outs:=[4]) (sh:=⟨[.ah U.i64,.int .i64,.int .i64],[]⟩) (run:=fun n x=>M.rl x.1.1 x.1.2.1 n x.1.2.2.1) (bH:=af9) (out:=RZ) aj (R9) aA (aJ (by kernel_rfl)) (fun _=>rfl) (fun m x=>by kernel_rfl) (al ⟨cz,fun _ _ _=>rfl⟩ (al ⟨bQ,fun _ _ _=>rfl⟩ (ay))) false an
theorem Si:(BA (M.pf)).Ok D Tryz.prog:=
 aM (cx:=BB) (c:=BA (M.pf)) (fz:=true) (fn:=Tryz.f88) aj (R9) aA ⟨Tryz.func88,by kernel_rfl⟩ (aN (bX 1 (by kernel_rfl) (bZ (.mk (by kernel_rfl) (aga))))) ⟨⟨[.bool],[]⟩,fun x=>x.1.1⟩ (fun x=>rfl) (fun x=>by kernel_rfl)
def Sj(y:(Bool)⊕(Int×M.ad)){R:Type}(k:Ex->List (AV K)->List (Ob K)->R):R:=match y with
 |.inl a0=>k Ex.ret (ax.aU D ⟨[.any,.any,.bool],[.dead]⟩ (((),((),(a0,()))),((),()))) (ax.aY D ⟨[.any,.any,.bool],[.dead]⟩ (((),((),(a0,()))),((),())))
 |.inr (a1)=>k (Ex.exit 2) (ax.aU D ⟨[.ptr 0 0,.int .i64,.any],[.el U.Task]⟩ (((),(a1.1,((),()))),(a1.2,()))) (ax.aY D ⟨[.ptr 0 0,.int .i64,.any],[.el U.Task]⟩ (((),(a1.1,((),()))),(a1.2,())))
def agb:List (bK K ((Bool)⊕(Int×M.ad))):=[⟨Ex.ret,⟨[.any,.any,.bool],[.dead]⟩,fun x=>.inl x.1.2.2.1⟩,⟨(Ex.exit 2),⟨[.ptr 0 0,.int .i64,.any],[.el U.Task]⟩,fun x=>.inr ((x.1.2.1,x.2.1))⟩]
def Sl:bD K:=bM D false 202 1 [5,6,8] [5,6,4] ⟨[.ptr 0 0,.int .i64,.int .i64],[.el U.Task]⟩ (fun x=>M.pj x.1.2.1 x.2.1 an x.1.2.2.1) Sj
def yf(m:M.ad->Option (Bool)):aI K:={f:=89,sh:=⟨[.el U.Task],[]⟩,R:=Bool,run:=fun x=>m x.1.1,dflt:=default,out:=fun r=>(Sh.enc D (.bool) r,aB.encs D [] ())}
def Sm:Cx K:={aO with mode:=aL .plain [],call:=callOf D [],loop:=aK []}
theorem agc:aH (Sm):=aP aj _ (ay)
theorem GI:(yf (M.yg)).Ok D Tryz.prog:=
 aM (cx:=Sm) (c:=yf (M.yg)) (fz:=true) (fn:=Tryz.f89) aj (agc) aA ⟨Tryz.func89,by kernel_rfl⟩ (aN (aJ (by kernel_rfl))) ⟨⟨[.bool],[]⟩,fun x=>x.1.1⟩ (fun x=>rfl) (fun x=>by kernel_rfl)
def GK(m:Int->M.ai->Option (Bool×M.ai)):aI K:={f:=46,sh:=⟨[.ptr 0 0,.int .i64],[.el U.Async]⟩,R:=Bool×M.ai,run:=fun x=>m x.1.2.1 x.2.1,dflt:=default,out:=fun r=>(Sh.enc D (.bool) r.1,aB.encs D [.el U.Async] (r.2,()))}
def vq:Cx K:={aO with mode:=aL .plain [(47,.plain),(87,.plain),(88,.plain),(89,.plain)],call:=callOf D [ke M.kf,GH M.rj,BA M.pf,yf M.yg],loop:=aK [(8,RY),(13,Sl)]}
theorem GL:aH (vq):=aP aj _ (al l6 (al af7 (al Si (al GI (ay)))))
theorem agd:bE (vq) (bG (bL Tryz.f46) 0) (RY):=
 bP (cx:=vq) (n:=202) (n0:=2) (ins:=[0,5,6,7]) (outs:=[5,6,4]) (sh:=⟨[.ptr 0 0,.ptr 1 0,.int .i64,.int .i64],[.el U.Async,.el U.Task]⟩) (run:=fun n x=>M.pg x.1.2.2.1 x.2.1 x.2.2.1 n x.1.2.2.2.1) (bH:=af8) (out:=RX) aj (GL) aA (aJ (by kernel_rfl)) (fun _=>rfl) (fun m x=>by kernel_rfl) (al ⟨cz,fun _ _ _=>rfl⟩ (al ⟨bQ,fun _ _ _=>rfl⟩ (ay))) false an
theorem age:bE (vq) (bG (bL Tryz.f46) 1) (Sl):=
 bP (cx:=vq) (n:=202) (n0:=1) (ins:=[5,6,8]) (outs:=[5,6,4]) (sh:=⟨[.ptr 0 0,.int .i64,.int .i64],[.el U.Task]⟩) (run:=fun n x=>M.pj x.1.2.1 x.2.1 n x.1.2.2.1) (bH:=agb) (out:=Sj) aj (GL) aA (aJ (by kernel_rfl)) (fun _=>rfl) (fun m x=>by kernel_rfl) (al ⟨cz,fun _ _ _=>rfl⟩ (al ⟨bQ,fun _ _ _=>rfl⟩ (ay))) false an
theorem agf:(GK (M.uJ)).Ok D Tryz.prog:=
 aM (cx:=vq) (c:=GK (M.uJ)) (fz:=true) (fn:=Tryz.f46) aj (GL) aA ⟨Tryz.func46,by kernel_rfl⟩ (aN (bX 2 (by kernel_rfl) (lt_succ (bZ (.mk (by kernel_rfl) (agd))) (.mk (by kernel_rfl) (age))))) ⟨⟨[.bool],[.el U.Async]⟩,fun x=>(x.1.1,x.2.1)⟩ (fun x=>rfl) (fun x=>by kernel_rfl)
def Sr(y:(Bool×(List M.ar)×(List M.ae)×(List M.ad)×(List Int)×(List M.az))⊕(M.ai)){R:Type}(k:Ex->List (AV K)->List (Ob K)->R):R:=match y with
 |.inl a0=>k Ex.ret (ax.aU D ⟨[.any,.bool],[.box [.ah U.Prog,.ah U.Stream,.ah U.Task,.ah U.i64,.ah U.Note]]⟩ (((),(a0.1,())),((a0.2.1,(a0.2.2.1,(a0.2.2.2.1,(a0.2.2.2.2.1,(a0.2.2.2.2.2,()))))),()))) (ax.aY D ⟨[.any,.bool],[.box [.ah U.Prog,.ah U.Stream,.ah U.Task,.ah U.i64,.ah U.Note]]⟩ (((),(a0.1,())),((a0.2.1,(a0.2.2.1,(a0.2.2.2.1,(a0.2.2.2.2.1,(a0.2.2.2.2.2,()))))),())))
 |.inr (a1)=>k (Ex.exit 2) (ax.aU D ⟨[.ptr 0 0,.any],[.el U.Async]⟩ (((),((),())),(a1,()))) (ax.aY D ⟨[.ptr 0 0,.any],[.el U.Async]⟩ (((),((),())),(a1,())))
def agh:List (bK K ((Bool×(List M.ar)×(List M.ae)×(List M.ad)×(List Int)×(List M.az))⊕(M.ai))):=[⟨Ex.ret,⟨[.any,.bool],[.box [.ah U.Prog,.ah U.Stream,.ah U.Task,.ah U.i64,.ah U.Note]]⟩,fun x=>.inl (x.1.2.1,x.2.1.1,x.2.1.2.1,x.2.1.2.2.1,x.2.1.2.2.2.1,x.2.1.2.2.2.2.1)⟩,⟨(Ex.exit 2),⟨[.ptr 0 0,.any],[.el U.Async]⟩,fun x=>.inr (x.2.1)⟩]
def Ss:bD K:=bM D false 169 1 [0,4] [0,2] ⟨[.ptr 0 0,.int .i64],[.el U.Async]⟩ (fun x=>M.lY an x.1.2.1 x.2.1) Sr
def Su(y:(Bool×(List M.ar)×(List M.ae)×(List M.ad)×(List Int)×(List M.az))⊕(M.ai)){R:Type}(k:Ex->List (AV K)->List (Ob K)->R):R:=match y with
 |.inl a0=>k Ex.ret (ax.aU D ⟨[.any,.bool],[.box [.ah U.Prog,.ah U.Stream,.ah U.Task,.ah U.i64,.ah U.Note]]⟩ (((),(a0.1,())),((a0.2.1,(a0.2.2.1,(a0.2.2.2.1,(a0.2.2.2.2.1,(a0.2.2.2.2.2,()))))),()))) (ax.aY D ⟨[.any,.bool],[.box [.ah U.Prog,.ah U.Stream,.ah U.Task,.ah U.i64,.ah U.Note]]⟩ (((),(a0.1,())),((a0.2.1,(a0.2.2.1,(a0.2.2.2.1,(a0.2.2.2.2.1,(a0.2.2.2.2.2,()))))),())))
 |.inr (a1)=>k (Ex.exit 4) (ax.aU D ⟨[.ptr 0 0,.any],[.el U.Async]⟩ (((),((),())),(a1,()))) (ax.aY D ⟨[.ptr 0 0,.any],[.el U.Async]⟩ (((),((),())),(a1,())))
def agi:List (bK K ((Bool×(List M.ar)×(List M.ae)×(List M.ad)×(List Int)×(List M.az))⊕(M.ai))):=[⟨Ex.ret,⟨[.any,.bool],[.box [.ah U.Prog,.ah U.Stream,.ah U.Task,.ah U.i64,.ah U.Note]]⟩,fun x=>.inl (x.1.2.1,x.2.1.1,x.2.1.2.1,x.2.1.2.2.1,x.2.1.2.2.2.1,x.2.1.2.2.2.2.1)⟩,⟨(Ex.exit 4),⟨[.ptr 0 0,.any],[.el U.Async]⟩,fun x=>.inr (x.2.1)⟩]
def Sv:bD K:=bM D false 169 1 [0,5] [0,2] ⟨[.ptr 0 0,.int .i64],[.el U.Async]⟩ (fun x=>M.pr x.2.1 an x.1.2.1) Su
def Sz(y:(Bool×(List M.ar)×(List M.ae)×(List M.ad)×(List Int)×(List M.az))⊕((List M.ar)×(List M.ae)×(List M.ad)×(List Int)×(List M.az))){R:Type}(k:Ex->List (AV K)->List (Ob K)->R):R:=match y with
 |.inl a0=>k Ex.ret (ax.aU D ⟨[.bool],[.box [.ah U.Prog,.ah U.Stream,.ah U.Task,.ah U.i64,.ah U.Note]]⟩ ((a0.1,()),((a0.2.1,(a0.2.2.1,(a0.2.2.2.1,(a0.2.2.2.2.1,(a0.2.2.2.2.2,()))))),()))) (ax.aY D ⟨[.bool],[.box [.ah U.Prog,.ah U.Stream,.ah U.Task,.ah U.i64,.ah U.Note]]⟩ ((a0.1,()),((a0.2.1,(a0.2.2.1,(a0.2.2.2.1,(a0.2.2.2.2.1,(a0.2.2.2.2.2,()))))),())))
 |.inr (a1)=>k (Ex.exit 6) (ax.aU D ⟨[.any],[.box [.ah U.Prog,.ah U.Stream,.ah U.Task,.ah U.i64,.ah U.Note]]⟩ (((),()),((a1.1,(a1.2.1,(a1.2.2.1,(a1.2.2.2.1,(a1.2.2.2.2,()))))),()))) (ax.aY D ⟨[.any],[.box [.ah U.Prog,.ah U.Stream,.ah U.Task,.ah U.i64,.ah U.Note]]⟩ (((),()),((a1.1,(a1.2.1,(a1.2.2.1,(a1.2.2.2.1,(a1.2.2.2.2,()))))),())))
def agj:List (bK K ((Bool×(List M.ar)×(List M.ae)×(List M.ad)×(List Int)×(List M.az))⊕((List M.ar)×(List M.ae)×(List M.ad)×(List Int)×(List M.az)))):=[⟨Ex.ret,⟨[.bool],[.box [.ah U.Prog,.ah U.Stream,.ah U.Task,.ah U.i64,.ah U.Note]]⟩,fun x=>.inl (x.1.1,x.2.1.1,x.2.1.2.1,x.2.1.2.2.1,x.2.1.2.2.2.1,x.2.1.2.2.2.2.1)⟩,⟨(Ex.exit 6),⟨[.any],[.box [.ah U.Prog,.ah U.Stream,.ah U.Task,.ah U.i64,.ah U.Note]]⟩,fun x=>.inr ((x.2.1.1,x.2.1.2.1,x.2.1.2.2.1,x.2.1.2.2.2.1,x.2.1.2.2.2.2.1))⟩]
def SA:bD K:=bM D false 169 1 [0,6] [2] ⟨[.ptr 0 0,.int .i64],[.el U.Async]⟩ (fun x=>M.pt x.2.1 an x.1.2.1) Sz
def GM(m:M.ai->Option (Bool×M.ai)):aI K:={f:=21,sh:=⟨[.ptr 0 0],[.el U.Async]⟩,R:=Bool×M.ai,run:=fun x=>m x.2.1,dflt:=default,out:=fun r=>(Sh.enc D (.bool) r.1,aB.encs D [.el U.Async] (r.2,()))}
def md:Cx K:={aO with mode:=aL .plain [(44,.plain),(45,.plain),(46,.cL),(47,.plain)],call:=callOf D [GG M.uA,Fv M.uw,GK M.uJ,ke M.kf],loop:=aK [(4,RR),(9,Ss),(14,Sv),(19,SA)]}
theorem yh:aH (md):=aP aj _ (al af2 (al adS (al agf (al l6 (ay)))))
theorem agk:bE (md) (bG (bL Tryz.f21) 0) (RR):=
 bP (cx:=md) (n:=169) (n0:=1) (ins:=[0,3]) (outs:=[0,2]) (sh:=⟨[.ptr 0 0,.int .i64],[.el U.Async]⟩) (run:=fun n x=>M.pn x.2.1 n x.1.2.1) (bH:=af4) (out:=RQ) aj (yh) aA (aJ (by kernel_rfl)) (fun _=>rfl) (fun m x=>by kernel_rfl) (al ⟨cz,fun _ _ _=>rfl⟩ (al ⟨bQ,fun _ _ _=>rfl⟩ (ay))) false an
theorem agl:bE (md) (bG (bL Tryz.f21) 1) (Ss):=
 bP (cx:=md) (n:=169) (n0:=1) (ins:=[0,4]) (outs:=[0,2]) (sh:=⟨[.ptr 0 0,.int .i64],[.el U.Async]⟩) (run:=fun n x=>M.lY n x.1.2.1 x.2.1) (bH:=agh) (out:=Sr) aj (yh) aA (aJ (by kernel_rfl)) (fun _=>rfl) (fun m x=>by kernel_rfl) (al ⟨cz,fun _ _ _=>rfl⟩ (al ⟨bQ,fun _ _ _=>rfl⟩ (ay))) false an
theorem agm:bE (md) (bG (bL Tryz.f21) 2) (Sv):=
 bP (cx:=md) (n:=169) (n0:=1) (ins:=[0,5]) (outs:=[0,2]) (sh:=⟨[.ptr 0 0,.int .i64],[.el U.Async]⟩) (run:=fun n x=>M.pr x.2.1 n x.1.2.1) (bH:=agi) (out:=Su) aj (yh) aA (aJ (by kernel_rfl)) (fun _=>rfl) (fun m x=>by kernel_rfl) (al ⟨cz,fun _ _ _=>rfl⟩ (al ⟨bQ,fun _ _ _=>rfl⟩ (ay))) false an
theorem agn:bE (md) (bG (bL Tryz.f21) 3) (SA):=
 bP (cx:=md) (n:=169) (n0:=1) (ins:=[0,6]) (outs:=[2]) (sh:=⟨[.ptr 0 0,.int .i64],[.el U.Async]⟩) (run:=fun n x=>M.pt x.2.1 n x.1.2.1) (bH:=agj) (out:=Sz) aj (yh) aA (aJ (by kernel_rfl)) (fun _=>rfl) (fun m x=>by kernel_rfl) (al ⟨cz,fun _ _ _=>rfl⟩ (al ⟨bQ,fun _ _ _=>rfl⟩ (ay))) false an
theorem agp:(GM (M.ru)).Ok D Tryz.prog:=
 aM (cx:=md) (c:=GM (M.ru)) (fz:=true) (fn:=Tryz.f21) aj (yh) aA ⟨Tryz.func21,by kernel_rfl⟩ (aN (bX 4 (by kernel_rfl) (lt_succ (lt_succ (lt_succ (bZ (.mk (by kernel_rfl) (agk))) (.mk (by kernel_rfl) (agl))) (.mk (by kernel_rfl) (agm))) (.mk (by kernel_rfl) (agn))))) ⟨⟨[.bool],[.el U.Async]⟩,fun x=>(x.1.1,x.2.1)⟩ (fun x=>rfl) (fun x=>by kernel_rfl)
def GN(m:(List Int)->Option ((List Int))):aI K:={f:=49,sh:=⟨[.ah U.i64],[]⟩,R:=(List Int),run:=fun x=>m x.1.1,dflt:=default,out:=fun r=>(Sh.enc D (.own 0) (),aB.encs D [.arr U.i64] (r,()))}
def SB:Cx K:={aO with mode:=aL .plain [],d5:=[[some U.i64]],call:=callOf D [],loop:=aK []}
theorem agq:aH (SB):=aP aj _ (ay)
theorem agr:(GN (M.ow)).Ok D Tryz.prog:=
 aM (cx:=SB) (c:=GN (M.ow)) (fz:=false) (fn:=Tryz.f49) aj (agq) aA ⟨Tryz.func49,by kernel_rfl⟩ (aN (aJ (by kernel_rfl))) ⟨⟨[.own 0],[.arr U.i64]⟩,fun x=>x.2.1⟩ (fun x=>rfl) (fun x=>by kernel_rfl)
def SC(y:M.ai×(List M.ar)×(List M.ar)×(List M.ae)×(List M.ad)×(List Int)×(List M.az)×(List M.ae)×(List M.ad)×(List Int)×(List M.az)){R:Type}(k:Ex->List (AV K)->List (Ob K)->R):R:=match y with
 |a0=>k (Ex.exit 0) (ax.aU D ⟨[.ptr 0 0,.ptr 1 0,.ptr 2 0],[.el U.Async,.box [.own 12,.own 13,.own 14,.own 15,.own 16],.box [.ah U.Prog,.own 17,.own 18,.own 19,.own 20],.dead,.dead,.dead,.dead,.dead,.dead,.dead,.dead,.dead,.arr U.Prog,.arr U.Stream,.arr U.Task,.arr U.i64,.arr U.Note,.arr U.Stream,.arr U.Task,.arr U.i64,.arr U.Note]⟩ (((),((),((),()))),(a0.1,(((),((),((),((),((),()))))),((a0.2.1,((),((),((),((),()))))),((),((),((),((),((),((),((),((),((),(a0.2.2.1,(a0.2.2.2.1,(a0.2.2.2.2.1,(a0.2.2.2.2.2.1,(a0.2.2.2.2.2.2.1,(a0.2.2.2.2.2.2.2.1,(a0.2.2.2.2.2.2.2.2.1,(a0.2.2.2.2.2.2.2.2.2.1,(a0.2.2.2.2.2.2.2.2.2.2,()))))))))))))))))))))))) (ax.aY D ⟨[.ptr 0 0,.ptr 1 0,.ptr 2 0],[.el U.Async,.box [.own 12,.own 13,.own 14,.own 15,.own 16],.box [.ah U.Prog,.own 17,.own 18,.own 19,.own 20],.dead,.dead,.dead,.dead,.dead,.dead,.dead,.dead,.dead,.arr U.Prog,.arr U.Stream,.arr U.Task,.arr U.i64,.arr U.Note,.arr U.Stream,.arr U.Task,.arr U.i64,.arr U.Note]⟩ (((),((),((),()))),(a0.1,(((),((),((),((),((),()))))),((a0.2.1,((),((),((),((),()))))),((),((),((),((),((),((),((),((),((),(a0.2.2.1,(a0.2.2.2.1,(a0.2.2.2.2.1,(a0.2.2.2.2.2.1,(a0.2.2.2.2.2.2.1,(a0.2.2.2.2.2.2.2.1,(a0.2.2.2.2.2.2.2.2.1,(a0.2.2.2.2.2.2.2.2.2.1,(a0.2.2.2.2.2.2.2.2.2.2,())))))))))))))))))))))))
def ags:List (bK K (M.ai×(List M.ar)×(List M.ar)×(List M.ae)×(List M.ad)×(List Int)×(List M.az)×(List M.ae)×(List M.ad)×(List Int)×(List M.az))):=[⟨(Ex.exit 0),⟨[.ptr 0 0,.ptr 1 0,.ptr 2 0],[.el U.Async,.box [.own 12,.own 13,.own 14,.own 15,.own 16],.box [.ah U.Prog,.own 17,.own 18,.own 19,.own 20],.dead,.dead,.dead,.dead,.dead,.dead,.dead,.dead,.dead,.arr U.Prog,.arr U.Stream,.arr U.Task,.arr U.i64,.arr U.Note,.arr U.Stream,.arr U.Task,.arr U.i64,.arr U.Note]⟩,fun x=>(x.2.1,x.2.2.2.1.1,x.2.2.2.2.2.2.2.2.2.2.2.2.2.1,x.2.2.2.2.2.2.2.2.2.2.2.2.2.2.1,x.2.2.2.2.2.2.2.2.2.2.2.2.2.2.2.1,x.2.2.2.2.2.2.2.2.2.2.2.2.2.2.2.2.1,x.2.2.2.2.2.2.2.2.2.2.2.2.2.2.2.2.2.1,x.2.2.2.2.2.2.2.2.2.2.2.2.2.2.2.2.2.2.1,x.2.2.2.2.2.2.2.2.2.2.2.2.2.2.2.2.2.2.2.1,x.2.2.2.2.2.2.2.2.2.2.2.2.2.2.2.2.2.2.2.2.1,x.2.2.2.2.2.2.2.2.2.2.2.2.2.2.2.2.2.2.2.2.2.1)⟩]
def SD:bD K:=bM D false 77 12 [0,2,3,4] [0,2,3] ⟨[.ptr 0 0,.ptr 1 0,.ptr 2 0,.int .i64],[.el U.Async,.box [.own 12,.own 13,.own 14,.own 15,.own 16],.box [.ah U.Prog,.own 17,.own 18,.own 19,.own 20],.dead,.dead,.dead,.dead,.dead,.dead,.dead,.dead,.dead,.arr U.Prog,.arr U.Stream,.arr U.Task,.arr U.i64,.arr U.Note,.arr U.Stream,.arr U.Task,.arr U.i64,.arr U.Note]⟩ (fun x=>M.ox x.2.1 x.2.2.2.1.1 x.2.2.2.2.2.2.2.2.2.2.2.2.2.1 x.2.2.2.2.2.2.2.2.2.2.2.2.2.2.1 x.2.2.2.2.2.2.2.2.2.2.2.2.2.2.2.1 x.2.2.2.2.2.2.2.2.2.2.2.2.2.2.2.2.1 x.2.2.2.2.2.2.2.2.2.2.2.2.2.2.2.2.2.1 x.2.2.2.2.2.2.2.2.2.2.2.2.2.2.2.2.2.2.2.1 x.2.2.2.2.2.2.2.2.2.2.2.2.2.2.2.2.2.2.2.2.1 x.2.2.2.2.2.2.2.2.2.2.2.2.2.2.2.2.2.2.2.2.2.1 an x.1.2.2.2.1 x.2.2.2.2.2.2.2.2.2.2.2.2.2.2.2.2.2.2.1) SC
def SE(y:(List M.ar)×(List M.ae)×(List M.ad)×(List Int)×(List M.az)×(List M.ar)×(List M.ar)×(List M.ae)×(List M.ad)×(List Int)×(List M.az)×(List M.ae)×(List M.ad)×(List Int)×(List M.az)){R:Type}(k:Ex->List (AV K)->List (Ob K)->R):R:=match y with
 |a0=>k (Ex.exit 2) (ax.aU D ⟨[.ptr 1 0,.ptr 2 0],[.box [.ah U.Prog,.ah U.Stream,.ah U.Task,.ah U.i64,.ah U.Note],.box [.own 12,.own 13,.own 14,.own 15,.own 16],.box [.ah U.Prog,.own 17,.own 18,.own 19,.own 20],.dead,.dead,.dead,.dead,.dead,.dead,.dead,.dead,.dead,.arr U.Prog,.arr U.Stream,.arr U.Task,.arr U.i64,.arr U.Note,.arr U.Stream,.arr U.Task,.arr U.i64,.arr U.Note]⟩ (((),((),())),((a0.1,(a0.2.1,(a0.2.2.1,(a0.2.2.2.1,(a0.2.2.2.2.1,()))))),(((),((),((),((),((),()))))),((a0.2.2.2.2.2.1,((),((),((),((),()))))),((),((),((),((),((),((),((),((),((),(a0.2.2.2.2.2.2.1,(a0.2.2.2.2.2.2.2.1,(a0.2.2.2.2.2.2.2.2.1,(a0.2.2.2.2.2.2.2.2.2.1,(a0.2.2.2.2.2.2.2.2.2.2.1,(a0.2.2.2.2.2.2.2.2.2.2.2.1,(a0.2.2.2.2.2.2.2.2.2.2.2.2.1,(a0.2.2.2.2.2.2.2.2.2.2.2.2.2.1,(a0.2.2.2.2.2.2.2.2.2.2.2.2.2.2,()))))))))))))))))))))))) (ax.aY D ⟨[.ptr 1 0,.ptr 2 0],[.box [.ah U.Prog,.ah U.Stream,.ah U.Task,.ah U.i64,.ah U.Note],.box [.own 12,.own 13,.own 14,.own 15,.own 16],.box [.ah U.Prog,.own 17,.own 18,.own 19,.own 20],.dead,.dead,.dead,.dead,.dead,.dead,.dead,.dead,.dead,.arr U.Prog,.arr U.Stream,.arr U.Task,.arr U.i64,.arr U.Note,.arr U.Stream,.arr U.Task,.arr U.i64,.arr U.Note]⟩ (((),((),())),((a0.1,(a0.2.1,(a0.2.2.1,(a0.2.2.2.1,(a0.2.2.2.2.1,()))))),(((),((),((),((),((),()))))),((a0.2.2.2.2.2.1,((),((),((),((),()))))),((),((),((),((),((),((),((),((),((),(a0.2.2.2.2.2.2.1,(a0.2.2.2.2.2.2.2.1,(a0.2.2.2.2.2.2.2.2.1,(a0.2.2.2.2.2.2.2.2.2.1,(a0.2.2.2.2.2.2.2.2.2.2.1,(a0.2.2.2.2.2.2.2.2.2.2.2.1,(a0.2.2.2.2.2.2.2.2.2.2.2.2.1,(a0.2.2.2.2.2.2.2.2.2.2.2.2.2.1,(a0.2.2.2.2.2.2.2.2.2.2.2.2.2.2,())))))))))))))))))))))))
def agt:List (bK K ((List M.ar)×(List M.ae)×(List M.ad)×(List Int)×(List M.az)×(List M.ar)×(List M.ar)×(List M.ae)×(List M.ad)×(List Int)×(List M.az)×(List M.ae)×(List M.ad)×(List Int)×(List M.az))):=[⟨(Ex.exit 2),⟨[.ptr 1 0,.ptr 2 0],[.box [.ah U.Prog,.ah U.Stream,.ah U.Task,.ah U.i64,.ah U.Note],.box [.own 12,.own 13,.own 14,.own 15,.own 16],.box [.ah U.Prog,.own 17,.own 18,.own 19,.own 20],.dead,.dead,.dead,.dead,.dead,.dead,.dead,.dead,.dead,.arr U.Prog,.arr U.Stream,.arr U.Task,.arr U.i64,.arr U.Note,.arr U.Stream,.arr U.Task,.arr U.i64,.arr U.Note]⟩,fun x=>(x.2.1.1,x.2.1.2.1,x.2.1.2.2.1,x.2.1.2.2.2.1,x.2.1.2.2.2.2.1,x.2.2.2.1.1,x.2.2.2.2.2.2.2.2.2.2.2.2.2.1,x.2.2.2.2.2.2.2.2.2.2.2.2.2.2.1,x.2.2.2.2.2.2.2.2.2.2.2.2.2.2.2.1,x.2.2.2.2.2.2.2.2.2.2.2.2.2.2.2.2.1,x.2.2.2.2.2.2.2.2.2.2.2.2.2.2.2.2.2.1,x.2.2.2.2.2.2.2.2.2.2.2.2.2.2.2.2.2.2.1,x.2.2.2.2.2.2.2.2.2.2.2.2.2.2.2.2.2.2.2.1,x.2.2.2.2.2.2.2.2.2.2.2.2.2.2.2.2.2.2.2.2.1,x.2.2.2.2.2.2.2.2.2.2.2.2.2.2.2.2.2.2.2.2.2.1)⟩]
def SG:bD K:=bM D false 77 12 [0,2,3,5] [2,3] ⟨[.ptr 0 0,.ptr 1 0,.ptr 2 0,.int .i64],[.el U.Async,.box [.own 12,.own 13,.own 14,.own 15,.own 16],.box [.ah U.Prog,.own 17,.own 18,.own 19,.own 20],.dead,.dead,.dead,.dead,.dead,.dead,.dead,.dead,.dead,.arr U.Prog,.arr U.Stream,.arr U.Task,.arr U.i64,.arr U.Note,.arr U.Stream,.arr U.Task,.arr U.i64,.arr U.Note]⟩ (fun x=>M.oy x.2.1 x.2.2.2.1.1 x.2.2.2.2.2.2.2.2.2.2.2.2.2.1 x.2.2.2.2.2.2.2.2.2.2.2.2.2.2.1 x.2.2.2.2.2.2.2.2.2.2.2.2.2.2.2.1 x.2.2.2.2.2.2.2.2.2.2.2.2.2.2.2.2.1 x.2.2.2.2.2.2.2.2.2.2.2.2.2.2.2.2.2.1 x.2.2.2.2.2.2.2.2.2.2.2.2.2.2.2.2.2.2.1 x.2.2.2.2.2.2.2.2.2.2.2.2.2.2.2.2.2.2.2.2.1 x.2.2.2.2.2.2.2.2.2.2.2.2.2.2.2.2.2.2.2.2.2.1 an x.1.2.2.2.1 x.2.2.2.2.2.2.2.2.2.2.2.2.2.2.2.2.2.2.2.1) SE
def GO(m:M.ai->Option ((List M.ar)×M.ai×(List M.ae)×(List M.ad)×(List Int)×(List M.az))):aI K:={f:=22,sh:=⟨[.ptr 0 0],[.el U.Async]⟩,R:=(List M.ar)×M.ai×(List M.ae)×(List M.ad)×(List Int)×(List M.az),run:=fun x=>m x.2.1,dflt:=default,out:=fun r=>(Sh.enc D (.agg [.ah U.Prog,.own 1,.own 2,.own 3,.own 4]) (r.1,((),((),((),((),()))))),aB.encs D [.el U.Async,.arr U.Stream,.arr U.Task,.arr U.i64,.arr U.Note] (r.2.1,(r.2.2.1,(r.2.2.2.1,(r.2.2.2.2.1,(r.2.2.2.2.2,()))))))}
def vr:Cx K:={aO with mode:=aL .plain [(48,.gU),(49,.fresh),(50,.gU)],d5:=[[some U.Prog,some U.Stream,some U.Task,some U.i64,some U.Note]],call:=callOf D [Et M.tB,GN M.ow,FX M.sR],loop:=aK [(3,SD),(7,SG)]}
theorem GQ:aH (vr):=aP aj _ (al aa1 (al agr (al aeX (ay))))
theorem agu:bE (vr) (bG (bL Tryz.f22) 0) (SD):=
 bP (cx:=vr) (n:=77) (n0:=12) (ins:=[0,2,3,4]) (outs:=[0,2,3]) (sh:=⟨[.ptr 0 0,.ptr 1 0,.ptr 2 0,.int .i64],[.el U.Async,.box [.own 12,.own 13,.own 14,.own 15,.own 16],.box [.ah U.Prog,.own 17,.own 18,.own 19,.own 20],.dead,.dead,.dead,.dead,.dead,.dead,.dead,.dead,.dead,.arr U.Prog,.arr U.Stream,.arr U.Task,.arr U.i64,.arr U.Note,.arr U.Stream,.arr U.Task,.arr U.i64,.arr U.Note]⟩) (run:=fun n x=>M.ox x.2.1 x.2.2.2.1.1 x.2.2.2.2.2.2.2.2.2.2.2.2.2.1 x.2.2.2.2.2.2.2.2.2.2.2.2.2.2.1 x.2.2.2.2.2.2.2.2.2.2.2.2.2.2.2.1 x.2.2.2.2.2.2.2.2.2.2.2.2.2.2.2.2.1 x.2.2.2.2.2.2.2.2.2.2.2.2.2.2.2.2.2.1 x.2.2.2.2.2.2.2.2.2.2.2.2.2.2.2.2.2.2.2.1 x.2.2.2.2.2.2.2.2.2.2.2.2.2.2.2.2.2.2.2.2.1 x.2.2.2.2.2.2.2.2.2.2.2.2.2.2.2.2.2.2.2.2.2.1 n x.1.2.2.2.1 x.2.2.2.2.2.2.2.2.2.2.2.2.2.2.2.2.2.2.1) (bH:=ags) (out:=SC) aj (GQ) aA (aJ (by kernel_rfl)) (fun _=>rfl) (fun m x=>by kernel_rfl) (al ⟨bQ,fun _ _ _=>rfl⟩ (ay)) false an
theorem agv:bE (vr) (bG (bL Tryz.f22) 1) (SG):=
 bP (cx:=vr) (n:=77) (n0:=12) (ins:=[0,2,3,5]) (outs:=[2,3]) (sh:=⟨[.ptr 0 0,.ptr 1 0,.ptr 2 0,.int .i64],[.el U.Async,.box [.own 12,.own 13,.own 14,.own 15,.own 16],.box [.ah U.Prog,.own 17,.own 18,.own 19,.own 20],.dead,.dead,.dead,.dead,.dead,.dead,.dead,.dead,.dead,.arr U.Prog,.arr U.Stream,.arr U.Task,.arr U.i64,.arr U.Note,.arr U.Stream,.arr U.Task,.arr U.i64,.arr U.Note]⟩) (run:=fun n x=>M.oy x.2.1 x.2.2.2.1.1 x.2.2.2.2.2.2.2.2.2.2.2.2.2.1 x.2.2.2.2.2.2.2.2.2.2.2.2.2.2.1 x.2.2.2.2.2.2.2.2.2.2.2.2.2.2.2.1 x.2.2.2.2.2.2.2.2.2.2.2.2.2.2.2.2.1 x.2.2.2.2.2.2.2.2.2.2.2.2.2.2.2.2.2.1 x.2.2.2.2.2.2.2.2.2.2.2.2.2.2.2.2.2.2.1 x.2.2.2.2.2.2.2.2.2.2.2.2.2.2.2.2.2.2.2.2.1 x.2.2.2.2.2.2.2.2.2.2.2.2.2.2.2.2.2.2.2.2.2.1 n x.1.2.2.2.1 x.2.2.2.2.2.2.2.2.2.2.2.2.2.2.2.2.2.2.2.1) (bH:=agt) (out:=SE) aj (GQ) aA (aJ (by kernel_rfl)) (fun _=>rfl) (fun m x=>by kernel_rfl) (al ⟨bQ,fun _ _ _=>rfl⟩ (ay)) false an
theorem agw:(GO (M.tC)).Ok D Tryz.prog:=
 aM (cx:=vr) (c:=GO (M.tC)) (fz:=false) (fn:=Tryz.f22) aj (GQ) aA ⟨Tryz.func22,by kernel_rfl⟩ (aN (bX 2 (by kernel_rfl) (lt_succ (bZ (.mk (by kernel_rfl) (agu))) (.mk (by kernel_rfl) (agv))))) ⟨⟨[.agg [.ah U.Prog,.own 1,.own 2,.own 3,.own 4]],[.el U.Async,.arr U.Stream,.arr U.Task,.arr U.i64,.arr U.Note]⟩,fun x=>(x.1.1.1,x.2.1,x.2.2.1,x.2.2.2.1,x.2.2.2.2.1,x.2.2.2.2.2.1)⟩ (fun x=>rfl) (fun x=>by kernel_rfl)
def BC(m:M.ad->Option (Bool)):aI K:={f:=35,sh:=⟨[.el U.Task],[]⟩,R:=Bool,run:=fun x=>m x.1.1,dflt:=default,out:=fun r=>(Sh.enc D (.bool) r,aB.encs D [] ())}
def SI:Cx K:={aO with mode:=aL .plain [],call:=callOf D [],loop:=aK []}
theorem agx:aH (SI):=aP aj _ (ay)
theorem SJ:(BC (M.BD)).Ok D Tryz.prog:=
 aM (cx:=SI) (c:=BC (M.BD)) (fz:=true) (fn:=Tryz.f35) aj (agx) aA ⟨Tryz.func35,by kernel_rfl⟩ (aN (aJ (by kernel_rfl))) ⟨⟨[.bool],[]⟩,fun x=>x.1.1⟩ (fun x=>rfl) (fun x=>by kernel_rfl)
def SK(y:(Bool)⊕(Unit)){R:Type}(k:Ex->List (AV K)->List (Ob K)->R):R:=match y with
 |.inl a0=>k Ex.ret (ax.aU D ⟨[.bool],[]⟩ ((a0,()),())) (ax.aY D ⟨[.bool],[]⟩ ((a0,()),()))
 |.inr (a1)=>k (Ex.exit 0) (ax.aU D ⟨[.any],[]⟩ (((),()),())) (ax.aY D ⟨[.any],[]⟩ (((),()),()))
def agy:List (bK K ((Bool)⊕(Unit))):=[⟨Ex.ret,⟨[.bool],[]⟩,fun x=>.inl x.1.1⟩,⟨(Ex.exit 0),⟨[.any],[]⟩,fun x=>.inr (())⟩]
def SL:bD K:=bM D false 31 0 [0,1,5] [4] ⟨[.rp U.Async 0,.ah U.i64,.int .i64],[]⟩ (fun x=>M.qD x.1.1 x.1.2.1 an x.1.2.2.1) SK
def GR(m:M.ai->(List Int)->Option (Bool)):aI K:={f:=92,sh:=⟨[.rp U.Async 0,.ah U.i64],[]⟩,R:=Bool,run:=fun x=>m x.1.1 x.1.2.1,dflt:=default,out:=fun r=>(Sh.enc D (.bool) r,aB.encs D [] ())}
def BE:Cx K:={aO with mode:=aL .plain [(89,.plain)],call:=callOf D [yf M.yg],loop:=aK [(2,SL)]}
theorem SN:aH (BE):=aP aj _ (al GI (ay))
theorem agz:bE (BE) (bG (bL Tryz.f92) 0) (SL):=
 bP (cx:=BE) (n:=31) (n0:=0) (ins:=[0,1,5]) (outs:=[4]) (sh:=⟨[.rp U.Async 0,.ah U.i64,.int .i64],[]⟩) (run:=fun n x=>M.qD x.1.1 x.1.2.1 n x.1.2.2.1) (bH:=agy) (out:=SK) aj (SN) aA (aJ (by kernel_rfl)) (fun _=>rfl) (fun m x=>by kernel_rfl) (al ⟨cz,fun _ _ _=>rfl⟩ (al ⟨bQ,fun _ _ _=>rfl⟩ (ay))) false an
theorem agA:(GR (M.tz)).Ok D Tryz.prog:=
 aM (cx:=BE) (c:=GR (M.tz)) (fz:=true) (fn:=Tryz.f92) aj (SN) aA ⟨Tryz.func92,by kernel_rfl⟩ (aN (bX 1 (by kernel_rfl) (bZ (.mk (by kernel_rfl) (agz))))) ⟨⟨[.bool],[]⟩,fun x=>x.1.1⟩ (fun x=>rfl) (fun x=>by kernel_rfl)
def BF(m:M.ae->Option (Bool)):aI K:={f:=93,sh:=⟨[.el U.Stream],[]⟩,R:=Bool,run:=fun x=>m x.1.1,dflt:=default,out:=fun r=>(Sh.enc D (.bool) r,aB.encs D [] ())}
def SO:Cx K:={aO with mode:=aL .plain [(139,.plain)],call:=callOf D [A9 M.mH],loop:=aK []}
theorem agB:aH (SO):=aP aj _ (al Qs (ay))
theorem SQ:(BF (M.oo)).Ok D Tryz.prog:=
 aM (cx:=SO) (c:=BF (M.oo)) (fz:=true) (fn:=Tryz.f93) aj (agB) aA ⟨Tryz.func93,by kernel_rfl⟩ (aN (aJ (by kernel_rfl))) ⟨⟨[.bool],[]⟩,fun x=>x.1.1⟩ (fun x=>rfl) (fun x=>by kernel_rfl)
def BG(m:M.ae->Option (Bool)):aI K:={f:=94,sh:=⟨[.el U.Stream],[]⟩,R:=Bool,run:=fun x=>m x.1.1,dflt:=default,out:=fun r=>(Sh.enc D (.bool) r,aB.encs D [] ())}
def SR:Cx K:={aO with mode:=aL .plain [],call:=callOf D [],loop:=aK []}
theorem agC:aH (SR):=aP aj _ (ay)
theorem SS:(BG (M.qB)).Ok D Tryz.prog:=
 aM (cx:=SR) (c:=BG (M.qB)) (fz:=true) (fn:=Tryz.f94) aj (agC) aA ⟨Tryz.func94,by kernel_rfl⟩ (aN (aJ (by kernel_rfl))) ⟨⟨[.bool],[]⟩,fun x=>x.1.1⟩ (fun x=>rfl) (fun x=>by kernel_rfl)
def GU(m:M.ai->Int->Option (Bool)):aI K:={f:=51,sh:=⟨[.rp U.Async 0,.int .i64],[]⟩,R:=Bool,run:=fun x=>m x.1.1 x.1.2.1,dflt:=default,out:=fun r=>(Sh.enc D (.bool) r,aB.encs D [] ())}
def SU:Cx K:={aO with mode:=aL .plain [(88,.plain),(92,.plain),(93,.plain),(94,.plain)],call:=callOf D [BA M.pf,GR M.tz,BF M.oo,BG M.qB],loop:=aK []}
theorem agD:aH (SU):=aP aj _ (al Si (al agA (al SQ (al SS (ay)))))
theorem agE:(GU (M.tA)).Ok D Tryz.prog:=
 aM (cx:=SU) (c:=GU (M.tA)) (fz:=true) (fn:=Tryz.f51) aj (agD) aA ⟨Tryz.func51,by kernel_rfl⟩ (aN (aJ (by kernel_rfl))) ⟨⟨[.bool],[]⟩,fun x=>x.1.1⟩ (fun x=>rfl) (fun x=>by kernel_rfl)
def me(m:Int->Int->Int->Int->(List M.ar)->(List M.ae)->(List M.ad)->(List Int)->(List M.az)->Option ((List M.ar)×(List M.ae)×(List M.ad)×(List Int)×(List M.az))):aI K:={f:=52,sh:=⟨[.ptr 0 0,.int .i64,.int .i64,.int .i64,.int .i64],[.box [.ah U.Prog,.own 1,.own 2,.own 3,.own 4],.arr U.Stream,.arr U.Task,.arr U.i64,.arr U.Note]⟩,R:=(List M.ar)×(List M.ae)×(List M.ad)×(List Int)×(List M.az),run:=fun x=>m x.1.2.1 x.1.2.2.1 x.1.2.2.2.1 x.1.2.2.2.2.1 x.2.1.1 x.2.2.1 x.2.2.2.1 x.2.2.2.2.1 x.2.2.2.2.2.1,dflt:=default,out:=fun r=>(Sh.enc D (.bu []) (),aB.encs D [.box [.ah U.Prog,.own 5,.own 6,.own 7,.own 8],.dead,.dead,.dead,.dead,.arr U.Stream,.arr U.Task,.arr U.i64,.arr U.Note] ((r.1,((),((),((),((),()))))),((),((),((),((),(r.2.1,(r.2.2.1,(r.2.2.2.1,(r.2.2.2.2,()))))))))))}
def SV:Cx K:={aO with mode:=aL .plain [],mv:=true,call:=callOf D [],loop:=aK []}
theorem agF:aH (SV):=aP aj _ (ay)
theorem pI:(me (M.ft)).Ok D Tryz.prog:=
 aM (cx:=SV) (c:=me (M.ft)) (fz:=true) (fn:=Tryz.f52) aj (agF) aA ⟨Tryz.func52,by kernel_rfl⟩ (aN (aJ (by kernel_rfl))) ⟨⟨[.bu []],[.box [.ah U.Prog,.own 5,.own 6,.own 7,.own 8],.dead,.dead,.dead,.dead,.arr U.Stream,.arr U.Task,.arr U.i64,.arr U.Note]⟩,fun x=>(x.2.1.1,x.2.2.2.2.2.2.1,x.2.2.2.2.2.2.2.1,x.2.2.2.2.2.2.2.2.1,x.2.2.2.2.2.2.2.2.2.1)⟩ (fun x=>rfl) (fun x=>by kernel_rfl)
def BH(m:Int->Int->(List M.ar)->(List M.ae)->(List M.ad)->(List Int)->(List M.az)->Option ((List M.ar)×(List M.ae)×(List M.ad)×(List Int)×(List M.az))):aI K:={f:=53,sh:=⟨[.ptr 0 0,.int .i64,.int .i64],[.box [.ah U.Prog,.own 1,.own 2,.own 3,.own 4],.arr U.Stream,.arr U.Task,.arr U.i64,.arr U.Note]⟩,R:=(List M.ar)×(List M.ae)×(List M.ad)×(List Int)×(List M.az),run:=fun x=>m x.1.2.1 x.1.2.2.1 x.2.1.1 x.2.2.1 x.2.2.2.1 x.2.2.2.2.1 x.2.2.2.2.2.1,dflt:=default,out:=fun r=>(Sh.enc D (.bu []) (),aB.encs D [.box [.ah U.Prog,.own 5,.own 6,.own 7,.own 8],.dead,.dead,.dead,.dead,.arr U.Stream,.arr U.Task,.arr U.i64,.arr U.Note] ((r.1,((),((),((),((),()))))),((),((),((),((),(r.2.1,(r.2.2.1,(r.2.2.2.1,(r.2.2.2.2,()))))))))))}
def SX:Cx K:={aO with mode:=aL .plain [(52,.cL)],mv:=true,call:=callOf D [me M.ft],loop:=aK []}
theorem agG:aH (SX):=aP aj _ (al pI (ay))
theorem SY:(BH (M.ov)).Ok D Tryz.prog:=
 aM (cx:=SX) (c:=BH (M.ov)) (fz:=true) (fn:=Tryz.f53) aj (agG) aA ⟨Tryz.func53,by kernel_rfl⟩ (aN (aJ (by kernel_rfl))) ⟨⟨[.bu []],[.box [.ah U.Prog,.own 5,.own 6,.own 7,.own 8],.dead,.dead,.dead,.dead,.arr U.Stream,.arr U.Task,.arr U.i64,.arr U.Note]⟩,fun x=>(x.2.1.1,x.2.2.2.2.2.2.1,x.2.2.2.2.2.2.2.1,x.2.2.2.2.2.2.2.2.1,x.2.2.2.2.2.2.2.2.2.1)⟩ (fun x=>rfl) (fun x=>by kernel_rfl)
def rR(m:Int->(List M.ar)->(List M.ae)->(List M.ad)->(List Int)->(List M.az)->Option (Int×(List M.ar)×(List M.ae)×(List M.ad)×(List Int)×(List M.az))):aI K:={f:=95,sh:=⟨[.ptr 0 0,.int .i64],[.box [.ah U.Prog,.own 1,.own 2,.own 3,.own 4],.arr U.Stream,.arr U.Task,.arr U.i64,.arr U.Note]⟩,R:=Int×(List M.ar)×(List M.ae)×(List M.ad)×(List Int)×(List M.az),run:=fun x=>m x.1.2.1 x.2.1.1 x.2.2.1 x.2.2.2.1 x.2.2.2.2.1 x.2.2.2.2.2.1,dflt:=default,out:=fun r=>(Sh.enc D (.int .i64) r.1,aB.encs D [.box [.ah U.Prog,.own 5,.own 6,.own 7,.own 8],.dead,.dead,.dead,.dead,.arr U.Stream,.arr U.Task,.arr U.i64,.arr U.Note] ((r.2.1,((),((),((),((),()))))),((),((),((),((),(r.2.2.1,(r.2.2.2.1,(r.2.2.2.2.1,(r.2.2.2.2.2,()))))))))))}
def SZ:Cx K:={aO with mode:=aL .plain [(52,.cL)],mv:=true,call:=callOf D [me M.ft],loop:=aK []}
theorem agH:aH (SZ):=aP aj _ (al pI (ay))
theorem yi:(rR (M.gG)).Ok D Tryz.prog:=
 aM (cx:=SZ) (c:=rR (M.gG)) (fz:=true) (fn:=Tryz.f95) aj (agH) aA ⟨Tryz.func95,by kernel_rfl⟩ (aN (aJ (by kernel_rfl))) ⟨⟨[.int .i64],[.box [.ah U.Prog,.own 5,.own 6,.own 7,.own 8],.dead,.dead,.dead,.dead,.arr U.Stream,.arr U.Task,.arr U.i64,.arr U.Note]⟩,fun x=>(x.1.1,x.2.1.1,x.2.2.2.2.2.2.1,x.2.2.2.2.2.2.2.1,x.2.2.2.2.2.2.2.2.1,x.2.2.2.2.2.2.2.2.2.1)⟩ (fun x=>rfl) (fun x=>by kernel_rfl)
def GV(m:Int->Int->(List M.ar)->(List M.ae)->(List M.ad)->(List Int)->(List M.az)->Option (Int×(List M.ar)×(List M.ae)×(List M.ad)×(List Int)×(List M.az))):aI K:={f:=96,sh:=⟨[.ptr 0 0,.int .i64,.int .i64],[.box [.ah U.Prog,.own 1,.own 2,.own 3,.own 4],.arr U.Stream,.arr U.Task,.arr U.i64,.arr U.Note]⟩,R:=Int×(List M.ar)×(List M.ae)×(List M.ad)×(List Int)×(List M.az),run:=fun x=>m x.1.2.1 x.1.2.2.1 x.2.1.1 x.2.2.1 x.2.2.2.1 x.2.2.2.2.1 x.2.2.2.2.2.1,dflt:=default,out:=fun r=>(Sh.enc D (.int .i64) r.1,aB.encs D [.box [.ah U.Prog,.own 5,.own 6,.own 7,.own 8],.dead,.dead,.dead,.dead,.arr U.Stream,.arr U.Task,.arr U.i64,.arr U.Note] ((r.2.1,((),((),((),((),()))))),((),((),((),((),(r.2.2.1,(r.2.2.2.1,(r.2.2.2.2.1,(r.2.2.2.2.2,()))))))))))}
def S3:Cx K:={aO with mode:=aL .plain [],mv:=true,call:=callOf D [],loop:=aK []}
theorem agI:aH (S3):=aP aj _ (ay)
theorem agJ:(GV (M.tw)).Ok D Tryz.prog:=
 aM (cx:=S3) (c:=GV (M.tw)) (fz:=true) (fn:=Tryz.f96) aj (agI) aA ⟨Tryz.func96,by kernel_rfl⟩ (aN (aJ (by kernel_rfl))) ⟨⟨[.int .i64],[.box [.ah U.Prog,.own 5,.own 6,.own 7,.own 8],.dead,.dead,.dead,.dead,.arr U.Stream,.arr U.Task,.arr U.i64,.arr U.Note]⟩,fun x=>(x.1.1,x.2.1.1,x.2.2.2.2.2.2.1,x.2.2.2.2.2.2.2.1,x.2.2.2.2.2.2.2.2.1,x.2.2.2.2.2.2.2.2.2.1)⟩ (fun x=>rfl) (fun x=>by kernel_rfl)
def rS(m:Int->(List M.ar)->(List M.ae)->(List M.ad)->(List Int)->(List M.az)->Option (Int×(List M.ar)×(List M.ae)×(List M.ad)×(List Int)×(List M.az))):aI K:={f:=98,sh:=⟨[.ptr 0 0,.int .i64],[.box [.ah U.Prog,.own 1,.own 2,.own 3,.own 4],.arr U.Stream,.arr U.Task,.arr U.i64,.arr U.Note]⟩,R:=Int×(List M.ar)×(List M.ae)×(List M.ad)×(List Int)×(List M.az),run:=fun x=>m x.1.2.1 x.2.1.1 x.2.2.1 x.2.2.2.1 x.2.2.2.2.1 x.2.2.2.2.2.1,dflt:=default,out:=fun r=>(Sh.enc D (.int .i64) r.1,aB.encs D [.box [.ah U.Prog,.own 5,.own 6,.own 7,.own 8],.dead,.dead,.dead,.dead,.arr U.Stream,.arr U.Task,.arr U.i64,.arr U.Note] ((r.2.1,((),((),((),((),()))))),((),((),((),((),(r.2.2.1,(r.2.2.2.1,(r.2.2.2.2.1,(r.2.2.2.2.2,()))))))))))}
def S4:Cx K:={aO with mode:=aL .plain [],mv:=true,call:=callOf D [],loop:=aK []}
theorem agK:aH (S4):=aP aj _ (ay)
theorem yj:(rS (M.eF)).Ok D Tryz.prog:=
 aM (cx:=S4) (c:=rS (M.eF)) (fz:=true) (fn:=Tryz.f98) aj (agK) aA ⟨Tryz.func98,by kernel_rfl⟩ (aN (aJ (by kernel_rfl))) ⟨⟨[.int .i64],[.box [.ah U.Prog,.own 5,.own 6,.own 7,.own 8],.dead,.dead,.dead,.dead,.arr U.Stream,.arr U.Task,.arr U.i64,.arr U.Note]⟩,fun x=>(x.1.1,x.2.1.1,x.2.2.2.2.2.2.1,x.2.2.2.2.2.2.2.1,x.2.2.2.2.2.2.2.2.1,x.2.2.2.2.2.2.2.2.2.1)⟩ (fun x=>rfl) (fun x=>by kernel_rfl)
def yk(m:Int->(List M.ar)->(List M.ae)->(List M.ad)->(List Int)->(List M.az)->Option (Int×(List M.ar)×(List M.ae)×(List M.ad)×(List Int)×(List M.az))):aI K:={f:=103,sh:=⟨[.ptr 0 0,.int .i64],[.box [.ah U.Prog,.own 1,.own 2,.own 3,.own 4],.arr U.Stream,.arr U.Task,.arr U.i64,.arr U.Note]⟩,R:=Int×(List M.ar)×(List M.ae)×(List M.ad)×(List Int)×(List M.az),run:=fun x=>m x.1.2.1 x.2.1.1 x.2.2.1 x.2.2.2.1 x.2.2.2.2.1 x.2.2.2.2.2.1,dflt:=default,out:=fun r=>(Sh.enc D (.int .i64) r.1,aB.encs D [.box [.ah U.Prog,.own 5,.own 6,.own 7,.own 8],.dead,.dead,.dead,.dead,.arr U.Stream,.arr U.Task,.arr U.i64,.arr U.Note] ((r.2.1,((),((),((),((),()))))),((),((),((),((),(r.2.2.1,(r.2.2.2.1,(r.2.2.2.2.1,(r.2.2.2.2.2,()))))))))))}
def S5:Cx K:={aO with mode:=aL .plain [(52,.cL)],mv:=true,call:=callOf D [me M.ft],loop:=aK []}
theorem agL:aH (S5):=aP aj _ (al pI (ay))
theorem GX:(yk (M.lG)).Ok D Tryz.prog:=
 aM (cx:=S5) (c:=yk (M.lG)) (fz:=true) (fn:=Tryz.f103) aj (agL) aA ⟨Tryz.func103,by kernel_rfl⟩ (aN (aJ (by kernel_rfl))) ⟨⟨[.int .i64],[.box [.ah U.Prog,.own 5,.own 6,.own 7,.own 8],.dead,.dead,.dead,.dead,.arr U.Stream,.arr U.Task,.arr U.i64,.arr U.Note]⟩,fun x=>(x.1.1,x.2.1.1,x.2.2.2.2.2.2.1,x.2.2.2.2.2.2.2.1,x.2.2.2.2.2.2.2.2.1,x.2.2.2.2.2.2.2.2.2.1)⟩ (fun x=>rfl) (fun x=>by kernel_rfl)
def yl(m:Int->(List M.ar)->(List M.ae)->(List M.ad)->(List Int)->(List M.az)->Option (Int×(List M.ar)×(List M.ae)×(List M.ad)×(List Int)×(List M.az))):aI K:={f:=101,sh:=⟨[.ptr 0 0,.int .i64],[.box [.ah U.Prog,.own 1,.own 2,.own 3,.own 4],.arr U.Stream,.arr U.Task,.arr U.i64,.arr U.Note]⟩,R:=Int×(List M.ar)×(List M.ae)×(List M.ad)×(List Int)×(List M.az),run:=fun x=>m x.1.2.1 x.2.1.1 x.2.2.1 x.2.2.2.1 x.2.2.2.2.1 x.2.2.2.2.2.1,dflt:=default,out:=fun r=>(Sh.enc D (.int .i64) r.1,aB.encs D [.box [.ah U.Prog,.own 5,.own 6,.own 7,.own 8],.dead,.dead,.dead,.dead,.arr U.Stream,.arr U.Task,.arr U.i64,.arr U.Note] ((r.2.1,((),((),((),((),()))))),((),((),((),((),(r.2.2.1,(r.2.2.2.1,(r.2.2.2.2.1,(r.2.2.2.2.2,()))))))))))}
def S7:Cx K:={aO with mode:=aL .plain [(103,.cL)],mv:=true,call:=callOf D [yk M.lG],loop:=aK []}
theorem agM:aH (S7):=aP aj _ (al GX (ay))
theorem GY:(yl (M.lH)).Ok D Tryz.prog:=
 aM (cx:=S7) (c:=yl (M.lH)) (fz:=true) (fn:=Tryz.f101) aj (agM) aA ⟨Tryz.func101,by kernel_rfl⟩ (aN (aJ (by kernel_rfl))) ⟨⟨[.int .i64],[.box [.ah U.Prog,.own 5,.own 6,.own 7,.own 8],.dead,.dead,.dead,.dead,.arr U.Stream,.arr U.Task,.arr U.i64,.arr U.Note]⟩,fun x=>(x.1.1,x.2.1.1,x.2.2.2.2.2.2.1,x.2.2.2.2.2.2.2.1,x.2.2.2.2.2.2.2.2.1,x.2.2.2.2.2.2.2.2.2.1)⟩ (fun x=>rfl) (fun x=>by kernel_rfl)
def GZ(m:Int->M.aw->(List M.ar)->(List M.ae)->(List M.ad)->(List Int)->(List M.az)->Option (Int×(List M.ar)×(List M.ae)×(List M.ad)×(List Int)×(List M.az))):aI K:={f:=140,sh:=⟨[.ptr 0 0,.int .i64,.el U.cu],[.box [.ah U.Prog,.own 1,.own 2,.own 3,.own 4],.arr U.Stream,.arr U.Task,.arr U.i64,.arr U.Note]⟩,R:=Int×(List M.ar)×(List M.ae)×(List M.ad)×(List Int)×(List M.az),run:=fun x=>m x.1.2.1 x.1.2.2.1 x.2.1.1 x.2.2.1 x.2.2.2.1 x.2.2.2.2.1 x.2.2.2.2.2.1,dflt:=default,out:=fun r=>(Sh.enc D (.int .i64) r.1,aB.encs D [.box [.ah U.Prog,.own 5,.own 6,.own 7,.own 8],.dead,.dead,.dead,.dead,.arr U.Stream,.arr U.Task,.arr U.i64,.arr U.Note] ((r.2.1,((),((),((),((),()))))),((),((),((),((),(r.2.2.1,(r.2.2.2.1,(r.2.2.2.2.1,(r.2.2.2.2.2,()))))))))))}
def S8:Cx K:={aO with mode:=aL .plain [(95,.cL),(93,.plain),(101,.cL),(171,.plain),(170,.gU),(169,.gU),(52,.cL),(98,.cL)],mv:=true,call:=callOf D [rR M.gG,BF M.oo,yl M.lH,x8 M.jd,FT M.s6,FY M.sV,me M.ft,rS M.eF],loop:=aK []}
theorem agN:aH (S8):=aP aj _ (al yi (al SQ (al GY (al FR (al aeF (al aeZ (al pI (al yj (ay)))))))))
theorem agO:(GZ (M.tn)).Ok D Tryz.prog:=
 aM (cx:=S8) (c:=GZ (M.tn)) (fz:=true) (fn:=Tryz.f140) aj (agN) aA ⟨Tryz.func140,by kernel_rfl⟩ (aN (aJ (by kernel_rfl))) ⟨⟨[.int .i64],[.box [.ah U.Prog,.own 5,.own 6,.own 7,.own 8],.dead,.dead,.dead,.dead,.arr U.Stream,.arr U.Task,.arr U.i64,.arr U.Note]⟩,fun x=>(x.1.1,x.2.1.1,x.2.2.2.2.2.2.1,x.2.2.2.2.2.2.2.1,x.2.2.2.2.2.2.2.2.1,x.2.2.2.2.2.2.2.2.2.1)⟩ (fun x=>rfl) (fun x=>by kernel_rfl)
def G0(m:M.ae->Int->Option (M.ae×(List M.af)×Int)):aI K:={f:=172,sh:=⟨[.el U.Stream,.int .i64],[]⟩,R:=M.ae×(List M.af)×Int,run:=fun x=>m x.1.1 x.1.2.1,dflt:=default,out:=fun r=>(Sh.enc D (.bu [.el U.Stream,.ah U.Value,.int .i64]) (r.1,(r.2.1,(r.2.2,()))),aB.encs D [] ())}
def S9:Cx K:={aO with mode:=aL .plain [(171,.plain),(91,.fresh)],Ta:=true,call:=callOf D [x8 M.jd,yb M.j0],loop:=aK []}
theorem agP:aH (S9):=aP aj _ (al FR (al FW (ay)))
theorem agQ:(G0 (M.sY)).Ok D Tryz.prog:=
 aM (cx:=S9) (c:=G0 (M.sY)) (fz:=true) (fn:=Tryz.f172) aj (agP) aA ⟨Tryz.func172,by kernel_rfl⟩ (aN (aJ (by kernel_rfl))) ⟨⟨[.bu [.el U.Stream,.ah U.Value,.int .i64]],[]⟩,fun x=>(x.1.1.1,x.1.1.2.1,x.1.1.2.2.1)⟩ (fun x=>rfl) (fun x=>by kernel_rfl)
def Tc(y:Int×(List M.ar)×(List M.ae)×(List M.ad)×(List Int)×(List M.az)){R:Type}(k:Ex->List (AV K)->List (Ob K)->R):R:=match y with
 |a0=>k (Ex.exit 0) (ax.aU D ⟨[.ptr 0 0,.int .i64],[.box [.ah U.Prog,.own 6,.own 7,.own 8,.own 9],.dead,.dead,.dead,.dead,.dead,.arr U.Stream,.arr U.Task,.arr U.i64,.arr U.Note]⟩ (((),(a0.1,())),((a0.2.1,((),((),((),((),()))))),((),((),((),((),((),(a0.2.2.1,(a0.2.2.2.1,(a0.2.2.2.2.1,(a0.2.2.2.2.2,())))))))))))) (ax.aY D ⟨[.ptr 0 0,.int .i64],[.box [.ah U.Prog,.own 6,.own 7,.own 8,.own 9],.dead,.dead,.dead,.dead,.dead,.arr U.Stream,.arr U.Task,.arr U.i64,.arr U.Note]⟩ (((),(a0.1,())),((a0.2.1,((),((),((),((),()))))),((),((),((),((),((),(a0.2.2.1,(a0.2.2.2.1,(a0.2.2.2.2.1,(a0.2.2.2.2.2,()))))))))))))
def agR:List (bK K (Int×(List M.ar)×(List M.ae)×(List M.ad)×(List Int)×(List M.az))):=[⟨(Ex.exit 0),⟨[.ptr 0 0,.int .i64],[.box [.ah U.Prog,.own 6,.own 7,.own 8,.own 9],.dead,.dead,.dead,.dead,.dead,.arr U.Stream,.arr U.Task,.arr U.i64,.arr U.Note]⟩,fun x=>(x.1.2.1,x.2.1.1,x.2.2.2.2.2.2.2.1,x.2.2.2.2.2.2.2.2.1,x.2.2.2.2.2.2.2.2.2.1,x.2.2.2.2.2.2.2.2.2.2.1)⟩]
def Td:bD K:=bM D false 76 6 [0,1,5,9,11] [0,1] ⟨[.ptr 0 0,.int .i64,.ptr 1 0,.ah U.Value,.int .i64],[.box [.ah U.Prog,.own 6,.own 7,.own 8,.own 9],.el U.cu,.dead,.dead,.dead,.dead,.arr U.Stream,.arr U.Task,.arr U.i64,.arr U.Note]⟩ (fun x=>M.qC x.1.2.1 x.1.2.2.2.1 x.2.2.1 an x.1.2.2.2.2.1 x.2.1.1 x.2.2.2.2.2.2.2.1 x.2.2.2.2.2.2.2.2.1 x.2.2.2.2.2.2.2.2.2.1 x.2.2.2.2.2.2.2.2.2.2.1) Tc
def G1(m:Int->M.aw->(List M.ar)->(List M.ae)->(List M.ad)->(List Int)->(List M.az)->Option (Int×(List M.ar)×(List M.ae)×(List M.ad)×(List Int)×(List M.az))):aI K:={f:=141,sh:=⟨[.ptr 0 0,.int .i64,.el U.cu],[.box [.ah U.Prog,.own 1,.own 2,.own 3,.own 4],.arr U.Stream,.arr U.Task,.arr U.i64,.arr U.Note]⟩,R:=Int×(List M.ar)×(List M.ae)×(List M.ad)×(List Int)×(List M.az),run:=fun x=>m x.1.2.1 x.1.2.2.1 x.2.1.1 x.2.2.1 x.2.2.2.1 x.2.2.2.2.1 x.2.2.2.2.2.1,dflt:=default,out:=fun r=>(Sh.enc D (.int .i64) r.1,aB.encs D [.box [.ah U.Prog,.own 5,.own 6,.own 7,.own 8],.dead,.dead,.dead,.dead,.arr U.Stream,.arr U.Task,.arr U.i64,.arr U.Note] ((r.2.1,((),((),((),((),()))))),((),((),((),((),(r.2.2.1,(r.2.2.2.1,(r.2.2.2.2.1,(r.2.2.2.2.2,()))))))))))}
def BI:Cx K:={aO with mode:=aL .plain [(95,.cL),(94,.plain),(101,.cL),(172,.gU),(52,.cL),(98,.cL)],mv:=true,call:=callOf D [rR M.gG,BG M.qB,yl M.lH,G0 M.sY,me M.ft,rS M.eF],loop:=aK [(12,Td)]}
theorem Tf:aH (BI):=aP aj _ (al yi (al SS (al GY (al agQ (al pI (al yj (ay)))))))
theorem agS:bE (BI) (bG (bL Tryz.f141) 0) (Td):=
 bP (cx:=BI) (n:=76) (n0:=6) (ins:=[0,1,5,9,11]) (outs:=[0,1]) (sh:=⟨[.ptr 0 0,.int .i64,.ptr 1 0,.ah U.Value,.int .i64],[.box [.ah U.Prog,.own 6,.own 7,.own 8,.own 9],.el U.cu,.dead,.dead,.dead,.dead,.arr U.Stream,.arr U.Task,.arr U.i64,.arr U.Note]⟩) (run:=fun n x=>M.qC x.1.2.1 x.1.2.2.2.1 x.2.2.1 n x.1.2.2.2.2.1 x.2.1.1 x.2.2.2.2.2.2.2.1 x.2.2.2.2.2.2.2.2.1 x.2.2.2.2.2.2.2.2.2.1 x.2.2.2.2.2.2.2.2.2.2.1) (bH:=agR) (out:=Tc) aj (Tf) aA (aJ (by kernel_rfl)) (fun _=>rfl) (fun m x=>by kernel_rfl) (al ⟨bQ,fun _ _ _=>rfl⟩ (ay)) false an
theorem agT:(G1 (M.tp)).Ok D Tryz.prog:=
 aM (cx:=BI) (c:=G1 (M.tp)) (fz:=true) (fn:=Tryz.f141) aj (Tf) aA ⟨Tryz.func141,by kernel_rfl⟩ (aN (bX 1 (by kernel_rfl) (bZ (.mk (by kernel_rfl) (agS))))) ⟨⟨[.int .i64],[.box [.ah U.Prog,.own 5,.own 6,.own 7,.own 8],.dead,.dead,.dead,.dead,.arr U.Stream,.arr U.Task,.arr U.i64,.arr U.Note]⟩,fun x=>(x.1.1,x.2.1.1,x.2.2.2.2.2.2.1,x.2.2.2.2.2.2.2.1,x.2.2.2.2.2.2.2.2.1,x.2.2.2.2.2.2.2.2.2.1)⟩ (fun x=>rfl) (fun x=>by kernel_rfl)
def G2(m:Int->M.aw->(List M.ar)->(List M.ae)->(List M.ad)->(List Int)->(List M.az)->Option (Int×(List M.ar)×(List M.ae)×(List M.ad)×(List Int)×(List M.az))):aI K:={f:=104,sh:=⟨[.ptr 0 0,.int .i64,.el U.cu],[.box [.ah U.Prog,.own 1,.own 2,.own 3,.own 4],.arr U.Stream,.arr U.Task,.arr U.i64,.arr U.Note]⟩,R:=Int×(List M.ar)×(List M.ae)×(List M.ad)×(List Int)×(List M.az),run:=fun x=>m x.1.2.1 x.1.2.2.1 x.2.1.1 x.2.2.1 x.2.2.2.1 x.2.2.2.2.1 x.2.2.2.2.2.1,dflt:=default,out:=fun r=>(Sh.enc D (.int .i64) r.1,aB.encs D [.box [.ah U.Prog,.own 5,.own 6,.own 7,.own 8],.dead,.dead,.dead,.dead,.arr U.Stream,.arr U.Task,.arr U.i64,.arr U.Note] ((r.2.1,((),((),((),((),()))))),((),((),((),((),(r.2.2.1,(r.2.2.2.1,(r.2.2.2.2.1,(r.2.2.2.2.2,()))))))))))}
def Ti:Cx K:={aO with mode:=aL .plain [(95,.cL),(140,.cL),(141,.cL),(142,.gU),(143,.gU),(98,.cL)],mv:=true,call:=callOf D [rR M.gG,GZ M.tn,G1 M.tp,FQ M.sW,rS M.eF,Fz M.sX],loop:=aK []}
theorem agU:aH (Ti):=aP aj _ (al yi (al agO (al agT (al aeA (al yj (al ad3 (ay)))))))
theorem agV:(G2 (M.tq)).Ok D Tryz.prog:=
 aM (cx:=Ti) (c:=G2 (M.tq)) (fz:=true) (fn:=Tryz.f104) aj (agU) aA ⟨Tryz.func104,by kernel_rfl⟩ (aN (aJ (by kernel_rfl))) ⟨⟨[.int .i64],[.box [.ah U.Prog,.own 5,.own 6,.own 7,.own 8],.dead,.dead,.dead,.dead,.arr U.Stream,.arr U.Task,.arr U.i64,.arr U.Note]⟩,fun x=>(x.1.1,x.2.1.1,x.2.2.2.2.2.2.1,x.2.2.2.2.2.2.2.1,x.2.2.2.2.2.2.2.2.1,x.2.2.2.2.2.2.2.2.2.1)⟩ (fun x=>rfl) (fun x=>by kernel_rfl)
def G3(m:Int->M.bh->Option (M.bh)):aI K:={f:=124,sh:=⟨[.ptr 0 0,.int .i64],[.el U.async]⟩,R:=M.bh,run:=fun x=>m x.1.2.1 x.2.1,dflt:=default,out:=fun r=>(Sh.enc D (.cG) (),aB.encs D [.el U.async] (r,()))}
def Tj:Cx K:={aO with mode:=aL .plain [(160,.plain),(65,.plain)],d5:=[[]],call:=callOf D [Br M.Bt,gq M.gu],loop:=aK []}
theorem agW:aH (Tj):=aP aj _ (al RG (al ib (ay)))
theorem agX:(G3 (M.kG)).Ok D Tryz.prog:=
 aM (cx:=Tj) (c:=G3 (M.kG)) (fz:=false) (fn:=Tryz.f124) aj (agW) aA ⟨Tryz.func124,by kernel_rfl⟩ (aN (aJ (by kernel_rfl))) ⟨⟨[.cG],[.el U.async]⟩,fun x=>x.2.1⟩ (fun x=>rfl) (fun x=>by kernel_rfl)
def G4(m:Int->M.bh->Option (M.ae×M.bh)):aI K:={f:=124,sh:=⟨[.ptr 0 0,.int .i64],[.el U.async]⟩,R:=M.ae×M.bh,run:=fun x=>m x.1.2.1 x.2.1,dflt:=default,out:=fun r=>(Sh.enc D (.rp U.Stream 0) r.1,aB.encs D [.el U.async] (r.2,()))}
def Tm:Cx K:={aO with mode:=aL .plain [(160,.plain),(65,.plain)],d5:=[[]],call:=callOf D [Br M.Bt,gq M.gu],loop:=aK []}
theorem agY:aH (Tm):=aP aj _ (al RG (al ib (ay)))
theorem agZ:(G4 (M.kH)).Ok D Tryz.prog:=
 aM (cx:=Tm) (c:=G4 (M.kH)) (fz:=false) (fn:=Tryz.f124) aj (agY) aA ⟨Tryz.func124,by kernel_rfl⟩ (aN (aJ (by kernel_rfl))) ⟨⟨[.rp U.Stream 0],[.el U.async]⟩,fun x=>(x.1.1,x.2.1)⟩ (fun x=>rfl) (fun x=>by kernel_rfl)
def Tn(y:(M.ad×(List M.ar)×(List M.ae)×(List M.ad)×(List Int)×(List M.az))⊕((List M.ar)×(List M.ae)×(List M.ad)×(List Int)×(List M.az))){R:Type}(k:Ex->List (AV K)->List (Ob K)->R):R:=match y with
 |.inl a0=>k Ex.ret (ax.aU D ⟨[.rp U.Task 0],[.box [.ah U.Prog,.ah U.Stream,.ah U.Task,.ah U.i64,.ah U.Note]]⟩ ((a0.1,()),((a0.2.1,(a0.2.2.1,(a0.2.2.2.1,(a0.2.2.2.2.1,(a0.2.2.2.2.2,()))))),()))) (ax.aY D ⟨[.rp U.Task 0],[.box [.ah U.Prog,.ah U.Stream,.ah U.Task,.ah U.i64,.ah U.Note]]⟩ ((a0.1,()),((a0.2.1,(a0.2.2.1,(a0.2.2.2.1,(a0.2.2.2.2.1,(a0.2.2.2.2.2,()))))),())))
 |.inr (a1)=>k (Ex.exit 0) (ax.aU D ⟨[.any],[.box [.ah U.Prog,.ah U.Stream,.ah U.Task,.ah U.i64,.ah U.Note]]⟩ (((),()),((a1.1,(a1.2.1,(a1.2.2.1,(a1.2.2.2.1,(a1.2.2.2.2,()))))),()))) (ax.aY D ⟨[.any],[.box [.ah U.Prog,.ah U.Stream,.ah U.Task,.ah U.i64,.ah U.Note]]⟩ (((),()),((a1.1,(a1.2.1,(a1.2.2.1,(a1.2.2.2.1,(a1.2.2.2.2,()))))),())))
def ag0:List (bK K ((M.ad×(List M.ar)×(List M.ae)×(List M.ad)×(List Int)×(List M.az))⊕((List M.ar)×(List M.ae)×(List M.ad)×(List Int)×(List M.az)))):=[⟨Ex.ret,⟨[.rp U.Task 0],[.box [.ah U.Prog,.ah U.Stream,.ah U.Task,.ah U.i64,.ah U.Note]]⟩,fun x=>.inl (x.1.1,x.2.1.1,x.2.1.2.1,x.2.1.2.2.1,x.2.1.2.2.2.1,x.2.1.2.2.2.2.1)⟩,⟨(Ex.exit 0),⟨[.any],[.box [.ah U.Prog,.ah U.Stream,.ah U.Task,.ah U.i64,.ah U.Note]]⟩,fun x=>.inr ((x.2.1.1,x.2.1.2.1,x.2.1.2.2.1,x.2.1.2.2.2.1,x.2.1.2.2.2.2.1))⟩]
def To:bD K:=bM D false 33 1 [0,11,12,13] [4] ⟨[.ptr 0 0,.ah U.i64,.int .i64,.int .i64],[.el U.async]⟩ (fun x=>M.qx x.1.2.1 x.1.2.2.1 an x.1.2.2.2.1 x.2.1) Tn
def G5(m:M.ad->M.bh->Option (M.ad×M.bh)):aI K:={f:=125,sh:=⟨[.ptr 0 0,.rp U.Task 0],[.el U.async]⟩,R:=M.ad×M.bh,run:=fun x=>m x.1.2.1 x.2.1,dflt:=default,out:=fun r=>(Sh.enc D (.rp U.Task 0) r.1,aB.encs D [.el U.async] (r.2,()))}
def BJ:Cx K:={aO with mode:=aL .plain [(67,.cL),(122,.plain)],d5:=[[]],call:=callOf D [ye M.lE,yc M.yd],loop:=aK [(2,To)]}
theorem Tq:aH (BJ):=aP aj _ (al Gv (al Gq (ay)))
theorem ag1:bE (BJ) (bG (bL Tryz.f125) 0) (To):=
 bP (cx:=BJ) (n:=33) (n0:=1) (ins:=[0,11,12,13]) (outs:=[4]) (sh:=⟨[.ptr 0 0,.ah U.i64,.int .i64,.int .i64],[.el U.async]⟩) (run:=fun n x=>M.qx x.1.2.1 x.1.2.2.1 n x.1.2.2.2.1 x.2.1) (bH:=ag0) (out:=Tn) aj (Tq) aA (aJ (by kernel_rfl)) (fun _=>rfl) (fun m x=>by kernel_rfl) (al ⟨cz,fun _ _ _=>rfl⟩ (al ⟨bQ,fun _ _ _=>rfl⟩ (ay))) false an
theorem ag2:(G5 (M.qz)).Ok D Tryz.prog:=
 aM (cx:=BJ) (c:=G5 (M.qz)) (fz:=false) (fn:=Tryz.f125) aj (Tq) aA ⟨Tryz.func125,by kernel_rfl⟩ (aN (bX 1 (by kernel_rfl) (bZ (.mk (by kernel_rfl) (ag1))))) ⟨⟨[.rp U.Task 0],[.el U.async]⟩,fun x=>(x.1.1,x.2.1)⟩ (fun x=>rfl) (fun x=>by kernel_rfl)
def Tt(y:(M.ad×(List M.ar)×(List M.ae)×(List M.ad)×(List Int)×(List M.az))⊕((List M.ar)×(List M.ae)×(List M.ad)×(List Int)×(List M.az))){R:Type}(k:Ex->List (AV K)->List (Ob K)->R):R:=match y with
 |.inl a0=>k Ex.ret (ax.aU D ⟨[.rp U.Task 0],[.box [.ah U.Prog,.ah U.Stream,.ah U.Task,.ah U.i64,.ah U.Note]]⟩ ((a0.1,()),((a0.2.1,(a0.2.2.1,(a0.2.2.2.1,(a0.2.2.2.2.1,(a0.2.2.2.2.2,()))))),()))) (ax.aY D ⟨[.rp U.Task 0],[.box [.ah U.Prog,.ah U.Stream,.ah U.Task,.ah U.i64,.ah U.Note]]⟩ ((a0.1,()),((a0.2.1,(a0.2.2.1,(a0.2.2.2.1,(a0.2.2.2.2.1,(a0.2.2.2.2.2,()))))),())))
 |.inr (a1)=>k (Ex.exit 0) (ax.aU D ⟨[.any],[.box [.ah U.Prog,.ah U.Stream,.ah U.Task,.ah U.i64,.ah U.Note]]⟩ (((),()),((a1.1,(a1.2.1,(a1.2.2.1,(a1.2.2.2.1,(a1.2.2.2.2,()))))),()))) (ax.aY D ⟨[.any],[.box [.ah U.Prog,.ah U.Stream,.ah U.Task,.ah U.i64,.ah U.Note]]⟩ (((),()),((a1.1,(a1.2.1,(a1.2.2.1,(a1.2.2.2.1,(a1.2.2.2.2,()))))),())))
def ag3:List (bK K ((M.ad×(List M.ar)×(List M.ae)×(List M.ad)×(List Int)×(List M.az))⊕((List M.ar)×(List M.ae)×(List M.ad)×(List Int)×(List M.az)))):=[⟨Ex.ret,⟨[.rp U.Task 0],[.box [.ah U.Prog,.ah U.Stream,.ah U.Task,.ah U.i64,.ah U.Note]]⟩,fun x=>.inl (x.1.1,x.2.1.1,x.2.1.2.1,x.2.1.2.2.1,x.2.1.2.2.2.1,x.2.1.2.2.2.2.1)⟩,⟨(Ex.exit 0),⟨[.any],[.box [.ah U.Prog,.ah U.Stream,.ah U.Task,.ah U.i64,.ah U.Note]]⟩,fun x=>.inr ((x.2.1.1,x.2.1.2.1,x.2.1.2.2.1,x.2.1.2.2.2.1,x.2.1.2.2.2.2.1))⟩]
def Tu:bD K:=bM D false 33 1 [0,11,12,13] [4] ⟨[.ptr 0 0,.ah U.i64,.int .i64,.int .i64],[.el U.async]⟩ (fun x=>M.qy x.1.2.1 x.1.2.2.1 an x.1.2.2.2.1 x.2.1) Tt
def G6(m:M.ad->M.bh->Option (M.bh)):aI K:={f:=125,sh:=⟨[.ptr 0 0,.rp U.Task 0],[.el U.async]⟩,R:=M.bh,run:=fun x=>m x.1.2.1 x.2.1,dflt:=default,out:=fun r=>(Sh.enc D (.cG) (),aB.encs D [.el U.async] (r,()))}
def BK:Cx K:={aO with mode:=aL .plain [(67,.cL),(122,.plain)],d5:=[[]],call:=callOf D [ye M.lE,yc M.yd],loop:=aK [(2,Tu)]}
theorem Tv:aH (BK):=aP aj _ (al Gv (al Gq (ay)))
theorem ag4:bE (BK) (bG (bL Tryz.f125) 0) (Tu):=
 bP (cx:=BK) (n:=33) (n0:=1) (ins:=[0,11,12,13]) (outs:=[4]) (sh:=⟨[.ptr 0 0,.ah U.i64,.int .i64,.int .i64],[.el U.async]⟩) (run:=fun n x=>M.qy x.1.2.1 x.1.2.2.1 n x.1.2.2.2.1 x.2.1) (bH:=ag3) (out:=Tt) aj (Tv) aA (aJ (by kernel_rfl)) (fun _=>rfl) (fun m x=>by kernel_rfl) (al ⟨cz,fun _ _ _=>rfl⟩ (al ⟨bQ,fun _ _ _=>rfl⟩ (ay))) false an
theorem ag5:(G6 (M.qA)).Ok D Tryz.prog:=
 aM (cx:=BK) (c:=G6 (M.qA)) (fz:=false) (fn:=Tryz.f125) aj (Tv) aA ⟨Tryz.func125,by kernel_rfl⟩ (aN (bX 1 (by kernel_rfl) (bZ (.mk (by kernel_rfl) (ag4))))) ⟨⟨[.cG],[.el U.async]⟩,fun x=>x.2.1⟩ (fun x=>rfl) (fun x=>by kernel_rfl)
def ym(m:M.ae->Option (Bool)):aI K:={f:=126,sh:=⟨[.el U.Stream],[]⟩,R:=Bool,run:=fun x=>m x.1.1,dflt:=default,out:=fun r=>(Sh.enc D (.bool) r,aB.encs D [] ())}
def Tz:Cx K:={aO with mode:=aL .plain [(115,.plain),(119,.plain)],call:=callOf D [A0 M.A4,A8 M.kC],loop:=aK []}
theorem ag6:aH (Tz):=aP aj _ (al P7 (al Qo (ay)))
theorem G7:(ym (M.oj)).Ok D Tryz.prog:=
 aM (cx:=Tz) (c:=ym (M.oj)) (fz:=true) (fn:=Tryz.f126) aj (ag6) aA ⟨Tryz.func126,by kernel_rfl⟩ (aN (aJ (by kernel_rfl))) ⟨⟨[.bool],[]⟩,fun x=>x.1.1⟩ (fun x=>rfl) (fun x=>by kernel_rfl)
def yn(m:M.ae->Option (Bool)):aI K:={f:=127,sh:=⟨[.el U.Stream],[]⟩,R:=Bool,run:=fun x=>m x.1.1,dflt:=default,out:=fun r=>(Sh.enc D (.bool) r,aB.encs D [] ())}
def TA:Cx K:={aO with mode:=aL .plain [],call:=callOf D [],loop:=aK []}
theorem ag7:aH (TA):=aP aj _ (ay)
theorem G8:(yn (M.om)).Ok D Tryz.prog:=
 aM (cx:=TA) (c:=yn (M.om)) (fz:=true) (fn:=Tryz.f127) aj (ag7) aA ⟨Tryz.func127,by kernel_rfl⟩ (aN (aJ (by kernel_rfl))) ⟨⟨[.bool],[]⟩,fun x=>x.1.1⟩ (fun x=>rfl) (fun x=>by kernel_rfl)
def G9(m:M.ad->M.aw->M.bh->Option (Bool×M.bh)):aI K:={f:=70,sh:=⟨[.ptr 0 0,.rp U.Task 0,.el U.cu],[.el U.async]⟩,R:=Bool×M.bh,run:=fun x=>m x.1.2.1 x.1.2.2.1 x.2.1,dflt:=default,out:=fun r=>(Sh.enc D (.bool) r.1,aB.encs D [.el U.async] (r.2,()))}
def TB:Cx K:={P:=Tryz.prog,D:=D,ty:=zW,kd:=L0,mode:=aL .plain [(124,.cL),(125,.cL),(126,.plain),(127,.plain)],call:=callOf D [ym M.oj,yn M.om],alt:=fun b=>cond b (callOf D [ym M.oj,yn M.om,G4 M.kH,G6 M.qA]) (callOf D [ym M.oj,yn M.om,G3 M.kG,G5 M.qz]),loop:=aK []}
theorem ag8:aH (TB):=ag9 aj _ _ _ (al G7 (al G8 (ay))) (al G7 (al G8 (al agZ (al ag5 (ay))))) (al G7 (al G8 (al agX (al ag2 (ay)))))
theorem aha:(G9 (M.te)).Ok D Tryz.prog:=
 aM (cx:=TB) (c:=G9 (M.te)) (fz:=true) (fn:=Tryz.f70) aj (ag8) aA ⟨Tryz.func70,by kernel_rfl⟩ (aN (aJ (by kernel_rfl))) ⟨⟨[.bool],[.el U.async]⟩,fun x=>(x.1.1,x.2.1)⟩ (fun x=>rfl) (fun x=>by kernel_rfl)
def Ha(m:Int->M.bh->Option (Int×M.bh)):aI K:={f:=30,sh:=⟨[.ptr 0 0,.int .i64],[.el U.async]⟩,R:=Int×M.bh,run:=fun x=>m x.1.2.1 x.2.1,dflt:=default,out:=fun r=>(Sh.enc D (.int .i64) r.1,aB.encs D [.el U.async] (r.2,()))}
def TC:Cx K:={aO with mode:=aL .plain [(66,.plain),(65,.plain),(67,.cL),(68,.cL),(36,.plain),(69,.plain),(70,.cL),(71,.plain)],call:=callOf D [Bo M.Bq,gq M.gu,ye M.lE,Gw M.ta,Gx M.Gy,x7 M.kN,G9 M.te,xQ M.xR],loop:=aK []}
theorem ahb:aH (TC):=aP aj _ (al Rm (al ib (al Gv (al afR (al afT (al E5 (al aha (al Eu (ay)))))))))
theorem ahc:(Ha (M.tf)).Ok D Tryz.prog:=
 aM (cx:=TC) (c:=Ha (M.tf)) (fz:=true) (fn:=Tryz.f30) aj (ahb) aA ⟨Tryz.func30,by kernel_rfl⟩ (aN (aJ (by kernel_rfl))) ⟨⟨[.int .i64],[.el U.async]⟩,fun x=>(x.1.1,x.2.1)⟩ (fun x=>rfl) (fun x=>by kernel_rfl)
def TE(y:(Int)⊕(Int)){R:Type}(k:Ex->List (AV K)->List (Ob K)->R):R:=match y with
 |.inl a0=>k Ex.ret (ax.aU D ⟨[.any,.int .i64],[]⟩ (((),(a0,())),())) (ax.aY D ⟨[.any,.int .i64],[]⟩ (((),(a0,())),()))
 |.inr (a1)=>k (Ex.exit 0) (ax.aU D ⟨[.int .i64,.any],[]⟩ ((a1,((),())),())) (ax.aY D ⟨[.int .i64,.any],[]⟩ ((a1,((),())),()))
def ahf:List (bK K ((Int)⊕(Int))):=[⟨Ex.ret,⟨[.any,.int .i64],[]⟩,fun x=>.inl x.1.2.1⟩,⟨(Ex.exit 0),⟨[.int .i64,.any],[]⟩,fun x=>.inr (x.1.1)⟩]
def TF:bD K:=bM D false 27 0 [0,1,5] [1,4] ⟨[.ah U.Stream,.int .i64,.int .i64],[]⟩ (fun x=>M.rT x.1.1 an x.1.2.1 x.1.2.2.1) TE
def Hg(m:(List M.ae)->Int->Option (Int)):aI K:={f:=17,sh:=⟨[.ah U.Stream,.int .i64],[]⟩,R:=Int,run:=fun x=>m x.1.1 x.1.2.1,dflt:=default,out:=fun r=>(Sh.enc D (.int .i64) r,aB.encs D [] ())}
def BL:Cx K:={aO with mode:=aL .plain [(42,.plain)],call:=callOf D [FU M.vm],loop:=aK [(5,TF)]}
theorem TG:aH (BL):=aP aj _ (al aeR (ay))
theorem ahg:bE (BL) (bG (bL Tryz.f17) 0) (TF):=
 bP (cx:=BL) (n:=27) (n0:=0) (ins:=[0,1,5]) (outs:=[1,4]) (sh:=⟨[.ah U.Stream,.int .i64,.int .i64],[]⟩) (run:=fun n x=>M.rT x.1.1 n x.1.2.1 x.1.2.2.1) (bH:=ahf) (out:=TE) aj (TG) aA (aJ (by kernel_rfl)) (fun _=>rfl) (fun m x=>by kernel_rfl) (al ⟨cz,fun _ _ _=>rfl⟩ (al ⟨bQ,fun _ _ _=>rfl⟩ (ay))) false an
theorem ahh:(Hg (M.vt)).Ok D Tryz.prog:=
 aM (cx:=BL) (c:=Hg (M.vt)) (fz:=true) (fn:=Tryz.f17) aj (TG) aA ⟨Tryz.func17,by kernel_rfl⟩ (aN (bX 1 (by kernel_rfl) (bZ (.mk (by kernel_rfl) (ahg))))) ⟨⟨[.int .i64],[]⟩,fun x=>x.1.1⟩ (fun x=>rfl) (fun x=>by kernel_rfl)
def BM(m:(List Int)->Int->Option (Int)):aI K:={f:=19,sh:=⟨[.ah U.i64,.int .i64],[]⟩,R:=Int,run:=fun x=>m x.1.1 x.1.2.1,dflt:=default,out:=fun r=>(Sh.enc D (.int .i64) r,aB.encs D [] ())}
def TI:Cx K:={aO with mode:=aL .plain [],call:=callOf D [],loop:=aK []}
theorem ahi:aH (TI):=aP aj _ (ay)
theorem TJ:(BM (M.nj)).Ok D Tryz.prog:=
 aM (cx:=TI) (c:=BM (M.nj)) (fz:=true) (fn:=Tryz.f19) aj (ahi) aA ⟨Tryz.func19,by kernel_rfl⟩ (aN (aJ (by kernel_rfl))) ⟨⟨[.int .i64],[]⟩,fun x=>x.1.1⟩ (fun x=>rfl) (fun x=>by kernel_rfl)
def Hh(m:M.ad->Int->Option (Int)):aI K:={f:=43,sh:=⟨[.el U.Task,.int .i64],[]⟩,R:=Int,run:=fun x=>m x.1.1 x.1.2.1,dflt:=default,out:=fun r=>(Sh.enc D (.int .i64) r,aB.encs D [] ())}
def TK:Cx K:={aO with mode:=aL .plain [(19,.plain)],call:=callOf D [BM M.nj],loop:=aK []}
theorem ahj:aH (TK):=aP aj _ (al TJ (ay))
theorem ahk:(Hh (M.vu)).Ok D Tryz.prog:=
 aM (cx:=TK) (c:=Hh (M.vu)) (fz:=true) (fn:=Tryz.f43) aj (ahj) aA ⟨Tryz.func43,by kernel_rfl⟩ (aN (aJ (by kernel_rfl))) ⟨⟨[.int .i64],[]⟩,fun x=>x.1.1⟩ (fun x=>rfl) (fun x=>by kernel_rfl)
def TL(y:(Int)⊕(Int)){R:Type}(k:Ex->List (AV K)->List (Ob K)->R):R:=match y with
 |.inl a0=>k Ex.ret (ax.aU D ⟨[.any,.int .i64],[]⟩ (((),(a0,())),())) (ax.aY D ⟨[.any,.int .i64],[]⟩ (((),(a0,())),()))
 |.inr (a1)=>k (Ex.exit 0) (ax.aU D ⟨[.int .i64,.any],[]⟩ ((a1,((),())),())) (ax.aY D ⟨[.int .i64,.any],[]⟩ ((a1,((),())),()))
def ahl:List (bK K ((Int)⊕(Int))):=[⟨Ex.ret,⟨[.any,.int .i64],[]⟩,fun x=>.inl x.1.2.1⟩,⟨(Ex.exit 0),⟨[.int .i64,.any],[]⟩,fun x=>.inr (x.1.1)⟩]
def TM:bD K:=bM D false 27 0 [0,1,5] [1,4] ⟨[.ah U.Task,.int .i64,.int .i64],[]⟩ (fun x=>M.rU x.1.1 an x.1.2.1 x.1.2.2.1) TL
def Hj(m:(List M.ad)->Int->Option (Int)):aI K:={f:=18,sh:=⟨[.ah U.Task,.int .i64],[]⟩,R:=Int,run:=fun x=>m x.1.1 x.1.2.1,dflt:=default,out:=fun r=>(Sh.enc D (.int .i64) r,aB.encs D [] ())}
def BN:Cx K:={aO with mode:=aL .plain [(43,.plain)],call:=callOf D [Hh M.vu],loop:=aK [(5,TM)]}
theorem TN:aH (BN):=aP aj _ (al ahk (ay))
theorem ahm:bE (BN) (bG (bL Tryz.f18) 0) (TM):=
 bP (cx:=BN) (n:=27) (n0:=0) (ins:=[0,1,5]) (outs:=[1,4]) (sh:=⟨[.ah U.Task,.int .i64,.int .i64],[]⟩) (run:=fun n x=>M.rU x.1.1 n x.1.2.1 x.1.2.2.1) (bH:=ahl) (out:=TL) aj (TN) aA (aJ (by kernel_rfl)) (fun _=>rfl) (fun m x=>by kernel_rfl) (al ⟨cz,fun _ _ _=>rfl⟩ (al ⟨bQ,fun _ _ _=>rfl⟩ (ay))) false an
theorem ahn:(Hj (M.vv)).Ok D Tryz.prog:=
 aM (cx:=BN) (c:=Hj (M.vv)) (fz:=true) (fn:=Tryz.f18) aj (TN) aA ⟨Tryz.func18,by kernel_rfl⟩ (aN (bX 1 (by kernel_rfl) (bZ (.mk (by kernel_rfl) (ahm))))) ⟨⟨[.int .i64],[]⟩,fun x=>x.1.1⟩ (fun x=>rfl) (fun x=>by kernel_rfl)
def Hk(m:(List M.az)->Int->Option (Int)):aI K:={f:=20,sh:=⟨[.ah U.Note,.int .i64],[]⟩,R:=Int,run:=fun x=>m x.1.1 x.1.2.1,dflt:=default,out:=fun r=>(Sh.enc D (.int .i64) r,aB.encs D [] ())}
def TP:Cx K:={aO with mode:=aL .plain [],call:=callOf D [],loop:=aK []}
theorem aho:aH (TP):=aP aj _ (ay)
theorem ahp:(Hk (M.vx)).Ok D Tryz.prog:=
 aM (cx:=TP) (c:=Hk (M.vx)) (fz:=true) (fn:=Tryz.f20) aj (aho) aA ⟨Tryz.func20,by kernel_rfl⟩ (aN (aJ (by kernel_rfl))) ⟨⟨[.int .i64],[]⟩,fun x=>x.1.1⟩ (fun x=>rfl) (fun x=>by kernel_rfl)
def Hl(m:M.ai->Int->Option (Int)):aI K:={f:=5,sh:=⟨[.el U.Async,.int .i64],[]⟩,R:=Int,run:=fun x=>m x.1.1 x.1.2.1,dflt:=default,out:=fun r=>(Sh.enc D (.int .i64) r,aB.encs D [] ())}
def TQ:Cx K:={aO with mode:=aL .plain [(16,.plain),(17,.plain),(18,.plain),(19,.plain),(20,.plain)],call:=callOf D [Em M.uQ,Hg M.vt,Hj M.vv,BM M.nj,Hk M.vx],loop:=aK []}
theorem ahq:aH (TQ):=aP aj _ (al aaM (al ahh (al ahn (al TJ (al ahp (ay))))))
theorem ahr:(Hl (M.vy)).Ok D Tryz.prog:=
 aM (cx:=TQ) (c:=Hl (M.vy)) (fz:=true) (fn:=Tryz.f5) aj (ahq) aA ⟨Tryz.func5,by kernel_rfl⟩ (aN (aJ (by kernel_rfl))) ⟨⟨[.int .i64],[]⟩,fun x=>x.1.1⟩ (fun x=>rfl) (fun x=>by kernel_rfl)
def TR(y:(List M.ae)){R:Type}(k:Ex->List (AV K)->List (Ob K)->R):R:=match y with
 |a0=>k (Ex.exit 0) (ax.aU D ⟨[.own 1],[.dead,.tree U.Stream]⟩ (((),()),((),(a0,())))) (ax.aY D ⟨[.own 1],[.dead,.tree U.Stream]⟩ (((),()),((),(a0,()))))
def ahs:List (bK K ((List M.ae))):=[⟨(Ex.exit 0),⟨[.own 1],[.dead,.tree U.Stream]⟩,fun x=>x.2.2.1⟩]
def TS:bD K:=bM D false 23 1 [0,3,4] [3] ⟨[.ah U.Stream,.own 1,.int .i64],[.dead,.tree U.Stream]⟩ (fun x=>M.pJ x.1.1 an x.1.2.2.1 x.2.2.1) TR
def Hm(m:(List M.ae)->Option ((List M.ae))):aI K:={f:=25,sh:=⟨[.ah U.Stream],[]⟩,R:=(List M.ae),run:=fun x=>m x.1.1,dflt:=default,out:=fun r=>(Sh.enc D (.own 0) (),aB.encs D [.tree U.Stream] (r,()))}
def BO:Cx K:={aO with mode:=aL .plain [(56,.fresh)],d5:=[[some U.Stream]],deep:=fun c=>dn (D.cells c (K.zero c)),call:=callOf D [FV M.vn],loop:=aK [(3,TS)]}
theorem TU:aH (BO):=aP aj _ (al aeT (ay))
theorem aht:bE (BO) (bG (bL Tryz.f25) 0) (TS):=
 bP (cx:=BO) (n:=23) (n0:=1) (ins:=[0,3,4]) (outs:=[3]) (sh:=⟨[.ah U.Stream,.own 1,.int .i64],[.dead,.tree U.Stream]⟩) (run:=fun n x=>M.pJ x.1.1 n x.1.2.2.1 x.2.2.1) (bH:=ahs) (out:=TR) aj (TU) aA (aJ (by kernel_rfl)) (fun _=>rfl) (fun m x=>by kernel_rfl) (al ⟨bQ,fun _ _ _=>rfl⟩ (ay)) false an
theorem ahu:(Hm (M.vz)).Ok D Tryz.prog:=
 aM (cx:=BO) (c:=Hm (M.vz)) (fz:=false) (fn:=Tryz.f25) aj (TU) aA ⟨Tryz.func25,by kernel_rfl⟩ (aN (bX 1 (by kernel_rfl) (bZ (.mk (by kernel_rfl) (aht))))) ⟨⟨[.own 0],[.tree U.Stream]⟩,fun x=>x.2.1⟩ (fun x=>rfl) (fun x=>by kernel_rfl)
def Hq(m:M.ad->Option (Int×Int×Int×Int×Int×Int×Bool×Bool×Bool×(List Int)×(List Int))):aI K:={f:=57,sh:=⟨[.el U.Task],[]⟩,R:=Int×Int×Int×Int×Int×Int×Bool×Bool×Bool×(List Int)×(List Int),run:=fun x=>m x.1.1,dflt:=default,out:=fun r=>(Sh.enc D (.agg [.int .i64,.int .i64,.int .i64,.int .i64,.int .i64,.int .i64,.bool,.bool,.bool,.own 0,.own 1]) (r.1,(r.2.1,(r.2.2.1,(r.2.2.2.1,(r.2.2.2.2.1,(r.2.2.2.2.2.1,(r.2.2.2.2.2.2.1,(r.2.2.2.2.2.2.2.1,(r.2.2.2.2.2.2.2.2.1,((),((),()))))))))))),aB.encs D [.arr U.i64,.arr U.i64] (r.2.2.2.2.2.2.2.2.2.1,(r.2.2.2.2.2.2.2.2.2.2,())))}
def TW:Cx K:={aO with mode:=aL .plain [(27,.fresh)],d5:=[[none,none,none,none,none,none,none,none,none,some U.i64,some U.i64]],deep:=fun c=>dn (D.cells c (K.zero c)),call:=callOf D [Ac M.m5],loop:=aK []}
theorem ahv:aH (TW):=aP aj _ (al MP (ay))
theorem ahw:(Hq (M.vA)).Ok D Tryz.prog:=
 aM (cx:=TW) (c:=Hq (M.vA)) (fz:=false) (fn:=Tryz.f57) aj (ahv) aA ⟨Tryz.func57,by kernel_rfl⟩ (aN (aJ (by kernel_rfl))) ⟨⟨[.agg [.int .i64,.int .i64,.int .i64,.int .i64,.int .i64,.int .i64,.bool,.bool,.bool,.own 0,.own 1]],[.arr U.i64,.arr U.i64]⟩,fun x=>(x.1.1.1,x.1.1.2.1,x.1.1.2.2.1,x.1.1.2.2.2.1,x.1.1.2.2.2.2.1,x.1.1.2.2.2.2.2.1,x.1.1.2.2.2.2.2.2.1,x.1.1.2.2.2.2.2.2.2.1,x.1.1.2.2.2.2.2.2.2.2.1,x.2.1,x.2.2.1)⟩ (fun x=>rfl) (fun x=>by kernel_rfl)
def TX(y:(List M.ad)){R:Type}(k:Ex->List (AV K)->List (Ob K)->R):R:=match y with
 |a0=>k (Ex.exit 0) (ax.aU D ⟨[.own 1],[.dead,.tree U.Task]⟩ (((),()),((),(a0,())))) (ax.aY D ⟨[.own 1],[.dead,.tree U.Task]⟩ (((),()),((),(a0,()))))
def ahx:List (bK K ((List M.ad))):=[⟨(Ex.exit 0),⟨[.own 1],[.dead,.tree U.Task]⟩,fun x=>x.2.2.1⟩]
def TY:bD K:=bM D false 23 1 [0,3,4] [3] ⟨[.ah U.Task,.own 1,.int .i64],[.dead,.tree U.Task]⟩ (fun x=>M.pK x.1.1 an x.1.2.2.1 x.2.2.1) TX
def Hr(m:(List M.ad)->Option ((List M.ad))):aI K:={f:=26,sh:=⟨[.ah U.Task],[]⟩,R:=(List M.ad),run:=fun x=>m x.1.1,dflt:=default,out:=fun r=>(Sh.enc D (.own 0) (),aB.encs D [.tree U.Task] (r,()))}
def BP:Cx K:={aO with mode:=aL .plain [(57,.fresh)],d5:=[[some U.Task]],deep:=fun c=>dn (D.cells c (K.zero c)),call:=callOf D [Hq M.vA],loop:=aK [(3,TY)]}
theorem TZ:aH (BP):=aP aj _ (al ahw (ay))
theorem ahy:bE (BP) (bG (bL Tryz.f26) 0) (TY):=
 bP (cx:=BP) (n:=23) (n0:=1) (ins:=[0,3,4]) (outs:=[3]) (sh:=⟨[.ah U.Task,.own 1,.int .i64],[.dead,.tree U.Task]⟩) (run:=fun n x=>M.pK x.1.1 n x.1.2.2.1 x.2.2.1) (bH:=ahx) (out:=TX) aj (TZ) aA (aJ (by kernel_rfl)) (fun _=>rfl) (fun m x=>by kernel_rfl) (al ⟨bQ,fun _ _ _=>rfl⟩ (ay)) false an
theorem ahz:(Hr (M.vB)).Ok D Tryz.prog:=
 aM (cx:=BP) (c:=Hr (M.vB)) (fz:=false) (fn:=Tryz.f26) aj (TZ) aA ⟨Tryz.func26,by kernel_rfl⟩ (aN (bX 1 (by kernel_rfl) (bZ (.mk (by kernel_rfl) (ahy))))) ⟨⟨[.own 0],[.tree U.Task]⟩,fun x=>x.2.1⟩ (fun x=>rfl) (fun x=>by kernel_rfl)
def Ht(m:M.az->Option (M.az)):aI K:={f:=58,sh:=⟨[.el U.Note],[]⟩,R:=M.az,run:=fun x=>m x.1.1,dflt:=default,out:=fun r=>(Sh.enc D (.el U.Note) r,aB.encs D [] ())}
def T0:Cx K:={aO with mode:=aL .plain [],d5:=[[]],deep:=fun c=>dn (D.cells c (K.zero c)),call:=callOf D [],loop:=aK []}
theorem ahA:aH (T0):=aP aj _ (ay)
theorem ahB:(Ht (M.yo)).Ok D Tryz.prog:=
 aM (cx:=T0) (c:=Ht (M.yo)) (fz:=false) (fn:=Tryz.f58) aj (ahA) aA ⟨Tryz.func58,by kernel_rfl⟩ (aN (aJ (by kernel_rfl))) ⟨⟨[.el U.Note],[]⟩,fun x=>x.1.1⟩ (fun x=>rfl) (fun x=>by kernel_rfl)
def T8(y:(List M.az)){R:Type}(k:Ex->List (AV K)->List (Ob K)->R):R:=match y with
 |a0=>k (Ex.exit 0) (ax.aU D ⟨[.own 1],[.dead,.arr U.Note]⟩ (((),()),((),(a0,())))) (ax.aY D ⟨[.own 1],[.dead,.arr U.Note]⟩ (((),()),((),(a0,()))))
def ahC:List (bK K ((List M.az))):=[⟨(Ex.exit 0),⟨[.own 1],[.dead,.arr U.Note]⟩,fun x=>x.2.2.1⟩]
def T9:bD K:=bM D false 23 1 [0,3,4] [3] ⟨[.ah U.Note,.own 1,.int .i64],[.dead,.arr U.Note]⟩ (fun x=>M.pL x.1.1 an x.1.2.2.1 x.2.2.1) T8
def Hu(m:(List M.az)->Option ((List M.az))):aI K:={f:=28,sh:=⟨[.ah U.Note],[]⟩,R:=(List M.az),run:=fun x=>m x.1.1,dflt:=default,out:=fun r=>(Sh.enc D (.own 0) (),aB.encs D [.arr U.Note] (r,()))}
def BQ:Cx K:={aO with mode:=aL .plain [(58,.fresh)],d5:=[[some U.Note]],deep:=fun c=>dn (D.cells c (K.zero c)),call:=callOf D [Ht M.yo],loop:=aK [(3,T9)]}
theorem Ua:aH (BQ):=aP aj _ (al ahB (ay))
theorem ahD:bE (BQ) (bG (bL Tryz.f28) 0) (T9):=
 bP (cx:=BQ) (n:=23) (n0:=1) (ins:=[0,3,4]) (outs:=[3]) (sh:=⟨[.ah U.Note,.own 1,.int .i64],[.dead,.arr U.Note]⟩) (run:=fun n x=>M.pL x.1.1 n x.1.2.2.1 x.2.2.1) (bH:=ahC) (out:=T8) aj (Ua) aA (aJ (by kernel_rfl)) (fun _=>rfl) (fun m x=>by kernel_rfl) (al ⟨bQ,fun _ _ _=>rfl⟩ (ay)) false an
theorem ahE:(Hu (M.vC)).Ok D Tryz.prog:=
 aM (cx:=BQ) (c:=Hu (M.vC)) (fz:=false) (fn:=Tryz.f28) aj (Ua) aA ⟨Tryz.func28,by kernel_rfl⟩ (aN (bX 1 (by kernel_rfl) (bZ (.mk (by kernel_rfl) (ahD))))) ⟨⟨[.own 0],[.arr U.Note]⟩,fun x=>x.2.1⟩ (fun x=>rfl) (fun x=>by kernel_rfl)
def Hw(m:M.ai->Option ((List M.ar)×(List M.ae)×(List M.ad)×(List Int)×(List M.az))):aI K:={f:=7,sh:=⟨[.el U.Async],[]⟩,R:=(List M.ar)×(List M.ae)×(List M.ad)×(List Int)×(List M.az),run:=fun x=>m x.1.1,dflt:=default,out:=fun r=>(Sh.enc D (.agg [.own 0,.own 1,.own 2,.own 3,.own 4]) ((),((),((),((),((),()))))),aB.encs D [.tree U.Prog,.tree U.Stream,.tree U.Task,.arr U.i64,.arr U.Note] (r.1,(r.2.1,(r.2.2.1,(r.2.2.2.1,(r.2.2.2.2,()))))))}
def Ub:Cx K:={aO with mode:=aL .plain [(24,.fresh),(25,.fresh),(26,.fresh),(27,.fresh),(28,.fresh)],d5:=[[some U.Prog,some U.Stream,some U.Task,some U.i64,some U.Note]],deep:=fun c=>dn (D.cells c (K.zero c)),call:=callOf D [Es M.uT,Hm M.vz,Hr M.vB,Ac M.m5,Hu M.vC],loop:=aK []}
theorem ahF:aH (Ub):=aP aj _ (al aaW (al ahu (al ahz (al MP (al ahE (ay))))))
theorem ahG:(Hw (M.vD)).Ok D Tryz.prog:=
 aM (cx:=Ub) (c:=Hw (M.vD)) (fz:=false) (fn:=Tryz.f7) aj (ahF) aA ⟨Tryz.func7,by kernel_rfl⟩ (aN (aJ (by kernel_rfl))) ⟨⟨[.agg [.own 0,.own 1,.own 2,.own 3,.own 4]],[.tree U.Prog,.tree U.Stream,.tree U.Task,.arr U.i64,.arr U.Note]⟩,fun x=>(x.2.1,x.2.2.1,x.2.2.2.1,x.2.2.2.2.1,x.2.2.2.2.2.1)⟩ (fun x=>rfl) (fun x=>by kernel_rfl)
def Uc(y:(Bool)⊕(Unit)){R:Type}(k:Ex->List (AV K)->List (Ob K)->R):R:=match y with
 |.inl a0=>k Ex.ret (ax.aU D ⟨[.bool],[]⟩ ((a0,()),())) (ax.aY D ⟨[.bool],[]⟩ ((a0,()),()))
 |.inr (a1)=>k (Ex.exit 0) (ax.aU D ⟨[.any],[]⟩ (((),()),())) (ax.aY D ⟨[.any],[]⟩ (((),()),()))
def ahH:List (bK K ((Bool)⊕(Unit))):=[⟨Ex.ret,⟨[.bool],[]⟩,fun x=>.inl x.1.1⟩,⟨(Ex.exit 0),⟨[.any],[]⟩,fun x=>.inr (())⟩]
def Ud:bD K:=bM D false 27 0 [0,1,5] [4] ⟨[.ah U.Value,.ah U.Value,.int .i64],[]⟩ (fun x=>M.rV x.1.1 x.1.2.1 an x.1.2.2.1) Uc
def Hy(m:(List M.af)->(List M.af)->Option (Bool)):aI K:={f:=130,sh:=⟨[.ah U.Value,.ah U.Value],[]⟩,R:=Bool,run:=fun x=>m x.1.1 x.1.2.1,dflt:=default,out:=fun r=>(Sh.enc D (.bool) r,aB.encs D [] ())}
def BR:Cx K:={aO with mode:=aL .plain [(164,.plain)],call:=callOf D [kP M.zY],loop:=aK [(4,Ud)]}
theorem Ue:aH (BR):=aP aj _ (al aaF (ay))
theorem ahI:bE (BR) (bG (bL Tryz.f130) 0) (Ud):=
 bP (cx:=BR) (n:=27) (n0:=0) (ins:=[0,1,5]) (outs:=[4]) (sh:=⟨[.ah U.Value,.ah U.Value,.int .i64],[]⟩) (run:=fun n x=>M.rV x.1.1 x.1.2.1 n x.1.2.2.1) (bH:=ahH) (out:=Uc) aj (Ue) aA (aJ (by kernel_rfl)) (fun _=>rfl) (fun m x=>by kernel_rfl) (al ⟨cz,fun _ _ _=>rfl⟩ (al ⟨bQ,fun _ _ _=>rfl⟩ (ay))) false an
theorem ahJ:(Hy (M.vE)).Ok D Tryz.prog:=
 aM (cx:=BR) (c:=Hy (M.vE)) (fz:=true) (fn:=Tryz.f130) aj (Ue) aA ⟨Tryz.func130,by kernel_rfl⟩ (aN (bX 1 (by kernel_rfl) (bZ (.mk (by kernel_rfl) (ahI))))) ⟨⟨[.bool],[]⟩,fun x=>x.1.1⟩ (fun x=>rfl) (fun x=>by kernel_rfl)
def Hz(m:M.ae->M.ae->Option (Bool)):aI K:={f:=73,sh:=⟨[.el U.Stream,.el U.Stream],[]⟩,R:=Bool,run:=fun x=>m x.1.1 x.1.2.1,dflt:=default,out:=fun r=>(Sh.enc D (.bool) r,aB.encs D [] ())}
def Uf:Cx K:={aO with mode:=aL .plain [(129,.plain),(130,.plain)],call:=callOf D [kS M.Av,Hy M.vE],loop:=aK []}
theorem ahK:aH (Uf):=aP aj _ (al abT (al ahJ (ay)))
theorem ahL:(Hz (M.vF)).Ok D Tryz.prog:=
 aM (cx:=Uf) (c:=Hz (M.vF)) (fz:=true) (fn:=Tryz.f73) aj (ahK) aA ⟨Tryz.func73,by kernel_rfl⟩ (aN (aJ (by kernel_rfl))) ⟨⟨[.bool],[]⟩,fun x=>x.1.1⟩ (fun x=>rfl) (fun x=>by kernel_rfl)
def Ug(y:(Bool)⊕(Unit)){R:Type}(k:Ex->List (AV K)->List (Ob K)->R):R:=match y with
 |.inl a0=>k Ex.ret (ax.aU D ⟨[.bool],[]⟩ ((a0,()),())) (ax.aY D ⟨[.bool],[]⟩ ((a0,()),()))
 |.inr (a1)=>k (Ex.exit 0) (ax.aU D ⟨[.any],[]⟩ (((),()),())) (ax.aY D ⟨[.any],[]⟩ (((),()),()))
def ahM:List (bK K ((Bool)⊕(Unit))):=[⟨Ex.ret,⟨[.bool],[]⟩,fun x=>.inl x.1.1⟩,⟨(Ex.exit 0),⟨[.any],[]⟩,fun x=>.inr (())⟩]
def Uh:bD K:=bM D false 27 0 [0,1,5] [4] ⟨[.ah U.Stream,.ah U.Stream,.int .i64],[]⟩ (fun x=>M.rW x.1.1 x.1.2.1 an x.1.2.2.1) Ug
def HA(m:(List M.ae)->(List M.ae)->Option (Bool)):aI K:={f:=32,sh:=⟨[.ah U.Stream,.ah U.Stream],[]⟩,R:=Bool,run:=fun x=>m x.1.1 x.1.2.1,dflt:=default,out:=fun r=>(Sh.enc D (.bool) r,aB.encs D [] ())}
def BS:Cx K:={aO with mode:=aL .plain [(73,.plain)],call:=callOf D [Hz M.vF],loop:=aK [(4,Uh)]}
theorem Ui:aH (BS):=aP aj _ (al ahL (ay))
theorem ahN:bE (BS) (bG (bL Tryz.f32) 0) (Uh):=
 bP (cx:=BS) (n:=27) (n0:=0) (ins:=[0,1,5]) (outs:=[4]) (sh:=⟨[.ah U.Stream,.ah U.Stream,.int .i64],[]⟩) (run:=fun n x=>M.rW x.1.1 x.1.2.1 n x.1.2.2.1) (bH:=ahM) (out:=Ug) aj (Ui) aA (aJ (by kernel_rfl)) (fun _=>rfl) (fun m x=>by kernel_rfl) (al ⟨cz,fun _ _ _=>rfl⟩ (al ⟨bQ,fun _ _ _=>rfl⟩ (ay))) false an
theorem ahO:(HA (M.vG)).Ok D Tryz.prog:=
 aM (cx:=BS) (c:=HA (M.vG)) (fz:=true) (fn:=Tryz.f32) aj (Ui) aA ⟨Tryz.func32,by kernel_rfl⟩ (aN (bX 1 (by kernel_rfl) (bZ (.mk (by kernel_rfl) (ahN))))) ⟨⟨[.bool],[]⟩,fun x=>x.1.1⟩ (fun x=>rfl) (fun x=>by kernel_rfl)
def HB(m:M.ai->M.ai->Option (Bool)):aI K:={f:=9,sh:=⟨[.el U.Async,.el U.Async],[]⟩,R:=Bool,run:=fun x=>m x.1.1 x.1.2.1,dflt:=default,out:=fun r=>(Sh.enc D (.bool) r,aB.encs D [] ())}
def Uj:Cx K:={aO with mode:=aL .plain [(31,.plain),(32,.plain),(33,.plain),(12,.plain),(34,.plain)],call:=callOf D [EA M.uX,HA M.vG,EC M.uZ,Ah M.m6,EE M.u3],loop:=aK []}
theorem ahP:aH (Uj):=aP aj _ (al abd (al ahO (al abl (al M8 (al abq (ay))))))
theorem ahQ:(HB (M.vH)).Ok D Tryz.prog:=
 aM (cx:=Uj) (c:=HB (M.vH)) (fz:=true) (fn:=Tryz.f9) aj (ahP) aA ⟨Tryz.func9,by kernel_rfl⟩ (aN (aJ (by kernel_rfl))) ⟨⟨[.bool],[]⟩,fun x=>x.1.1⟩ (fun x=>rfl) (fun x=>by kernel_rfl)
def Uk(y:Int×Bool×(List Int)){R:Type}(k:Ex->List (AV K)->List (Ob K)->R):R:=match y with
 |a0=>k (Ex.exit 0) (ax.aU D ⟨[.int .i64,.own 1,.bool],[.dead,.arr U.i64]⟩ ((a0.1,((),(a0.2.1,()))),((),(a0.2.2,())))) (ax.aY D ⟨[.int .i64,.own 1,.bool],[.dead,.arr U.i64]⟩ ((a0.1,((),(a0.2.1,()))),((),(a0.2.2,()))))
def ahR:List (bK K (Int×Bool×(List Int))):=[⟨(Ex.exit 0),⟨[.int .i64,.own 1,.bool],[.dead,.arr U.i64]⟩,fun x=>(x.1.1,x.1.2.2.1,x.2.2.1)⟩]
def Ul:bD K:=bM D false 49 1 [0,1,5,6,7] [1,5,6] ⟨[.ah U.i64,.int .i64,.own 1,.bool,.int .i64],[.dead,.arr U.i64]⟩ (fun x=>M.mM x.1.1 x.1.2.1 an x.1.2.2.2.1 x.1.2.2.2.2.1 x.2.2.1) Uk
def BU(m:(List Int)->Int->Option ((List Int))):aI K:={f:=97,sh:=⟨[.ah U.i64,.int .i64],[]⟩,R:=(List Int),run:=fun x=>m x.1.1 x.1.2.1,dflt:=default,out:=fun r=>(Sh.enc D (.own 0) (),aB.encs D [.arr U.i64] (r,()))}
def BV:Cx K:={aO with mode:=aL .plain [],d5:=[[some U.i64]],call:=callOf D [],loop:=aK [(4,Ul)]}
theorem Um:aH (BV):=aP aj _ (ay)
theorem ahS:bE (BV) (bG (bL Tryz.f97) 0) (Ul):=
 bP (cx:=BV) (n:=49) (n0:=1) (ins:=[0,1,5,6,7]) (outs:=[1,5,6]) (sh:=⟨[.ah U.i64,.int .i64,.own 1,.bool,.int .i64],[.dead,.arr U.i64]⟩) (run:=fun n x=>M.mM x.1.1 x.1.2.1 n x.1.2.2.2.1 x.1.2.2.2.2.1 x.2.2.1) (bH:=ahR) (out:=Uk) aj (Um) aA (aJ (by kernel_rfl)) (fun _=>rfl) (fun m x=>by kernel_rfl) (al ⟨bQ,fun _ _ _=>rfl⟩ (ay)) false an
theorem Un:(BU (M.ako)).Ok D Tryz.prog:=
 aM (cx:=BV) (c:=BU (M.ako)) (fz:=false) (fn:=Tryz.f97) aj (Um) aA ⟨Tryz.func97,by kernel_rfl⟩ (aN (bX 1 (by kernel_rfl) (bZ (.mk (by kernel_rfl) (ahS))))) ⟨⟨[.own 0],[.arr U.i64]⟩,fun x=>x.2.1⟩ (fun x=>rfl) (fun x=>by kernel_rfl)
def HC(m:Int->M.aw->(List M.ar)->(List M.ae)->(List M.ad)->(List Int)->(List M.az)->Option (Int×(List M.ar)×(List M.ae)×(List M.ad)×(List Int)×(List M.az))):aI K:={f:=99,sh:=⟨[.ptr 0 0,.int .i64,.el U.cu],[.box [.ah U.Prog,.own 1,.own 2,.own 3,.own 4],.arr U.Stream,.arr U.Task,.arr U.i64,.arr U.Note]⟩,R:=Int×(List M.ar)×(List M.ae)×(List M.ad)×(List Int)×(List M.az),run:=fun x=>m x.1.2.1 x.1.2.2.1 x.2.1.1 x.2.2.1 x.2.2.2.1 x.2.2.2.2.1 x.2.2.2.2.2.1,dflt:=default,out:=fun r=>(Sh.enc D (.int .i64) r.1,aB.encs D [.box [.ah U.Prog,.own 5,.own 6,.own 7,.own 8],.dead,.dead,.dead,.dead,.arr U.Stream,.arr U.Task,.arr U.i64,.arr U.Note] ((r.2.1,((),((),((),((),()))))),((),((),((),((),(r.2.2.1,(r.2.2.2.1,(r.2.2.2.2.1,(r.2.2.2.2.2,()))))))))))}
def Uo:Cx K:={aO with mode:=aL .plain [(95,.cL),(97,.fresh),(103,.cL),(35,.plain),(98,.cL)],mv:=true,call:=callOf D [rR M.gG,BU M.ako,rS M.eF,yk M.lG,BC M.BD],loop:=aK []}
theorem ahT:aH (Uo):=aP aj _ (al yi (al Un (al yj (al GX (al SJ (ay))))))
theorem ahU:(HC (M.tr)).Ok D Tryz.prog:=
 aM (cx:=Uo) (c:=HC (M.tr)) (fz:=true) (fn:=Tryz.f99) aj (ahT) aA ⟨Tryz.func99,by kernel_rfl⟩ (aN (aJ (by kernel_rfl))) ⟨⟨[.int .i64],[.box [.ah U.Prog,.own 5,.own 6,.own 7,.own 8],.dead,.dead,.dead,.dead,.arr U.Stream,.arr U.Task,.arr U.i64,.arr U.Note]⟩,fun x=>(x.1.1,x.2.1.1,x.2.2.2.2.2.2.1,x.2.2.2.2.2.2.2.1,x.2.2.2.2.2.2.2.2.1,x.2.2.2.2.2.2.2.2.2.1)⟩ (fun x=>rfl) (fun x=>by kernel_rfl)
def Up(y:(List Int)){R:Type}(k:Ex->List (AV K)->List (Ob K)->R):R:=match y with
 |a0=>k (Ex.exit 0) (ax.aU D ⟨[.own 1],[.dead,.arr U.i64]⟩ (((),()),((),(a0,())))) (ax.aY D ⟨[.own 1],[.dead,.arr U.i64]⟩ (((),()),((),(a0,()))))
def ahV:List (bK K ((List Int))):=[⟨(Ex.exit 0),⟨[.own 1],[.dead,.arr U.i64]⟩,fun x=>x.2.2.1⟩]
def Ur:bD K:=bM D false 28 1 [0,1,5,6] [5] ⟨[.ah U.i64,.int .i64,.own 1,.int .i64],[.dead,.arr U.i64]⟩ (fun x=>M.ot x.1.1 x.1.2.1 an x.1.2.2.2.1 x.2.2.1) Up
def BW(m:(List Int)->Int->Option ((List Int))):aI K:={f:=102,sh:=⟨[.ah U.i64,.int .i64],[]⟩,R:=(List Int),run:=fun x=>m x.1.1 x.1.2.1,dflt:=default,out:=fun r=>(Sh.enc D (.own 0) (),aB.encs D [.arr U.i64] (r,()))}
def BX:Cx K:={aO with mode:=aL .plain [],d5:=[[some U.i64]],call:=callOf D [],loop:=aK [(3,Ur)]}
theorem Us:aH (BX):=aP aj _ (ay)
theorem ahW:bE (BX) (bG (bL Tryz.f102) 0) (Ur):=
 bP (cx:=BX) (n:=28) (n0:=1) (ins:=[0,1,5,6]) (outs:=[5]) (sh:=⟨[.ah U.i64,.int .i64,.own 1,.int .i64],[.dead,.arr U.i64]⟩) (run:=fun n x=>M.ot x.1.1 x.1.2.1 n x.1.2.2.2.1 x.2.2.1) (bH:=ahV) (out:=Up) aj (Us) aA (aJ (by kernel_rfl)) (fun _=>rfl) (fun m x=>by kernel_rfl) (al ⟨bQ,fun _ _ _=>rfl⟩ (ay)) false an
theorem Ut:(BW (M.mO)).Ok D Tryz.prog:=
 aM (cx:=BX) (c:=BW (M.mO)) (fz:=false) (fn:=Tryz.f102) aj (Us) aA ⟨Tryz.func102,by kernel_rfl⟩ (aN (bX 1 (by kernel_rfl) (bZ (.mk (by kernel_rfl) (ahW))))) ⟨⟨[.own 0],[.arr U.i64]⟩,fun x=>x.2.1⟩ (fun x=>rfl) (fun x=>by kernel_rfl)
def Uu(y:(Bool×(List M.ar)×(List M.ae)×(List M.ad)×(List Int)×(List M.az))⊕((List M.ar)×(List M.ae)×(List M.ad)×(List Int)×(List M.az))){R:Type}(k:Ex->List (AV K)->List (Ob K)->R):R:=match y with
 |.inl a0=>k Ex.ret (ax.aU D ⟨[.bool],[.box [.ah U.Prog,.own 5,.own 6,.own 7,.own 8],.dead,.dead,.dead,.dead,.arr U.Stream,.arr U.Task,.arr U.i64,.arr U.Note]⟩ ((a0.1,()),((a0.2.1,((),((),((),((),()))))),((),((),((),((),(a0.2.2.1,(a0.2.2.2.1,(a0.2.2.2.2.1,(a0.2.2.2.2.2,()))))))))))) (ax.aY D ⟨[.bool],[.box [.ah U.Prog,.own 5,.own 6,.own 7,.own 8],.dead,.dead,.dead,.dead,.arr U.Stream,.arr U.Task,.arr U.i64,.arr U.Note]⟩ ((a0.1,()),((a0.2.1,((),((),((),((),()))))),((),((),((),((),(a0.2.2.1,(a0.2.2.2.1,(a0.2.2.2.2.1,(a0.2.2.2.2.2,())))))))))))
 |.inr (a1)=>k (Ex.exit 0) (ax.aU D ⟨[.any],[.box [.ah U.Prog,.own 5,.own 6,.own 7,.own 8],.dead,.dead,.dead,.dead,.arr U.Stream,.arr U.Task,.arr U.i64,.arr U.Note]⟩ (((),()),((a1.1,((),((),((),((),()))))),((),((),((),((),(a1.2.1,(a1.2.2.1,(a1.2.2.2.1,(a1.2.2.2.2,()))))))))))) (ax.aY D ⟨[.any],[.box [.ah U.Prog,.own 5,.own 6,.own 7,.own 8],.dead,.dead,.dead,.dead,.arr U.Stream,.arr U.Task,.arr U.i64,.arr U.Note]⟩ (((),()),((a1.1,((),((),((),((),()))))),((),((),((),((),(a1.2.1,(a1.2.2.1,(a1.2.2.2.1,(a1.2.2.2.2,())))))))))))
def ahX:List (bK K ((Bool×(List M.ar)×(List M.ae)×(List M.ad)×(List Int)×(List M.az))⊕((List M.ar)×(List M.ae)×(List M.ad)×(List Int)×(List M.az)))):=[⟨Ex.ret,⟨[.bool],[.box [.ah U.Prog,.own 5,.own 6,.own 7,.own 8],.dead,.dead,.dead,.dead,.arr U.Stream,.arr U.Task,.arr U.i64,.arr U.Note]⟩,fun x=>.inl (x.1.1,x.2.1.1,x.2.2.2.2.2.2.1,x.2.2.2.2.2.2.2.1,x.2.2.2.2.2.2.2.2.1,x.2.2.2.2.2.2.2.2.2.1)⟩,⟨(Ex.exit 0),⟨[.any],[.box [.ah U.Prog,.own 5,.own 6,.own 7,.own 8],.dead,.dead,.dead,.dead,.arr U.Stream,.arr U.Task,.arr U.i64,.arr U.Note]⟩,fun x=>.inr ((x.2.1.1,x.2.2.2.2.2.2.1,x.2.2.2.2.2.2.2.1,x.2.2.2.2.2.2.2.2.1,x.2.2.2.2.2.2.2.2.2.1))⟩]
def Uw:bD K:=bM D false 80 5 [0,1,5,6] [4] ⟨[.ptr 0 0,.int .i64,.ep 5 U.Task 0,.int .i64],[.box [.ah U.Prog,.own 6,.own 5,.own 7,.own 8],.dead,.dead,.dead,.dead,.arr U.Task,.arr U.Stream,.arr U.i64,.arr U.Note]⟩ (fun x=>M.mP x.1.2.1 x.1.2.2.1 x.2.1.1 x.2.2.2.2.2.2.1 x.2.2.2.2.2.2.2.1 x.2.2.2.2.2.2.2.2.1 x.2.2.2.2.2.2.2.2.2.1 an x.1.2.2.2.1) Uu
def HD(m:Int->(List M.ar)->(List M.ae)->(List M.ad)->(List Int)->(List M.az)->Option (Bool×(List M.ar)×(List M.ae)×(List M.ad)×(List Int)×(List M.az))):aI K:={f:=100,sh:=⟨[.ptr 0 0,.int .i64],[.box [.ah U.Prog,.own 1,.own 2,.own 3,.own 4],.arr U.Stream,.arr U.Task,.arr U.i64,.arr U.Note]⟩,R:=Bool×(List M.ar)×(List M.ae)×(List M.ad)×(List Int)×(List M.az),run:=fun x=>m x.1.2.1 x.2.1.1 x.2.2.1 x.2.2.2.1 x.2.2.2.2.1 x.2.2.2.2.2.1,dflt:=default,out:=fun r=>(Sh.enc D (.bool) r.1,aB.encs D [.box [.ah U.Prog,.own 5,.own 6,.own 7,.own 8],.dead,.dead,.dead,.dead,.arr U.Stream,.arr U.Task,.arr U.i64,.arr U.Note] ((r.2.1,((),((),((),((),()))))),((),((),((),((),(r.2.2.1,(r.2.2.2.1,(r.2.2.2.2.1,(r.2.2.2.2.2,()))))))))))}
def BY:Cx K:={aO with mode:=aL .plain [(89,.plain),(102,.fresh),(52,.cL)],mv:=true,call:=callOf D [yf M.yg,BW M.mO,me M.ft],loop:=aK [(3,Uw)]}
theorem Ux:aH (BY):=aP aj _ (al GI (al Ut (al pI (ay))))
theorem ahY:bE (BY) (bG (bL Tryz.f100) 0) (Uw):=
 bP (cx:=BY) (n:=80) (n0:=5) (ins:=[0,1,5,6]) (outs:=[4]) (sh:=⟨[.ptr 0 0,.int .i64,.ep 5 U.Task 0,.int .i64],[.box [.ah U.Prog,.own 6,.own 5,.own 7,.own 8],.dead,.dead,.dead,.dead,.arr U.Task,.arr U.Stream,.arr U.i64,.arr U.Note]⟩) (run:=fun n x=>M.mP x.1.2.1 x.1.2.2.1 x.2.1.1 x.2.2.2.2.2.2.1 x.2.2.2.2.2.2.2.1 x.2.2.2.2.2.2.2.2.1 x.2.2.2.2.2.2.2.2.2.1 n x.1.2.2.2.1) (bH:=ahX) (out:=Uu) aj (Ux) aA (aJ (by kernel_rfl)) (fun _=>rfl) (fun m x=>by kernel_rfl) (al ⟨cz,fun _ _ _=>rfl⟩ (al ⟨bQ,fun _ _ _=>rfl⟩ (ay))) false an
theorem ahZ:(HD (M.ou)).Ok D Tryz.prog:=
 aM (cx:=BY) (c:=HD (M.ou)) (fz:=true) (fn:=Tryz.f100) aj (Ux) aA ⟨Tryz.func100,by kernel_rfl⟩ (aN (bX 1 (by kernel_rfl) (bZ (.mk (by kernel_rfl) (ahY))))) ⟨⟨[.bool],[.box [.ah U.Prog,.own 5,.own 6,.own 7,.own 8],.dead,.dead,.dead,.dead,.arr U.Stream,.arr U.Task,.arr U.i64,.arr U.Note]⟩,fun x=>(x.1.1,x.2.1.1,x.2.2.2.2.2.2.1,x.2.2.2.2.2.2.2.1,x.2.2.2.2.2.2.2.2.1,x.2.2.2.2.2.2.2.2.2.1)⟩ (fun x=>rfl) (fun x=>by kernel_rfl)
def HE(m:Int->M.aw->(List M.ar)->(List M.ae)->(List M.ad)->(List Int)->(List M.az)->Option (Int×(List M.ar)×(List M.ae)×(List M.ad)×(List Int)×(List M.az))):aI K:={f:=54,sh:=⟨[.ptr 0 0,.int .i64,.el U.cu],[.box [.ah U.Prog,.own 1,.own 2,.own 3,.own 4],.arr U.Stream,.arr U.Task,.arr U.i64,.arr U.Note]⟩,R:=Int×(List M.ar)×(List M.ae)×(List M.ad)×(List Int)×(List M.az),run:=fun x=>m x.1.2.1 x.1.2.2.1 x.2.1.1 x.2.2.1 x.2.2.2.1 x.2.2.2.2.1 x.2.2.2.2.2.1,dflt:=default,out:=fun r=>(Sh.enc D (.int .i64) r.1,aB.encs D [.box [.ah U.Prog,.own 5,.own 6,.own 7,.own 8],.dead,.dead,.dead,.dead,.arr U.Stream,.arr U.Task,.arr U.i64,.arr U.Note] ((r.2.1,((),((),((),((),()))))),((),((),((),((),(r.2.2.1,(r.2.2.2.1,(r.2.2.2.2.1,(r.2.2.2.2.2,()))))))))))}
def Uy:Cx K:={aO with mode:=aL .plain [(95,.cL),(96,.cL),(97,.fresh),(98,.cL),(99,.cL),(100,.cL),(101,.cL),(52,.cL),(53,.cL),(102,.fresh),(103,.cL),(104,.cL)],mv:=true,call:=callOf D [rR M.gG,GV M.tw,BU M.ako,rS M.eF,HC M.tr,HD M.ou,yl M.lH,me M.ft,BH M.ov,BW M.mO,yk M.lG,G2 M.tq],loop:=aK []}
theorem ah0:aH (Uy):=aP aj _ (al yi (al agJ (al Un (al yj (al ahU (al ahZ (al GY (al pI (al SY (al Ut (al GX (al agV (ay)))))))))))))
theorem ah1:(HE (M.tu)).Ok D Tryz.prog:=
 aM (cx:=Uy) (c:=HE (M.tu)) (fz:=true) (fn:=Tryz.f54) aj (ah0) aA ⟨Tryz.func54,by kernel_rfl⟩ (aN (aJ (by kernel_rfl))) ⟨⟨[.int .i64],[.box [.ah U.Prog,.own 5,.own 6,.own 7,.own 8],.dead,.dead,.dead,.dead,.arr U.Stream,.arr U.Task,.arr U.i64,.arr U.Note]⟩,fun x=>(x.1.1,x.2.1.1,x.2.2.2.2.2.2.1,x.2.2.2.2.2.2.2.1,x.2.2.2.2.2.2.2.2.1,x.2.2.2.2.2.2.2.2.2.1)⟩ (fun x=>rfl) (fun x=>by kernel_rfl)
def HG(m:Int->(List M.ar)->(List M.ae)->(List M.ad)->(List Int)->(List M.az)->Option (Int×(List M.ar)×(List M.ae)×(List M.ad)×(List Int)×(List M.az))):aI K:={f:=23,sh:=⟨[.ptr 0 0,.int .i64],[.box [.ah U.Prog,.own 1,.own 2,.own 3,.own 4],.arr U.Stream,.arr U.Task,.arr U.i64,.arr U.Note]⟩,R:=Int×(List M.ar)×(List M.ae)×(List M.ad)×(List Int)×(List M.az),run:=fun x=>m x.1.2.1 x.2.1.1 x.2.2.1 x.2.2.2.1 x.2.2.2.2.1 x.2.2.2.2.2.1,dflt:=default,out:=fun r=>(Sh.enc D (.int .i64) r.1,aB.encs D [.box [.ah U.Prog,.own 5,.own 6,.own 7,.own 8],.dead,.dead,.dead,.dead,.arr U.Stream,.arr U.Task,.arr U.i64,.arr U.Note] ((r.2.1,((),((),((),((),()))))),((),((),((),((),(r.2.2.1,(r.2.2.2.1,(r.2.2.2.2.1,(r.2.2.2.2.2,()))))))))))}
def Uz:Cx K:={aO with mode:=aL .plain [(47,.plain),(35,.plain),(51,.plain),(52,.cL),(53,.cL),(54,.cL)],mv:=true,call:=callOf D [ke M.kf,BC M.BD,GU M.tA,me M.ft,BH M.ov,HE M.tu],loop:=aK []}
theorem ah2:aH (Uz):=aP aj _ (al l6 (al SJ (al agE (al pI (al SY (al ah1 (ay)))))))
theorem ah3:(HG (M.tD)).Ok D Tryz.prog:=
 aM (cx:=Uz) (c:=HG (M.tD)) (fz:=true) (fn:=Tryz.f23) aj (ah2) aA ⟨Tryz.func23,by kernel_rfl⟩ (aN (aJ (by kernel_rfl))) ⟨⟨[.int .i64],[.box [.ah U.Prog,.own 5,.own 6,.own 7,.own 8],.dead,.dead,.dead,.dead,.arr U.Stream,.arr U.Task,.arr U.i64,.arr U.Note]⟩,fun x=>(x.1.1,x.2.1.1,x.2.2.2.2.2.2.1,x.2.2.2.2.2.2.2.1,x.2.2.2.2.2.2.2.2.1,x.2.2.2.2.2.2.2.2.2.1)⟩ (fun x=>rfl) (fun x=>by kernel_rfl)
def anY(y:((List Int))⊕((List Int))){R:Type}(k:Ex->List (AV K)->List (Ob K)->R):R:=match y with
 |.inl a0=>k Ex.ret (ax.aU D ⟨[.any,.own 3],[.dead,.dead,.dead,.arr U.i64]⟩ (((),((),())),((),((),((),(a0,())))))) (ax.aY D ⟨[.any,.own 3],[.dead,.dead,.dead,.arr U.i64]⟩ (((),((),())),((),((),((),(a0,()))))))
 |.inr (a1)=>k (Ex.exit 0) (ax.aU D ⟨[.own 2,.any],[.dead,.dead,.arr U.i64]⟩ (((),((),())),((),((),(a1,()))))) (ax.aY D ⟨[.own 2,.any],[.dead,.dead,.arr U.i64]⟩ (((),((),())),((),((),(a1,())))))
def aoZ:List (bK K (((List Int))⊕((List Int)))):=[⟨Ex.ret,⟨[.any,.own 3],[.dead,.dead,.dead,.arr U.i64]⟩,fun x=>.inl x.2.2.2.2.1⟩,⟨(Ex.exit 0),⟨[.own 2,.any],[.dead,.dead,.arr U.i64]⟩,fun x=>.inr (x.2.2.2.1)⟩]
def anZ:bD K:=bM D false 36 2 [3,4,15,16,17] [4,2] ⟨[.ptr 0 0,.own 2,.ah U.Task,.int .i64,.int .i64],[.box [.ah U.Prog,.ah U.Stream,.ah U.Task,.ah U.i64,.ah U.Note],.dead,.arr U.i64]⟩ (fun x=>M.ak4 x.1.2.2.1 x.1.2.2.2.1 an x.1.2.2.2.2.1 x.2.1.1 x.2.1.2.1 x.2.1.2.2.1 x.2.1.2.2.2.1 x.2.1.2.2.2.2.1 x.2.2.2.1) anY
def anc(m:M.ai->Option ((List Int))):aI K:={f:=11,sh:=⟨[.el U.Async],[]⟩,R:=(List Int),run:=fun x=>m x.1.1,dflt:=default,out:=fun r=>(Sh.enc D (.own 0) (),aB.encs D [.arr U.i64] (r,()))}
def am1:Cx K:={aO with mode:=aL .plain [(29,.plain),(30,.cL),(36,.plain)],d5:=[[some U.i64]],call:=callOf D [Gt M.uM,Ha M.tf,Gx M.Gy],loop:=aK [(5,anZ)]}
theorem an0:aH (am1):=aP aj _ (al afO (al ahc (al afT (ay))))
theorem ao0:bE (am1) (bG (bL Tryz.f11) 0) (anZ):=
 bP (cx:=am1) (n:=36) (n0:=2) (ins:=[3,4,15,16,17]) (outs:=[4,2]) (sh:=⟨[.ptr 0 0,.own 2,.ah U.Task,.int .i64,.int .i64],[.box [.ah U.Prog,.ah U.Stream,.ah U.Task,.ah U.i64,.ah U.Note],.dead,.arr U.i64]⟩) (run:=fun n x=>M.ak4 x.1.2.2.1 x.1.2.2.2.1 n x.1.2.2.2.2.1 x.2.1.1 x.2.1.2.1 x.2.1.2.2.1 x.2.1.2.2.2.1 x.2.1.2.2.2.2.1 x.2.2.2.1) (bH:=aoZ) (out:=anY) aj (an0) aA (aJ (by kernel_rfl)) (fun _=>rfl) (fun m x=>by kernel_rfl) (al ⟨cz,fun _ _ _=>rfl⟩ (al ⟨bQ,fun _ _ _=>rfl⟩ (ay))) false an
theorem ao1:(anc (M.amn)).Ok D Tryz.prog:=
 aM (cx:=am1) (c:=anc (M.amn)) (fz:=false) (fn:=Tryz.f11) aj (an0) aA ⟨Tryz.func11,by kernel_rfl⟩ (aN (bX 1 (by kernel_rfl) (bZ (.mk (by kernel_rfl) (ao0))))) ⟨⟨[.own 0],[.arr U.i64]⟩,fun x=>x.2.1⟩ (fun x=>rfl) (fun x=>by kernel_rfl)
def an1(y:((List Int))⊕((List Int))){R:Type}(k:Ex->List (AV K)->List (Ob K)->R):R:=match y with
 |.inl a0=>k Ex.ret (ax.aU D ⟨[.any,.own 3],[.dead,.dead,.dead,.arr U.i64]⟩ (((),((),())),((),((),((),(a0,())))))) (ax.aY D ⟨[.any,.own 3],[.dead,.dead,.dead,.arr U.i64]⟩ (((),((),())),((),((),((),(a0,()))))))
 |.inr (a1)=>k (Ex.exit 0) (ax.aU D ⟨[.own 2,.any],[.dead,.dead,.arr U.i64]⟩ (((),((),())),((),((),(a1,()))))) (ax.aY D ⟨[.own 2,.any],[.dead,.dead,.arr U.i64]⟩ (((),((),())),((),((),(a1,())))))
def ao2:List (bK K (((List Int))⊕((List Int)))):=[⟨Ex.ret,⟨[.any,.own 3],[.dead,.dead,.dead,.arr U.i64]⟩,fun x=>.inl x.2.2.2.2.1⟩,⟨(Ex.exit 0),⟨[.own 2,.any],[.dead,.dead,.arr U.i64]⟩,fun x=>.inr (x.2.2.2.1)⟩]
def an2:bD K:=bM D false 44 2 [1,3,4] [3,2] ⟨[.ptr 0 0,.own 2,.int .i64],[.el U.Async,.dead,.arr U.i64]⟩ (fun x=>M.alO an x.1.2.2.1 x.2.1 x.2.2.2.1) an1
def ane(m:M.ai->Option ((List Int))):aI K:={f:=10,sh:=⟨[.el U.Async],[]⟩,R:=(List Int),run:=fun x=>m x.1.1,dflt:=default,out:=fun r=>(Sh.enc D (.ah U.i64) r,aB.encs D [] ())}
def am2:Cx K:={aO with mode:=aL .plain [(21,.cL),(22,.cL),(23,.cL),(35,.plain)],call:=callOf D [GM M.ru,GO M.tC,HG M.tD,BC M.BD],loop:=aK [(5,an2)]}
theorem an3:aH (am2):=aP aj _ (al agp (al agw (al ah3 (al SJ (ay)))))
theorem ao3:bE (am2) (bG (bL Tryz.f10) 0) (an2):=
 bP (cx:=am2) (n:=44) (n0:=2) (ins:=[1,3,4]) (outs:=[3,2]) (sh:=⟨[.ptr 0 0,.own 2,.int .i64],[.el U.Async,.dead,.arr U.i64]⟩) (run:=fun n x=>M.alO n x.1.2.2.1 x.2.1 x.2.2.2.1) (bH:=ao2) (out:=an1) aj (an3) aA (aJ (by kernel_rfl)) (fun _=>rfl) (fun m x=>by kernel_rfl) (al ⟨cz,fun _ _ _=>rfl⟩ (al ⟨bQ,fun _ _ _=>rfl⟩ (ay))) false an
theorem ao4:(ane (M.amo)).Ok D Tryz.prog:=
 aM (cx:=am2) (c:=ane (M.amo)) (fz:=true) (fn:=Tryz.f10) aj (an3) aA ⟨Tryz.func10,by kernel_rfl⟩ (aN (bX 1 (by kernel_rfl) (bZ (.mk (by kernel_rfl) (ao3))))) ⟨⟨[.ah U.i64],[]⟩,fun x=>x.1.1⟩ (fun x=>rfl) (fun x=>by kernel_rfl)
def an4(y:Int×(List M.ae)){R:Type}(k:Ex->List (AV K)->List (Ob K)->R):R:=match y with
 |a0=>k (Ex.exit 0) (ax.aU D ⟨[.int .i64],[.tree U.Stream]⟩ ((a0.1,()),(a0.2,()))) (ax.aY D ⟨[.int .i64],[.tree U.Stream]⟩ ((a0.1,()),(a0.2,())))
def ao5:List (bK K (Int×(List M.ae))):=[⟨(Ex.exit 0),⟨[.int .i64],[.tree U.Stream]⟩,fun x=>(x.1.1,x.2.1)⟩]
def an5:bD K:=bM D true 101 1 [0,1,5] [1] ⟨[.own 0,.int .i64,.int .i64],[.tree U.Stream]⟩ (fun x=>M.amj an x.1.2.1 x.1.2.2.1 x.2.1) an4
def anf(m:Int->(List M.ae)->Option (Int×(List M.ae))):aI K:={f:=38,sh:=⟨[.own 0,.int .i64],[.tree U.Stream]⟩,R:=Int×(List M.ae),run:=fun x=>m x.1.2.1 x.2.1,dflt:=default,out:=fun r=>(Sh.enc D (.int .i64) r.1,aB.encs D [.tree U.Stream] (r.2,()))}
def am3:Cx K:={aO with mode:=aL .plain [(77,.plain),(78,.pass),(79,.pass),(80,.pass)],deep:=fun c=>dn (D.cells c (K.zero c)),opn:=true,call:=callOf D [amC M.ajx,amX M.akm,akv M.amN,aky M.amO],loop:=aK [(2,an5)]}
theorem an6:aH (am3):=aP aj _ (al amW (al anP (al aoU (al aoY (ay)))))
theorem ao6:bE (am3) (bG (bL Tryz.f38) 0) (an5):=
 bP (cx:=am3) (n:=101) (n0:=1) (ins:=[0,1,5]) (outs:=[1]) (sh:=⟨[.own 0,.int .i64,.int .i64],[.tree U.Stream]⟩) (run:=fun n x=>M.amj n x.1.2.1 x.1.2.2.1 x.2.1) (bH:=ao5) (out:=an4) aj (an6) aA (aJ (by kernel_rfl)) (fun _=>rfl) (fun m x=>by kernel_rfl) (al ⟨bQ,fun _ _ _=>rfl⟩ (ay)) true an
theorem ao7:(anf (M.amu)).Ok D Tryz.prog:=
 aM (cx:=am3) (c:=anf (M.amu)) (fz:=true) (fn:=Tryz.f38) aj (an6) aA ⟨Tryz.func38,by kernel_rfl⟩ (aN (bX 1 (by kernel_rfl) (bZ (.mk (by kernel_rfl) (ao6))))) ⟨⟨[.int .i64],[.tree U.Stream]⟩,fun x=>(x.1.1,x.2.1)⟩ (fun x=>rfl) (fun x=>by kernel_rfl)
def ang(m:Int->(List M.ar)->(List M.ae)->(List M.ad)->(List Int)->(List M.az)->Option (Int×(List M.ar)×(List M.ae)×(List M.ad)×(List Int)×(List M.az))):aI K:={f:=13,sh:=⟨[.agg [.own 0,.own 1,.own 2,.own 3,.own 4],.int .i64],[.tree U.Prog,.tree U.Stream,.tree U.Task,.arr U.i64,.arr U.Note]⟩,R:=Int×(List M.ar)×(List M.ae)×(List M.ad)×(List Int)×(List M.az),run:=fun x=>m x.1.2.1 x.2.1 x.2.2.1 x.2.2.2.1 x.2.2.2.2.1 x.2.2.2.2.2.1,dflt:=default,out:=fun r=>(Sh.enc D (.int .i64) r.1,aB.encs D [.tree U.Prog,.tree U.Stream,.tree U.Task,.arr U.i64,.arr U.Note] (r.2.1,(r.2.2.1,(r.2.2.2.1,(r.2.2.2.2.1,(r.2.2.2.2.2,()))))))}
def an7:Cx K:={aO with mode:=aL .plain [(37,.pass),(38,.pass),(39,.pass),(14,.pass),(40,.pass)],deep:=fun c=>dn (D.cells c (K.zero c)),opn:=true,call:=callOf D [am7 M.ams,anf M.amu,am9 M.amv,amI M.ajI,ana M.amw],loop:=aK []}
theorem ao8:aH (an7):=aP aj _ (al aoB (al ao7 (al aoG (al am8 (al aoJ (ay))))))
theorem ao9:(ang (M.amy)).Ok D Tryz.prog:=
 aM (cx:=an7) (c:=ang (M.amy)) (fz:=true) (fn:=Tryz.f13) aj (ao8) aA ⟨Tryz.func13,by kernel_rfl⟩ (aN (aJ (by kernel_rfl))) ⟨⟨[.int .i64],[.tree U.Prog,.tree U.Stream,.tree U.Task,.arr U.i64,.arr U.Note]⟩,fun x=>(x.1.1,x.2.1,x.2.2.1,x.2.2.2.1,x.2.2.2.2.1,x.2.2.2.2.2.1)⟩ (fun x=>rfl) (fun x=>by kernel_rfl)
def anh(m:M.ai->Option (Bool)):aI K:={f:=4,sh:=⟨[.el U.Async],[]⟩,R:=Bool,run:=fun x=>m x.1.1,dflt:=default,out:=fun r=>(Sh.enc D (.bool) r,aB.encs D [] ())}
def an8:Cx K:={aO with mode:=aL .plain [(5,.plain),(7,.fresh),(10,.gU),(11,.fresh),(12,.plain),(9,.plain),(13,.pass),(14,.pass),(15,.plain)],deep:=fun c=>dn (D.cells c (K.zero c)),call:=callOf D [Hl M.vy,Hw M.vD,ane M.amo,anc M.amn,Ah M.m6,HB M.vH,ang M.amy,amI M.ajI,anb M.amz],loop:=aK []}
theorem apa:aH (an8):=aP aj _ (al ahr (al ahG (al ao4 (al ao1 (al M8 (al ahQ (al ao9 (al am8 (al aoM (ay))))))))))
theorem apb:(anh (M.amB)).Ok D Tryz.prog:=
 aM (cx:=an8) (c:=anh (M.amB)) (fz:=true) (fn:=Tryz.f4) aj (apa) aA ⟨Tryz.func4,by kernel_rfl⟩ (aN (aJ (by kernel_rfl))) ⟨⟨[.bool],[]⟩,fun x=>x.1.1⟩ (fun x=>rfl) (fun x=>by kernel_rfl)
