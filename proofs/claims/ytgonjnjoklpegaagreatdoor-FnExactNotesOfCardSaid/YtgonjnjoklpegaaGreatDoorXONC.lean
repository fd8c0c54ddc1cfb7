/-
  Part of the proof of the claim.
-/
import Derived.Test.YtgonjnjoklpegaaGreatDoorXONM
import Derived.Test.YtgonjnjoklpegaaGreatDoorXOHdA
import Derived.Test.YtgonjnjoklpegaaGreatDoorXOHdR
import Derived.Test.YtgonjnjoklpegaaGreatDoorXOHdU
import Derived.Test.YtgonjnjoklpegaaGreatDoorXOHdKNote
import Derived.Test.YtgonjnjoklpegaaGreatDoorProg
set_option linter.unusedVariables false
set_option maxRecDepth 100000
open Go Go.Proofs
open Go.V
noncomputable section
def AI:Go.TypeId->Option U:=aM [(2,U.i64),(3,U.i64),(4,U.bool),(5,U.u8),(6,U.u8),(9,U.str),(10,U.str),(11,U.str),(12,U.u64),(21,U.i32),(22,U.mY),(23,U.mZ),(24,U.m3),(25,U.jy),(26,U.m4),(28,U.Async),(30,U.m4),(32,U.mY),(33,U.mZ),(34,U.m3),(36,U.Async),(51,U.Note),(70,U.m5),(72,U.Prog),(74,U.pj),(75,U.m6),(77,U.Type),(78,U.m7),(80,U.Stream),(83,U.Task),(86,U.m6),(88,U.Type),(89,U.m7),(91,U.Stream),(94,U.m5),(96,U.Prog),(99,U.Task),(102,U.Note),(133,U.Value),(140,U.cb),(146,U.pn),(150,U.Value),(154,U.cb),(187,U.u64),(203,U.u64),(204,U.u32),(222,U.i64),(232,U.u64),(248,U.u8),(249,U.u8),(252,U.i32),(253,U.i32)]
def U5:Go.TypeId->List (Option U):=aO [] [(22,[some U.Prog]),(23,[some U.Stream]),(24,[some U.Task]),(25,[some U.i64]),(26,[some U.Note]),(28,[some U.Prog,some U.Stream,some U.Task,some U.i64,some U.Note]),(30,[some U.Note]),(32,[some U.Prog]),(33,[some U.Stream]),(34,[some U.Task]),(36,[some U.Prog,some U.Stream,some U.Task,some U.i64,some U.Note]),(70,[some U.cb]),(72,[none,some U.cb]),(74,[some U.str]),(75,[some U.Type]),(77,[none,none,some U.str,some U.Type]),(78,[some U.Value]),(80,[none,none,some U.str,some U.Type,none,none,some U.Value,none,none,none,none]),(83,[none,none,none,none,none,none,none,none,none,some U.i64,some U.i64]),(86,[some U.Type]),(88,[none,none,some U.str,some U.Type]),(89,[some U.Value]),(91,[none,none,some U.str,some U.Type,none,none,some U.Value,none,none,none,none]),(94,[some U.cb]),(96,[none,some U.cb]),(99,[none,none,none,none,none,none,none,none,none,some U.i64,some U.i64]),(133,[none,none,none,some U.Value]),(146,[some U.u8]),(150,[none,none,none,some U.Value])]
theorem az:Tryz.prog.follows .mixedOrders=true:=by kernel_rfl
def aP:Cx K:={P:=Tryz.prog,D:=D,ty:=AI,jR:=U5,mode:=aO .plain [],call:=callOf D [],loop:=aM []}
def jS(m:M.ae->M.ae->Option (Bool)):aK K:={f:=122,sh:=⟨[.el U.Value,.el U.Value],[]⟩,R:=Bool,run:=fun x=>m x.1.1 x.1.2.1,dflt:=default,out:=fun r=>(Sh.enc D (.bool) r,aB.encs D [] ())}
def HA(y:(Bool)⊕(Unit)){R:Type}(k:Ex->List (AV K)->List (Ob K)->R):R:=match y with
 |.inl a0=>k Ex.ret (aw.aV D ⟨[.bool],[]⟩ ((a0,()),())) (aw.aX D ⟨[.bool],[]⟩ ((a0,()),()))
 |.inr (a1)=>k (Ex.exit 0) (aw.aV D ⟨[.any],[]⟩ (((),()),())) (aw.aX D ⟨[.any],[]⟩ (((),()),()))
def U6:List (bA K ((Bool)⊕(Unit))):=[⟨Ex.ret,⟨[.bool],[]⟩,fun x=>.inl x.1.1⟩,⟨(Ex.exit 0),⟨[.any],[]⟩,fun x=>.inr (())⟩]
def HB(cN:M.ae->M.ae->Option (Bool)):bo K:=bD D false 27 0 [0,1,5] [4] ⟨[.ai U.Value,.ai U.Value,.int .i64],[]⟩ (fun x=>M.po cN x.1.1 x.1.2.1 al x.1.2.2.1) HA
def AK(m:(List M.ae)->(List M.ae)->Option (Bool)):aK K:={f:=94,sh:=⟨[.ai U.Value,.ai U.Value],[]⟩,R:=Bool,run:=fun x=>m x.1.1 x.1.2.1,dflt:=default,out:=fun r=>(Sh.enc D (.bool) r,aB.encs D [] ())}
def xd(cN:M.ae->M.ae->Option (Bool)):Cx K:={aP with mode:=aO .plain [(122,.plain)],call:=callOf D [jS cN],loop:=aM [(4,HB cN)]}
theorem HC(cN:M.ae->M.ae->Option (Bool))(kr:(jS cN).Ok D Tryz.prog):aI (xd cN):=aQ aj _ (an kr (aA))
theorem U7(cN:M.ae->M.ae->Option (Bool))(kr:(jS cN).Ok D Tryz.prog):bq (xd cN) (bw (bB Tryz.f94) 0) (HB cN):=
 bI (cx:=xd cN) (n:=27) (n0:=0) (ins:=[0,1,5]) (outs:=[4]) (sh:=⟨[.ai U.Value,.ai U.Value,.int .i64],[]⟩) (run:=fun n x=>M.po cN x.1.1 x.1.2.1 n x.1.2.2.1) (bz:=U6) (out:=HA) aj (HC cN kr) az (aN (by kernel_rfl)) (fun _=>rfl) (fun m x=>by kernel_rfl) (an ⟨cr,fun _ _ _=>rfl⟩ (an ⟨bJ,fun _ _ _=>rfl⟩ (aA))) false al
theorem U8(cN:M.ae->M.ae->Option (Bool))(kr:(jS cN).Ok D Tryz.prog):(AK (M.rH cN)).Ok D Tryz.prog:=
 aR (cx:=xd cN) (c:=AK (M.rH cN)) (fz:=true) (fn:=Tryz.f94) aj (HC cN kr) az ⟨Tryz.func94,by kernel_rfl⟩ (aS (bN 1 (by kernel_rfl) (bT (.mk (by kernel_rfl) (U7 cN kr))))) ⟨⟨[.bool],[]⟩,fun x=>x.1.1⟩ (fun x=>rfl) (fun x=>by kernel_rfl)
def HD(cN:M.ae->M.ae->Option (Bool)):Cx K:={aP with mode:=aO .plain [(94,.plain)],call:=callOf D [AK (M.rH cN)],loop:=aM []}
theorem U9(cN:M.ae->M.ae->Option (Bool))(kr:(jS cN).Ok D Tryz.prog):aI (HD cN):=aQ aj _ (an (U8 cN kr) (aA))
theorem Va(cN:M.ae->M.ae->Option (Bool))(kr:(jS cN).Ok D Tryz.prog):(jS (M.vg cN)).Ok D Tryz.prog:=
 aR (cx:=HD cN) (c:=jS (M.vg cN)) (fz:=true) (fn:=Tryz.f122) aj (U9 cN kr) az ⟨Tryz.func122,by kernel_rfl⟩ (aS (aN (by kernel_rfl))) ⟨⟨[.bool],[]⟩,fun x=>x.1.1⟩ (fun x=>rfl) (fun x=>by kernel_rfl)
theorem HE:∀n,(jS (M.pq n)).Ok D Tryz.prog
 |0=>gj fun _=>rfl
 |n+1=>Va (M.pq n) (HE n)
theorem Vb:(jS (M.xe)).Ok D Tryz.prog:=HE al
def AL(m:(List M.aG)->Int->Option (Int)):aK K:={f:=64,sh:=⟨[.ai U.cb,.int .i64],[]⟩,R:=Int,run:=fun x=>m x.1.1 x.1.2.1,dflt:=default,out:=fun r=>(Sh.enc D (.int .i64) r,aB.encs D [] ())}
def HG:Cx K:={aP with mode:=aO .plain [],call:=callOf D [],loop:=aM []}
theorem Vd:aI (HG):=aQ aj _ (aA)
theorem Ve:(AL (M.rI)).Ok D Tryz.prog:=
 aR (cx:=HG) (c:=AL (M.rI)) (fz:=true) (fn:=Tryz.f64) aj (Vd) az ⟨Tryz.func64,by kernel_rfl⟩ (aS (aN (by kernel_rfl))) ⟨⟨[.int .i64],[]⟩,fun x=>x.1.1⟩ (fun x=>rfl) (fun x=>by kernel_rfl)
def AM(m:M.aD->Int->Option (Int)):aK K:={f:=37,sh:=⟨[.el U.Prog,.int .i64],[]⟩,R:=Int,run:=fun x=>m x.1.1 x.1.2.1,dflt:=default,out:=fun r=>(Sh.enc D (.int .i64) r,aB.encs D [] ())}
def HH:Cx K:={aP with mode:=aO .plain [(64,.plain)],call:=callOf D [AL M.rI],loop:=aM []}
theorem Vf:aI (HH):=aQ aj _ (an Ve (aA))
theorem Vg:(AM (M.rJ)).Ok D Tryz.prog:=
 aR (cx:=HH) (c:=AM (M.rJ)) (fz:=true) (fn:=Tryz.f37) aj (Vf) az ⟨Tryz.func37,by kernel_rfl⟩ (aS (aN (by kernel_rfl))) ⟨⟨[.int .i64],[]⟩,fun x=>x.1.1⟩ (fun x=>rfl) (fun x=>by kernel_rfl)
def HJ(y:(Int)⊕(Int)){R:Type}(k:Ex->List (AV K)->List (Ob K)->R):R:=match y with
 |.inl a0=>k Ex.ret (aw.aV D ⟨[.any,.int .i64],[]⟩ (((),(a0,())),())) (aw.aX D ⟨[.any,.int .i64],[]⟩ (((),(a0,())),()))
 |.inr (a1)=>k (Ex.exit 0) (aw.aV D ⟨[.int .i64,.any],[]⟩ ((a1,((),())),())) (aw.aX D ⟨[.int .i64,.any],[]⟩ ((a1,((),())),()))
def Vh:List (bA K ((Int)⊕(Int))):=[⟨Ex.ret,⟨[.any,.int .i64],[]⟩,fun x=>.inl x.1.2.1⟩,⟨(Ex.exit 0),⟨[.int .i64,.any],[]⟩,fun x=>.inr (x.1.1)⟩]
def HK:bo K:=bD D false 27 0 [0,1,5] [1,4] ⟨[.ai U.Prog,.int .i64,.int .i64],[]⟩ (fun x=>M.pr x.1.1 al x.1.2.1 x.1.2.2.1) HJ
def AN(m:(List M.aD)->Int->Option (Int)):aK K:={f:=13,sh:=⟨[.ai U.Prog,.int .i64],[]⟩,R:=Int,run:=fun x=>m x.1.1 x.1.2.1,dflt:=default,out:=fun r=>(Sh.enc D (.int .i64) r,aB.encs D [] ())}
def xf:Cx K:={aP with mode:=aO .plain [(37,.plain)],call:=callOf D [AM M.rJ],loop:=aM [(5,HK)]}
theorem HL:aI (xf):=aQ aj _ (an Vg (aA))
theorem Vi:bq (xf) (bw (bB Tryz.f13) 0) (HK):=
 bI (cx:=xf) (n:=27) (n0:=0) (ins:=[0,1,5]) (outs:=[1,4]) (sh:=⟨[.ai U.Prog,.int .i64,.int .i64],[]⟩) (run:=fun n x=>M.pr x.1.1 n x.1.2.1 x.1.2.2.1) (bz:=Vh) (out:=HJ) aj (HL) az (aN (by kernel_rfl)) (fun _=>rfl) (fun m x=>by kernel_rfl) (an ⟨cr,fun _ _ _=>rfl⟩ (an ⟨bJ,fun _ _ _=>rfl⟩ (aA))) false al
theorem Vj:(AN (M.rK)).Ok D Tryz.prog:=
 aR (cx:=xf) (c:=AN (M.rK)) (fz:=true) (fn:=Tryz.f13) aj (HL) az ⟨Tryz.func13,by kernel_rfl⟩ (aS (bN 1 (by kernel_rfl) (bT (.mk (by kernel_rfl) (Vi))))) ⟨⟨[.int .i64],[]⟩,fun x=>x.1.1⟩ (fun x=>rfl) (fun x=>by kernel_rfl)
def AO(m:M.aG->Option (M.aG)):aK K:={f:=102,sh:=⟨[.el U.cb],[]⟩,R:=M.aG,run:=fun x=>m x.1.1,dflt:=default,out:=fun r=>(Sh.enc D (.el U.cb) r,aB.encs D [] ())}
def HM:Cx K:={aP with mode:=aO .plain [],eV:=[[]],deep:=fun c=>cC (D.cells c (K.zero c)),call:=callOf D [],loop:=aM []}
theorem Vk:aI (HM):=aQ aj _ (aA)
theorem Vl:(AO (M.vh)).Ok D Tryz.prog:=
 aR (cx:=HM) (c:=AO (M.vh)) (fz:=false) (fn:=Tryz.f102) aj (Vk) az ⟨Tryz.func102,by kernel_rfl⟩ (aS (aN (by kernel_rfl))) ⟨⟨[.el U.cb],[]⟩,fun x=>x.1.1⟩ (fun x=>rfl) (fun x=>by kernel_rfl)
def HN(y:(List M.aG)){R:Type}(k:Ex->List (AV K)->List (Ob K)->R):R:=match y with
 |a0=>k (Ex.exit 0) (aw.aV D ⟨[.own 1],[.dead,.arr U.cb]⟩ (((),()),((),(a0,())))) (aw.aX D ⟨[.own 1],[.dead,.arr U.cb]⟩ (((),()),((),(a0,()))))
def Vm:List (bA K ((List M.aG))):=[⟨(Ex.exit 0),⟨[.own 1],[.dead,.arr U.cb]⟩,fun x=>x.2.2.1⟩]
def HO:bo K:=bD D false 23 1 [0,3,4] [3] ⟨[.ai U.cb,.own 1,.int .i64],[.dead,.arr U.cb]⟩ (fun x=>M.m8 x.1.1 al x.1.2.2.1 x.2.2.1) HN
def AP(m:(List M.aG)->Option ((List M.aG))):aK K:={f:=73,sh:=⟨[.ai U.cb],[]⟩,R:=(List M.aG),run:=fun x=>m x.1.1,dflt:=default,out:=fun r=>(Sh.enc D (.own 0) (),aB.encs D [.arr U.cb] (r,()))}
def xg:Cx K:={aP with mode:=aO .plain [(102,.fresh)],eV:=[[some U.cb]],deep:=fun c=>cC (D.cells c (K.zero c)),call:=callOf D [AO M.vh],loop:=aM [(3,HO)]}
theorem HQ:aI (xg):=aQ aj _ (an Vl (aA))
theorem Vn:bq (xg) (bw (bB Tryz.f73) 0) (HO):=
 bI (cx:=xg) (n:=23) (n0:=1) (ins:=[0,3,4]) (outs:=[3]) (sh:=⟨[.ai U.cb,.own 1,.int .i64],[.dead,.arr U.cb]⟩) (run:=fun n x=>M.m8 x.1.1 n x.1.2.2.1 x.2.2.1) (bz:=Vm) (out:=HN) aj (HQ) az (aN (by kernel_rfl)) (fun _=>rfl) (fun m x=>by kernel_rfl) (an ⟨bJ,fun _ _ _=>rfl⟩ (aA)) false al
theorem Vo:(AP (M.rL)).Ok D Tryz.prog:=
 aR (cx:=xg) (c:=AP (M.rL)) (fz:=false) (fn:=Tryz.f73) aj (HQ) az ⟨Tryz.func73,by kernel_rfl⟩ (aS (bN 1 (by kernel_rfl) (bT (.mk (by kernel_rfl) (Vn))))) ⟨⟨[.own 0],[.arr U.cb]⟩,fun x=>x.2.1⟩ (fun x=>rfl) (fun x=>by kernel_rfl)
def AQ(m:M.aD->Option (Int×(List M.aG))):aK K:={f:=44,sh:=⟨[.el U.Prog],[]⟩,R:=Int×(List M.aG),run:=fun x=>m x.1.1,dflt:=default,out:=fun r=>(Sh.enc D (.agg [.int .i64,.own 0]) (r.1,((),())),aB.encs D [.arr U.cb] (r.2,()))}
def HS:Cx K:={aP with mode:=aO .plain [(73,.fresh)],eV:=[[none,some U.cb]],deep:=fun c=>cC (D.cells c (K.zero c)),call:=callOf D [AP M.rL],loop:=aM []}
theorem Vp:aI (HS):=aQ aj _ (an Vo (aA))
theorem Vq:(AQ (M.rM)).Ok D Tryz.prog:=
 aR (cx:=HS) (c:=AQ (M.rM)) (fz:=false) (fn:=Tryz.f44) aj (Vp) az ⟨Tryz.func44,by kernel_rfl⟩ (aS (aN (by kernel_rfl))) ⟨⟨[.agg [.int .i64,.own 0]],[.arr U.cb]⟩,fun x=>(x.1.1.1,x.2.1)⟩ (fun x=>rfl) (fun x=>by kernel_rfl)
def HT(y:(List M.aD)){R:Type}(k:Ex->List (AV K)->List (Ob K)->R):R:=match y with
 |a0=>k (Ex.exit 0) (aw.aV D ⟨[.own 1],[.dead,.tree U.Prog]⟩ (((),()),((),(a0,())))) (aw.aX D ⟨[.own 1],[.dead,.tree U.Prog]⟩ (((),()),((),(a0,()))))
def Vr:List (bA K ((List M.aD))):=[⟨(Ex.exit 0),⟨[.own 1],[.dead,.tree U.Prog]⟩,fun x=>x.2.2.1⟩]
def HU:bo K:=bD D false 23 1 [0,3,4] [3] ⟨[.ai U.Prog,.own 1,.int .i64],[.dead,.tree U.Prog]⟩ (fun x=>M.m9 x.1.1 al x.1.2.2.1 x.2.2.1) HT
def AS(m:(List M.aD)->Option ((List M.aD))):aK K:={f:=19,sh:=⟨[.ai U.Prog],[]⟩,R:=(List M.aD),run:=fun x=>m x.1.1,dflt:=default,out:=fun r=>(Sh.enc D (.own 0) (),aB.encs D [.tree U.Prog] (r,()))}
def xh:Cx K:={aP with mode:=aO .plain [(44,.fresh)],eV:=[[some U.Prog]],deep:=fun c=>cC (D.cells c (K.zero c)),call:=callOf D [AQ M.rM],loop:=aM [(3,HU)]}
theorem HV:aI (xh):=aQ aj _ (an Vq (aA))
theorem Vs:bq (xh) (bw (bB Tryz.f19) 0) (HU):=
 bI (cx:=xh) (n:=23) (n0:=1) (ins:=[0,3,4]) (outs:=[3]) (sh:=⟨[.ai U.Prog,.own 1,.int .i64],[.dead,.tree U.Prog]⟩) (run:=fun n x=>M.m9 x.1.1 n x.1.2.2.1 x.2.2.1) (bz:=Vr) (out:=HT) aj (HV) az (aN (by kernel_rfl)) (fun _=>rfl) (fun m x=>by kernel_rfl) (an ⟨bJ,fun _ _ _=>rfl⟩ (aA)) false al
theorem Vt:(AS (M.rN)).Ok D Tryz.prog:=
 aR (cx:=xh) (c:=AS (M.rN)) (fz:=false) (fn:=Tryz.f19) aj (HV) az ⟨Tryz.func19,by kernel_rfl⟩ (aS (bN 1 (by kernel_rfl) (bT (.mk (by kernel_rfl) (Vs))))) ⟨⟨[.own 0],[.tree U.Prog]⟩,fun x=>x.2.1⟩ (fun x=>rfl) (fun x=>by kernel_rfl)
def HW(y:(List Int)){R:Type}(k:Ex->List (AV K)->List (Ob K)->R):R:=match y with
 |a0=>k (Ex.exit 0) (aw.aV D ⟨[.own 1],[.dead,.arr U.i64]⟩ (((),()),((),(a0,())))) (aw.aX D ⟨[.own 1],[.dead,.arr U.i64]⟩ (((),()),((),(a0,()))))
def Vu:List (bA K ((List Int))):=[⟨(Ex.exit 0),⟨[.own 1],[.dead,.arr U.i64]⟩,fun x=>x.2.2.1⟩]
def HY:bo K:=bD D false 22 1 [0,3,4] [3] ⟨[.ai U.i64,.own 1,.int .i64],[.dead,.arr U.i64]⟩ (fun x=>M.na x.1.1 al x.1.2.2.1 x.2.2.1) HW
def xi(m:(List Int)->Option ((List Int))):aK K:={f:=22,sh:=⟨[.ai U.i64],[]⟩,R:=(List Int),run:=fun x=>m x.1.1,dflt:=default,out:=fun r=>(Sh.enc D (.own 0) (),aB.encs D [.arr U.i64] (r,()))}
def xj:Cx K:={aP with mode:=aO .plain [],eV:=[[some U.i64]],deep:=fun c=>cC (D.cells c (K.zero c)),call:=callOf D [],loop:=aM [(3,HY)]}
theorem HZ:aI (xj):=aQ aj _ (aA)
theorem Vv:bq (xj) (bw (bB Tryz.f22) 0) (HY):=
 bI (cx:=xj) (n:=22) (n0:=1) (ins:=[0,3,4]) (outs:=[3]) (sh:=⟨[.ai U.i64,.own 1,.int .i64],[.dead,.arr U.i64]⟩) (run:=fun n x=>M.na x.1.1 n x.1.2.2.1 x.2.2.1) (bz:=Vu) (out:=HW) aj (HZ) az (aN (by kernel_rfl)) (fun _=>rfl) (fun m x=>by kernel_rfl) (an ⟨bJ,fun _ _ _=>rfl⟩ (aA)) false al
theorem H3:(xi (M.lO)).Ok D Tryz.prog:=
 aR (cx:=xj) (c:=xi (M.lO)) (fz:=false) (fn:=Tryz.f22) aj (HZ) az ⟨Tryz.func22,by kernel_rfl⟩ (aS (bN 1 (by kernel_rfl) (bT (.mk (by kernel_rfl) (Vv))))) ⟨⟨[.own 0],[.arr U.i64]⟩,fun x=>x.2.1⟩ (fun x=>rfl) (fun x=>by kernel_rfl)
def xk(m:(List M.aD)->Option (Int)):aK K:={f:=76,sh:=⟨[.ai U.Prog],[]⟩,R:=Int,run:=fun x=>m x.1.1,dflt:=default,out:=fun r=>(Sh.enc D (.int .i64) r,aB.encs D [] ())}
def H4:Cx K:={aP with mode:=aO .plain [],call:=callOf D [],loop:=aM []}
theorem Vw:aI (H4):=aQ aj _ (aA)
theorem H5:(xk (M.xl)).Ok D Tryz.prog:=
 aR (cx:=H4) (c:=xk (M.xl)) (fz:=true) (fn:=Tryz.f76) aj (Vw) az ⟨Tryz.func76,by kernel_rfl⟩ (aS (aN (by kernel_rfl))) ⟨⟨[.int .i64],[]⟩,fun x=>x.1.1⟩ (fun x=>rfl) (fun x=>by kernel_rfl)
def AT(m:M.aG->M.aG->Option (Bool)):aK K:={f:=119,sh:=⟨[.el U.cb,.el U.cb],[]⟩,R:=Bool,run:=fun x=>m x.1.1 x.1.2.1,dflt:=default,out:=fun r=>(Sh.enc D (.bool) r,aB.encs D [] ())}
def H6:Cx K:={aP with mode:=aO .plain [],call:=callOf D [],loop:=aM []}
theorem Vx:aI (H6):=aQ aj _ (aA)
theorem Vy:(AT (M.rO)).Ok D Tryz.prog:=
 aR (cx:=H6) (c:=AT (M.rO)) (fz:=true) (fn:=Tryz.f119) aj (Vx) az ⟨Tryz.func119,by kernel_rfl⟩ (aS (aN (by kernel_rfl))) ⟨⟨[.bool],[]⟩,fun x=>x.1.1⟩ (fun x=>rfl) (fun x=>by kernel_rfl)
def H7(y:(Bool)⊕(Unit)){R:Type}(k:Ex->List (AV K)->List (Ob K)->R):R:=match y with
 |.inl a0=>k Ex.ret (aw.aV D ⟨[.bool],[]⟩ ((a0,()),())) (aw.aX D ⟨[.bool],[]⟩ ((a0,()),()))
 |.inr (a1)=>k (Ex.exit 0) (aw.aV D ⟨[.any],[]⟩ (((),()),())) (aw.aX D ⟨[.any],[]⟩ (((),()),()))
def Vz:List (bA K ((Bool)⊕(Unit))):=[⟨Ex.ret,⟨[.bool],[]⟩,fun x=>.inl x.1.1⟩,⟨(Ex.exit 0),⟨[.any],[]⟩,fun x=>.inr (())⟩]
def H8:bo K:=bD D false 27 0 [0,1,5] [4] ⟨[.ai U.cb,.ai U.cb,.int .i64],[]⟩ (fun x=>M.pt x.1.1 x.1.2.1 al x.1.2.2.1) H7
def AU(m:(List M.aG)->(List M.aG)->Option (Bool)):aK K:={f:=92,sh:=⟨[.ai U.cb,.ai U.cb],[]⟩,R:=Bool,run:=fun x=>m x.1.1 x.1.2.1,dflt:=default,out:=fun r=>(Sh.enc D (.bool) r,aB.encs D [] ())}
def xm:Cx K:={aP with mode:=aO .plain [(119,.plain)],call:=callOf D [AT M.rO],loop:=aM [(4,H8)]}
theorem H9:aI (xm):=aQ aj _ (an Vy (aA))
theorem VA:bq (xm) (bw (bB Tryz.f92) 0) (H8):=
 bI (cx:=xm) (n:=27) (n0:=0) (ins:=[0,1,5]) (outs:=[4]) (sh:=⟨[.ai U.cb,.ai U.cb,.int .i64],[]⟩) (run:=fun n x=>M.pt x.1.1 x.1.2.1 n x.1.2.2.1) (bz:=Vz) (out:=H7) aj (H9) az (aN (by kernel_rfl)) (fun _=>rfl) (fun m x=>by kernel_rfl) (an ⟨cr,fun _ _ _=>rfl⟩ (an ⟨bJ,fun _ _ _=>rfl⟩ (aA))) false al
theorem VB:(AU (M.rP)).Ok D Tryz.prog:=
 aR (cx:=xm) (c:=AU (M.rP)) (fz:=true) (fn:=Tryz.f92) aj (H9) az ⟨Tryz.func92,by kernel_rfl⟩ (aS (bN 1 (by kernel_rfl) (bT (.mk (by kernel_rfl) (VA))))) ⟨⟨[.bool],[]⟩,fun x=>x.1.1⟩ (fun x=>rfl) (fun x=>by kernel_rfl)
def AW(m:M.aD->M.aD->Option (Bool)):aK K:={f:=56,sh:=⟨[.el U.Prog,.el U.Prog],[]⟩,R:=Bool,run:=fun x=>m x.1.1 x.1.2.1,dflt:=default,out:=fun r=>(Sh.enc D (.bool) r,aB.encs D [] ())}
def Ia:Cx K:={aP with mode:=aO .plain [(92,.plain)],call:=callOf D [AU M.rP],loop:=aM []}
theorem VC:aI (Ia):=aQ aj _ (an VB (aA))
theorem VD:(AW (M.rQ)).Ok D Tryz.prog:=
 aR (cx:=Ia) (c:=AW (M.rQ)) (fz:=true) (fn:=Tryz.f56) aj (VC) az ⟨Tryz.func56,by kernel_rfl⟩ (aS (aN (by kernel_rfl))) ⟨⟨[.bool],[]⟩,fun x=>x.1.1⟩ (fun x=>rfl) (fun x=>by kernel_rfl)
def Ib(y:(Bool)⊕(Unit)){R:Type}(k:Ex->List (AV K)->List (Ob K)->R):R:=match y with
 |.inl a0=>k Ex.ret (aw.aV D ⟨[.bool],[]⟩ ((a0,()),())) (aw.aX D ⟨[.bool],[]⟩ ((a0,()),()))
 |.inr (a1)=>k (Ex.exit 0) (aw.aV D ⟨[.any],[]⟩ (((),()),())) (aw.aX D ⟨[.any],[]⟩ (((),()),()))
def VE:List (bA K ((Bool)⊕(Unit))):=[⟨Ex.ret,⟨[.bool],[]⟩,fun x=>.inl x.1.1⟩,⟨(Ex.exit 0),⟨[.any],[]⟩,fun x=>.inr (())⟩]
def Ic:bo K:=bD D false 27 0 [0,1,5] [4] ⟨[.ai U.Prog,.ai U.Prog,.int .i64],[]⟩ (fun x=>M.pv x.1.1 x.1.2.1 al x.1.2.2.1) Ib
def AX(m:(List M.aD)->(List M.aD)->Option (Bool)):aK K:={f:=29,sh:=⟨[.ai U.Prog,.ai U.Prog],[]⟩,R:=Bool,run:=fun x=>m x.1.1 x.1.2.1,dflt:=default,out:=fun r=>(Sh.enc D (.bool) r,aB.encs D [] ())}
def xn:Cx K:={aP with mode:=aO .plain [(56,.plain)],call:=callOf D [AW M.rQ],loop:=aM [(4,Ic)]}
theorem Ie:aI (xn):=aQ aj _ (an VD (aA))
theorem VF:bq (xn) (bw (bB Tryz.f29) 0) (Ic):=
 bI (cx:=xn) (n:=27) (n0:=0) (ins:=[0,1,5]) (outs:=[4]) (sh:=⟨[.ai U.Prog,.ai U.Prog,.int .i64],[]⟩) (run:=fun n x=>M.pv x.1.1 x.1.2.1 n x.1.2.2.1) (bz:=VE) (out:=Ib) aj (Ie) az (aN (by kernel_rfl)) (fun _=>rfl) (fun m x=>by kernel_rfl) (an ⟨cr,fun _ _ _=>rfl⟩ (an ⟨bJ,fun _ _ _=>rfl⟩ (aA))) false al
theorem VG:(AX (M.rR)).Ok D Tryz.prog:=
 aR (cx:=xn) (c:=AX (M.rR)) (fz:=true) (fn:=Tryz.f29) aj (Ie) az ⟨Tryz.func29,by kernel_rfl⟩ (aS (bN 1 (by kernel_rfl) (bT (.mk (by kernel_rfl) (VF))))) ⟨⟨[.bool],[]⟩,fun x=>x.1.1⟩ (fun x=>rfl) (fun x=>by kernel_rfl)
def Ig(y:(Bool)⊕(Unit)){R:Type}(k:Ex->List (AV K)->List (Ob K)->R):R:=match y with
 |.inl a0=>k Ex.ret (aw.aV D ⟨[.bool],[]⟩ ((a0,()),())) (aw.aX D ⟨[.bool],[]⟩ ((a0,()),()))
 |.inr (a1)=>k (Ex.exit 0) (aw.aV D ⟨[.any],[]⟩ (((),()),())) (aw.aX D ⟨[.any],[]⟩ (((),()),()))
def VH:List (bA K ((Bool)⊕(Unit))):=[⟨Ex.ret,⟨[.bool],[]⟩,fun x=>.inl x.1.1⟩,⟨(Ex.exit 0),⟨[.any],[]⟩,fun x=>.inr (())⟩]
def Ih:bo K:=bD D false 26 0 [0,1,5] [4] ⟨[.ai U.i64,.ai U.i64,.int .i64],[]⟩ (fun x=>M.pw x.1.1 x.1.2.1 al x.1.2.2.1) Ig
def xo(m:(List Int)->(List Int)->Option (Bool)):aK K:={f:=32,sh:=⟨[.ai U.i64,.ai U.i64],[]⟩,R:=Bool,run:=fun x=>m x.1.1 x.1.2.1,dflt:=default,out:=fun r=>(Sh.enc D (.bool) r,aB.encs D [] ())}
def xp:Cx K:={aP with mode:=aO .plain [],call:=callOf D [],loop:=aM [(4,Ih)]}
theorem Ii:aI (xp):=aQ aj _ (aA)
theorem VI:bq (xp) (bw (bB Tryz.f32) 0) (Ih):=
 bI (cx:=xp) (n:=26) (n0:=0) (ins:=[0,1,5]) (outs:=[4]) (sh:=⟨[.ai U.i64,.ai U.i64,.int .i64],[]⟩) (run:=fun n x=>M.pw x.1.1 x.1.2.1 n x.1.2.2.1) (bz:=VH) (out:=Ig) aj (Ii) az (aN (by kernel_rfl)) (fun _=>rfl) (fun m x=>by kernel_rfl) (an ⟨cr,fun _ _ _=>rfl⟩ (an ⟨bJ,fun _ _ _=>rfl⟩ (aA))) false al
theorem Ij:(xo (M.lP)).Ok D Tryz.prog:=
 aR (cx:=xp) (c:=xo (M.lP)) (fz:=true) (fn:=Tryz.f32) aj (Ii) az ⟨Tryz.func32,by kernel_rfl⟩ (aS (bN 1 (by kernel_rfl) (bT (.mk (by kernel_rfl) (VI))))) ⟨⟨[.bool],[]⟩,fun x=>x.1.1⟩ (fun x=>rfl) (fun x=>by kernel_rfl)
def AY(m:M.af->M.af->Option (Bool)):aK K:={f:=58,sh:=⟨[.el U.Task,.el U.Task],[]⟩,R:=Bool,run:=fun x=>m x.1.1 x.1.2.1,dflt:=default,out:=fun r=>(Sh.enc D (.bool) r,aB.encs D [] ())}
def Ik:Cx K:={aP with mode:=aO .plain [(32,.plain)],call:=callOf D [xo M.lP],loop:=aM []}
theorem VJ:aI (Ik):=aQ aj _ (an Ij (aA))
theorem VK:(AY (M.rS)).Ok D Tryz.prog:=
 aR (cx:=Ik) (c:=AY (M.rS)) (fz:=true) (fn:=Tryz.f58) aj (VJ) az ⟨Tryz.func58,by kernel_rfl⟩ (aS (aN (by kernel_rfl))) ⟨⟨[.bool],[]⟩,fun x=>x.1.1⟩ (fun x=>rfl) (fun x=>by kernel_rfl)
def Il(y:(Bool)⊕(Unit)){R:Type}(k:Ex->List (AV K)->List (Ob K)->R):R:=match y with
 |.inl a0=>k Ex.ret (aw.aV D ⟨[.bool],[]⟩ ((a0,()),())) (aw.aX D ⟨[.bool],[]⟩ ((a0,()),()))
 |.inr (a1)=>k (Ex.exit 0) (aw.aV D ⟨[.any],[]⟩ (((),()),())) (aw.aX D ⟨[.any],[]⟩ (((),()),()))
def VL:List (bA K ((Bool)⊕(Unit))):=[⟨Ex.ret,⟨[.bool],[]⟩,fun x=>.inl x.1.1⟩,⟨(Ex.exit 0),⟨[.any],[]⟩,fun x=>.inr (())⟩]
def Im:bo K:=bD D false 27 0 [0,1,5] [4] ⟨[.ai U.Task,.ai U.Task,.int .i64],[]⟩ (fun x=>M.px x.1.1 x.1.2.1 al x.1.2.2.1) Il
def AZ(m:(List M.af)->(List M.af)->Option (Bool)):aK K:={f:=31,sh:=⟨[.ai U.Task,.ai U.Task],[]⟩,R:=Bool,run:=fun x=>m x.1.1 x.1.2.1,dflt:=default,out:=fun r=>(Sh.enc D (.bool) r,aB.encs D [] ())}
def xq:Cx K:={aP with mode:=aO .plain [(58,.plain)],call:=callOf D [AY M.rS],loop:=aM [(4,Im)]}
theorem Io:aI (xq):=aQ aj _ (an VK (aA))
theorem VM:bq (xq) (bw (bB Tryz.f31) 0) (Im):=
 bI (cx:=xq) (n:=27) (n0:=0) (ins:=[0,1,5]) (outs:=[4]) (sh:=⟨[.ai U.Task,.ai U.Task,.int .i64],[]⟩) (run:=fun n x=>M.px x.1.1 x.1.2.1 n x.1.2.2.1) (bz:=VL) (out:=Il) aj (Io) az (aN (by kernel_rfl)) (fun _=>rfl) (fun m x=>by kernel_rfl) (an ⟨cr,fun _ _ _=>rfl⟩ (an ⟨bJ,fun _ _ _=>rfl⟩ (aA))) false al
theorem VN:(AZ (M.rT)).Ok D Tryz.prog:=
 aR (cx:=xq) (c:=AZ (M.rT)) (fz:=true) (fn:=Tryz.f31) aj (Io) az ⟨Tryz.func31,by kernel_rfl⟩ (aS (bN 1 (by kernel_rfl) (bT (.mk (by kernel_rfl) (VM))))) ⟨⟨[.bool],[]⟩,fun x=>x.1.1⟩ (fun x=>rfl) (fun x=>by kernel_rfl)
def A0(m:M.ay->M.ay->Option (Bool)):aK K:={f:=28,sh:=⟨[.el U.Note,.el U.Note],[]⟩,R:=Bool,run:=fun x=>m x.1.1 x.1.2.1,dflt:=default,out:=fun r=>(Sh.enc D (.bool) r,aB.encs D [] ())}
def Ip:Cx K:={aP with mode:=aO .plain [],call:=callOf D [],loop:=aM []}
theorem VO:aI (Ip):=aQ aj _ (aA)
theorem VP:(A0 (M.rU)).Ok D Tryz.prog:=
 aR (cx:=Ip) (c:=A0 (M.rU)) (fz:=true) (fn:=Tryz.f28) aj (VO) az ⟨Tryz.func28,by kernel_rfl⟩ (aS (aN (by kernel_rfl))) ⟨⟨[.bool],[]⟩,fun x=>x.1.1⟩ (fun x=>rfl) (fun x=>by kernel_rfl)
def Iq(y:(Bool)⊕(Unit)){R:Type}(k:Ex->List (AV K)->List (Ob K)->R):R:=match y with
 |.inl a0=>k Ex.ret (aw.aV D ⟨[.bool],[]⟩ ((a0,()),())) (aw.aX D ⟨[.bool],[]⟩ ((a0,()),()))
 |.inr (a1)=>k (Ex.exit 0) (aw.aV D ⟨[.any],[]⟩ (((),()),())) (aw.aX D ⟨[.any],[]⟩ (((),()),()))
def VQ:List (bA K ((Bool)⊕(Unit))):=[⟨Ex.ret,⟨[.bool],[]⟩,fun x=>.inl x.1.1⟩,⟨(Ex.exit 0),⟨[.any],[]⟩,fun x=>.inr (())⟩]
def Ir:bo K:=bD D false 27 0 [0,1,5] [4] ⟨[.ai U.Note,.ai U.Note,.int .i64],[]⟩ (fun x=>M.py x.1.1 x.1.2.1 al x.1.2.2.1) Iq
def xr(m:(List M.ay)->(List M.ay)->Option (Bool)):aK K:={f:=8,sh:=⟨[.ai U.Note,.ai U.Note],[]⟩,R:=Bool,run:=fun x=>m x.1.1 x.1.2.1,dflt:=default,out:=fun r=>(Sh.enc D (.bool) r,aB.encs D [] ())}
def xt:Cx K:={aP with mode:=aO .plain [(28,.plain)],call:=callOf D [A0 M.rU],loop:=aM [(4,Ir)]}
theorem Is:aI (xt):=aQ aj _ (an VP (aA))
theorem VR:bq (xt) (bw (bB Tryz.f8) 0) (Ir):=
 bI (cx:=xt) (n:=27) (n0:=0) (ins:=[0,1,5]) (outs:=[4]) (sh:=⟨[.ai U.Note,.ai U.Note,.int .i64],[]⟩) (run:=fun n x=>M.py x.1.1 x.1.2.1 n x.1.2.2.1) (bz:=VQ) (out:=Iq) aj (Is) az (aN (by kernel_rfl)) (fun _=>rfl) (fun m x=>by kernel_rfl) (an ⟨cr,fun _ _ _=>rfl⟩ (an ⟨bJ,fun _ _ _=>rfl⟩ (aA))) false al
theorem It:(xr (M.nb)).Ok D Tryz.prog:=
 aR (cx:=xt) (c:=xr (M.nb)) (fz:=true) (fn:=Tryz.f8) aj (Is) az ⟨Tryz.func8,by kernel_rfl⟩ (aS (bN 1 (by kernel_rfl) (bT (.mk (by kernel_rfl) (VR))))) ⟨⟨[.bool],[]⟩,fun x=>x.1.1⟩ (fun x=>rfl) (fun x=>by kernel_rfl)
def Iu(y:Int×(List M.aG)){R:Type}(k:Ex->List (AV K)->List (Ob K)->R):R:=match y with
 |a0=>k (Ex.exit 0) (aw.aV D ⟨[.int .i64],[.arr U.cb]⟩ ((a0.1,()),(a0.2,()))) (aw.aX D ⟨[.int .i64],[.arr U.cb]⟩ ((a0.1,()),(a0.2,())))
def VS:List (bA K (Int×(List M.aG))):=[⟨(Ex.exit 0),⟨[.int .i64],[.arr U.cb]⟩,fun x=>(x.1.1,x.2.1)⟩]
def Iw:bo K:=bD D true 34 1 [0,1,5] [1] ⟨[.own 0,.int .i64,.int .i64],[.arr U.cb]⟩ (fun x=>M.o7 al x.1.2.1 x.1.2.2.1 x.2.1) Iu
def A4(m:Int->(List M.aG)->Option (Int×(List M.aG))):aK K:={f:=59,sh:=⟨[.own 0,.int .i64],[.arr U.cb]⟩,R:=Int×(List M.aG),run:=fun x=>m x.1.2.1 x.2.1,dflt:=default,out:=fun r=>(Sh.enc D (.int .i64) r.1,aB.encs D [.arr U.cb] (r.2,()))}
def xu:Cx K:={aP with mode:=aO .plain [],deep:=fun c=>cC (D.cells c (K.zero c)),opn:=true,call:=callOf D [],loop:=aM [(2,Iw)]}
theorem Ix:aI (xu):=aQ aj _ (aA)
theorem VT:bq (xu) (bw (bB Tryz.f59) 0) (Iw):=
 bI (cx:=xu) (n:=34) (n0:=1) (ins:=[0,1,5]) (outs:=[1]) (sh:=⟨[.own 0,.int .i64,.int .i64],[.arr U.cb]⟩) (run:=fun n x=>M.o7 n x.1.2.1 x.1.2.2.1 x.2.1) (bz:=VS) (out:=Iu) aj (Ix) az (aN (by kernel_rfl)) (fun _=>rfl) (fun m x=>by kernel_rfl) (an ⟨bJ,fun _ _ _=>rfl⟩ (aA)) true al
theorem VU:(A4 (M.rq)).Ok D Tryz.prog:=
 aR (cx:=xu) (c:=A4 (M.rq)) (fz:=true) (fn:=Tryz.f59) aj (Ix) az ⟨Tryz.func59,by kernel_rfl⟩ (aS (bN 1 (by kernel_rfl) (bT (.mk (by kernel_rfl) (VT))))) ⟨⟨[.int .i64],[.arr U.cb]⟩,fun x=>(x.1.1,x.2.1)⟩ (fun x=>rfl) (fun x=>by kernel_rfl)
def Iy(y:Int×(List M.aD)){R:Type}(k:Ex->List (AV K)->List (Ob K)->R):R:=match y with
 |a0=>k (Ex.exit 0) (aw.aV D ⟨[.int .i64],[.tree U.Prog]⟩ ((a0.1,()),(a0.2,()))) (aw.aX D ⟨[.int .i64],[.tree U.Prog]⟩ ((a0.1,()),(a0.2,())))
def VV:List (bA K (Int×(List M.aD))):=[⟨(Ex.exit 0),⟨[.int .i64],[.tree U.Prog]⟩,fun x=>(x.1.1,x.2.1)⟩]
def Iz:bo K:=bD D true 27 1 [0,1,5] [1] ⟨[.own 0,.int .i64,.int .i64],[.tree U.Prog]⟩ (fun x=>M.o8 al x.1.2.1 x.1.2.2.1 x.2.1) Iy
def A5(m:Int->(List M.aD)->Option (Int×(List M.aD))):aK K:={f:=33,sh:=⟨[.own 0,.int .i64],[.tree U.Prog]⟩,R:=Int×(List M.aD),run:=fun x=>m x.1.2.1 x.2.1,dflt:=default,out:=fun r=>(Sh.enc D (.int .i64) r.1,aB.encs D [.tree U.Prog] (r.2,()))}
def xw:Cx K:={aP with mode:=aO .plain [(59,.pass)],deep:=fun c=>cC (D.cells c (K.zero c)),opn:=true,call:=callOf D [A4 M.rq],loop:=aM [(2,Iz)]}
theorem IA:aI (xw):=aQ aj _ (an VU (aA))
theorem VW:bq (xw) (bw (bB Tryz.f33) 0) (Iz):=
 bI (cx:=xw) (n:=27) (n0:=1) (ins:=[0,1,5]) (outs:=[1]) (sh:=⟨[.own 0,.int .i64,.int .i64],[.tree U.Prog]⟩) (run:=fun n x=>M.o8 n x.1.2.1 x.1.2.2.1 x.2.1) (bz:=VV) (out:=Iy) aj (IA) az (aN (by kernel_rfl)) (fun _=>rfl) (fun m x=>by kernel_rfl) (an ⟨bJ,fun _ _ _=>rfl⟩ (aA)) true al
theorem VX:(A5 (M.ru)).Ok D Tryz.prog:=
 aR (cx:=xw) (c:=A5 (M.ru)) (fz:=true) (fn:=Tryz.f33) aj (IA) az ⟨Tryz.func33,by kernel_rfl⟩ (aS (bN 1 (by kernel_rfl) (bT (.mk (by kernel_rfl) (VW))))) ⟨⟨[.int .i64],[.tree U.Prog]⟩,fun x=>(x.1.1,x.2.1)⟩ (fun x=>rfl) (fun x=>by kernel_rfl)
def IB(y:Int×(List Int)){R:Type}(k:Ex->List (AV K)->List (Ob K)->R):R:=match y with
 |a0=>k (Ex.exit 0) (aw.aV D ⟨[.int .i64],[.arr U.i64]⟩ ((a0.1,()),(a0.2,()))) (aw.aX D ⟨[.int .i64],[.arr U.i64]⟩ ((a0.1,()),(a0.2,())))
def VY:List (bA K (Int×(List Int))):=[⟨(Ex.exit 0),⟨[.int .i64],[.arr U.i64]⟩,fun x=>(x.1.1,x.2.1)⟩]
def IC:bo K:=bD D true 19 1 [0,1,5] [1] ⟨[.own 0,.int .i64,.int .i64],[.arr U.i64]⟩ (fun x=>M.o6 al x.1.2.1 x.1.2.2.1 x.2.1) IB
def xx(m:Int->(List Int)->Option (Int×(List Int))):aK K:={f:=36,sh:=⟨[.own 0,.int .i64],[.arr U.i64]⟩,R:=Int×(List Int),run:=fun x=>m x.1.2.1 x.2.1,dflt:=default,out:=fun r=>(Sh.enc D (.int .i64) r.1,aB.encs D [.arr U.i64] (r.2,()))}
def xy:Cx K:={aP with mode:=aO .plain [],deep:=fun c=>cC (D.cells c (K.zero c)),opn:=true,call:=callOf D [],loop:=aM [(2,IC)]}
theorem ID:aI (xy):=aQ aj _ (aA)
theorem VZ:bq (xy) (bw (bB Tryz.f36) 0) (IC):=
 bI (cx:=xy) (n:=19) (n0:=1) (ins:=[0,1,5]) (outs:=[1]) (sh:=⟨[.own 0,.int .i64,.int .i64],[.arr U.i64]⟩) (run:=fun n x=>M.o6 n x.1.2.1 x.1.2.2.1 x.2.1) (bz:=VY) (out:=IB) aj (ID) az (aN (by kernel_rfl)) (fun _=>rfl) (fun m x=>by kernel_rfl) (an ⟨bJ,fun _ _ _=>rfl⟩ (aA)) true al
theorem IE:(xx (M.lM)).Ok D Tryz.prog:=
 aR (cx:=xy) (c:=xx (M.lM)) (fz:=true) (fn:=Tryz.f36) aj (ID) az ⟨Tryz.func36,by kernel_rfl⟩ (aS (bN 1 (by kernel_rfl) (bT (.mk (by kernel_rfl) (VZ))))) ⟨⟨[.int .i64],[.arr U.i64]⟩,fun x=>(x.1.1,x.2.1)⟩ (fun x=>rfl) (fun x=>by kernel_rfl)
def IF(y:Int×(List M.af)){R:Type}(k:Ex->List (AV K)->List (Ob K)->R):R:=match y with
 |a0=>k (Ex.exit 0) (aw.aV D ⟨[.int .i64],[.tree U.Task]⟩ ((a0.1,()),(a0.2,()))) (aw.aX D ⟨[.int .i64],[.tree U.Task]⟩ ((a0.1,()),(a0.2,())))
def V0:List (bA K (Int×(List M.af))):=[⟨(Ex.exit 0),⟨[.int .i64],[.tree U.Task]⟩,fun x=>(x.1.1,x.2.1)⟩]
def IG:bo K:=bD D true 96 1 [0,1,5] [1] ⟨[.own 0,.int .i64,.int .i64],[.tree U.Task]⟩ (fun x=>M.pd al x.1.2.1 x.1.2.2.1 x.2.1) IF
def A6(m:Int->(List M.af)->Option (Int×(List M.af))):aK K:={f:=35,sh:=⟨[.own 0,.int .i64],[.tree U.Task]⟩,R:=Int×(List M.af),run:=fun x=>m x.1.2.1 x.2.1,dflt:=default,out:=fun r=>(Sh.enc D (.int .i64) r.1,aB.encs D [.tree U.Task] (r.2,()))}
def xz:Cx K:={aP with mode:=aO .plain [(36,.pass)],deep:=fun c=>cC (D.cells c (K.zero c)),opn:=true,call:=callOf D [xx M.lM],loop:=aM [(2,IG)]}
theorem IH:aI (xz):=aQ aj _ (an IE (aA))
theorem V1:bq (xz) (bw (bB Tryz.f35) 0) (IG):=
 bI (cx:=xz) (n:=96) (n0:=1) (ins:=[0,1,5]) (outs:=[1]) (sh:=⟨[.own 0,.int .i64,.int .i64],[.tree U.Task]⟩) (run:=fun n x=>M.pd n x.1.2.1 x.1.2.2.1 x.2.1) (bz:=V0) (out:=IF) aj (IH) az (aN (by kernel_rfl)) (fun _=>rfl) (fun m x=>by kernel_rfl) (an ⟨bJ,fun _ _ _=>rfl⟩ (aA)) true al
theorem V2:(A6 (M.ry)).Ok D Tryz.prog:=
 aR (cx:=xz) (c:=A6 (M.ry)) (fz:=true) (fn:=Tryz.f35) aj (IH) az ⟨Tryz.func35,by kernel_rfl⟩ (aS (bN 1 (by kernel_rfl) (bT (.mk (by kernel_rfl) (V1))))) ⟨⟨[.int .i64],[.tree U.Task]⟩,fun x=>(x.1.1,x.2.1)⟩ (fun x=>rfl) (fun x=>by kernel_rfl)
def II(y:Int×(List M.ay)){R:Type}(k:Ex->List (AV K)->List (Ob K)->R):R:=match y with
 |a0=>k (Ex.exit 0) (aw.aV D ⟨[.int .i64],[.arr U.Note]⟩ ((a0.1,()),(a0.2,()))) (aw.aX D ⟨[.int .i64],[.arr U.Note]⟩ ((a0.1,()),(a0.2,())))
def V3:List (bA K (Int×(List M.ay))):=[⟨(Ex.exit 0),⟨[.int .i64],[.arr U.Note]⟩,fun x=>(x.1.1,x.2.1)⟩]
def IJ:bo K:=bD D true 41 1 [0,1,5] [1] ⟨[.own 0,.int .i64,.int .i64],[.arr U.Note]⟩ (fun x=>M.rz al x.1.2.1 x.1.2.2.1 x.2.1) II
def xA(m:Int->(List M.ay)->Option (Int×(List M.ay))):aK K:={f:=11,sh:=⟨[.own 0,.int .i64],[.arr U.Note]⟩,R:=Int×(List M.ay),run:=fun x=>m x.1.2.1 x.2.1,dflt:=default,out:=fun r=>(Sh.enc D (.int .i64) r.1,aB.encs D [.arr U.Note] (r.2,()))}
def xB:Cx K:={aP with mode:=aO .plain [],deep:=fun c=>cC (D.cells c (K.zero c)),opn:=true,call:=callOf D [],loop:=aM [(2,IJ)]}
theorem IK:aI (xB):=aQ aj _ (aA)
theorem V4:bq (xB) (bw (bB Tryz.f11) 0) (IJ):=
 bI (cx:=xB) (n:=41) (n0:=1) (ins:=[0,1,5]) (outs:=[1]) (sh:=⟨[.own 0,.int .i64,.int .i64],[.arr U.Note]⟩) (run:=fun n x=>M.rz n x.1.2.1 x.1.2.2.1 x.2.1) (bz:=V3) (out:=II) aj (IK) az (aN (by kernel_rfl)) (fun _=>rfl) (fun m x=>by kernel_rfl) (an ⟨bJ,fun _ _ _=>rfl⟩ (aA)) true al
theorem IL:(xA (M.mV)).Ok D Tryz.prog:=
 aR (cx:=xB) (c:=xA (M.mV)) (fz:=true) (fn:=Tryz.f11) aj (IK) az ⟨Tryz.func11,by kernel_rfl⟩ (aS (bN 1 (by kernel_rfl) (bT (.mk (by kernel_rfl) (V4))))) ⟨⟨[.int .i64],[.arr U.Note]⟩,fun x=>(x.1.1,x.2.1)⟩ (fun x=>rfl) (fun x=>by kernel_rfl)
def IM(y:(Int)⊕(Int)){R:Type}(k:Ex->List (AV K)->List (Ob K)->R):R:=match y with
 |.inl a0=>k Ex.ret (aw.aV D ⟨[.any,.int .i64],[]⟩ (((),(a0,())),())) (aw.aX D ⟨[.any,.int .i64],[]⟩ (((),(a0,())),()))
 |.inr (a1)=>k (Ex.exit 0) (aw.aV D ⟨[.int .i64,.any],[]⟩ ((a1,((),())),())) (aw.aX D ⟨[.int .i64,.any],[]⟩ ((a1,((),())),()))
def V5:List (bA K ((Int)⊕(Int))):=[⟨Ex.ret,⟨[.any,.int .i64],[]⟩,fun x=>.inl x.1.2.1⟩,⟨(Ex.exit 0),⟨[.int .i64,.any],[]⟩,fun x=>.inr (x.1.1)⟩]
def IN:bo K:=bD D false 49 0 [0,1,5] [1,4] ⟨[.ai U.Note,.int .i64,.int .i64],[]⟩ (fun x=>M.rB x.1.1 al x.1.2.1 x.1.2.2.1) IM
def A7(m:(List M.ay)->Int->Option (Int)):aK K:={f:=12,sh:=⟨[.ai U.Note,.int .i64],[]⟩,R:=Int,run:=fun x=>m x.1.1 x.1.2.1,dflt:=default,out:=fun r=>(Sh.enc D (.int .i64) r,aB.encs D [] ())}
def xC:Cx K:={aP with mode:=aO .plain [],call:=callOf D [],loop:=aM [(2,IN)]}
theorem IP:aI (xC):=aQ aj _ (aA)
theorem V6:bq (xC) (bw (bB Tryz.f12) 0) (IN):=
 bI (cx:=xC) (n:=49) (n0:=0) (ins:=[0,1,5]) (outs:=[1,4]) (sh:=⟨[.ai U.Note,.int .i64,.int .i64],[]⟩) (run:=fun n x=>M.rB x.1.1 n x.1.2.1 x.1.2.2.1) (bz:=V5) (out:=IM) aj (IP) az (aN (by kernel_rfl)) (fun _=>rfl) (fun m x=>by kernel_rfl) (an ⟨cr,fun _ _ _=>rfl⟩ (an ⟨bJ,fun _ _ _=>rfl⟩ (aA))) false al
theorem V7:(A7 (M.rA)).Ok D Tryz.prog:=
 aR (cx:=xC) (c:=A7 (M.rA)) (fz:=true) (fn:=Tryz.f12) aj (IP) az ⟨Tryz.func12,by kernel_rfl⟩ (aS (bN 1 (by kernel_rfl) (bT (.mk (by kernel_rfl) (V6))))) ⟨⟨[.int .i64],[]⟩,fun x=>x.1.1⟩ (fun x=>rfl) (fun x=>by kernel_rfl)
def IQ(y:(Int)⊕(Int)){R:Type}(k:Ex->List (AV K)->List (Ob K)->R):R:=match y with
 |.inl a0=>k Ex.ret (aw.aV D ⟨[.any,.int .i64],[]⟩ (((),(a0,())),())) (aw.aX D ⟨[.any,.int .i64],[]⟩ (((),(a0,())),()))
 |.inr (a1)=>k (Ex.exit 0) (aw.aV D ⟨[.int .i64,.any],[]⟩ ((a1,((),())),())) (aw.aX D ⟨[.int .i64,.any],[]⟩ ((a1,((),())),()))
def V8:List (bA K ((Int)⊕(Int))):=[⟨Ex.ret,⟨[.any,.int .i64],[]⟩,fun x=>.inl x.1.2.1⟩,⟨(Ex.exit 0),⟨[.int .i64,.any],[]⟩,fun x=>.inr (x.1.1)⟩]
def IS:bo K:=bD D false 28 0 [0,1,5] [1,4] ⟨[.ai U.str,.int .i64,.int .i64],[]⟩ (fun x=>M.pz x.1.1 al x.1.2.1 x.1.2.2.1) IQ
def A8(m:(List (List UInt8))->Int->Option (Int)):aK K:={f:=95,sh:=⟨[.ai U.str,.int .i64],[]⟩,R:=Int,run:=fun x=>m x.1.1 x.1.2.1,dflt:=default,out:=fun r=>(Sh.enc D (.int .i64) r,aB.encs D [] ())}
def xE:Cx K:={aP with mode:=aO .plain [],call:=callOf D [],loop:=aM [(5,IS)]}
theorem IT:aI (xE):=aQ aj _ (aA)
theorem V9:bq (xE) (bw (bB Tryz.f95) 0) (IS):=
 bI (cx:=xE) (n:=28) (n0:=0) (ins:=[0,1,5]) (outs:=[1,4]) (sh:=⟨[.ai U.str,.int .i64,.int .i64],[]⟩) (run:=fun n x=>M.pz x.1.1 n x.1.2.1 x.1.2.2.1) (bz:=V8) (out:=IQ) aj (IT) az (aN (by kernel_rfl)) (fun _=>rfl) (fun m x=>by kernel_rfl) (an ⟨cr,fun _ _ _=>rfl⟩ (an ⟨bJ,fun _ _ _=>rfl⟩ (aA))) false al
theorem Wa:(A8 (M.rV)).Ok D Tryz.prog:=
 aR (cx:=xE) (c:=A8 (M.rV)) (fz:=true) (fn:=Tryz.f95) aj (IT) az ⟨Tryz.func95,by kernel_rfl⟩ (aS (bN 1 (by kernel_rfl) (bT (.mk (by kernel_rfl) (V9))))) ⟨⟨[.int .i64],[]⟩,fun x=>x.1.1⟩ (fun x=>rfl) (fun x=>by kernel_rfl)
def jT(m:M.aa->Int->Option (Int)):aK K:={f:=65,sh:=⟨[.el U.Type,.int .i64],[]⟩,R:=Int,run:=fun x=>m x.1.1 x.1.2.1,dflt:=default,out:=fun r=>(Sh.enc D (.int .i64) r,aB.encs D [] ())}
def IU(y:(Int)⊕(Int)){R:Type}(k:Ex->List (AV K)->List (Ob K)->R):R:=match y with
 |.inl a0=>k Ex.ret (aw.aV D ⟨[.any,.int .i64],[]⟩ (((),(a0,())),())) (aw.aX D ⟨[.any,.int .i64],[]⟩ (((),(a0,())),()))
 |.inr (a1)=>k (Ex.exit 0) (aw.aV D ⟨[.int .i64,.any],[]⟩ ((a1,((),())),())) (aw.aX D ⟨[.int .i64,.any],[]⟩ ((a1,((),())),()))
def Wb:List (bA K ((Int)⊕(Int))):=[⟨Ex.ret,⟨[.any,.int .i64],[]⟩,fun x=>.inl x.1.2.1⟩,⟨(Ex.exit 0),⟨[.int .i64,.any],[]⟩,fun x=>.inr (x.1.1)⟩]
def IV(cO:M.aa->Int->Option (Int)):bo K:=bD D false 27 0 [0,1,5] [1,4] ⟨[.ai U.Type,.int .i64,.int .i64],[]⟩ (fun x=>M.pA cO x.1.1 al x.1.2.1 x.1.2.2.1) IU
def A9(m:(List M.aa)->Int->Option (Int)):aK K:={f:=96,sh:=⟨[.ai U.Type,.int .i64],[]⟩,R:=Int,run:=fun x=>m x.1.1 x.1.2.1,dflt:=default,out:=fun r=>(Sh.enc D (.int .i64) r,aB.encs D [] ())}
def xF(cO:M.aa->Int->Option (Int)):Cx K:={aP with mode:=aO .plain [(65,.plain)],call:=callOf D [jT cO],loop:=aM [(5,IV cO)]}
theorem IW(cO:M.aa->Int->Option (Int))(ku:(jT cO).Ok D Tryz.prog):aI (xF cO):=aQ aj _ (an ku (aA))
theorem Wc(cO:M.aa->Int->Option (Int))(ku:(jT cO).Ok D Tryz.prog):bq (xF cO) (bw (bB Tryz.f96) 0) (IV cO):=
 bI (cx:=xF cO) (n:=27) (n0:=0) (ins:=[0,1,5]) (outs:=[1,4]) (sh:=⟨[.ai U.Type,.int .i64,.int .i64],[]⟩) (run:=fun n x=>M.pA cO x.1.1 n x.1.2.1 x.1.2.2.1) (bz:=Wb) (out:=IU) aj (IW cO ku) az (aN (by kernel_rfl)) (fun _=>rfl) (fun m x=>by kernel_rfl) (an ⟨cr,fun _ _ _=>rfl⟩ (an ⟨bJ,fun _ _ _=>rfl⟩ (aA))) false al
theorem We(cO:M.aa->Int->Option (Int))(ku:(jT cO).Ok D Tryz.prog):(A9 (M.rW cO)).Ok D Tryz.prog:=
 aR (cx:=xF cO) (c:=A9 (M.rW cO)) (fz:=true) (fn:=Tryz.f96) aj (IW cO ku) az ⟨Tryz.func96,by kernel_rfl⟩ (aS (bN 1 (by kernel_rfl) (bT (.mk (by kernel_rfl) (Wc cO ku))))) ⟨⟨[.int .i64],[]⟩,fun x=>x.1.1⟩ (fun x=>rfl) (fun x=>by kernel_rfl)
def IX(cO:M.aa->Int->Option (Int)):Cx K:={aP with mode:=aO .plain [(95,.plain),(96,.plain)],call:=callOf D [A8 M.rV,A9 (M.rW cO)],loop:=aM []}
theorem Wg(cO:M.aa->Int->Option (Int))(ku:(jT cO).Ok D Tryz.prog):aI (IX cO):=aQ aj _ (an Wa (an (We cO ku) (aA)))
theorem Wh(cO:M.aa->Int->Option (Int))(ku:(jT cO).Ok D Tryz.prog):(jT (M.vi cO)).Ok D Tryz.prog:=
 aR (cx:=IX cO) (c:=jT (M.vi cO)) (fz:=true) (fn:=Tryz.f65) aj (Wg cO ku) az ⟨Tryz.func65,by kernel_rfl⟩ (aS (aN (by kernel_rfl))) ⟨⟨[.int .i64],[]⟩,fun x=>x.1.1⟩ (fun x=>rfl) (fun x=>by kernel_rfl)
theorem IY:∀n,(jT (M.pB n)).Ok D Tryz.prog
 |0=>gj fun _=>rfl
 |n+1=>Wh (M.pB n) (IY n)
theorem Wi:(jT (M.xG)).Ok D Tryz.prog:=IY al
def IZ(y:(List (List UInt8))){R:Type}(k:Ex->List (AV K)->List (Ob K)->R):R:=match y with
 |a0=>k (Ex.exit 0) (aw.aV D ⟨[.own 1],[.dead,.arr U.str]⟩ (((),()),((),(a0,())))) (aw.aX D ⟨[.own 1],[.dead,.arr U.str]⟩ (((),()),((),(a0,()))))
def Wj:List (bA K ((List (List UInt8)))):=[⟨(Ex.exit 0),⟨[.own 1],[.dead,.arr U.str]⟩,fun x=>x.2.2.1⟩]
def I0:bo K:=bD D false 22 1 [0,3,4] [3] ⟨[.ai U.str,.own 1,.int .i64],[.dead,.arr U.str]⟩ (fun x=>M.nc x.1.1 al x.1.2.2.1 x.2.2.1) IZ
def Ba(m:(List (List UInt8))->Option ((List (List UInt8)))):aK K:={f:=103,sh:=⟨[.ai U.str],[]⟩,R:=(List (List UInt8)),run:=fun x=>m x.1.1,dflt:=default,out:=fun r=>(Sh.enc D (.own 0) (),aB.encs D [.arr U.str] (r,()))}
def xH:Cx K:={aP with mode:=aO .plain [],eV:=[[some U.str]],deep:=fun c=>cC (D.cells c (K.zero c)),call:=callOf D [],loop:=aM [(3,I0)]}
theorem I1:aI (xH):=aQ aj _ (aA)
theorem Wl:bq (xH) (bw (bB Tryz.f103) 0) (I0):=
 bI (cx:=xH) (n:=22) (n0:=1) (ins:=[0,3,4]) (outs:=[3]) (sh:=⟨[.ai U.str,.own 1,.int .i64],[.dead,.arr U.str]⟩) (run:=fun n x=>M.nc x.1.1 n x.1.2.2.1 x.2.2.1) (bz:=Wj) (out:=IZ) aj (I1) az (aN (by kernel_rfl)) (fun _=>rfl) (fun m x=>by kernel_rfl) (an ⟨bJ,fun _ _ _=>rfl⟩ (aA)) false al
theorem Wm:(Ba (M.rX)).Ok D Tryz.prog:=
 aR (cx:=xH) (c:=Ba (M.rX)) (fz:=false) (fn:=Tryz.f103) aj (I1) az ⟨Tryz.func103,by kernel_rfl⟩ (aS (bN 1 (by kernel_rfl) (bT (.mk (by kernel_rfl) (Wl))))) ⟨⟨[.own 0],[.arr U.str]⟩,fun x=>x.2.1⟩ (fun x=>rfl) (fun x=>by kernel_rfl)
def jU(m:M.aa->Option (Int×(List UInt8)×(List (List UInt8))×(List M.aa))):aK K:={f:=74,sh:=⟨[.el U.Type],[]⟩,R:=Int×(List UInt8)×(List (List UInt8))×(List M.aa),run:=fun x=>m x.1.1,dflt:=default,out:=fun r=>(Sh.enc D (.agg [.int .i64,.str,.own 0,.own 1]) (r.1,(r.2.1,((),((),())))),aB.encs D [.arr U.str,.tree U.Type] (r.2.2.1,(r.2.2.2,())))}
def I2(y:(List M.aa)){R:Type}(k:Ex->List (AV K)->List (Ob K)->R):R:=match y with
 |a0=>k (Ex.exit 0) (aw.aV D ⟨[.own 1],[.dead,.tree U.Type]⟩ (((),()),((),(a0,())))) (aw.aX D ⟨[.own 1],[.dead,.tree U.Type]⟩ (((),()),((),(a0,()))))
def Wn:List (bA K ((List M.aa))):=[⟨(Ex.exit 0),⟨[.own 1],[.dead,.tree U.Type]⟩,fun x=>x.2.2.1⟩]
def I3(cR:M.aa->Option (Int×(List UInt8)×(List (List UInt8))×(List M.aa))):bo K:=bD D false 23 1 [0,3,4] [3] ⟨[.ai U.Type,.own 1,.int .i64],[.dead,.tree U.Type]⟩ (fun x=>M.nf cR x.1.1 al x.1.2.2.1 x.2.2.1) I2
def Bc(m:(List M.aa)->Option ((List M.aa))):aK K:={f:=104,sh:=⟨[.ai U.Type],[]⟩,R:=(List M.aa),run:=fun x=>m x.1.1,dflt:=default,out:=fun r=>(Sh.enc D (.own 0) (),aB.encs D [.tree U.Type] (r,()))}
def xI(cR:M.aa->Option (Int×(List UInt8)×(List (List UInt8))×(List M.aa))):Cx K:={aP with mode:=aO .plain [(74,.fresh)],eV:=[[some U.Type]],deep:=fun c=>cC (D.cells c (K.zero c)),call:=callOf D [jU cR],loop:=aM [(3,I3 cR)]}
theorem I4(cR:M.aa->Option (Int×(List UInt8)×(List (List UInt8))×(List M.aa)))(kx:(jU cR).Ok D Tryz.prog):aI (xI cR):=aQ aj _ (an kx (aA))
theorem Wp(cR:M.aa->Option (Int×(List UInt8)×(List (List UInt8))×(List M.aa)))(kx:(jU cR).Ok D Tryz.prog):bq (xI cR) (bw (bB Tryz.f104) 0) (I3 cR):=
 bI (cx:=xI cR) (n:=23) (n0:=1) (ins:=[0,3,4]) (outs:=[3]) (sh:=⟨[.ai U.Type,.own 1,.int .i64],[.dead,.tree U.Type]⟩) (run:=fun n x=>M.nf cR x.1.1 n x.1.2.2.1 x.2.2.1) (bz:=Wn) (out:=I2) aj (I4 cR kx) az (aN (by kernel_rfl)) (fun _=>rfl) (fun m x=>by kernel_rfl) (an ⟨bJ,fun _ _ _=>rfl⟩ (aA)) false al
theorem Wq(cR:M.aa->Option (Int×(List UInt8)×(List (List UInt8))×(List M.aa)))(kx:(jU cR).Ok D Tryz.prog):(Bc (M.rY cR)).Ok D Tryz.prog:=
 aR (cx:=xI cR) (c:=Bc (M.rY cR)) (fz:=false) (fn:=Tryz.f104) aj (I4 cR kx) az ⟨Tryz.func104,by kernel_rfl⟩ (aS (bN 1 (by kernel_rfl) (bT (.mk (by kernel_rfl) (Wp cR kx))))) ⟨⟨[.own 0],[.tree U.Type]⟩,fun x=>x.2.1⟩ (fun x=>rfl) (fun x=>by kernel_rfl)
def I5(cR:M.aa->Option (Int×(List UInt8)×(List (List UInt8))×(List M.aa))):Cx K:={aP with mode:=aO .plain [(103,.fresh),(104,.fresh)],eV:=[[none,none,some U.str,some U.Type]],deep:=fun c=>cC (D.cells c (K.zero c)),call:=callOf D [Ba M.rX,Bc (M.rY cR)],loop:=aM []}
theorem Ws(cR:M.aa->Option (Int×(List UInt8)×(List (List UInt8))×(List M.aa)))(kx:(jU cR).Ok D Tryz.prog):aI (I5 cR):=aQ aj _ (an Wm (an (Wq cR kx) (aA)))
theorem Wu(cR:M.aa->Option (Int×(List UInt8)×(List (List UInt8))×(List M.aa)))(kx:(jU cR).Ok D Tryz.prog):(jU (M.vj cR)).Ok D Tryz.prog:=
 aR (cx:=I5 cR) (c:=jU (M.vj cR)) (fz:=false) (fn:=Tryz.f74) aj (Ws cR kx) az ⟨Tryz.func74,by kernel_rfl⟩ (aS (aN (by kernel_rfl))) ⟨⟨[.agg [.int .i64,.str,.own 0,.own 1]],[.arr U.str,.tree U.Type]⟩,fun x=>(x.1.1.1,x.1.1.2.1,x.2.1,x.2.2.1)⟩ (fun x=>rfl) (fun x=>by kernel_rfl)
theorem I6:∀n,(jU (M.pC n)).Ok D Tryz.prog
 |0=>gj fun _=>rfl
 |n+1=>Wu (M.pC n) (I6 n)
theorem Wv:(jU (M.xJ)).Ok D Tryz.prog:=I6 al
def I7(y:(Bool)⊕(Unit)){R:Type}(k:Ex->List (AV K)->List (Ob K)->R):R:=match y with
 |.inl a0=>k Ex.ret (aw.aV D ⟨[.bool],[]⟩ ((a0,()),())) (aw.aX D ⟨[.bool],[]⟩ ((a0,()),()))
 |.inr (a1)=>k (Ex.exit 0) (aw.aV D ⟨[.any],[]⟩ (((),()),())) (aw.aX D ⟨[.any],[]⟩ (((),()),()))
def Ww:List (bA K ((Bool)⊕(Unit))):=[⟨Ex.ret,⟨[.bool],[]⟩,fun x=>.inl x.1.1⟩,⟨(Ex.exit 0),⟨[.any],[]⟩,fun x=>.inr (())⟩]
def I8:bo K:=bD D false 26 0 [0,1,5] [4] ⟨[.ai U.str,.ai U.str,.int .i64],[]⟩ (fun x=>M.pD x.1.1 x.1.2.1 al x.1.2.2.1) I7
def Bd(m:(List (List UInt8))->(List (List UInt8))->Option (Bool)):aK K:={f:=120,sh:=⟨[.ai U.str,.ai U.str],[]⟩,R:=Bool,run:=fun x=>m x.1.1 x.1.2.1,dflt:=default,out:=fun r=>(Sh.enc D (.bool) r,aB.encs D [] ())}
def xK:Cx K:={aP with mode:=aO .plain [],call:=callOf D [],loop:=aM [(4,I8)]}
theorem I9:aI (xK):=aQ aj _ (aA)
theorem Wx:bq (xK) (bw (bB Tryz.f120) 0) (I8):=
 bI (cx:=xK) (n:=26) (n0:=0) (ins:=[0,1,5]) (outs:=[4]) (sh:=⟨[.ai U.str,.ai U.str,.int .i64],[]⟩) (run:=fun n x=>M.pD x.1.1 x.1.2.1 n x.1.2.2.1) (bz:=Ww) (out:=I7) aj (I9) az (aN (by kernel_rfl)) (fun _=>rfl) (fun m x=>by kernel_rfl) (an ⟨cr,fun _ _ _=>rfl⟩ (an ⟨bJ,fun _ _ _=>rfl⟩ (aA))) false al
theorem Wy:(Bd (M.rZ)).Ok D Tryz.prog:=
 aR (cx:=xK) (c:=Bd (M.rZ)) (fz:=true) (fn:=Tryz.f120) aj (I9) az ⟨Tryz.func120,by kernel_rfl⟩ (aS (bN 1 (by kernel_rfl) (bT (.mk (by kernel_rfl) (Wx))))) ⟨⟨[.bool],[]⟩,fun x=>x.1.1⟩ (fun x=>rfl) (fun x=>by kernel_rfl)
def jV(m:M.aa->M.aa->Option (Bool)):aK K:={f:=93,sh:=⟨[.el U.Type,.el U.Type],[]⟩,R:=Bool,run:=fun x=>m x.1.1 x.1.2.1,dflt:=default,out:=fun r=>(Sh.enc D (.bool) r,aB.encs D [] ())}
def Ja(y:(Bool)⊕(Unit)){R:Type}(k:Ex->List (AV K)->List (Ob K)->R):R:=match y with
 |.inl a0=>k Ex.ret (aw.aV D ⟨[.bool],[]⟩ ((a0,()),())) (aw.aX D ⟨[.bool],[]⟩ ((a0,()),()))
 |.inr (a1)=>k (Ex.exit 0) (aw.aV D ⟨[.any],[]⟩ (((),()),())) (aw.aX D ⟨[.any],[]⟩ (((),()),()))
def WA:List (bA K ((Bool)⊕(Unit))):=[⟨Ex.ret,⟨[.bool],[]⟩,fun x=>.inl x.1.1⟩,⟨(Ex.exit 0),⟨[.any],[]⟩,fun x=>.inr (())⟩]
def Jb(cP:M.aa->M.aa->Option (Bool)):bo K:=bD D false 27 0 [0,1,5] [4] ⟨[.ai U.Type,.ai U.Type,.int .i64],[]⟩ (fun x=>M.pE cP x.1.1 x.1.2.1 al x.1.2.2.1) Ja
def Be(m:(List M.aa)->(List M.aa)->Option (Bool)):aK K:={f:=121,sh:=⟨[.ai U.Type,.ai U.Type],[]⟩,R:=Bool,run:=fun x=>m x.1.1 x.1.2.1,dflt:=default,out:=fun r=>(Sh.enc D (.bool) r,aB.encs D [] ())}
def xM(cP:M.aa->M.aa->Option (Bool)):Cx K:={aP with mode:=aO .plain [(93,.plain)],call:=callOf D [jV cP],loop:=aM [(4,Jb cP)]}
theorem Jc(cP:M.aa->M.aa->Option (Bool))(ky:(jV cP).Ok D Tryz.prog):aI (xM cP):=aQ aj _ (an ky (aA))
theorem WB(cP:M.aa->M.aa->Option (Bool))(ky:(jV cP).Ok D Tryz.prog):bq (xM cP) (bw (bB Tryz.f121) 0) (Jb cP):=
 bI (cx:=xM cP) (n:=27) (n0:=0) (ins:=[0,1,5]) (outs:=[4]) (sh:=⟨[.ai U.Type,.ai U.Type,.int .i64],[]⟩) (run:=fun n x=>M.pE cP x.1.1 x.1.2.1 n x.1.2.2.1) (bz:=WA) (out:=Ja) aj (Jc cP ky) az (aN (by kernel_rfl)) (fun _=>rfl) (fun m x=>by kernel_rfl) (an ⟨cr,fun _ _ _=>rfl⟩ (an ⟨bJ,fun _ _ _=>rfl⟩ (aA))) false al
theorem WC(cP:M.aa->M.aa->Option (Bool))(ky:(jV cP).Ok D Tryz.prog):(Be (M.r5 cP)).Ok D Tryz.prog:=
 aR (cx:=xM cP) (c:=Be (M.r5 cP)) (fz:=true) (fn:=Tryz.f121) aj (Jc cP ky) az ⟨Tryz.func121,by kernel_rfl⟩ (aS (bN 1 (by kernel_rfl) (bT (.mk (by kernel_rfl) (WB cP ky))))) ⟨⟨[.bool],[]⟩,fun x=>x.1.1⟩ (fun x=>rfl) (fun x=>by kernel_rfl)
def Jd(cP:M.aa->M.aa->Option (Bool)):Cx K:={aP with mode:=aO .plain [(120,.plain),(121,.plain)],call:=callOf D [Bd M.rZ,Be (M.r5 cP)],loop:=aM []}
theorem WE(cP:M.aa->M.aa->Option (Bool))(ky:(jV cP).Ok D Tryz.prog):aI (Jd cP):=aQ aj _ (an Wy (an (WC cP ky) (aA)))
theorem WG(cP:M.aa->M.aa->Option (Bool))(ky:(jV cP).Ok D Tryz.prog):(jV (M.vk cP)).Ok D Tryz.prog:=
 aR (cx:=Jd cP) (c:=jV (M.vk cP)) (fz:=true) (fn:=Tryz.f93) aj (WE cP ky) az ⟨Tryz.func93,by kernel_rfl⟩ (aS (aN (by kernel_rfl))) ⟨⟨[.bool],[]⟩,fun x=>x.1.1⟩ (fun x=>rfl) (fun x=>by kernel_rfl)
theorem Je:∀n,(jV (M.pF n)).Ok D Tryz.prog
 |0=>gj fun _=>rfl
 |n+1=>WG (M.pF n) (Je n)
theorem WH:(jV (M.xN)).Ok D Tryz.prog:=Je al
def lQ(m:M.aa->Int->Option (Int×Int)):aK K:={f:=123,sh:=⟨[.el U.Type,.int .i64],[]⟩,R:=Int×Int,run:=fun x=>m x.1.1 x.1.2.1,dflt:=default,out:=fun r=>(Sh.enc D (.bG [.int .i64,.int .i64]) (r.1,(r.2,())),aB.encs D [] ())}
def Bf(m:Int->Int->Option (Int)):aK K:={f:=140,sh:=⟨[.int .i64,.int .i64],[]⟩,R:=Int,run:=fun x=>m x.1.1 x.1.2.1,dflt:=default,out:=fun r=>(Sh.enc D (.int .i64) r,aB.encs D [] ())}
def Jf:Cx K:={aP with mode:=aO .plain [],call:=callOf D [],loop:=aM []}
theorem WI:aI (Jf):=aQ aj _ (aA)
theorem WJ:(Bf (M.ng)).Ok D Tryz.prog:=
 aR (cx:=Jf) (c:=Bf (M.ng)) (fz:=true) (fn:=Tryz.f140) aj (WI) az ⟨Tryz.func140,by kernel_rfl⟩ (aS (aN (by kernel_rfl))) ⟨⟨[.int .i64],[]⟩,fun x=>x.1.1⟩ (fun x=>rfl) (fun x=>by kernel_rfl)
def Jg(y:(Int×Int)⊕(Int×Int)){R:Type}(k:Ex->List (AV K)->List (Ob K)->R):R:=match y with
 |.inl a0=>k Ex.ret (aw.aV D ⟨[.any,.any,.int .i64,.int .i64],[.dead]⟩ (((),((),(a0.1,(a0.2,())))),((),()))) (aw.aX D ⟨[.any,.any,.int .i64,.int .i64],[.dead]⟩ (((),((),(a0.1,(a0.2,())))),((),())))
 |.inr (a1)=>k (Ex.exit 0) (aw.aV D ⟨[.int .i64,.int .i64,.any,.any],[.dead]⟩ ((a1.1,(a1.2,((),((),())))),((),()))) (aw.aX D ⟨[.int .i64,.int .i64,.any,.any],[.dead]⟩ ((a1.1,(a1.2,((),((),())))),((),())))
def WL:List (bA K ((Int×Int)⊕(Int×Int))):=[⟨Ex.ret,⟨[.any,.any,.int .i64,.int .i64],[.dead]⟩,fun x=>.inl (x.1.2.2.1,x.1.2.2.2.1)⟩,⟨(Ex.exit 0),⟨[.int .i64,.int .i64,.any,.any],[.dead]⟩,fun x=>.inr ((x.1.1,x.1.2.1))⟩]
def Jh(dR:M.aa->Int->Option (Int×Int)):bo K:=bD D false 48 1 [1,2,6,7,8] [6,7,4,5] ⟨[.int .i64,.ptr 0 0,.int .i64,.int .i64,.int .i64],[.el U.Type]⟩ (fun x=>M.ni dR x.1.1 al x.1.2.2.1 x.1.2.2.2.1 x.1.2.2.2.2.1 x.2.1) Jg
def xO(dR:M.aa->Int->Option (Int×Int)):Cx K:={aP with mode:=aO .plain [(123,.plain),(140,.plain)],call:=callOf D [lQ dR,Bf M.ng],loop:=aM [(6,Jh dR)]}
theorem Ji(dR:M.aa->Int->Option (Int×Int))(r6:(lQ dR).Ok D Tryz.prog):aI (xO dR):=aQ aj _ (an r6 (an WJ (aA)))
theorem WM(dR:M.aa->Int->Option (Int×Int))(r6:(lQ dR).Ok D Tryz.prog):bq (xO dR) (bw (bB Tryz.f123) 0) (Jh dR):=
 bI (cx:=xO dR) (n:=48) (n0:=1) (ins:=[1,2,6,7,8]) (outs:=[6,7,4,5]) (sh:=⟨[.int .i64,.ptr 0 0,.int .i64,.int .i64,.int .i64],[.el U.Type]⟩) (run:=fun n x=>M.ni dR x.1.1 n x.1.2.2.1 x.1.2.2.2.1 x.1.2.2.2.2.1 x.2.1) (bz:=WL) (out:=Jg) aj (Ji dR r6) az (aN (by kernel_rfl)) (fun _=>rfl) (fun m x=>by kernel_rfl) (an ⟨cr,fun _ _ _=>rfl⟩ (an ⟨bJ,fun _ _ _=>rfl⟩ (aA))) false al
theorem WN(dR:M.aa->Int->Option (Int×Int))(r6:(lQ dR).Ok D Tryz.prog):(lQ (M.vl dR)).Ok D Tryz.prog:=
 aR (cx:=xO dR) (c:=lQ (M.vl dR)) (fz:=true) (fn:=Tryz.f123) aj (Ji dR r6) az ⟨Tryz.func123,by kernel_rfl⟩ (aS (bN 1 (by kernel_rfl) (bT (.mk (by kernel_rfl) (WM dR r6))))) ⟨⟨[.bG [.int .i64,.int .i64]],[]⟩,fun x=>(x.1.1.1,x.1.1.2.1)⟩ (fun x=>rfl) (fun x=>by kernel_rfl)
theorem Jj:∀n,(lQ (M.nj n)).Ok D Tryz.prog
 |0=>gj fun _=>rfl
 |n+1=>WN (M.nj n) (Jj n)
theorem WO:(lQ (M.xP)).Ok D Tryz.prog:=Jj al
def jW(m:Int->Int->Int->Option (Bool)):aK K:={f:=43,sh:=⟨[.int .i64,.int .i64,.int .i64],[]⟩,R:=Bool,run:=fun x=>m x.1.1 x.1.2.1 x.1.2.2.1,dflt:=default,out:=fun r=>(Sh.enc D (.bool) r,aB.encs D [] ())}
def Jk:Cx K:={aP with mode:=aO .plain [],call:=callOf D [],loop:=aM []}
theorem WQ:aI (Jk):=aQ aj _ (aA)
theorem lR:(jW (M.jX)).Ok D Tryz.prog:=
 aR (cx:=Jk) (c:=jW (M.jX)) (fz:=true) (fn:=Tryz.f43) aj (WQ) az ⟨Tryz.func43,by kernel_rfl⟩ (aS (aN (by kernel_rfl))) ⟨⟨[.bool],[]⟩,fun x=>x.1.1⟩ (fun x=>rfl) (fun x=>by kernel_rfl)
def Jl(y:(Bool)⊕(Unit)){R:Type}(k:Ex->List (AV K)->List (Ob K)->R):R:=match y with
 |.inl a0=>k Ex.ret (aw.aV D ⟨[.bool],[]⟩ ((a0,()),())) (aw.aX D ⟨[.bool],[]⟩ ((a0,()),()))
 |.inr (a1)=>k (Ex.exit 0) (aw.aV D ⟨[.any],[]⟩ (((),()),())) (aw.aX D ⟨[.any],[]⟩ (((),()),()))
def WR:List (bA K ((Bool)⊕(Unit))):=[⟨Ex.ret,⟨[.bool],[]⟩,fun x=>.inl x.1.1⟩,⟨(Ex.exit 0),⟨[.any],[]⟩,fun x=>.inr (())⟩]
def Jm:bo K:=bD D false 69 0 [0,3] [2] ⟨[.str,.int .i64],[]⟩ (fun x=>M.pG x.1.1 al x.1.2.1) Jl
def xQ(m:(List UInt8)->Option (Bool)):aK K:={f:=156,sh:=⟨[.str],[]⟩,R:=Bool,run:=fun x=>m x.1.1,dflt:=default,out:=fun r=>(Sh.enc D (.bool) r,aB.encs D [] ())}
def xR:Cx K:={aP with mode:=aO .plain [],call:=callOf D [],loop:=aM [(4,Jm)]}
theorem Jn:aI (xR):=aQ aj _ (aA)
theorem WS:bq (xR) (bw (bB Tryz.f156) 0) (Jm):=
 bI (cx:=xR) (n:=69) (n0:=0) (ins:=[0,3]) (outs:=[2]) (sh:=⟨[.str,.int .i64],[]⟩) (run:=fun n x=>M.pG x.1.1 n x.1.2.1) (bz:=WR) (out:=Jl) aj (Jn) az (aN (by kernel_rfl)) (fun _=>rfl) (fun m x=>by kernel_rfl) (an ⟨cr,fun _ _ _=>rfl⟩ (an ⟨bJ,fun _ _ _=>rfl⟩ (aA))) false al
theorem Jo:(xQ (M.nk)).Ok D Tryz.prog:=
 aR (cx:=xR) (c:=xQ (M.nk)) (fz:=true) (fn:=Tryz.f156) aj (Jn) az ⟨Tryz.func156,by kernel_rfl⟩ (aS (bN 1 (by kernel_rfl) (bT (.mk (by kernel_rfl) (WS))))) ⟨⟨[.bool],[]⟩,fun x=>x.1.1⟩ (fun x=>rfl) (fun x=>by kernel_rfl)
def Jp(y:(Bool)⊕((List (List UInt8))×Int)){R:Type}(k:Ex->List (AV K)->List (Ob K)->R):R:=match y with
 |.inl a0=>k Ex.ret (aw.aV D ⟨[.any,.any,.bool],[]⟩ (((),((),(a0,()))),())) (aw.aX D ⟨[.any,.any,.bool],[]⟩ (((),((),(a0,()))),()))
 |.inr (a1)=>k (Ex.exit 2) (aw.aV D ⟨[.ai U.str,.int .i64,.any],[]⟩ ((a1.1,(a1.2,((),()))),())) (aw.aX D ⟨[.ai U.str,.int .i64,.any],[]⟩ ((a1.1,(a1.2,((),()))),()))
def WT:List (bA K ((Bool)⊕((List (List UInt8))×Int))):=[⟨Ex.ret,⟨[.any,.any,.bool],[]⟩,fun x=>.inl x.1.2.2.1⟩,⟨(Ex.exit 2),⟨[.ai U.str,.int .i64,.any],[]⟩,fun x=>.inr ((x.1.1,x.1.2.1))⟩]
def Jq:bo K:=bD D false 39 0 [0,3,4] [0,3,2] ⟨[.ai U.str,.int .i64,.int .i64],[]⟩ (fun x=>M.nq x.1.1 x.1.2.1 al x.1.2.2.1) Jp
def Jr(y:(Bool)⊕(Unit)){R:Type}(k:Ex->List (AV K)->List (Ob K)->R):R:=match y with
 |.inl a0=>k Ex.ret (aw.aV D ⟨[.bool],[]⟩ ((a0,()),())) (aw.aX D ⟨[.bool],[]⟩ ((a0,()),()))
 |.inr (a1)=>k (Ex.exit 0) (aw.aV D ⟨[.any],[]⟩ (((),()),())) (aw.aX D ⟨[.any],[]⟩ (((),()),()))
def WU:List (bA K ((Bool)⊕(Unit))):=[⟨Ex.ret,⟨[.bool],[]⟩,fun x=>.inl x.1.1⟩,⟨(Ex.exit 0),⟨[.any],[]⟩,fun x=>.inr (())⟩]
def Js:bo K:=bD D false 39 0 [0,3] [2] ⟨[.ai U.str,.int .i64],[]⟩ (fun x=>M.lS al x.1.1 x.1.2.1) Jr
def Bg(m:(List (List UInt8))->Option (Bool)):aK K:={f:=157,sh:=⟨[.ai U.str],[]⟩,R:=Bool,run:=fun x=>m x.1.1,dflt:=default,out:=fun r=>(Sh.enc D (.bool) r,aB.encs D [] ())}
def r7:Cx K:={aP with mode:=aO .plain [(156,.plain)],call:=callOf D [xQ M.nk],loop:=aM [(9,Jq),(4,Js)]}
theorem Bh:aI (r7):=aQ aj _ (an Jo (aA))
theorem WV:bq (r7) (bw (bw (bB Tryz.f157) 0) 0) (Jq):=
 bI (cx:=r7) (n:=39) (n0:=0) (ins:=[0,3,4]) (outs:=[0,3,2]) (sh:=⟨[.ai U.str,.int .i64,.int .i64],[]⟩) (run:=fun n x=>M.nq x.1.1 x.1.2.1 n x.1.2.2.1) (bz:=WT) (out:=Jp) aj (Bh) az (aN (by kernel_rfl)) (fun _=>rfl) (fun m x=>by kernel_rfl) (an ⟨cr,fun _ _ _=>rfl⟩ (an ⟨bJ,fun _ _ _=>rfl⟩ (aA))) false al
theorem WW:bq (r7) (bw (bB Tryz.f157) 0) (Js):=
 bI (cx:=r7) (n:=39) (n0:=0) (ins:=[0,3]) (outs:=[2]) (sh:=⟨[.ai U.str,.int .i64],[]⟩) (run:=fun n x=>M.lS n x.1.1 x.1.2.1) (bz:=WU) (out:=Jr) aj (Bh) az (bN 1 (by kernel_rfl) (bT (.mk (by kernel_rfl) (WV)))) (fun _=>rfl) (fun m x=>by kernel_rfl) (an ⟨cr,fun _ _ _=>rfl⟩ (an ⟨bJ,fun _ _ _=>rfl⟩ (aA))) false al
theorem WX:(Bg (M.sc)).Ok D Tryz.prog:=
 aR (cx:=r7) (c:=Bg (M.sc)) (fz:=true) (fn:=Tryz.f157) aj (Bh) az ⟨Tryz.func157,by kernel_rfl⟩ (aS (bN 1 (by kernel_rfl) (bT (.mk (by kernel_rfl) (WW))))) ⟨⟨[.bool],[]⟩,fun x=>x.1.1⟩ (fun x=>rfl) (fun x=>by kernel_rfl)
def Jt(y:(Bool)⊕(Unit)){R:Type}(k:Ex->List (AV K)->List (Ob K)->R):R:=match y with
 |.inl a0=>k Ex.ret (aw.aV D ⟨[.bool],[.dead]⟩ ((a0,()),((),()))) (aw.aX D ⟨[.bool],[.dead]⟩ ((a0,()),((),())))
 |.inr (a1)=>k (Ex.exit 0) (aw.aV D ⟨[.any],[.dead]⟩ (((),()),((),()))) (aw.aX D ⟨[.any],[.dead]⟩ (((),()),((),())))
def WY:List (bA K ((Bool)⊕(Unit))):=[⟨Ex.ret,⟨[.bool],[.dead]⟩,fun x=>.inl x.1.1⟩,⟨(Ex.exit 0),⟨[.any],[.dead]⟩,fun x=>.inr (())⟩]
def Ju:bo K:=bD D false 18 1 [1,3] [2] ⟨[.ptr 0 0,.int .i64],[.el U.Type]⟩ (fun x=>M.kz al x.1.2.1 x.2.1) Jt
def Bi(m:M.aa->Option (Bool)):aK K:={f:=158,sh:=⟨[.el U.Type],[]⟩,R:=Bool,run:=fun x=>m x.1.1,dflt:=default,out:=fun r=>(Sh.enc D (.bool) r,aB.encs D [] ())}
def xU:Cx K:={aP with mode:=aO .plain [],call:=callOf D [],loop:=aM [(2,Ju)]}
theorem Jv:aI (xU):=aQ aj _ (aA)
theorem WZ:bq (xU) (bw (bB Tryz.f158) 0) (Ju):=
 bI (cx:=xU) (n:=18) (n0:=1) (ins:=[1,3]) (outs:=[2]) (sh:=⟨[.ptr 0 0,.int .i64],[.el U.Type]⟩) (run:=fun n x=>M.kz n x.1.2.1 x.2.1) (bz:=WY) (out:=Jt) aj (Jv) az (aN (by kernel_rfl)) (fun _=>rfl) (fun m x=>by kernel_rfl) (an ⟨cr,fun _ _ _=>rfl⟩ (an ⟨bJ,fun _ _ _=>rfl⟩ (aA))) false al
theorem W0:(Bi (M.nr)).Ok D Tryz.prog:=
 aR (cx:=xU) (c:=Bi (M.nr)) (fz:=true) (fn:=Tryz.f158) aj (Jv) az ⟨Tryz.func158,by kernel_rfl⟩ (aS (bN 1 (by kernel_rfl) (bT (.mk (by kernel_rfl) (WZ))))) ⟨⟨[.bool],[]⟩,fun x=>x.1.1⟩ (fun x=>rfl) (fun x=>by kernel_rfl)
def kA(m:M.aa->Int->Int->Option (Bool)):aK K:={f:=100,sh:=⟨[.el U.Type,.int .i64,.int .i64],[]⟩,R:=Bool,run:=fun x=>m x.1.1 x.1.2.1 x.1.2.2.1,dflt:=default,out:=fun r=>(Sh.enc D (.bool) r,aB.encs D [] ())}
def Jw(y:(Bool)⊕(Unit)){R:Type}(k:Ex->List (AV K)->List (Ob K)->R):R:=match y with
 |.inl a0=>k Ex.ret (aw.aV D ⟨[.bool],[.dead]⟩ ((a0,()),((),()))) (aw.aX D ⟨[.bool],[.dead]⟩ ((a0,()),((),())))
 |.inr (a1)=>k (Ex.exit 0) (aw.aV D ⟨[.any],[.dead]⟩ (((),()),((),()))) (aw.aX D ⟨[.any],[.dead]⟩ (((),()),((),())))
def W1:List (bA K ((Bool)⊕(Unit))):=[⟨Ex.ret,⟨[.bool],[.dead]⟩,fun x=>.inl x.1.1⟩,⟨(Ex.exit 0),⟨[.any],[.dead]⟩,fun x=>.inr (())⟩]
def Jy(dS:M.aa->Int->Int->Option (Bool)):bo K:=bD D false 28 1 [1,2,3,7] [6] ⟨[.int .i64,.int .i64,.ptr 0 0,.int .i64],[.el U.Type]⟩ (fun x=>M.kB dS x.1.1 x.1.2.1 al x.1.2.2.2.1 x.2.1) Jw
def xW(dS:M.aa->Int->Int->Option (Bool)):Cx K:={aP with mode:=aO .plain [(43,.plain),(100,.plain)],call:=callOf D [jW M.jX,kA dS],loop:=aM [(4,Jy dS)]}
theorem Jz(dS:M.aa->Int->Int->Option (Bool))(sd:(kA dS).Ok D Tryz.prog):aI (xW dS):=aQ aj _ (an lR (an sd (aA)))
theorem W2(dS:M.aa->Int->Int->Option (Bool))(sd:(kA dS).Ok D Tryz.prog):bq (xW dS) (bw (bB Tryz.f100) 0) (Jy dS):=
 bI (cx:=xW dS) (n:=28) (n0:=1) (ins:=[1,2,3,7]) (outs:=[6]) (sh:=⟨[.int .i64,.int .i64,.ptr 0 0,.int .i64],[.el U.Type]⟩) (run:=fun n x=>M.kB dS x.1.1 x.1.2.1 n x.1.2.2.2.1 x.2.1) (bz:=W1) (out:=Jw) aj (Jz dS sd) az (aN (by kernel_rfl)) (fun _=>rfl) (fun m x=>by kernel_rfl) (an ⟨cr,fun _ _ _=>rfl⟩ (an ⟨bJ,fun _ _ _=>rfl⟩ (aA))) false al
theorem W4(dS:M.aa->Int->Int->Option (Bool))(sd:(kA dS).Ok D Tryz.prog):(kA (M.vm dS)).Ok D Tryz.prog:=
 aR (cx:=xW dS) (c:=kA (M.vm dS)) (fz:=true) (fn:=Tryz.f100) aj (Jz dS sd) az ⟨Tryz.func100,by kernel_rfl⟩ (aS (bN 1 (by kernel_rfl) (bT (.mk (by kernel_rfl) (W2 dS sd))))) ⟨⟨[.bool],[]⟩,fun x=>x.1.1⟩ (fun x=>rfl) (fun x=>by kernel_rfl)
theorem JA:∀n,(kA (M.jY n)).Ok D Tryz.prog
 |0=>gj fun _=>rfl
 |n+1=>W4 (M.jY n) (JA n)
theorem JB:(kA (M.kC)).Ok D Tryz.prog:=JA al
def Bj(m:M.aa->Option (Bool)):aK K:={f:=141,sh:=⟨[.el U.Type],[]⟩,R:=Bool,run:=fun x=>m x.1.1,dflt:=default,out:=fun r=>(Sh.enc D (.bool) r,aB.encs D [] ())}
def JC:Cx K:={aP with mode:=aO .plain [(43,.plain),(156,.plain),(157,.plain),(158,.plain),(100,.plain)],call:=callOf D [jW M.jX,xQ M.nk,Bg M.sc,Bi M.nr,kA M.kC],loop:=aM []}
theorem W5:aI (JC):=aQ aj _ (an lR (an Jo (an WX (an W0 (an JB (aA))))))
theorem W6:(Bj (M.se)).Ok D Tryz.prog:=
 aR (cx:=JC) (c:=Bj (M.se)) (fz:=true) (fn:=Tryz.f141) aj (W5) az ⟨Tryz.func141,by kernel_rfl⟩ (aS (aN (by kernel_rfl))) ⟨⟨[.bool],[]⟩,fun x=>x.1.1⟩ (fun x=>rfl) (fun x=>by kernel_rfl)
def lT(m:M.aa->Option (Bool)):aK K:={f:=124,sh:=⟨[.el U.Type],[]⟩,R:=Bool,run:=fun x=>m x.1.1,dflt:=default,out:=fun r=>(Sh.enc D (.bool) r,aB.encs D [] ())}
def JD(y:(Bool)⊕(Unit)){R:Type}(k:Ex->List (AV K)->List (Ob K)->R):R:=match y with
 |.inl a0=>k Ex.ret (aw.aV D ⟨[.bool],[.dead]⟩ ((a0,()),((),()))) (aw.aX D ⟨[.bool],[.dead]⟩ ((a0,()),((),())))
 |.inr (a1)=>k (Ex.exit 0) (aw.aV D ⟨[.any],[.dead]⟩ (((),()),((),()))) (aw.aX D ⟨[.any],[.dead]⟩ (((),()),((),())))
def W7:List (bA K ((Bool)⊕(Unit))):=[⟨Ex.ret,⟨[.bool],[.dead]⟩,fun x=>.inl x.1.1⟩,⟨(Ex.exit 0),⟨[.any],[.dead]⟩,fun x=>.inr (())⟩]
def JE(dU:M.aa->Option (Bool)):bo K:=bD D false 21 1 [1,3] [2] ⟨[.ptr 0 0,.int .i64],[.el U.Type]⟩ (fun x=>M.kD dU al x.1.2.1 x.2.1) JD
def xX(dU:M.aa->Option (Bool)):Cx K:={aP with mode:=aO .plain [(141,.plain),(124,.plain)],call:=callOf D [Bj M.se,lT dU],loop:=aM [(4,JE dU)]}
theorem JF(dU:M.aa->Option (Bool))(sf:(lT dU).Ok D Tryz.prog):aI (xX dU):=aQ aj _ (an W6 (an sf (aA)))
theorem W8(dU:M.aa->Option (Bool))(sf:(lT dU).Ok D Tryz.prog):bq (xX dU) (bw (bB Tryz.f124) 0) (JE dU):=
 bI (cx:=xX dU) (n:=21) (n0:=1) (ins:=[1,3]) (outs:=[2]) (sh:=⟨[.ptr 0 0,.int .i64],[.el U.Type]⟩) (run:=fun n x=>M.kD dU n x.1.2.1 x.2.1) (bz:=W7) (out:=JD) aj (JF dU sf) az (aN (by kernel_rfl)) (fun _=>rfl) (fun m x=>by kernel_rfl) (an ⟨cr,fun _ _ _=>rfl⟩ (an ⟨bJ,fun _ _ _=>rfl⟩ (aA))) false al
theorem W9(dU:M.aa->Option (Bool))(sf:(lT dU).Ok D Tryz.prog):(lT (M.vn dU)).Ok D Tryz.prog:=
 aR (cx:=xX dU) (c:=lT (M.vn dU)) (fz:=true) (fn:=Tryz.f124) aj (JF dU sf) az ⟨Tryz.func124,by kernel_rfl⟩ (aS (bN 1 (by kernel_rfl) (bT (.mk (by kernel_rfl) (W8 dU sf))))) ⟨⟨[.bool],[]⟩,fun x=>x.1.1⟩ (fun x=>rfl) (fun x=>by kernel_rfl)
theorem JG:∀n,(lT (M.kE n)).Ok D Tryz.prog
 |0=>gj fun _=>rfl
 |n+1=>W9 (M.kE n) (JG n)
theorem Xa:(lT (M.xY)).Ok D Tryz.prog:=JG al
def lU(m:M.aa->Int->Option (Int)):aK K:={f:=128,sh:=⟨[.el U.Type,.int .i64],[]⟩,R:=Int,run:=fun x=>m x.1.1 x.1.2.1,dflt:=default,out:=fun r=>(Sh.enc D (.int .i64) r,aB.encs D [] ())}
def JH(y:Int){R:Type}(k:Ex->List (AV K)->List (Ob K)->R):R:=match y with
 |a0=>k (Ex.exit 0) (aw.aV D ⟨[.int .i64],[]⟩ ((a0,()),())) (aw.aX D ⟨[.int .i64],[]⟩ ((a0,()),()))
def Xb:List (bA K (Int)):=[⟨(Ex.exit 0),⟨[.int .i64],[]⟩,fun x=>x.1.1⟩]
def JI(d6:M.aa->Int->Option (Int)):bo K:=bD D false 26 0 [1,5,11,12,13] [5] ⟨[.int .i64,.int .i64,.ai U.Type,.int .i64,.int .i64],[]⟩ (fun x=>M.ns d6 x.1.1 x.1.2.2.1 x.1.2.2.2.1 al x.1.2.1 x.1.2.2.2.2.1) JH
def xZ(d6:M.aa->Int->Option (Int)):Cx K:={aP with mode:=aO .plain [(128,.plain)],call:=callOf D [lU d6],loop:=aM [(5,JI d6)]}
theorem JJ(d6:M.aa->Int->Option (Int))(sg:(lU d6).Ok D Tryz.prog):aI (xZ d6):=aQ aj _ (an sg (aA))
theorem Xc(d6:M.aa->Int->Option (Int))(sg:(lU d6).Ok D Tryz.prog):bq (xZ d6) (bw (bB Tryz.f128) 0) (JI d6):=
 bI (cx:=xZ d6) (n:=26) (n0:=0) (ins:=[1,5,11,12,13]) (outs:=[5]) (sh:=⟨[.int .i64,.int .i64,.ai U.Type,.int .i64,.int .i64],[]⟩) (run:=fun n x=>M.ns d6 x.1.1 x.1.2.2.1 x.1.2.2.2.1 n x.1.2.1 x.1.2.2.2.2.1) (bz:=Xb) (out:=JH) aj (JJ d6 sg) az (aN (by kernel_rfl)) (fun _=>rfl) (fun m x=>by kernel_rfl) (an ⟨bJ,fun _ _ _=>rfl⟩ (aA)) false al
theorem Xd(d6:M.aa->Int->Option (Int))(sg:(lU d6).Ok D Tryz.prog):(lU (M.vo d6)).Ok D Tryz.prog:=
 aR (cx:=xZ d6) (c:=lU (M.vo d6)) (fz:=true) (fn:=Tryz.f128) aj (JJ d6 sg) az ⟨Tryz.func128,by kernel_rfl⟩ (aS (bN 1 (by kernel_rfl) (bT (.mk (by kernel_rfl) (Xc d6 sg))))) ⟨⟨[.int .i64],[]⟩,fun x=>x.1.1⟩ (fun x=>rfl) (fun x=>by kernel_rfl)
theorem JK:∀n,(lU (M.nt n)).Ok D Tryz.prog
 |0=>gj fun _=>rfl
 |n+1=>Xd (M.nt n) (JK n)
theorem Xe:(lU (M.x3)).Ok D Tryz.prog:=JK al
def lV(m:M.aa->Option (Int)):aK K:={f:=129,sh:=⟨[.el U.Type],[]⟩,R:=Int,run:=fun x=>m x.1.1,dflt:=default,out:=fun r=>(Sh.enc D (.int .i64) r,aB.encs D [] ())}
def JL(y:Int){R:Type}(k:Ex->List (AV K)->List (Ob K)->R):R:=match y with
 |a0=>k (Ex.exit 0) (aw.aV D ⟨[.int .i64],[]⟩ ((a0,()),())) (aw.aX D ⟨[.int .i64],[]⟩ ((a0,()),()))
def Xf:List (bA K (Int)):=[⟨(Ex.exit 0),⟨[.int .i64],[]⟩,fun x=>x.1.1⟩]
def JM(ed:M.aa->Option (Int)):bo K:=bD D false 19 0 [3,7,8,9] [3] ⟨[.int .i64,.ai U.Type,.int .i64,.int .i64],[]⟩ (fun x=>M.nu ed x.1.2.1 x.1.2.2.1 al x.1.1 x.1.2.2.2.1) JL
def x4(ed:M.aa->Option (Int)):Cx K:={aP with mode:=aO .plain [(129,.plain)],call:=callOf D [lV ed],loop:=aM [(3,JM ed)]}
theorem JO(ed:M.aa->Option (Int))(si:(lV ed).Ok D Tryz.prog):aI (x4 ed):=aQ aj _ (an si (aA))
theorem Xg(ed:M.aa->Option (Int))(si:(lV ed).Ok D Tryz.prog):bq (x4 ed) (bw (bB Tryz.f129) 0) (JM ed):=
 bI (cx:=x4 ed) (n:=19) (n0:=0) (ins:=[3,7,8,9]) (outs:=[3]) (sh:=⟨[.int .i64,.ai U.Type,.int .i64,.int .i64],[]⟩) (run:=fun n x=>M.nu ed x.1.2.1 x.1.2.2.1 n x.1.1 x.1.2.2.2.1) (bz:=Xf) (out:=JL) aj (JO ed si) az (aN (by kernel_rfl)) (fun _=>rfl) (fun m x=>by kernel_rfl) (an ⟨bJ,fun _ _ _=>rfl⟩ (aA)) false al
theorem Xh(ed:M.aa->Option (Int))(si:(lV ed).Ok D Tryz.prog):(lV (M.vp ed)).Ok D Tryz.prog:=
 aR (cx:=x4 ed) (c:=lV (M.vp ed)) (fz:=true) (fn:=Tryz.f129) aj (JO ed si) az ⟨Tryz.func129,by kernel_rfl⟩ (aS (bN 1 (by kernel_rfl) (bT (.mk (by kernel_rfl) (Xg ed si))))) ⟨⟨[.int .i64],[]⟩,fun x=>x.1.1⟩ (fun x=>rfl) (fun x=>by kernel_rfl)
theorem JP:∀n,(lV (M.nw n)).Ok D Tryz.prog
 |0=>gj fun _=>rfl
 |n+1=>Xh (M.nw n) (JP n)
theorem Xi:(lV (M.x5)).Ok D Tryz.prog:=JP al
def g9(m:M.aa->Option (Bool)):aK K:={f:=130,sh:=⟨[.el U.Type],[]⟩,R:=Bool,run:=fun x=>m x.1.1,dflt:=default,out:=fun r=>(Sh.enc D (.bool) r,aB.encs D [] ())}
def Bl(m:M.aa->Option (Bool)):aK K:={f:=148,sh:=⟨[.el U.Type],[]⟩,R:=Bool,run:=fun x=>m x.1.1,dflt:=default,out:=fun r=>(Sh.enc D (.bool) r,aB.encs D [] ())}
def JQ(bV:M.aa->Option (Bool)):Cx K:={aP with mode:=aO .plain [(130,.plain)],call:=callOf D [g9 bV],loop:=aM []}
theorem Xj(bV:M.aa->Option (Bool))(fP:(g9 bV).Ok D Tryz.prog):aI (JQ bV):=aQ aj _ (an fP (aA))
theorem Xk(bV:M.aa->Option (Bool))(fP:(g9 bV).Ok D Tryz.prog):(Bl (M.sj bV)).Ok D Tryz.prog:=
 aR (cx:=JQ bV) (c:=Bl (M.sj bV)) (fz:=true) (fn:=Tryz.f148) aj (Xj bV fP) az ⟨Tryz.func148,by kernel_rfl⟩ (aS (aN (by kernel_rfl))) ⟨⟨[.bool],[]⟩,fun x=>x.1.1⟩ (fun x=>rfl) (fun x=>by kernel_rfl)
def JR(y:(Int)⊕(Unit)){R:Type}(k:Ex->List (AV K)->List (Ob K)->R):R:=match y with
 |.inl a0=>k Ex.ret (aw.aV D ⟨[.int .i64],[]⟩ ((a0,()),())) (aw.aX D ⟨[.int .i64],[]⟩ ((a0,()),()))
 |.inr (a1)=>k (Ex.exit 0) (aw.aV D ⟨[.any],[]⟩ (((),()),())) (aw.aX D ⟨[.any],[]⟩ (((),()),()))
def Xl:List (bA K ((Int)⊕(Unit))):=[⟨Ex.ret,⟨[.int .i64],[]⟩,fun x=>.inl x.1.1⟩,⟨(Ex.exit 0),⟨[.any],[]⟩,fun x=>.inr (())⟩]
def JS(bV:M.aa->Option (Bool)):bo K:=bD D false 19 0 [0,1,7,8] [4] ⟨[.ai U.Type,.fn 148 [],.int .i64,.int .i64],[]⟩ (fun x=>M.pH bV x.1.1 x.1.2.2.1 al x.1.2.2.2.1) JR
def Bm(m:(List M.aa)->Option (Int)):aK K:={f:=153,sh:=⟨[.ai U.Type,.fn 148 []],[]⟩,R:=Int,run:=fun x=>m x.1.1,dflt:=default,out:=fun r=>(Sh.enc D (.int .i64) r,aB.encs D [] ())}
def x6(bV:M.aa->Option (Bool)):Cx K:={aP with mode:=aO .plain [(148,.plain)],call:=callOf D [Bl (M.sj bV)],loop:=aM [(2,JS bV)]}
theorem JU(bV:M.aa->Option (Bool))(fP:(g9 bV).Ok D Tryz.prog):aI (x6 bV):=aQ aj _ (an (Xk bV fP) (aA))
theorem Xm(bV:M.aa->Option (Bool))(fP:(g9 bV).Ok D Tryz.prog):bq (x6 bV) (bw (bB Tryz.f153) 0) (JS bV):=
 bI (cx:=x6 bV) (n:=19) (n0:=0) (ins:=[0,1,7,8]) (outs:=[4]) (sh:=⟨[.ai U.Type,.fn 148 [],.int .i64,.int .i64],[]⟩) (run:=fun n x=>M.pH bV x.1.1 x.1.2.2.1 n x.1.2.2.2.1) (bz:=Xl) (out:=JR) aj (JU bV fP) az (aN (by kernel_rfl)) (fun _=>rfl) (fun m x=>by kernel_rfl) (an ⟨cr,fun _ _ _=>rfl⟩ (an ⟨bJ,fun _ _ _=>rfl⟩ (aA))) false al
theorem Xn(bV:M.aa->Option (Bool))(fP:(g9 bV).Ok D Tryz.prog):(Bm (M.vq bV)).Ok D Tryz.prog:=
 aR (cx:=x6 bV) (c:=Bm (M.vq bV)) (fz:=true) (fn:=Tryz.f153) aj (JU bV fP) az ⟨Tryz.func153,by kernel_rfl⟩ (aS (bN 1 (by kernel_rfl) (bT (.mk (by kernel_rfl) (Xm bV fP))))) ⟨⟨[.int .i64],[]⟩,fun x=>x.1.1⟩ (fun x=>rfl) (fun x=>by kernel_rfl)
def Bn(m:(List M.aa)->Option (Bool)):aK K:={f:=131,sh:=⟨[.ai U.Type,.fn 148 []],[]⟩,R:=Bool,run:=fun x=>m x.1.1,dflt:=default,out:=fun r=>(Sh.enc D (.bool) r,aB.encs D [] ())}
def JV(bV:M.aa->Option (Bool)):Cx K:={aP with mode:=aO .plain [(153,.plain)],call:=callOf D [Bm (M.vq bV)],loop:=aM []}
theorem Xo(bV:M.aa->Option (Bool))(fP:(g9 bV).Ok D Tryz.prog):aI (JV bV):=aQ aj _ (an (Xn bV fP) (aA))
theorem Xp(bV:M.aa->Option (Bool))(fP:(g9 bV).Ok D Tryz.prog):(Bn (M.pI bV)).Ok D Tryz.prog:=
 aR (cx:=JV bV) (c:=Bn (M.pI bV)) (fz:=true) (fn:=Tryz.f131) aj (Xo bV fP) az ⟨Tryz.func131,by kernel_rfl⟩ (aS (aN (by kernel_rfl))) ⟨⟨[.bool],[]⟩,fun x=>x.1.1⟩ (fun x=>rfl) (fun x=>by kernel_rfl)
def hC(m:Int->Int->Int->Option (Bool)):aK K:={f:=54,sh:=⟨[.int .i64,.int .i64,.int .i64],[]⟩,R:=Bool,run:=fun x=>m x.1.1 x.1.2.1 x.1.2.2.1,dflt:=default,out:=fun r=>(Sh.enc D (.bool) r,aB.encs D [] ())}
def JW:Cx K:={aP with mode:=aO .plain [],call:=callOf D [],loop:=aM []}
theorem Xq:aI (JW):=aQ aj _ (aA)
theorem i7:(hC (M.hJ)).Ok D Tryz.prog:=
 aR (cx:=JW) (c:=hC (M.hJ)) (fz:=true) (fn:=Tryz.f54) aj (Xq) az ⟨Tryz.func54,by kernel_rfl⟩ (aS (aN (by kernel_rfl))) ⟨⟨[.bool],[]⟩,fun x=>x.1.1⟩ (fun x=>rfl) (fun x=>by kernel_rfl)
def vr(m:(List (List UInt8))->Option (Int)):aK K:={f:=135,sh:=⟨[.ai U.str],[]⟩,R:=Int,run:=fun x=>m x.1.1,dflt:=default,out:=fun r=>(Sh.enc D (.int .i64) r,aB.encs D [] ())}
def JX:Cx K:={aP with mode:=aO .plain [],call:=callOf D [],loop:=aM []}
theorem Xr:aI (JX):=aQ aj _ (aA)
theorem Bo:(vr (M.vt)).Ok D Tryz.prog:=
 aR (cx:=JX) (c:=vr (M.vt)) (fz:=true) (fn:=Tryz.f135) aj (Xr) az ⟨Tryz.func135,by kernel_rfl⟩ (aS (aN (by kernel_rfl))) ⟨⟨[.int .i64],[]⟩,fun x=>x.1.1⟩ (fun x=>rfl) (fun x=>by kernel_rfl)
def JY(y:(Bool)⊕((List UInt8))){R:Type}(k:Ex->List (AV K)->List (Ob K)->R):R:=match y with
 |.inl a0=>k Ex.ret (aw.aV D ⟨[.any,.bool],[]⟩ (((),(a0,())),())) (aw.aX D ⟨[.any,.bool],[]⟩ (((),(a0,())),()))
 |.inr (a1)=>k (Ex.exit 0) (aw.aV D ⟨[.str,.any],[]⟩ ((a1,((),())),())) (aw.aX D ⟨[.str,.any],[]⟩ ((a1,((),())),()))
def Xs:List (bA K ((Bool)⊕((List UInt8)))):=[⟨Ex.ret,⟨[.any,.bool],[]⟩,fun x=>.inl x.1.2.1⟩,⟨(Ex.exit 0),⟨[.str,.any],[]⟩,fun x=>.inr (x.1.1)⟩]
def JZ:bo K:=bD D false 75 0 [0,7,8] [0,2] ⟨[.str,.int .i64,.int .i64],[]⟩ (fun x=>M.ny x.1.1 x.1.2.1 al x.1.2.2.1) JY
def x7(m:(List UInt8)->Option (Bool)):aK K:={f:=150,sh:=⟨[.str],[]⟩,R:=Bool,run:=fun x=>m x.1.1,dflt:=default,out:=fun r=>(Sh.enc D (.bool) r,aB.encs D [] ())}
def x8:Cx K:={aP with mode:=aO .plain [],call:=callOf D [],loop:=aM [(2,JZ)]}
theorem J0:aI (x8):=aQ aj _ (aA)
theorem Xt:bq (x8) (bw (bB Tryz.f150) 0) (JZ):=
 bI (cx:=x8) (n:=75) (n0:=0) (ins:=[0,7,8]) (outs:=[0,2]) (sh:=⟨[.str,.int .i64,.int .i64],[]⟩) (run:=fun n x=>M.ny x.1.1 x.1.2.1 n x.1.2.2.1) (bz:=Xs) (out:=JY) aj (J0) az (aN (by kernel_rfl)) (fun _=>rfl) (fun m x=>by kernel_rfl) (an ⟨cr,fun _ _ _=>rfl⟩ (an ⟨bJ,fun _ _ _=>rfl⟩ (aA))) false al
theorem J1:(x7 (M.nz)).Ok D Tryz.prog:=
 aR (cx:=x8) (c:=x7 (M.nz)) (fz:=true) (fn:=Tryz.f150) aj (J0) az ⟨Tryz.func150,by kernel_rfl⟩ (aS (bN 1 (by kernel_rfl) (bT (.mk (by kernel_rfl) (Xt))))) ⟨⟨[.bool],[]⟩,fun x=>x.1.1⟩ (fun x=>rfl) (fun x=>by kernel_rfl)
def Bq(m:(List UInt8)->Option (Bool)):aK K:={f:=162,sh:=⟨[.str],[]⟩,R:=Bool,run:=fun x=>m x.1.1,dflt:=default,out:=fun r=>(Sh.enc D (.bool) r,aB.encs D [] ())}
def J2:Cx K:={aP with mode:=aO .plain [(150,.plain)],call:=callOf D [x7 M.nz],loop:=aM []}
theorem Xu:aI (J2):=aQ aj _ (an J1 (aA))
theorem Xv:(Bq (M.sk)).Ok D Tryz.prog:=
 aR (cx:=J2) (c:=Bq (M.sk)) (fz:=true) (fn:=Tryz.f162) aj (Xu) az ⟨Tryz.func162,by kernel_rfl⟩ (aS (aN (by kernel_rfl))) ⟨⟨[.bool],[]⟩,fun x=>x.1.1⟩ (fun x=>rfl) (fun x=>by kernel_rfl)
def J3(y:(Int)⊕(Unit)){R:Type}(k:Ex->List (AV K)->List (Ob K)->R):R:=match y with
 |.inl a0=>k Ex.ret (aw.aV D ⟨[.int .i64],[]⟩ ((a0,()),())) (aw.aX D ⟨[.int .i64],[]⟩ ((a0,()),()))
 |.inr (a1)=>k (Ex.exit 0) (aw.aV D ⟨[.any],[]⟩ (((),()),())) (aw.aX D ⟨[.any],[]⟩ (((),()),()))
def Xw:List (bA K ((Int)⊕(Unit))):=[⟨Ex.ret,⟨[.int .i64],[]⟩,fun x=>.inl x.1.1⟩,⟨(Ex.exit 0),⟨[.any],[]⟩,fun x=>.inr (())⟩]
def J4:bo K:=bD D false 19 0 [0,1,7,8] [4] ⟨[.ai U.str,.fn 162 [],.int .i64,.int .i64],[]⟩ (fun x=>M.pJ x.1.1 x.1.2.2.1 al x.1.2.2.2.1) J3
def Br(m:(List (List UInt8))->Option (Int)):aK K:={f:=169,sh:=⟨[.ai U.str,.fn 162 []],[]⟩,R:=Int,run:=fun x=>m x.1.1,dflt:=default,out:=fun r=>(Sh.enc D (.int .i64) r,aB.encs D [] ())}
def x9:Cx K:={aP with mode:=aO .plain [(162,.plain)],call:=callOf D [Bq M.sk],loop:=aM [(2,J4)]}
theorem J5:aI (x9):=aQ aj _ (an Xv (aA))
theorem Xx:bq (x9) (bw (bB Tryz.f169) 0) (J4):=
 bI (cx:=x9) (n:=19) (n0:=0) (ins:=[0,1,7,8]) (outs:=[4]) (sh:=⟨[.ai U.str,.fn 162 [],.int .i64,.int .i64],[]⟩) (run:=fun n x=>M.pJ x.1.1 x.1.2.2.1 n x.1.2.2.2.1) (bz:=Xw) (out:=J3) aj (J5) az (aN (by kernel_rfl)) (fun _=>rfl) (fun m x=>by kernel_rfl) (an ⟨cr,fun _ _ _=>rfl⟩ (an ⟨bJ,fun _ _ _=>rfl⟩ (aA))) false al
theorem Xy:(Br (M.vu)).Ok D Tryz.prog:=
 aR (cx:=x9) (c:=Br (M.vu)) (fz:=true) (fn:=Tryz.f169) aj (J5) az ⟨Tryz.func169,by kernel_rfl⟩ (aS (bN 1 (by kernel_rfl) (bT (.mk (by kernel_rfl) (Xx))))) ⟨⟨[.int .i64],[]⟩,fun x=>x.1.1⟩ (fun x=>rfl) (fun x=>by kernel_rfl)
def Bt(m:(List (List UInt8))->Option (Bool)):aK K:={f:=161,sh:=⟨[.ai U.str,.fn 162 []],[]⟩,R:=Bool,run:=fun x=>m x.1.1,dflt:=default,out:=fun r=>(Sh.enc D (.bool) r,aB.encs D [] ())}
def J6:Cx K:={aP with mode:=aO .plain [(169,.plain)],call:=callOf D [Br M.vu],loop:=aM []}
theorem Xz:aI (J6):=aQ aj _ (an Xy (aA))
theorem XA:(Bt (M.sn)).Ok D Tryz.prog:=
 aR (cx:=J6) (c:=Bt (M.sn)) (fz:=true) (fn:=Tryz.f161) aj (Xz) az ⟨Tryz.func161,by kernel_rfl⟩ (aS (aN (by kernel_rfl))) ⟨⟨[.bool],[]⟩,fun x=>x.1.1⟩ (fun x=>rfl) (fun x=>by kernel_rfl)
def Bv(m:(List (List UInt8))->Option (Bool)):aK K:={f:=149,sh:=⟨[.ai U.str],[]⟩,R:=Bool,run:=fun x=>m x.1.1,dflt:=default,out:=fun r=>(Sh.enc D (.bool) r,aB.encs D [] ())}
def J7:Cx K:={aP with mode:=aO .plain [(135,.plain),(54,.plain),(160,.plain),(161,.plain)],call:=callOf D [vr M.vt,hC M.hJ,As M.mO,Bt M.sn],loop:=aM []}
theorem XB:aI (J7):=aQ aj _ (an Bo (an i7 (an Uc (an XA (aA)))))
theorem XC:(Bv (M.so)).Ok D Tryz.prog:=
 aR (cx:=J7) (c:=Bv (M.so)) (fz:=true) (fn:=Tryz.f149) aj (XB) az ⟨Tryz.func149,by kernel_rfl⟩ (aS (aN (by kernel_rfl))) ⟨⟨[.bool],[]⟩,fun x=>x.1.1⟩ (fun x=>rfl) (fun x=>by kernel_rfl)
def vv(m:(List M.aa)->Option (Int)):aK K:={f:=152,sh:=⟨[.ai U.Type],[]⟩,R:=Int,run:=fun x=>m x.1.1,dflt:=default,out:=fun r=>(Sh.enc D (.int .i64) r,aB.encs D [] ())}
def J8:Cx K:={aP with mode:=aO .plain [],call:=callOf D [],loop:=aM []}
theorem XD:aI (J8):=aQ aj _ (aA)
theorem By:(vv (M.vx)).Ok D Tryz.prog:=
 aR (cx:=J8) (c:=vv (M.vx)) (fz:=true) (fn:=Tryz.f152) aj (XD) az ⟨Tryz.func152,by kernel_rfl⟩ (aS (aN (by kernel_rfl))) ⟨⟨[.int .i64],[]⟩,fun x=>x.1.1⟩ (fun x=>rfl) (fun x=>by kernel_rfl)
def vy(m:M.aa->Option (Bool)):aK K:={f:=111,sh:=⟨[.el U.Type],[]⟩,R:=Bool,run:=fun x=>m x.1.1,dflt:=default,out:=fun r=>(Sh.enc D (.bool) r,aB.encs D [] ())}
def J9:Cx K:={aP with mode:=aO .plain [],call:=callOf D [],loop:=aM []}
theorem XE:aI (J9):=aQ aj _ (aA)
theorem Bz:(vy (M.vz)).Ok D Tryz.prog:=
 aR (cx:=J9) (c:=vy (M.vz)) (fz:=true) (fn:=Tryz.f111) aj (XE) az ⟨Tryz.func111,by kernel_rfl⟩ (aS (aN (by kernel_rfl))) ⟨⟨[.bool],[]⟩,fun x=>x.1.1⟩ (fun x=>rfl) (fun x=>by kernel_rfl)
def Ko(y:(Int)⊕(Unit)){R:Type}(k:Ex->List (AV K)->List (Ob K)->R):R:=match y with
 |.inl a0=>k Ex.ret (aw.aV D ⟨[.int .i64],[]⟩ ((a0,()),())) (aw.aX D ⟨[.int .i64],[]⟩ ((a0,()),()))
 |.inr (a1)=>k (Ex.exit 0) (aw.aV D ⟨[.any],[]⟩ (((),()),())) (aw.aX D ⟨[.any],[]⟩ (((),()),()))
def XF:List (bA K ((Int)⊕(Unit))):=[⟨Ex.ret,⟨[.int .i64],[]⟩,fun x=>.inl x.1.1⟩,⟨(Ex.exit 0),⟨[.any],[]⟩,fun x=>.inr (())⟩]
def Kp:bo K:=bD D false 19 0 [0,1,7,8] [4] ⟨[.ai U.Type,.fn 111 [],.int .i64,.int .i64],[]⟩ (fun x=>M.pK x.1.1 x.1.2.2.1 al x.1.2.2.2.1) Ko
def BA(m:(List M.aa)->Option (Int)):aK K:={f:=153,sh:=⟨[.ai U.Type,.fn 111 []],[]⟩,R:=Int,run:=fun x=>m x.1.1,dflt:=default,out:=fun r=>(Sh.enc D (.int .i64) r,aB.encs D [] ())}
def ya:Cx K:={aP with mode:=aO .plain [(111,.plain)],call:=callOf D [vy M.vz],loop:=aM [(2,Kp)]}
theorem Kq:aI (ya):=aQ aj _ (an Bz (aA))
theorem XG:bq (ya) (bw (bB Tryz.f153) 0) (Kp):=
 bI (cx:=ya) (n:=19) (n0:=0) (ins:=[0,1,7,8]) (outs:=[4]) (sh:=⟨[.ai U.Type,.fn 111 [],.int .i64,.int .i64],[]⟩) (run:=fun n x=>M.pK x.1.1 x.1.2.2.1 n x.1.2.2.2.1) (bz:=XF) (out:=Ko) aj (Kq) az (aN (by kernel_rfl)) (fun _=>rfl) (fun m x=>by kernel_rfl) (an ⟨cr,fun _ _ _=>rfl⟩ (an ⟨bJ,fun _ _ _=>rfl⟩ (aA))) false al
theorem XH:(BA (M.vA)).Ok D Tryz.prog:=
 aR (cx:=ya) (c:=BA (M.vA)) (fz:=true) (fn:=Tryz.f153) aj (Kq) az ⟨Tryz.func153,by kernel_rfl⟩ (aS (bN 1 (by kernel_rfl) (bT (.mk (by kernel_rfl) (XG))))) ⟨⟨[.int .i64],[]⟩,fun x=>x.1.1⟩ (fun x=>rfl) (fun x=>by kernel_rfl)
def BB(m:(List M.aa)->Option (Bool)):aK K:={f:=131,sh:=⟨[.ai U.Type,.fn 111 []],[]⟩,R:=Bool,run:=fun x=>m x.1.1,dflt:=default,out:=fun r=>(Sh.enc D (.bool) r,aB.encs D [] ())}
def Kr:Cx K:={aP with mode:=aO .plain [(153,.plain)],call:=callOf D [BA M.vA],loop:=aM []}
theorem XI:aI (Kr):=aQ aj _ (an XH (aA))
theorem XJ:(BB (M.sq)).Ok D Tryz.prog:=
 aR (cx:=Kr) (c:=BB (M.sq)) (fz:=true) (fn:=Tryz.f131) aj (XI) az ⟨Tryz.func131,by kernel_rfl⟩ (aS (aN (by kernel_rfl))) ⟨⟨[.bool],[]⟩,fun x=>x.1.1⟩ (fun x=>rfl) (fun x=>by kernel_rfl)
def BC(m:M.aa->Int->Option (Bool)):aK K:={f:=151,sh:=⟨[.el U.Type,.int .i64],[]⟩,R:=Bool,run:=fun x=>m x.1.1 x.1.2.1,dflt:=default,out:=fun r=>(Sh.enc D (.bool) r,aB.encs D [] ())}
def Ks:Cx K:={aP with mode:=aO .plain [(152,.plain),(131,.plain)],call:=callOf D [vv M.vx,BB M.sq],loop:=aM []}
theorem XK:aI (Ks):=aQ aj _ (an By (an XJ (aA)))
theorem XL:(BC (M.lW)).Ok D Tryz.prog:=
 aR (cx:=Ks) (c:=BC (M.lW)) (fz:=true) (fn:=Tryz.f151) aj (XK) az ⟨Tryz.func151,by kernel_rfl⟩ (aS (aN (by kernel_rfl))) ⟨⟨[.bool],[]⟩,fun x=>x.1.1⟩ (fun x=>rfl) (fun x=>by kernel_rfl)
def Kt(y:(Int)⊕(Unit)){R:Type}(k:Ex->List (AV K)->List (Ob K)->R):R:=match y with
 |.inl a0=>k Ex.ret (aw.aV D ⟨[.int .i64],[]⟩ ((a0,()),())) (aw.aX D ⟨[.int .i64],[]⟩ ((a0,()),()))
 |.inr (a1)=>k (Ex.exit 0) (aw.aV D ⟨[.any],[]⟩ (((),()),())) (aw.aX D ⟨[.any],[]⟩ (((),()),()))
def XM:List (bA K ((Int)⊕(Unit))):=[⟨Ex.ret,⟨[.int .i64],[]⟩,fun x=>.inl x.1.1⟩,⟨(Ex.exit 0),⟨[.any],[]⟩,fun x=>.inr (())⟩]
def Ku:bo K:=bD D false 19 0 [0,1,7,8] [4] ⟨[.ai U.i64,.int .i64,.int .i64,.int .i64],[]⟩ (fun x=>M.pL x.1.1 x.1.2.1 x.1.2.2.1 al x.1.2.2.2.1) Kt
def BD(m:(List Int)->Int->Option (Int)):aK K:={f:=139,sh:=⟨[.ai U.i64,.int .i64],[]⟩,R:=Int,run:=fun x=>m x.1.1 x.1.2.1,dflt:=default,out:=fun r=>(Sh.enc D (.int .i64) r,aB.encs D [] ())}
def yb:Cx K:={aP with mode:=aO .plain [],call:=callOf D [],loop:=aM [(2,Ku)]}
theorem Kv:aI (yb):=aQ aj _ (aA)
theorem XN:bq (yb) (bw (bB Tryz.f139) 0) (Ku):=
 bI (cx:=yb) (n:=19) (n0:=0) (ins:=[0,1,7,8]) (outs:=[4]) (sh:=⟨[.ai U.i64,.int .i64,.int .i64,.int .i64],[]⟩) (run:=fun n x=>M.pL x.1.1 x.1.2.1 x.1.2.2.1 n x.1.2.2.2.1) (bz:=XM) (out:=Kt) aj (Kv) az (aN (by kernel_rfl)) (fun _=>rfl) (fun m x=>by kernel_rfl) (an ⟨cr,fun _ _ _=>rfl⟩ (an ⟨bJ,fun _ _ _=>rfl⟩ (aA))) false al
theorem XO:(BD (M.vB)).Ok D Tryz.prog:=
 aR (cx:=yb) (c:=BD (M.vB)) (fz:=true) (fn:=Tryz.f139) aj (Kv) az ⟨Tryz.func139,by kernel_rfl⟩ (aS (bN 1 (by kernel_rfl) (bT (.mk (by kernel_rfl) (XN))))) ⟨⟨[.int .i64],[]⟩,fun x=>x.1.1⟩ (fun x=>rfl) (fun x=>by kernel_rfl)
def yc(m:(List Int)->Int->Option (Bool)):aK K:={f:=118,sh:=⟨[.ai U.i64,.int .i64],[]⟩,R:=Bool,run:=fun x=>m x.1.1 x.1.2.1,dflt:=default,out:=fun r=>(Sh.enc D (.bool) r,aB.encs D [] ())}
def Kw:Cx K:={aP with mode:=aO .plain [(139,.plain)],call:=callOf D [BD M.vB],loop:=aM []}
theorem XP:aI (Kw):=aQ aj _ (an XO (aA))
theorem Kx:(yc (M.lX)).Ok D Tryz.prog:=
 aR (cx:=Kw) (c:=yc (M.lX)) (fz:=true) (fn:=Tryz.f118) aj (XP) az ⟨Tryz.func118,by kernel_rfl⟩ (aS (aN (by kernel_rfl))) ⟨⟨[.bool],[]⟩,fun x=>x.1.1⟩ (fun x=>rfl) (fun x=>by kernel_rfl)
def gI(m:M.aa->(List Int)->Option (Bool)):aK K:={f:=112,sh:=⟨[.el U.Type,.ai U.i64],[]⟩,R:=Bool,run:=fun x=>m x.1.1 x.1.2.1,dflt:=default,out:=fun r=>(Sh.enc D (.bool) r,aB.encs D [] ())}
def BE(m:M.aa->(List Int)->Option (Bool)):aK K:={f:=132,sh:=⟨[.el U.Type,.rp U.jy 0],[]⟩,R:=Bool,run:=fun x=>m x.1.1 x.1.2.1,dflt:=default,out:=fun r=>(Sh.enc D (.bool) r,aB.encs D [] ())}
def Ky(bW:M.aa->(List Int)->Option (Bool)):Cx K:={aP with mode:=aO .plain [(112,.plain)],call:=callOf D [gI bW],loop:=aM []}
theorem XQ(bW:M.aa->(List Int)->Option (Bool))(fQ:(gI bW).Ok D Tryz.prog):aI (Ky bW):=aQ aj _ (an fQ (aA))
theorem XR(bW:M.aa->(List Int)->Option (Bool))(fQ:(gI bW).Ok D Tryz.prog):(BE (M.sr bW)).Ok D Tryz.prog:=
 aR (cx:=Ky bW) (c:=BE (M.sr bW)) (fz:=true) (fn:=Tryz.f132) aj (XQ bW fQ) az ⟨Tryz.func132,by kernel_rfl⟩ (aS (aN (by kernel_rfl))) ⟨⟨[.bool],[]⟩,fun x=>x.1.1⟩ (fun x=>rfl) (fun x=>by kernel_rfl)
def Kz(y:(Int)⊕(Unit)){R:Type}(k:Ex->List (AV K)->List (Ob K)->R):R:=match y with
 |.inl a0=>k Ex.ret (aw.aV D ⟨[.int .i64],[]⟩ ((a0,()),())) (aw.aX D ⟨[.int .i64],[]⟩ ((a0,()),()))
 |.inr (a1)=>k (Ex.exit 0) (aw.aV D ⟨[.any],[]⟩ (((),()),())) (aw.aX D ⟨[.any],[]⟩ (((),()),()))
def XS:List (bA K ((Int)⊕(Unit))):=[⟨Ex.ret,⟨[.int .i64],[]⟩,fun x=>.inl x.1.1⟩,⟨(Ex.exit 0),⟨[.any],[]⟩,fun x=>.inr (())⟩]
def KA(bW:M.aa->(List Int)->Option (Bool)):bo K:=bD D false 19 0 [0,1,7,8] [4] ⟨[.ai U.Type,.fn 132 [.rp U.jy 0],.int .i64,.int .i64],[]⟩ (fun x=>M.pM bW x.1.1 x.1.2.1.1 x.1.2.2.1 al x.1.2.2.2.1) Kz
def BF(m:(List M.aa)->(List Int)->Option (Int)):aK K:={f:=153,sh:=⟨[.ai U.Type,.fn 132 [.rp U.jy 0]],[]⟩,R:=Int,run:=fun x=>m x.1.1 x.1.2.1.1,dflt:=default,out:=fun r=>(Sh.enc D (.int .i64) r,aB.encs D [] ())}
def yd(bW:M.aa->(List Int)->Option (Bool)):Cx K:={aP with mode:=aO .plain [(132,.plain)],call:=callOf D [BE (M.sr bW)],loop:=aM [(2,KA bW)]}
theorem KB(bW:M.aa->(List Int)->Option (Bool))(fQ:(gI bW).Ok D Tryz.prog):aI (yd bW):=aQ aj _ (an (XR bW fQ) (aA))
theorem XT(bW:M.aa->(List Int)->Option (Bool))(fQ:(gI bW).Ok D Tryz.prog):bq (yd bW) (bw (bB Tryz.f153) 0) (KA bW):=
 bI (cx:=yd bW) (n:=19) (n0:=0) (ins:=[0,1,7,8]) (outs:=[4]) (sh:=⟨[.ai U.Type,.fn 132 [.rp U.jy 0],.int .i64,.int .i64],[]⟩) (run:=fun n x=>M.pM bW x.1.1 x.1.2.1.1 x.1.2.2.1 n x.1.2.2.2.1) (bz:=XS) (out:=Kz) aj (KB bW fQ) az (aN (by kernel_rfl)) (fun _=>rfl) (fun m x=>by kernel_rfl) (an ⟨cr,fun _ _ _=>rfl⟩ (an ⟨bJ,fun _ _ _=>rfl⟩ (aA))) false al
theorem XU(bW:M.aa->(List Int)->Option (Bool))(fQ:(gI bW).Ok D Tryz.prog):(BF (M.vC bW)).Ok D Tryz.prog:=
 aR (cx:=yd bW) (c:=BF (M.vC bW)) (fz:=true) (fn:=Tryz.f153) aj (KB bW fQ) az ⟨Tryz.func153,by kernel_rfl⟩ (aS (bN 1 (by kernel_rfl) (bT (.mk (by kernel_rfl) (XT bW fQ))))) ⟨⟨[.int .i64],[]⟩,fun x=>x.1.1⟩ (fun x=>rfl) (fun x=>by kernel_rfl)
def BG(m:(List M.aa)->(List Int)->Option (Bool)):aK K:={f:=131,sh:=⟨[.ai U.Type,.fn 132 [.rp U.jy 0]],[]⟩,R:=Bool,run:=fun x=>m x.1.1 x.1.2.1.1,dflt:=default,out:=fun r=>(Sh.enc D (.bool) r,aB.encs D [] ())}
def KC(bW:M.aa->(List Int)->Option (Bool)):Cx K:={aP with mode:=aO .plain [(153,.plain)],call:=callOf D [BF (M.vC bW)],loop:=aM []}
theorem XV(bW:M.aa->(List Int)->Option (Bool))(fQ:(gI bW).Ok D Tryz.prog):aI (KC bW):=aQ aj _ (an (XU bW fQ) (aA))
theorem XW(bW:M.aa->(List Int)->Option (Bool))(fQ:(gI bW).Ok D Tryz.prog):(BG (M.su bW)).Ok D Tryz.prog:=
 aR (cx:=KC bW) (c:=BG (M.su bW)) (fz:=true) (fn:=Tryz.f131) aj (XV bW fQ) az ⟨Tryz.func131,by kernel_rfl⟩ (aS (aN (by kernel_rfl))) ⟨⟨[.bool],[]⟩,fun x=>x.1.1⟩ (fun x=>rfl) (fun x=>by kernel_rfl)
def KD(bW:M.aa->(List Int)->Option (Bool)):Cx K:={aP with mode:=aO .plain [(118,.plain),(131,.plain)],call:=callOf D [yc M.lX,BG (M.su bW)],loop:=aM []}
theorem XX(bW:M.aa->(List Int)->Option (Bool))(fQ:(gI bW).Ok D Tryz.prog):aI (KD bW):=aQ aj _ (an Kx (an (XW bW fQ) (aA)))
theorem XY(bW:M.aa->(List Int)->Option (Bool))(fQ:(gI bW).Ok D Tryz.prog):(gI (M.vD bW)).Ok D Tryz.prog:=
 aR (cx:=KD bW) (c:=gI (M.vD bW)) (fz:=true) (fn:=Tryz.f112) aj (XX bW fQ) az ⟨Tryz.func112,by kernel_rfl⟩ (aS (aN (by kernel_rfl))) ⟨⟨[.bool],[]⟩,fun x=>x.1.1⟩ (fun x=>rfl) (fun x=>by kernel_rfl)
theorem KE:∀n,(gI (M.kF n)).Ok D Tryz.prog
 |0=>gj fun _=>rfl
 |n+1=>XY (M.kF n) (KE n)
theorem KF:(gI (M.kG)).Ok D Tryz.prog:=KE al
def KG(bV:M.aa->Option (Bool)):Cx K:={aP with mode:=aO .plain [(131,.plain),(54,.plain),(149,.plain),(150,.plain),(151,.plain),(152,.plain),(135,.plain),(112,.plain)],call:=callOf D [Bn (M.pI bV),hC M.hJ,Bv M.so,x7 M.nz,BC M.lW,vv M.vx,vr M.vt,gI M.kG],loop:=aM []}
theorem XZ(bV:M.aa->Option (Bool))(fP:(g9 bV).Ok D Tryz.prog):aI (KG bV):=aQ aj _ (an (Xp bV fP) (an i7 (an XC (an J1 (an XL (an By (an Bo (an KF (aA)))))))))
theorem X0(bV:M.aa->Option (Bool))(fP:(g9 bV).Ok D Tryz.prog):(g9 (M.sw bV)).Ok D Tryz.prog:=
 aR (cx:=KG bV) (c:=g9 (M.sw bV)) (fz:=true) (fn:=Tryz.f130) aj (XZ bV fP) az ⟨Tryz.func130,by kernel_rfl⟩ (aS (aN (by kernel_rfl))) ⟨⟨[.bool],[]⟩,fun x=>x.1.1⟩ (fun x=>rfl) (fun x=>by kernel_rfl)
theorem KH:∀n,(g9 (M.lY n)).Ok D Tryz.prog
 |0=>gj fun _=>rfl
 |n+1=>X0 (M.lY n) (KH n)
theorem X1:(g9 (M.ye)).Ok D Tryz.prog:=KH al
def yf(m:M.aa->Option (Bool)):aK K:={f:=99,sh:=⟨[.el U.Type],[]⟩,R:=Bool,run:=fun x=>m x.1.1,dflt:=default,out:=fun r=>(Sh.enc D (.bool) r,aB.encs D [] ())}
def KI:Cx K:={aP with mode:=aO .plain [(123,.plain),(124,.plain)],call:=callOf D [lQ M.xP,lT M.xY],loop:=aM []}
theorem X2:aI (KI):=aQ aj _ (an WO (an Xa (aA)))
theorem KJ:(yf (M.nA)).Ok D Tryz.prog:=
 aR (cx:=KI) (c:=yf (M.nA)) (fz:=true) (fn:=Tryz.f99) aj (X2) az ⟨Tryz.func99,by kernel_rfl⟩ (aS (aN (by kernel_rfl))) ⟨⟨[.bool],[]⟩,fun x=>x.1.1⟩ (fun x=>rfl) (fun x=>by kernel_rfl)
def BH(m:M.aa->Option (Bool)):aK K:={f:=68,sh:=⟨[.el U.Type],[]⟩,R:=Bool,run:=fun x=>m x.1.1,dflt:=default,out:=fun r=>(Sh.enc D (.bool) r,aB.encs D [] ())}
def KL:Cx K:={aP with mode:=aO .plain [(99,.plain),(100,.plain)],call:=callOf D [yf M.nA,kA M.kC],loop:=aM []}
theorem X3:aI (KL):=aQ aj _ (an KJ (an JB (aA)))
theorem X4:(BH (M.sx)).Ok D Tryz.prog:=
 aR (cx:=KL) (c:=BH (M.sx)) (fz:=true) (fn:=Tryz.f68) aj (X3) az ⟨Tryz.func68,by kernel_rfl⟩ (aS (aN (by kernel_rfl))) ⟨⟨[.bool],[]⟩,fun x=>x.1.1⟩ (fun x=>rfl) (fun x=>by kernel_rfl)
def BI(m:M.aa->Option (Bool)):aK K:={f:=125,sh:=⟨[.el U.Type],[]⟩,R:=Bool,run:=fun x=>m x.1.1,dflt:=default,out:=fun r=>(Sh.enc D (.bool) r,aB.encs D [] ())}
def KN:Cx K:={aP with mode:=aO .plain [(99,.plain)],call:=callOf D [yf M.nA],loop:=aM []}
theorem X5:aI (KN):=aQ aj _ (an KJ (aA))
theorem X6:(BI (M.sy)).Ok D Tryz.prog:=
 aR (cx:=KN) (c:=BI (M.sy)) (fz:=true) (fn:=Tryz.f125) aj (X5) az ⟨Tryz.func125,by kernel_rfl⟩ (aS (aN (by kernel_rfl))) ⟨⟨[.bool],[]⟩,fun x=>x.1.1⟩ (fun x=>rfl) (fun x=>by kernel_rfl)
def fR(m:M.ae->M.aa->Option (Bool)):aK K:={f:=126,sh:=⟨[.el U.Value,.el U.Type],[]⟩,R:=Bool,run:=fun x=>m x.1.1 x.1.2.1,dflt:=default,out:=fun r=>(Sh.enc D (.bool) r,aB.encs D [] ())}
def BJ(m:(List M.ae)->M.aa->Option (Bool)):aK K:={f:=147,sh:=⟨[.ai U.Value,.el U.Type],[]⟩,R:=Bool,run:=fun x=>m x.1.1 x.1.2.1,dflt:=default,out:=fun r=>(Sh.enc D (.bool) r,aB.encs D [] ())}
def KO(bj:M.ae->M.aa->Option (Bool)):Cx K:={aP with mode:=aO .plain [(126,.plain)],call:=callOf D [fR bj],loop:=aM []}
theorem X7(bj:M.ae->M.aa->Option (Bool))(eL:(fR bj).Ok D Tryz.prog):aI (KO bj):=aQ aj _ (an eL (aA))
theorem X8(bj:M.ae->M.aa->Option (Bool))(eL:(fR bj).Ok D Tryz.prog):(BJ (M.pN bj)).Ok D Tryz.prog:=
 aR (cx:=KO bj) (c:=BJ (M.pN bj)) (fz:=true) (fn:=Tryz.f147) aj (X7 bj eL) az ⟨Tryz.func147,by kernel_rfl⟩ (aS (aN (by kernel_rfl))) ⟨⟨[.bool],[]⟩,fun x=>x.1.1⟩ (fun x=>rfl) (fun x=>by kernel_rfl)
def KP(y:(Bool)⊕(Unit)){R:Type}(k:Ex->List (AV K)->List (Ob K)->R):R:=match y with
 |.inl a0=>k Ex.ret (aw.aV D ⟨[.bool],[.dead]⟩ ((a0,()),((),()))) (aw.aX D ⟨[.bool],[.dead]⟩ ((a0,()),((),())))
 |.inr (a1)=>k (Ex.exit 0) (aw.aV D ⟨[.any],[.dead]⟩ (((),()),((),()))) (aw.aX D ⟨[.any],[.dead]⟩ (((),()),((),())))
def X9:List (bA K ((Bool)⊕(Unit))):=[⟨Ex.ret,⟨[.bool],[.dead]⟩,fun x=>.inl x.1.1⟩,⟨(Ex.exit 0),⟨[.any],[.dead]⟩,fun x=>.inr (())⟩]
def KQ(bj:M.ae->M.aa->Option (Bool)):bo K:=bD D false 25 1 [0,5,7] [6] ⟨[.ai U.Value,.ptr 0 0,.int .i64],[.el U.Type]⟩ (fun x=>M.kH bj x.1.1 al x.1.2.2.1 x.2.1) KP
def BK(m:(List M.ae)->Int->M.aa->Option (Bool)):aK K:={f:=142,sh:=⟨[.ai U.Value,.int .i64,.el U.Type],[]⟩,R:=Bool,run:=fun x=>m x.1.1 x.1.2.1 x.1.2.2.1,dflt:=default,out:=fun r=>(Sh.enc D (.bool) r,aB.encs D [] ())}
def yg(bj:M.ae->M.aa->Option (Bool)):Cx K:={aP with mode:=aO .plain [(126,.plain)],call:=callOf D [fR bj],loop:=aM [(4,KQ bj)]}
theorem KR(bj:M.ae->M.aa->Option (Bool))(eL:(fR bj).Ok D Tryz.prog):aI (yg bj):=aQ aj _ (an eL (aA))
theorem Ya(bj:M.ae->M.aa->Option (Bool))(eL:(fR bj).Ok D Tryz.prog):bq (yg bj) (bw (bB Tryz.f142) 0) (KQ bj):=
 bI (cx:=yg bj) (n:=25) (n0:=1) (ins:=[0,5,7]) (outs:=[6]) (sh:=⟨[.ai U.Value,.ptr 0 0,.int .i64],[.el U.Type]⟩) (run:=fun n x=>M.kH bj x.1.1 n x.1.2.2.1 x.2.1) (bz:=X9) (out:=KP) aj (KR bj eL) az (aN (by kernel_rfl)) (fun _=>rfl) (fun m x=>by kernel_rfl) (an ⟨cr,fun _ _ _=>rfl⟩ (an ⟨bJ,fun _ _ _=>rfl⟩ (aA))) false al
theorem Yb(bj:M.ae->M.aa->Option (Bool))(eL:(fR bj).Ok D Tryz.prog):(BK (M.pO bj)).Ok D Tryz.prog:=
 aR (cx:=yg bj) (c:=BK (M.pO bj)) (fz:=true) (fn:=Tryz.f142) aj (KR bj eL) az ⟨Tryz.func142,by kernel_rfl⟩ (aS (bN 1 (by kernel_rfl) (bT (.mk (by kernel_rfl) (Ya bj eL))))) ⟨⟨[.bool],[]⟩,fun x=>x.1.1⟩ (fun x=>rfl) (fun x=>by kernel_rfl)
def yh(m:Int->Option (Bool)):aK K:={f:=143,sh:=⟨[.int .i64],[]⟩,R:=Bool,run:=fun x=>m x.1.1,dflt:=default,out:=fun r=>(Sh.enc D (.bool) r,aB.encs D [] ())}
def KT:Cx K:={aP with mode:=aO .plain [(43,.plain)],call:=callOf D [jW M.jX],loop:=aM []}
theorem Yc:aI (KT):=aQ aj _ (an lR (aA))
theorem KU:(yh (M.gJ)).Ok D Tryz.prog:=
 aR (cx:=KT) (c:=yh (M.gJ)) (fz:=true) (fn:=Tryz.f143) aj (Yc) az ⟨Tryz.func143,by kernel_rfl⟩ (aS (aN (by kernel_rfl))) ⟨⟨[.bool],[]⟩,fun x=>x.1.1⟩ (fun x=>rfl) (fun x=>by kernel_rfl)
def KV(y:(List UInt8)×Int×Int){R:Type}(k:Ex->List (AV K)->List (Ob K)->R):R:=match y with
 |a0=>k (Ex.exit 1) (aw.aV D ⟨[.str,.int .i64,.int .i64],[]⟩ ((a0.1,(a0.2.1,(a0.2.2,()))),())) (aw.aX D ⟨[.str,.int .i64,.int .i64],[]⟩ ((a0.1,(a0.2.1,(a0.2.2,()))),()))
def Yd:List (bA K ((List UInt8)×Int×Int)):=[⟨(Ex.exit 1),⟨[.str,.int .i64,.int .i64],[]⟩,fun x=>(x.1.1,x.1.2.1,x.1.2.2.1)⟩]
def KW:bo K:=bD D false 66 0 [0,4,5,6] [0,4,5] ⟨[.str,.int .i64,.int .i64,.int .i64],[]⟩ (fun x=>M.nB x.1.1 x.1.2.1 al x.1.2.2.1 x.1.2.2.2.1) KV
def BL(m:Int->Option ((List UInt8))):aK K:={f:=170,sh:=⟨[.int .i64],[]⟩,R:=(List UInt8),run:=fun x=>m x.1.1,dflt:=default,out:=fun r=>(Sh.enc D (.str) r,aB.encs D [] ())}
def KX:Cx K:={aP with mode:=aO .plain [],call:=callOf D [],loop:=aM []}
theorem Ye:aI (KX):=aQ aj _ (aA)
theorem Yf:(BL (M.lZ)).Ok D Tryz.prog:=
 aR (cx:=KX) (c:=BL (M.lZ)) (fz:=true) (fn:=Tryz.f170) aj (Ye) az ⟨Tryz.func170,by kernel_rfl⟩ (aS (aN (by kernel_rfl))) ⟨⟨[.str],[]⟩,fun x=>x.1.1⟩ (fun x=>rfl) (fun x=>by kernel_rfl)
def BM(m:(List UInt8)->Option (Int×Int)):aK K:={f:=165,sh:=⟨[.str],[]⟩,R:=Int×Int,run:=fun x=>m x.1.1,dflt:=default,out:=fun r=>(Sh.enc D (.bG [.int .i64,.int .i64]) (r.1,(r.2,())),aB.encs D [] ())}
def yi:Cx K:={aP with mode:=aO .plain [(143,.plain),(170,.plain)],call:=callOf D [yh M.gJ,BL M.lZ],loop:=aM [(13,KW)]}
theorem KY:aI (yi):=aQ aj _ (an KU (an Yf (aA)))
theorem Yg:bq (yi) (bw (bB Tryz.f165) 0) (KW):=
 bI (cx:=yi) (n:=66) (n0:=0) (ins:=[0,4,5,6]) (outs:=[0,4,5]) (sh:=⟨[.str,.int .i64,.int .i64,.int .i64],[]⟩) (run:=fun n x=>M.nB x.1.1 x.1.2.1 n x.1.2.2.1 x.1.2.2.2.1) (bz:=Yd) (out:=KV) aj (KY) az (aN (by kernel_rfl)) (fun _=>rfl) (fun m x=>by kernel_rfl) (an ⟨bJ,fun _ _ _=>rfl⟩ (aA)) false al
theorem Yh:(BM (M.sA)).Ok D Tryz.prog:=
 aR (cx:=yi) (c:=BM (M.sA)) (fz:=true) (fn:=Tryz.f165) aj (KY) az ⟨Tryz.func165,by kernel_rfl⟩ (aS (bN 1 (by kernel_rfl) (bT (.mk (by kernel_rfl) (Yg))))) ⟨⟨[.bG [.int .i64,.int .i64]],[]⟩,fun x=>(x.1.1.1,x.1.1.2.1)⟩ (fun x=>rfl) (fun x=>by kernel_rfl)
def KZ(y:(Bool×(List Int))⊕((List Int))){R:Type}(k:Ex->List (AV K)->List (Ob K)->R):R:=match y with
 |.inl a0=>k Ex.ret (aw.aV D ⟨[.any,.own 2,.bool],[.dead,.dead,.arr U.i64]⟩ (((),((),(a0.1,()))),((),((),(a0.2,()))))) (aw.aX D ⟨[.any,.own 2,.bool],[.dead,.dead,.arr U.i64]⟩ (((),((),(a0.1,()))),((),((),(a0.2,())))))
 |.inr (a1)=>k (Ex.exit 0) (aw.aV D ⟨[.own 1,.any,.any],[.dead,.arr U.i64]⟩ (((),((),((),()))),((),(a1,())))) (aw.aX D ⟨[.own 1,.any,.any],[.dead,.arr U.i64]⟩ (((),((),((),()))),((),(a1,()))))
def Yi:List (bA K ((Bool×(List Int))⊕((List Int)))):=[⟨Ex.ret,⟨[.any,.own 2,.bool],[.dead,.dead,.arr U.i64]⟩,fun x=>.inl (x.1.2.2.1,x.2.2.2.1)⟩,⟨(Ex.exit 0),⟨[.own 1,.any,.any],[.dead,.arr U.i64]⟩,fun x=>.inr (x.2.2.1)⟩]
def K0:bo K:=bD D false 26 1 [0,4] [4,2,3] ⟨[.str,.own 1],[.dead,.arr U.i64]⟩ (fun x=>M.pP al x.1.1 x.2.2.1) KZ
def BN(m:(List UInt8)->Option ((List Int)×Bool)):aK K:={f:=159,sh:=⟨[.str],[]⟩,R:=(List Int)×Bool,run:=fun x=>m x.1.1,dflt:=default,out:=fun r=>(Sh.enc D (.bG [.ai U.i64,.bool]) (r.1,(r.2,())),aB.encs D [] ())}
def yj:Cx K:={aP with mode:=aO .plain [(165,.plain)],call:=callOf D [BM M.sA],loop:=aM [(2,K0)]}
theorem K1:aI (yj):=aQ aj _ (an Yh (aA))
theorem Yj:bq (yj) (bw (bB Tryz.f159) 0) (K0):=
 bI (cx:=yj) (n:=26) (n0:=1) (ins:=[0,4]) (outs:=[4,2,3]) (sh:=⟨[.str,.own 1],[.dead,.arr U.i64]⟩) (run:=fun n x=>M.pP n x.1.1 x.2.2.1) (bz:=Yi) (out:=KZ) aj (K1) az (aN (by kernel_rfl)) (fun _=>rfl) (fun m x=>by kernel_rfl) (an ⟨cr,fun _ _ _=>rfl⟩ (an ⟨bJ,fun _ _ _=>rfl⟩ (aA))) false al
theorem Yk:(BN (M.sB)).Ok D Tryz.prog:=
 aR (cx:=yj) (c:=BN (M.sB)) (fz:=true) (fn:=Tryz.f159) aj (K1) az ⟨Tryz.func159,by kernel_rfl⟩ (aS (bN 1 (by kernel_rfl) (bT (.mk (by kernel_rfl) (Yj))))) ⟨⟨[.bG [.ai U.i64,.bool]],[]⟩,fun x=>(x.1.1.1,x.1.1.2.1)⟩ (fun x=>rfl) (fun x=>by kernel_rfl)
def BO(m:(List UInt8)->Option (Bool)):aK K:={f:=144,sh:=⟨[.str],[]⟩,R:=Bool,run:=fun x=>m x.1.1,dflt:=default,out:=fun r=>(Sh.enc D (.bool) r,aB.encs D [] ())}
def K2:Cx K:={aP with mode:=aO .plain [(159,.nC)],call:=callOf D [BN M.sB],loop:=aM []}
theorem Yl:aI (K2):=aQ aj _ (an Yk (aA))
theorem Ym:(BO (M.sC)).Ok D Tryz.prog:=
 aR (cx:=K2) (c:=BO (M.sC)) (fz:=true) (fn:=Tryz.f144) aj (Yl) az ⟨Tryz.func144,by kernel_rfl⟩ (aS (aN (by kernel_rfl))) ⟨⟨[.bool],[]⟩,fun x=>x.1.1⟩ (fun x=>rfl) (fun x=>by kernel_rfl)
def K3(y:(Bool)⊕(Unit)){R:Type}(k:Ex->List (AV K)->List (Ob K)->R):R:=match y with
 |.inl a0=>k Ex.ret (aw.aV D ⟨[.bool],[]⟩ ((a0,()),())) (aw.aX D ⟨[.bool],[]⟩ ((a0,()),()))
 |.inr (a1)=>k (Ex.exit 0) (aw.aV D ⟨[.any],[]⟩ (((),()),())) (aw.aX D ⟨[.any],[]⟩ (((),()),()))
def Yn:List (bA K ((Bool)⊕(Unit))):=[⟨Ex.ret,⟨[.bool],[]⟩,fun x=>.inl x.1.1⟩,⟨(Ex.exit 0),⟨[.any],[]⟩,fun x=>.inr (())⟩]
def K4(bj:M.ae->M.aa->Option (Bool)):bo K:=bD D false 27 0 [0,1,5] [4] ⟨[.ai U.Value,.ai U.Type,.int .i64],[]⟩ (fun x=>M.kJ bj x.1.1 x.1.2.1 al x.1.2.2.1) K3
def BP(m:(List M.ae)->(List M.aa)->Option (Bool)):aK K:={f:=145,sh:=⟨[.ai U.Value,.ai U.Type],[]⟩,R:=Bool,run:=fun x=>m x.1.1 x.1.2.1,dflt:=default,out:=fun r=>(Sh.enc D (.bool) r,aB.encs D [] ())}
def yk(bj:M.ae->M.aa->Option (Bool)):Cx K:={aP with mode:=aO .plain [(126,.plain)],call:=callOf D [fR bj],loop:=aM [(4,K4 bj)]}
theorem K5(bj:M.ae->M.aa->Option (Bool))(eL:(fR bj).Ok D Tryz.prog):aI (yk bj):=aQ aj _ (an eL (aA))
theorem Yo(bj:M.ae->M.aa->Option (Bool))(eL:(fR bj).Ok D Tryz.prog):bq (yk bj) (bw (bB Tryz.f145) 0) (K4 bj):=
 bI (cx:=yk bj) (n:=27) (n0:=0) (ins:=[0,1,5]) (outs:=[4]) (sh:=⟨[.ai U.Value,.ai U.Type,.int .i64],[]⟩) (run:=fun n x=>M.kJ bj x.1.1 x.1.2.1 n x.1.2.2.1) (bz:=Yn) (out:=K3) aj (K5 bj eL) az (aN (by kernel_rfl)) (fun _=>rfl) (fun m x=>by kernel_rfl) (an ⟨cr,fun _ _ _=>rfl⟩ (an ⟨bJ,fun _ _ _=>rfl⟩ (aA))) false al
theorem Yp(bj:M.ae->M.aa->Option (Bool))(eL:(fR bj).Ok D Tryz.prog):(BP (M.sD bj)).Ok D Tryz.prog:=
 aR (cx:=yk bj) (c:=BP (M.sD bj)) (fz:=true) (fn:=Tryz.f145) aj (K5 bj eL) az ⟨Tryz.func145,by kernel_rfl⟩ (aS (bN 1 (by kernel_rfl) (bT (.mk (by kernel_rfl) (Yo bj eL))))) ⟨⟨[.bool],[]⟩,fun x=>x.1.1⟩ (fun x=>rfl) (fun x=>by kernel_rfl)
def BQ(m:Int->Option (Int×Int×Bool)):aK K:={f:=146,sh:=⟨[.int .i64],[]⟩,R:=Int×Int×Bool,run:=fun x=>m x.1.1,dflt:=default,out:=fun r=>(Sh.enc D (.bG [.int .i64,.int .i64,.bool]) (r.1,(r.2.1,(r.2.2,()))),aB.encs D [] ())}
def K6:Cx K:={aP with mode:=aO .plain [],call:=callOf D [],loop:=aM []}
theorem Yq:aI (K6):=aQ aj _ (aA)
theorem Yr:(BQ (M.vE)).Ok D Tryz.prog:=
 aR (cx:=K6) (c:=BQ (M.vE)) (fz:=true) (fn:=Tryz.f146) aj (Yq) az ⟨Tryz.func146,by kernel_rfl⟩ (aS (aN (by kernel_rfl))) ⟨⟨[.bG [.int .i64,.int .i64,.bool]],[]⟩,fun x=>(x.1.1.1,x.1.1.2.1,x.1.1.2.2.1)⟩ (fun x=>rfl) (fun x=>by kernel_rfl)
def K7(bj:M.ae->M.aa->Option (Bool)):Cx K:={aP with mode:=aO .plain [(142,.plain),(143,.plain),(144,.plain),(145,.plain),(146,.plain),(43,.plain),(147,.plain)],call:=callOf D [jW M.jX,BJ (M.pN bj),BK (M.pO bj),yh M.gJ,BO M.sC,BP (M.sD bj),BQ M.vE],loop:=aM []}
theorem Ys(bj:M.ae->M.aa->Option (Bool))(eL:(fR bj).Ok D Tryz.prog):aI (K7 bj):=aQ aj _ (an lR (an (X8 bj eL) (an (Yb bj eL) (an KU (an Ym (an (Yp bj eL) (an Yr (aA))))))))
theorem Yt(bj:M.ae->M.aa->Option (Bool))(eL:(fR bj).Ok D Tryz.prog):(fR (M.l4 bj)).Ok D Tryz.prog:=
 aR (cx:=K7 bj) (c:=fR (M.l4 bj)) (fz:=true) (fn:=Tryz.f126) aj (Ys bj eL) az ⟨Tryz.func126,by kernel_rfl⟩ (aS (aN (by kernel_rfl))) ⟨⟨[.bool],[]⟩,fun x=>x.1.1⟩ (fun x=>rfl) (fun x=>by kernel_rfl)
theorem K8:∀n,(fR (M.pQ n)).Ok D Tryz.prog
 |0=>gj fun _=>rfl
 |n+1=>Yt (M.pQ n) (K8 n)
theorem Yu:(fR (M.yl)).Ok D Tryz.prog:=K8 al
def BR(m:M.ae->M.aa->Option (Bool)):aK K:={f:=101,sh:=⟨[.el U.Value,.el U.Type],[]⟩,R:=Bool,run:=fun x=>m x.1.1 x.1.2.1,dflt:=default,out:=fun r=>(Sh.enc D (.bool) r,aB.encs D [] ())}
def K9:Cx K:={aP with mode:=aO .plain [(125,.plain),(126,.plain)],call:=callOf D [BI M.sy,fR M.yl],loop:=aM []}
theorem Yv:aI (K9):=aQ aj _ (an X6 (an Yu (aA)))
theorem Yw:(BR (M.sE)).Ok D Tryz.prog:=
 aR (cx:=K9) (c:=BR (M.sE)) (fz:=true) (fn:=Tryz.f101) aj (Yv) az ⟨Tryz.func101,by kernel_rfl⟩ (aS (aN (by kernel_rfl))) ⟨⟨[.bool],[]⟩,fun x=>x.1.1⟩ (fun x=>rfl) (fun x=>by kernel_rfl)
def La(y:(Bool)⊕(Unit)){R:Type}(k:Ex->List (AV K)->List (Ob K)->R):R:=match y with
 |.inl a0=>k Ex.ret (aw.aV D ⟨[.bool],[.dead]⟩ ((a0,()),((),()))) (aw.aX D ⟨[.bool],[.dead]⟩ ((a0,()),((),())))
 |.inr (a1)=>k (Ex.exit 0) (aw.aV D ⟨[.any],[.dead]⟩ (((),()),((),()))) (aw.aX D ⟨[.any],[.dead]⟩ (((),()),((),())))
def Yx:List (bA K ((Bool)⊕(Unit))):=[⟨Ex.ret,⟨[.bool],[.dead]⟩,fun x=>.inl x.1.1⟩,⟨(Ex.exit 0),⟨[.any],[.dead]⟩,fun x=>.inr (())⟩]
def Lc:bo K:=bD D false 25 1 [0,4,7] [6] ⟨[.ai U.Value,.ptr 0 0,.int .i64],[.el U.Type]⟩ (fun x=>M.kK x.1.1 al x.1.2.2.1 x.2.1) La
def BS(m:(List M.ae)->M.aa->Int->Option (Bool)):aK K:={f:=69,sh:=⟨[.ai U.Value,.el U.Type,.int .i64],[]⟩,R:=Bool,run:=fun x=>m x.1.1 x.1.2.1 x.1.2.2.1,dflt:=default,out:=fun r=>(Sh.enc D (.bool) r,aB.encs D [] ())}
def ym:Cx K:={aP with mode:=aO .plain [(101,.plain)],call:=callOf D [BR M.sE],loop:=aM [(4,Lc)]}
theorem Ld:aI (ym):=aQ aj _ (an Yw (aA))
theorem Yy:bq (ym) (bw (bB Tryz.f69) 0) (Lc):=
 bI (cx:=ym) (n:=25) (n0:=1) (ins:=[0,4,7]) (outs:=[6]) (sh:=⟨[.ai U.Value,.ptr 0 0,.int .i64],[.el U.Type]⟩) (run:=fun n x=>M.kK x.1.1 n x.1.2.2.1 x.2.1) (bz:=Yx) (out:=La) aj (Ld) az (aN (by kernel_rfl)) (fun _=>rfl) (fun m x=>by kernel_rfl) (an ⟨cr,fun _ _ _=>rfl⟩ (an ⟨bJ,fun _ _ _=>rfl⟩ (aA))) false al
theorem Yz:(BS (M.sF)).Ok D Tryz.prog:=
 aR (cx:=ym) (c:=BS (M.sF)) (fz:=true) (fn:=Tryz.f69) aj (Ld) az ⟨Tryz.func69,by kernel_rfl⟩ (aS (bN 1 (by kernel_rfl) (bT (.mk (by kernel_rfl) (Yy))))) ⟨⟨[.bool],[]⟩,fun x=>x.1.1⟩ (fun x=>rfl) (fun x=>by kernel_rfl)
def BU(m:M.ah->Option (Bool)):aK K:={f:=41,sh:=⟨[.el U.Stream],[]⟩,R:=Bool,run:=fun x=>m x.1.1,dflt:=default,out:=fun r=>(Sh.enc D (.bool) r,aB.encs D [] ())}
def Le:Cx K:={aP with mode:=aO .plain [(68,.plain),(43,.plain),(69,.plain)],call:=callOf D [BH M.sx,jW M.jX,BS M.sF],loop:=aM []}
theorem YA:aI (Le):=aQ aj _ (an X4 (an lR (an Yz (aA))))
theorem YB:(BU (M.sG)).Ok D Tryz.prog:=
 aR (cx:=Le) (c:=BU (M.sG)) (fz:=true) (fn:=Tryz.f41) aj (YA) az ⟨Tryz.func41,by kernel_rfl⟩ (aS (aN (by kernel_rfl))) ⟨⟨[.bool],[]⟩,fun x=>x.1.1⟩ (fun x=>rfl) (fun x=>by kernel_rfl)
def BV(m:M.aa->Option (Bool)):aK K:={f:=110,sh:=⟨[.el U.Type],[]⟩,R:=Bool,run:=fun x=>m x.1.1,dflt:=default,out:=fun r=>(Sh.enc D (.bool) r,aB.encs D [] ())}
def Lh:Cx K:={aP with mode:=aO .plain [(128,.plain),(129,.plain),(130,.plain)],call:=callOf D [lU M.x3,lV M.x5,g9 M.ye],loop:=aM []}
theorem YC:aI (Lh):=aQ aj _ (an Xe (an Xi (an X1 (aA))))
theorem YD:(BV (M.sH)).Ok D Tryz.prog:=
 aR (cx:=Lh) (c:=BV (M.sH)) (fz:=true) (fn:=Tryz.f110) aj (YC) az ⟨Tryz.func110,by kernel_rfl⟩ (aS (aN (by kernel_rfl))) ⟨⟨[.bool],[]⟩,fun x=>x.1.1⟩ (fun x=>rfl) (fun x=>by kernel_rfl)
def BW(m:M.aa->Option (Bool)):aK K:={f:=83,sh:=⟨[.el U.Type],[]⟩,R:=Bool,run:=fun x=>m x.1.1,dflt:=default,out:=fun r=>(Sh.enc D (.bool) r,aB.encs D [] ())}
def Lj:Cx K:={aP with mode:=aO .plain [(110,.plain),(111,.plain),(112,.plain)],call:=callOf D [BV M.sH,vy M.vz,gI M.kG],loop:=aM []}
theorem YE:aI (Lj):=aQ aj _ (an YD (an Bz (an KF (aA))))
theorem YF:(BW (M.sJ)).Ok D Tryz.prog:=
 aR (cx:=Lj) (c:=BW (M.sJ)) (fz:=true) (fn:=Tryz.f83) aj (YE) az ⟨Tryz.func83,by kernel_rfl⟩ (aS (aN (by kernel_rfl))) ⟨⟨[.bool],[]⟩,fun x=>x.1.1⟩ (fun x=>rfl) (fun x=>by kernel_rfl)
def BX(m:(List M.ae)->Option (Int)):aK K:={f:=84,sh:=⟨[.ai U.Value],[]⟩,R:=Int,run:=fun x=>m x.1.1,dflt:=default,out:=fun r=>(Sh.enc D (.int .i64) r,aB.encs D [] ())}
def Ll:Cx K:={aP with mode:=aO .plain [],call:=callOf D [],loop:=aM []}
theorem YG:aI (Ll):=aQ aj _ (aA)
theorem YH:(BX (M.BY)).Ok D Tryz.prog:=
 aR (cx:=Ll) (c:=BX (M.BY)) (fz:=true) (fn:=Tryz.f84) aj (YG) az ⟨Tryz.func84,by kernel_rfl⟩ (aS (aN (by kernel_rfl))) ⟨⟨[.int .i64],[]⟩,fun x=>x.1.1⟩ (fun x=>rfl) (fun x=>by kernel_rfl)
def BZ(m:Int->Option (Int×Int×Bool)):aK K:={f:=133,sh:=⟨[.int .i64],[]⟩,R:=Int×Int×Bool,run:=fun x=>m x.1.1,dflt:=default,out:=fun r=>(Sh.enc D (.bG [.int .i64,.int .i64,.bool]) (r.1,(r.2.1,(r.2.2,()))),aB.encs D [] ())}
def Lm:Cx K:={aP with mode:=aO .plain [],call:=callOf D [],loop:=aM []}
theorem YI:aI (Lm):=aQ aj _ (aA)
theorem YJ:(BZ (M.sK)).Ok D Tryz.prog:=
 aR (cx:=Lm) (c:=BZ (M.sK)) (fz:=true) (fn:=Tryz.f133) aj (YI) az ⟨Tryz.func133,by kernel_rfl⟩ (aS (aN (by kernel_rfl))) ⟨⟨[.bG [.int .i64,.int .i64,.bool]],[]⟩,fun x=>(x.1.1.1,x.1.1.2.1,x.1.1.2.2.1)⟩ (fun x=>rfl) (fun x=>by kernel_rfl)
def B0(m:Int->Option (Bool)):aK K:={f:=134,sh:=⟨[.int .i64],[]⟩,R:=Bool,run:=fun x=>m x.1.1,dflt:=default,out:=fun r=>(Sh.enc D (.bool) r,aB.encs D [] ())}
def Ln:Cx K:={aP with mode:=aO .plain [(54,.plain)],call:=callOf D [hC M.hJ],loop:=aM []}
theorem YK:aI (Ln):=aQ aj _ (an i7 (aA))
theorem YL:(B0 (M.yn)).Ok D Tryz.prog:=
 aR (cx:=Ln) (c:=B0 (M.yn)) (fz:=true) (fn:=Tryz.f134) aj (YK) az ⟨Tryz.func134,by kernel_rfl⟩ (aS (aN (by kernel_rfl))) ⟨⟨[.bool],[]⟩,fun x=>x.1.1⟩ (fun x=>rfl) (fun x=>by kernel_rfl)
def B5(m:M.ae->M.aa->Option (Bool)):aK K:={f:=114,sh:=⟨[.el U.Value,.el U.Type],[]⟩,R:=Bool,run:=fun x=>m x.1.1 x.1.2.1,dflt:=default,out:=fun r=>(Sh.enc D (.bool) r,aB.encs D [] ())}
def Lo:Cx K:={aP with mode:=aO .plain [(133,.plain),(134,.plain),(135,.plain),(54,.plain)],call:=callOf D [hC M.hJ,BZ M.sK,B0 M.yn,vr M.vt],loop:=aM []}
theorem YM:aI (Lo):=aQ aj _ (an i7 (an YJ (an YL (an Bo (aA)))))
theorem YN:(B5 (M.sL)).Ok D Tryz.prog:=
 aR (cx:=Lo) (c:=B5 (M.sL)) (fz:=true) (fn:=Tryz.f114) aj (YM) az ⟨Tryz.func114,by kernel_rfl⟩ (aS (aN (by kernel_rfl))) ⟨⟨[.bool],[]⟩,fun x=>x.1.1⟩ (fun x=>rfl) (fun x=>by kernel_rfl)
def B6(m:(List UInt8)->Option (Bool)):aK K:={f:=115,sh:=⟨[.str],[]⟩,R:=Bool,run:=fun x=>m x.1.1,dflt:=default,out:=fun r=>(Sh.enc D (.bool) r,aB.encs D [] ())}
def Lp:Cx K:={aP with mode:=aO .plain [(136,.plain)],call:=callOf D [AD M.mU],loop:=aM []}
theorem YO:aI (Lp):=aQ aj _ (an Ux (aA))
theorem YP:(B6 (M.sM)).Ok D Tryz.prog:=
 aR (cx:=Lp) (c:=B6 (M.sM)) (fz:=true) (fn:=Tryz.f115) aj (YO) az ⟨Tryz.func115,by kernel_rfl⟩ (aS (aN (by kernel_rfl))) ⟨⟨[.bool],[]⟩,fun x=>x.1.1⟩ (fun x=>rfl) (fun x=>by kernel_rfl)
def B7(m:M.aa->Int->Option (M.aa×Bool)):aK K:={f:=138,sh:=⟨[.el U.Type,.int .i64],[]⟩,R:=M.aa×Bool,run:=fun x=>m x.1.1 x.1.2.1,dflt:=default,out:=fun r=>(Sh.enc D (.bG [.el U.Type,.bool]) (r.1,(r.2,())),aB.encs D [] ())}
def Lq:Cx K:={aP with mode:=aO .plain [(152,.plain),(54,.plain)],call:=callOf D [vv M.vx,hC M.hJ],loop:=aM []}
theorem YQ:aI (Lq):=aQ aj _ (an By (an i7 (aA)))
theorem YR:(B7 (M.nD)).Ok D Tryz.prog:=
 aR (cx:=Lq) (c:=B7 (M.nD)) (fz:=true) (fn:=Tryz.f138) aj (YQ) az ⟨Tryz.func138,by kernel_rfl⟩ (aS (aN (by kernel_rfl))) ⟨⟨[.bG [.el U.Type,.bool]],[]⟩,fun x=>(x.1.1.1,x.1.1.2.1)⟩ (fun x=>rfl) (fun x=>by kernel_rfl)
def B8(m:M.ae->M.aa->Option ((List M.aa)×Bool)):aK K:={f:=116,sh:=⟨[.el U.Value,.el U.Type],[]⟩,R:=(List M.aa)×Bool,run:=fun x=>m x.1.1 x.1.2.1,dflt:=default,out:=fun r=>(Sh.enc D (.bG [.ai U.Type,.bool]) (r.1,(r.2,())),aB.encs D [] ())}
def Lr:Cx K:={aP with mode:=aO .plain [(137,.nC),(138,.nC),(111,.plain)],call:=callOf D [Ax M.mS,B7 M.nD,vy M.vz],loop:=aM []}
theorem YS:aI (Lr):=aQ aj _ (an Us (an YR (an Bz (aA))))
theorem YT:(B8 (M.sN)).Ok D Tryz.prog:=
 aR (cx:=Lr) (c:=B8 (M.sN)) (fz:=true) (fn:=Tryz.f116) aj (YS) az ⟨Tryz.func116,by kernel_rfl⟩ (aS (aN (by kernel_rfl))) ⟨⟨[.bG [.ai U.Type,.bool]],[]⟩,fun x=>(x.1.1.1,x.1.1.2.1)⟩ (fun x=>rfl) (fun x=>by kernel_rfl)
def l5(m:M.ae->M.aa->Option (Bool)):aK K:={f:=87,sh:=⟨[.el U.Value,.el U.Type],[]⟩,R:=Bool,run:=fun x=>m x.1.1 x.1.2.1,dflt:=default,out:=fun r=>(Sh.enc D (.bool) r,aB.encs D [] ())}
def Ls(y:(Bool)⊕(Unit)){R:Type}(k:Ex->List (AV K)->List (Ob K)->R):R:=match y with
 |.inl a0=>k Ex.ret (aw.aV D ⟨[.bool],[]⟩ ((a0,()),())) (aw.aX D ⟨[.bool],[]⟩ ((a0,()),()))
 |.inr (a1)=>k (Ex.exit 0) (aw.aV D ⟨[.any],[]⟩ (((),()),())) (aw.aX D ⟨[.any],[]⟩ (((),()),()))
def YU:List (bA K ((Bool)⊕(Unit))):=[⟨Ex.ret,⟨[.bool],[]⟩,fun x=>.inl x.1.1⟩,⟨(Ex.exit 0),⟨[.any],[]⟩,fun x=>.inr (())⟩]
def Lt(dV:M.ae->M.aa->Option (Bool)):bo K:=bD D false 68 0 [5,53,54,55] [4] ⟨[.ai U.Type,.ai U.Value,.int .i64,.int .i64],[]⟩ (fun x=>M.kL dV x.1.1 x.1.2.1 x.1.2.2.1 al x.1.2.2.2.1) Ls
def yo(dV:M.ae->M.aa->Option (Bool)):Cx K:={aP with mode:=aO .plain [(114,.plain),(115,.plain),(116,.nC),(87,.plain)],call:=callOf D [B5 M.sL,B6 M.sM,B8 M.sN,l5 dV],loop:=aM [(7,Lt dV)]}
theorem Lu(dV:M.ae->M.aa->Option (Bool))(sO:(l5 dV).Ok D Tryz.prog):aI (yo dV):=aQ aj _ (an YN (an YP (an YT (an sO (aA)))))
theorem YV(dV:M.ae->M.aa->Option (Bool))(sO:(l5 dV).Ok D Tryz.prog):bq (yo dV) (bw (bB Tryz.f87) 0) (Lt dV):=
 bI (cx:=yo dV) (n:=68) (n0:=0) (ins:=[5,53,54,55]) (outs:=[4]) (sh:=⟨[.ai U.Type,.ai U.Value,.int .i64,.int .i64],[]⟩) (run:=fun n x=>M.kL dV x.1.1 x.1.2.1 x.1.2.2.1 n x.1.2.2.2.1) (bz:=YU) (out:=Ls) aj (Lu dV sO) az (aN (by kernel_rfl)) (fun _=>rfl) (fun m x=>by kernel_rfl) (an ⟨cr,fun _ _ _=>rfl⟩ (an ⟨bJ,fun _ _ _=>rfl⟩ (aA))) false al
theorem YW(dV:M.ae->M.aa->Option (Bool))(sO:(l5 dV).Ok D Tryz.prog):(l5 (M.vF dV)).Ok D Tryz.prog:=
 aR (cx:=yo dV) (c:=l5 (M.vF dV)) (fz:=true) (fn:=Tryz.f87) aj (Lu dV sO) az ⟨Tryz.func87,by kernel_rfl⟩ (aS (bN 1 (by kernel_rfl) (bT (.mk (by kernel_rfl) (YV dV sO))))) ⟨⟨[.bool],[]⟩,fun x=>x.1.1⟩ (fun x=>rfl) (fun x=>by kernel_rfl)
theorem Lx:∀n,(l5 (M.kM n)).Ok D Tryz.prog
 |0=>gj fun _=>rfl
 |n+1=>YW (M.kM n) (Lx n)
theorem YX:(l5 (M.yp)).Ok D Tryz.prog:=Lx al
def B9(m:M.ae->M.ah->Option (Bool)):aK K:={f:=86,sh:=⟨[.el U.Value,.rp U.Stream 0],[]⟩,R:=Bool,run:=fun x=>m x.1.1 x.1.2.1,dflt:=default,out:=fun r=>(Sh.enc D (.bool) r,aB.encs D [] ())}
def Ly:Cx K:={aP with mode:=aO .plain [(87,.plain)],call:=callOf D [l5 M.yp],loop:=aM []}
theorem YY:aI (Ly):=aQ aj _ (an YX (aA))
theorem YZ:(B9 (M.sP)).Ok D Tryz.prog:=
 aR (cx:=Ly) (c:=B9 (M.sP)) (fz:=true) (fn:=Tryz.f86) aj (YY) az ⟨Tryz.func86,by kernel_rfl⟩ (aS (aN (by kernel_rfl))) ⟨⟨[.bool],[]⟩,fun x=>x.1.1⟩ (fun x=>rfl) (fun x=>by kernel_rfl)
def LA(y:(Int)⊕(Unit)){R:Type}(k:Ex->List (AV K)->List (Ob K)->R):R:=match y with
 |.inl a0=>k Ex.ret (aw.aV D ⟨[.int .i64],[]⟩ ((a0,()),())) (aw.aX D ⟨[.int .i64],[]⟩ ((a0,()),()))
 |.inr (a1)=>k (Ex.exit 0) (aw.aV D ⟨[.any],[]⟩ (((),()),())) (aw.aX D ⟨[.any],[]⟩ (((),()),()))
def Y0:List (bA K ((Int)⊕(Unit))):=[⟨Ex.ret,⟨[.int .i64],[]⟩,fun x=>.inl x.1.1⟩,⟨(Ex.exit 0),⟨[.any],[]⟩,fun x=>.inr (())⟩]
def LC:bo K:=bD D false 19 0 [0,1,7,8] [4] ⟨[.ai U.Value,.fn 86 [.rp U.Stream 0],.int .i64,.int .i64],[]⟩ (fun x=>M.pR x.1.1 x.1.2.1.1 x.1.2.2.1 al x.1.2.2.2.1) LA
def Cb(m:(List M.ae)->M.ah->Option (Int)):aK K:={f:=113,sh:=⟨[.ai U.Value,.fn 86 [.rp U.Stream 0]],[]⟩,R:=Int,run:=fun x=>m x.1.1 x.1.2.1.1,dflt:=default,out:=fun r=>(Sh.enc D (.int .i64) r,aB.encs D [] ())}
def yq:Cx K:={aP with mode:=aO .plain [(86,.plain)],call:=callOf D [B9 M.sP],loop:=aM [(2,LC)]}
theorem LD:aI (yq):=aQ aj _ (an YZ (aA))
theorem Y1:bq (yq) (bw (bB Tryz.f113) 0) (LC):=
 bI (cx:=yq) (n:=19) (n0:=0) (ins:=[0,1,7,8]) (outs:=[4]) (sh:=⟨[.ai U.Value,.fn 86 [.rp U.Stream 0],.int .i64,.int .i64],[]⟩) (run:=fun n x=>M.pR x.1.1 x.1.2.1.1 x.1.2.2.1 n x.1.2.2.2.1) (bz:=Y0) (out:=LA) aj (LD) az (aN (by kernel_rfl)) (fun _=>rfl) (fun m x=>by kernel_rfl) (an ⟨cr,fun _ _ _=>rfl⟩ (an ⟨bJ,fun _ _ _=>rfl⟩ (aA))) false al
theorem Y2:(Cb (M.vG)).Ok D Tryz.prog:=
 aR (cx:=yq) (c:=Cb (M.vG)) (fz:=true) (fn:=Tryz.f113) aj (LD) az ⟨Tryz.func113,by kernel_rfl⟩ (aS (bN 1 (by kernel_rfl) (bT (.mk (by kernel_rfl) (Y1))))) ⟨⟨[.int .i64],[]⟩,fun x=>x.1.1⟩ (fun x=>rfl) (fun x=>by kernel_rfl)
def Cc(m:(List M.ae)->M.ah->Option (Bool)):aK K:={f:=85,sh:=⟨[.ai U.Value,.fn 86 [.rp U.Stream 0]],[]⟩,R:=Bool,run:=fun x=>m x.1.1 x.1.2.1.1,dflt:=default,out:=fun r=>(Sh.enc D (.bool) r,aB.encs D [] ())}
def LF:Cx K:={aP with mode:=aO .plain [(113,.plain)],call:=callOf D [Cb M.vG],loop:=aM []}
theorem Y3:aI (LF):=aQ aj _ (an Y2 (aA))
theorem Y4:(Cc (M.sQ)).Ok D Tryz.prog:=
 aR (cx:=LF) (c:=Cc (M.sQ)) (fz:=true) (fn:=Tryz.f85) aj (Y3) az ⟨Tryz.func85,by kernel_rfl⟩ (aS (aN (by kernel_rfl))) ⟨⟨[.bool],[]⟩,fun x=>x.1.1⟩ (fun x=>rfl) (fun x=>by kernel_rfl)
def Cd(m:M.ah->Option (Int)):aK K:={f:=88,sh:=⟨[.el U.Stream],[]⟩,R:=Int,run:=fun x=>m x.1.1,dflt:=default,out:=fun r=>(Sh.enc D (.int .i64) r,aB.encs D [] ())}
def LG:Cx K:={aP with mode:=aO .plain [],call:=callOf D [],loop:=aM []}
theorem Y5:aI (LG):=aQ aj _ (aA)
theorem Y6:(Cd (M.sR)).Ok D Tryz.prog:=
 aR (cx:=LG) (c:=Cd (M.sR)) (fz:=true) (fn:=Tryz.f88) aj (Y5) az ⟨Tryz.func88,by kernel_rfl⟩ (aS (aN (by kernel_rfl))) ⟨⟨[.int .i64],[]⟩,fun x=>x.1.1⟩ (fun x=>rfl) (fun x=>by kernel_rfl)
def Ce(m:M.ah->Option (Bool)):aK K:={f:=52,sh:=⟨[.el U.Stream],[]⟩,R:=Bool,run:=fun x=>m x.1.1,dflt:=default,out:=fun r=>(Sh.enc D (.bool) r,aB.encs D [] ())}
def LH:Cx K:={aP with mode:=aO .plain [(83,.plain),(54,.plain),(84,.plain),(85,.plain),(88,.plain)],call:=callOf D [BW M.sJ,hC M.hJ,BX M.BY,Cc M.sQ,Cd M.sR],loop:=aM []}
theorem Y7:aI (LH):=aQ aj _ (an YF (an i7 (an YH (an Y4 (an Y6 (aA))))))
theorem Y8:(Ce (M.sS)).Ok D Tryz.prog:=
 aR (cx:=LH) (c:=Ce (M.sS)) (fz:=true) (fn:=Tryz.f52) aj (Y7) az ⟨Tryz.func52,by kernel_rfl⟩ (aS (aN (by kernel_rfl))) ⟨⟨[.bool],[]⟩,fun x=>x.1.1⟩ (fun x=>rfl) (fun x=>by kernel_rfl)
def LI(y:(List UInt8)){R:Type}(k:Ex->List (AV K)->List (Ob K)->R):R:=match y with
 |a0=>k (Ex.exit 0) (aw.aV D ⟨[.str],[]⟩ ((a0,()),())) (aw.aX D ⟨[.str],[]⟩ ((a0,()),()))
def Y9:List (bA K ((List UInt8))):=[⟨(Ex.exit 0),⟨[.str],[]⟩,fun x=>x.1.1⟩]
def LJ:bo K:=bD D false 20 0 [0,3] [3] ⟨[.int .i64,.str],[]⟩ (fun x=>M.oV al x.1.1 x.1.2.1) LI
def sU(m:Int->Option ((List UInt8))):aK K:={f:=60,sh:=⟨[.int .i64],[]⟩,R:=(List UInt8),run:=fun x=>m x.1.1,dflt:=default,out:=fun r=>(Sh.enc D (.str) r,aB.encs D [] ())}
def yt:Cx K:={aP with mode:=aO .plain [],deep:=fun c=>cC (D.cells c (K.zero c)),call:=callOf D [],loop:=aM [(4,LJ)]}
theorem LK:aI (yt):=aQ aj _ (aA)
theorem Za:bq (yt) (bw (bB Tryz.f60) 0) (LJ):=
 bI (cx:=yt) (n:=20) (n0:=0) (ins:=[0,3]) (outs:=[3]) (sh:=⟨[.int .i64,.str],[]⟩) (run:=fun n x=>M.oV n x.1.1 x.1.2.1) (bz:=Y9) (out:=LI) aj (LK) az (aN (by kernel_rfl)) (fun _=>rfl) (fun m x=>by kernel_rfl) (an ⟨bJ,fun _ _ _=>rfl⟩ (aA)) false al
theorem yu:(sU (M.iC)).Ok D Tryz.prog:=
 aR (cx:=yt) (c:=sU (M.iC)) (fz:=true) (fn:=Tryz.f60) aj (LK) az ⟨Tryz.func60,by kernel_rfl⟩ (aS (bN 1 (by kernel_rfl) (bT (.mk (by kernel_rfl) (Za))))) ⟨⟨[.str],[]⟩,fun x=>x.1.1⟩ (fun x=>rfl) (fun x=>by kernel_rfl)
def LL(y:Int×(List (List UInt8))){R:Type}(k:Ex->List (AV K)->List (Ob K)->R):R:=match y with
 |a0=>k (Ex.exit 0) (aw.aV D ⟨[.int .i64],[.arr U.str]⟩ ((a0.1,()),(a0.2,()))) (aw.aX D ⟨[.int .i64],[.arr U.str]⟩ ((a0.1,()),(a0.2,())))
def Zb:List (bA K (Int×(List (List UInt8)))):=[⟨(Ex.exit 0),⟨[.int .i64],[.arr U.str]⟩,fun x=>(x.1.1,x.2.1)⟩]
def LM:bo K:=bD D true 20 1 [0,1,5] [1] ⟨[.own 0,.int .i64,.int .i64],[.arr U.str]⟩ (fun x=>M.rn al x.1.2.1 x.1.2.2.1 x.2.1) LL
def yv(m:Int->(List (List UInt8))->Option (Int×(List (List UInt8)))):aK K:={f:=61,sh:=⟨[.own 0,.int .i64],[.arr U.str]⟩,R:=Int×(List (List UInt8)),run:=fun x=>m x.1.2.1 x.2.1,dflt:=default,out:=fun r=>(Sh.enc D (.int .i64) r.1,aB.encs D [.arr U.str] (r.2,()))}
def yw:Cx K:={aP with mode:=aO .plain [(60,.plain)],deep:=fun c=>cC (D.cells c (K.zero c)),opn:=true,call:=callOf D [sU M.iC],loop:=aM [(2,LM)]}
theorem LN:aI (yw):=aQ aj _ (an yu (aA))
theorem Zc:bq (yw) (bw (bB Tryz.f61) 0) (LM):=
 bI (cx:=yw) (n:=20) (n0:=1) (ins:=[0,1,5]) (outs:=[1]) (sh:=⟨[.own 0,.int .i64,.int .i64],[.arr U.str]⟩) (run:=fun n x=>M.rn n x.1.2.1 x.1.2.2.1 x.2.1) (bz:=Zb) (out:=LL) aj (LN) az (aN (by kernel_rfl)) (fun _=>rfl) (fun m x=>by kernel_rfl) (an ⟨bJ,fun _ _ _=>rfl⟩ (aA)) true al
theorem LP:(yv (M.lK)).Ok D Tryz.prog:=
 aR (cx:=yw) (c:=yv (M.lK)) (fz:=true) (fn:=Tryz.f61) aj (LN) az ⟨Tryz.func61,by kernel_rfl⟩ (aS (bN 1 (by kernel_rfl) (bT (.mk (by kernel_rfl) (Zc))))) ⟨⟨[.int .i64],[.arr U.str]⟩,fun x=>(x.1.1,x.2.1)⟩ (fun x=>rfl) (fun x=>by kernel_rfl)
def l6(m:Int->(List M.aa)->Option (Int×(List M.aa))):aK K:={f:=62,sh:=⟨[.own 0,.int .i64],[.tree U.Type]⟩,R:=Int×(List M.aa),run:=fun x=>m x.1.2.1 x.2.1,dflt:=default,out:=fun r=>(Sh.enc D (.int .i64) r.1,aB.encs D [.tree U.Type] (r.2,()))}
def LQ(y:Int×(List M.aa)){R:Type}(k:Ex->List (AV K)->List (Ob K)->R):R:=match y with
 |a0=>k (Ex.exit 0) (aw.aV D ⟨[.int .i64],[.tree U.Type]⟩ ((a0.1,()),(a0.2,()))) (aw.aX D ⟨[.int .i64],[.tree U.Type]⟩ ((a0.1,()),(a0.2,())))
def Zd:List (bA K (Int×(List M.aa))):=[⟨(Ex.exit 0),⟨[.int .i64],[.tree U.Type]⟩,fun x=>(x.1.1,x.2.1)⟩]
def LR(ee:Int->(List M.aa)->Option (Int×(List M.aa))):bo K:=bD D true 42 1 [0,1,5] [1] ⟨[.own 0,.int .i64,.int .i64],[.tree U.Type]⟩ (fun x=>M.oY ee al x.1.2.1 x.1.2.2.1 x.2.1) LQ
def yx(ee:Int->(List M.aa)->Option (Int×(List M.aa))):Cx K:={aP with mode:=aO .plain [(60,.plain),(61,.pass),(62,.pass)],deep:=fun c=>cC (D.cells c (K.zero c)),opn:=true,call:=callOf D [sU M.iC,yv M.lK,l6 ee],loop:=aM [(2,LR ee)]}
theorem LS(ee:Int->(List M.aa)->Option (Int×(List M.aa)))(sV:(l6 ee).Ok D Tryz.prog):aI (yx ee):=aQ aj _ (an yu (an LP (an sV (aA))))
theorem Ze(ee:Int->(List M.aa)->Option (Int×(List M.aa)))(sV:(l6 ee).Ok D Tryz.prog):bq (yx ee) (bw (bB Tryz.f62) 0) (LR ee):=
 bI (cx:=yx ee) (n:=42) (n0:=1) (ins:=[0,1,5]) (outs:=[1]) (sh:=⟨[.own 0,.int .i64,.int .i64],[.tree U.Type]⟩) (run:=fun n x=>M.oY ee n x.1.2.1 x.1.2.2.1 x.2.1) (bz:=Zd) (out:=LQ) aj (LS ee sV) az (aN (by kernel_rfl)) (fun _=>rfl) (fun m x=>by kernel_rfl) (an ⟨bJ,fun _ _ _=>rfl⟩ (aA)) true al
theorem Zf(ee:Int->(List M.aa)->Option (Int×(List M.aa)))(sV:(l6 ee).Ok D Tryz.prog):(l6 (M.vc ee)).Ok D Tryz.prog:=
 aR (cx:=yx ee) (c:=l6 (M.vc ee)) (fz:=true) (fn:=Tryz.f62) aj (LS ee sV) az ⟨Tryz.func62,by kernel_rfl⟩ (aS (bN 1 (by kernel_rfl) (bT (.mk (by kernel_rfl) (Ze ee sV))))) ⟨⟨[.int .i64],[.tree U.Type]⟩,fun x=>(x.1.1,x.2.1)⟩ (fun x=>rfl) (fun x=>by kernel_rfl)
theorem LU:∀n,(l6 (M.oW n)).Ok D Tryz.prog
 |0=>gj fun _=>rfl
 |n+1=>Zf (M.oW n) (LU n)
theorem Zg:(l6 (M.xa)).Ok D Tryz.prog:=LU al
def l7(m:Int->(List M.ae)->Option (Int×(List M.ae))):aK K:={f:=63,sh:=⟨[.own 0,.int .i64],[.tree U.Value]⟩,R:=Int×(List M.ae),run:=fun x=>m x.1.2.1 x.2.1,dflt:=default,out:=fun r=>(Sh.enc D (.int .i64) r.1,aB.encs D [.tree U.Value] (r.2,()))}
def LV(y:Int×(List M.ae)){R:Type}(k:Ex->List (AV K)->List (Ob K)->R):R:=match y with
 |a0=>k (Ex.exit 0) (aw.aV D ⟨[.int .i64],[.tree U.Value]⟩ ((a0.1,()),(a0.2,()))) (aw.aX D ⟨[.int .i64],[.tree U.Value]⟩ ((a0.1,()),(a0.2,())))
def Zh:List (bA K (Int×(List M.ae))):=[⟨(Ex.exit 0),⟨[.int .i64],[.tree U.Value]⟩,fun x=>(x.1.1,x.2.1)⟩]
def LW(ef:Int->(List M.ae)->Option (Int×(List M.ae))):bo K:=bD D true 42 1 [0,1,5] [1] ⟨[.own 0,.int .i64,.int .i64],[.tree U.Value]⟩ (fun x=>M.o5 ef al x.1.2.1 x.1.2.2.1 x.2.1) LV
def yy(ef:Int->(List M.ae)->Option (Int×(List M.ae))):Cx K:={aP with mode:=aO .plain [(60,.plain),(63,.pass)],deep:=fun c=>cC (D.cells c (K.zero c)),opn:=true,call:=callOf D [sU M.iC,l7 ef],loop:=aM [(2,LW ef)]}
theorem LX(ef:Int->(List M.ae)->Option (Int×(List M.ae)))(sW:(l7 ef).Ok D Tryz.prog):aI (yy ef):=aQ aj _ (an yu (an sW (aA)))
theorem Zi(ef:Int->(List M.ae)->Option (Int×(List M.ae)))(sW:(l7 ef).Ok D Tryz.prog):bq (yy ef) (bw (bB Tryz.f63) 0) (LW ef):=
 bI (cx:=yy ef) (n:=42) (n0:=1) (ins:=[0,1,5]) (outs:=[1]) (sh:=⟨[.own 0,.int .i64,.int .i64],[.tree U.Value]⟩) (run:=fun n x=>M.o5 ef n x.1.2.1 x.1.2.2.1 x.2.1) (bz:=Zh) (out:=LV) aj (LX ef sW) az (aN (by kernel_rfl)) (fun _=>rfl) (fun m x=>by kernel_rfl) (an ⟨bJ,fun _ _ _=>rfl⟩ (aA)) true al
theorem Zj(ef:Int->(List M.ae)->Option (Int×(List M.ae)))(sW:(l7 ef).Ok D Tryz.prog):(l7 (M.vd ef)).Ok D Tryz.prog:=
 aR (cx:=yy ef) (c:=l7 (M.vd ef)) (fz:=true) (fn:=Tryz.f63) aj (LX ef sW) az ⟨Tryz.func63,by kernel_rfl⟩ (aS (bN 1 (by kernel_rfl) (bT (.mk (by kernel_rfl) (Zi ef sW))))) ⟨⟨[.int .i64],[.tree U.Value]⟩,fun x=>(x.1.1,x.2.1)⟩ (fun x=>rfl) (fun x=>by kernel_rfl)
theorem LY:∀n,(l7 (M.oZ n)).Ok D Tryz.prog
 |0=>gj fun _=>rfl
 |n+1=>Zj (M.oZ n) (LY n)
theorem Zk:(l7 (M.xb)).Ok D Tryz.prog:=LY al
def kN(m:M.ae->Int->Option (Int)):aK K:={f:=97,sh:=⟨[.el U.Value,.int .i64],[]⟩,R:=Int,run:=fun x=>m x.1.1 x.1.2.1,dflt:=default,out:=fun r=>(Sh.enc D (.int .i64) r,aB.encs D [] ())}
def LZ(y:(Int)⊕(Int)){R:Type}(k:Ex->List (AV K)->List (Ob K)->R):R:=match y with
 |.inl a0=>k Ex.ret (aw.aV D ⟨[.any,.int .i64],[]⟩ (((),(a0,())),())) (aw.aX D ⟨[.any,.int .i64],[]⟩ (((),(a0,())),()))
 |.inr (a1)=>k (Ex.exit 0) (aw.aV D ⟨[.int .i64,.any],[]⟩ ((a1,((),())),())) (aw.aX D ⟨[.int .i64,.any],[]⟩ ((a1,((),())),()))
def Zl:List (bA K ((Int)⊕(Int))):=[⟨Ex.ret,⟨[.any,.int .i64],[]⟩,fun x=>.inl x.1.2.1⟩,⟨(Ex.exit 0),⟨[.int .i64,.any],[]⟩,fun x=>.inr (x.1.1)⟩]
def L0(cQ:M.ae->Int->Option (Int)):bo K:=bD D false 27 0 [0,1,5] [1,4] ⟨[.ai U.Value,.int .i64,.int .i64],[]⟩ (fun x=>M.pS cQ x.1.1 al x.1.2.1 x.1.2.2.1) LZ
def yz(m:(List M.ae)->Int->Option (Int)):aK K:={f:=66,sh:=⟨[.ai U.Value,.int .i64],[]⟩,R:=Int,run:=fun x=>m x.1.1 x.1.2.1,dflt:=default,out:=fun r=>(Sh.enc D (.int .i64) r,aB.encs D [] ())}
def yA(cQ:M.ae->Int->Option (Int)):Cx K:={aP with mode:=aO .plain [(97,.plain)],call:=callOf D [kN cQ],loop:=aM [(5,L0 cQ)]}
theorem L6(cQ:M.ae->Int->Option (Int))(kO:(kN cQ).Ok D Tryz.prog):aI (yA cQ):=aQ aj _ (an kO (aA))
theorem Zm(cQ:M.ae->Int->Option (Int))(kO:(kN cQ).Ok D Tryz.prog):bq (yA cQ) (bw (bB Tryz.f66) 0) (L0 cQ):=
 bI (cx:=yA cQ) (n:=27) (n0:=0) (ins:=[0,1,5]) (outs:=[1,4]) (sh:=⟨[.ai U.Value,.int .i64,.int .i64],[]⟩) (run:=fun n x=>M.pS cQ x.1.1 n x.1.2.1 x.1.2.2.1) (bz:=Zl) (out:=LZ) aj (L6 cQ kO) az (aN (by kernel_rfl)) (fun _=>rfl) (fun m x=>by kernel_rfl) (an ⟨cr,fun _ _ _=>rfl⟩ (an ⟨bJ,fun _ _ _=>rfl⟩ (aA))) false al
theorem L8(cQ:M.ae->Int->Option (Int))(kO:(kN cQ).Ok D Tryz.prog):(yz (M.l8 cQ)).Ok D Tryz.prog:=
 aR (cx:=yA cQ) (c:=yz (M.l8 cQ)) (fz:=true) (fn:=Tryz.f66) aj (L6 cQ kO) az ⟨Tryz.func66,by kernel_rfl⟩ (aS (bN 1 (by kernel_rfl) (bT (.mk (by kernel_rfl) (Zm cQ kO))))) ⟨⟨[.int .i64],[]⟩,fun x=>x.1.1⟩ (fun x=>rfl) (fun x=>by kernel_rfl)
def L9(cQ:M.ae->Int->Option (Int)):Cx K:={aP with mode:=aO .plain [(66,.plain)],call:=callOf D [yz (M.l8 cQ)],loop:=aM []}
theorem Zn(cQ:M.ae->Int->Option (Int))(kO:(kN cQ).Ok D Tryz.prog):aI (L9 cQ):=aQ aj _ (an (L8 cQ kO) (aA))
theorem Zo(cQ:M.ae->Int->Option (Int))(kO:(kN cQ).Ok D Tryz.prog):(kN (M.vH cQ)).Ok D Tryz.prog:=
 aR (cx:=L9 cQ) (c:=kN (M.vH cQ)) (fz:=true) (fn:=Tryz.f97) aj (Zn cQ kO) az ⟨Tryz.func97,by kernel_rfl⟩ (aS (aN (by kernel_rfl))) ⟨⟨[.int .i64],[]⟩,fun x=>x.1.1⟩ (fun x=>rfl) (fun x=>by kernel_rfl)
theorem Mc:∀n,(kN (M.pT n)).Ok D Tryz.prog
 |0=>gj fun _=>rfl
 |n+1=>Zo (M.pT n) (Mc n)
theorem Zp:(kN (M.sX)).Ok D Tryz.prog:=Mc al
def kP(m:M.ae->Option (Int×Int×(List UInt8)×(List M.ae))):aK K:={f:=105,sh:=⟨[.el U.Value],[]⟩,R:=Int×Int×(List UInt8)×(List M.ae),run:=fun x=>m x.1.1,dflt:=default,out:=fun r=>(Sh.enc D (.agg [.int .i64,.int .i64,.str,.own 0]) (r.1,(r.2.1,(r.2.2.1,((),())))),aB.encs D [.tree U.Value] (r.2.2.2,()))}
def Md(y:(List M.ae)){R:Type}(k:Ex->List (AV K)->List (Ob K)->R):R:=match y with
 |a0=>k (Ex.exit 0) (aw.aV D ⟨[.own 1],[.dead,.tree U.Value]⟩ (((),()),((),(a0,())))) (aw.aX D ⟨[.own 1],[.dead,.tree U.Value]⟩ (((),()),((),(a0,()))))
def Zq:List (bA K ((List M.ae))):=[⟨(Ex.exit 0),⟨[.own 1],[.dead,.tree U.Value]⟩,fun x=>x.2.2.1⟩]
def Me(cT:M.ae->Option (Int×Int×(List UInt8)×(List M.ae))):bo K:=bD D false 23 1 [0,3,4] [3] ⟨[.ai U.Value,.own 1,.int .i64],[.dead,.tree U.Value]⟩ (fun x=>M.nE cT x.1.1 al x.1.2.2.1 x.2.2.1) Md
def yB(m:(List M.ae)->Option ((List M.ae))):aK K:={f:=75,sh:=⟨[.ai U.Value],[]⟩,R:=(List M.ae),run:=fun x=>m x.1.1,dflt:=default,out:=fun r=>(Sh.enc D (.own 0) (),aB.encs D [.tree U.Value] (r,()))}
def yC(cT:M.ae->Option (Int×Int×(List UInt8)×(List M.ae))):Cx K:={aP with mode:=aO .plain [(105,.fresh)],eV:=[[some U.Value]],deep:=fun c=>cC (D.cells c (K.zero c)),call:=callOf D [kP cT],loop:=aM [(3,Me cT)]}
theorem MA(cT:M.ae->Option (Int×Int×(List UInt8)×(List M.ae)))(kQ:(kP cT).Ok D Tryz.prog):aI (yC cT):=aQ aj _ (an kQ (aA))
theorem Zr(cT:M.ae->Option (Int×Int×(List UInt8)×(List M.ae)))(kQ:(kP cT).Ok D Tryz.prog):bq (yC cT) (bw (bB Tryz.f75) 0) (Me cT):=
 bI (cx:=yC cT) (n:=23) (n0:=1) (ins:=[0,3,4]) (outs:=[3]) (sh:=⟨[.ai U.Value,.own 1,.int .i64],[.dead,.tree U.Value]⟩) (run:=fun n x=>M.nE cT x.1.1 n x.1.2.2.1 x.2.2.1) (bz:=Zq) (out:=Md) aj (MA cT kQ) az (aN (by kernel_rfl)) (fun _=>rfl) (fun m x=>by kernel_rfl) (an ⟨bJ,fun _ _ _=>rfl⟩ (aA)) false al
theorem MB(cT:M.ae->Option (Int×Int×(List UInt8)×(List M.ae)))(kQ:(kP cT).Ok D Tryz.prog):(yB (M.l9 cT)).Ok D Tryz.prog:=
 aR (cx:=yC cT) (c:=yB (M.l9 cT)) (fz:=false) (fn:=Tryz.f75) aj (MA cT kQ) az ⟨Tryz.func75,by kernel_rfl⟩ (aS (bN 1 (by kernel_rfl) (bT (.mk (by kernel_rfl) (Zr cT kQ))))) ⟨⟨[.own 0],[.tree U.Value]⟩,fun x=>x.2.1⟩ (fun x=>rfl) (fun x=>by kernel_rfl)
def MC(cT:M.ae->Option (Int×Int×(List UInt8)×(List M.ae))):Cx K:={aP with mode:=aO .plain [(75,.fresh)],eV:=[[none,none,none,some U.Value]],deep:=fun c=>cC (D.cells c (K.zero c)),call:=callOf D [yB (M.l9 cT)],loop:=aM []}
theorem Zs(cT:M.ae->Option (Int×Int×(List UInt8)×(List M.ae)))(kQ:(kP cT).Ok D Tryz.prog):aI (MC cT):=aQ aj _ (an (MB cT kQ) (aA))
theorem Zt(cT:M.ae->Option (Int×Int×(List UInt8)×(List M.ae)))(kQ:(kP cT).Ok D Tryz.prog):(kP (M.vI cT)).Ok D Tryz.prog:=
 aR (cx:=MC cT) (c:=kP (M.vI cT)) (fz:=false) (fn:=Tryz.f105) aj (Zs cT kQ) az ⟨Tryz.func105,by kernel_rfl⟩ (aS (aN (by kernel_rfl))) ⟨⟨[.agg [.int .i64,.int .i64,.str,.own 0]],[.tree U.Value]⟩,fun x=>(x.1.1.1,x.1.1.2.1,x.1.1.2.2.1,x.2.1)⟩ (fun x=>rfl) (fun x=>by kernel_rfl)
theorem MD:∀n,(kP (M.pU n)).Ok D Tryz.prog
 |0=>gj fun _=>rfl
 |n+1=>Zt (M.pU n) (MD n)
theorem Zu:(kP (M.sY)).Ok D Tryz.prog:=MD al
def Cf(m:M.ah->Int->Option (Int)):aK K:={f:=38,sh:=⟨[.el U.Stream,.int .i64],[]⟩,R:=Int,run:=fun x=>m x.1.1 x.1.2.1,dflt:=default,out:=fun r=>(Sh.enc D (.int .i64) r,aB.encs D [] ())}
def ME:Cx K:={aP with mode:=aO .plain [(65,.plain),(66,.plain)],call:=callOf D [jT M.xG,yz (M.l8 M.sX)],loop:=aM []}
theorem Zv:aI (ME):=aQ aj _ (an Wi (an (L8 M.sX Zp) (aA)))
theorem Zw:(Cf (M.sZ)).Ok D Tryz.prog:=
 aR (cx:=ME) (c:=Cf (M.sZ)) (fz:=true) (fn:=Tryz.f38) aj (Zv) az ⟨Tryz.func38,by kernel_rfl⟩ (aS (aN (by kernel_rfl))) ⟨⟨[.int .i64],[]⟩,fun x=>x.1.1⟩ (fun x=>rfl) (fun x=>by kernel_rfl)
def Ci(m:M.ah->Option (Int×(List UInt8)×Int×Bool×Int×Int×Bool×Bool×(List (List UInt8))×(List M.aa)×(List M.ae))):aK K:={f:=45,sh:=⟨[.el U.Stream],[]⟩,R:=Int×(List UInt8)×Int×Bool×Int×Int×Bool×Bool×(List (List UInt8))×(List M.aa)×(List M.ae),run:=fun x=>m x.1.1,dflt:=default,out:=fun r=>(Sh.enc D (.agg [.int .i64,.str,.own 0,.own 1,.int .i64,.bool,.own 2,.int .i64,.int .i64,.bool,.bool]) (r.1,(r.2.1,((),((),(r.2.2.1,(r.2.2.2.1,((),(r.2.2.2.2.1,(r.2.2.2.2.2.1,(r.2.2.2.2.2.2.1,(r.2.2.2.2.2.2.2.1,()))))))))))),aB.encs D [.arr U.str,.tree U.Type,.tree U.Value] (r.2.2.2.2.2.2.2.2.1,(r.2.2.2.2.2.2.2.2.2.1,(r.2.2.2.2.2.2.2.2.2.2,()))))}
def MF:Cx K:={aP with mode:=aO .plain [(74,.fresh),(75,.fresh)],eV:=[[none,none,some U.str,some U.Type,none,none,some U.Value,none,none,none,none]],deep:=fun c=>cC (D.cells c (K.zero c)),call:=callOf D [jU M.xJ,yB (M.l9 M.sY)],loop:=aM []}
theorem Zx:aI (MF):=aQ aj _ (an Wv (an (MB M.sY Zu) (aA)))
theorem Zy:(Ci (M.s6)).Ok D Tryz.prog:=
 aR (cx:=MF) (c:=Ci (M.s6)) (fz:=false) (fn:=Tryz.f45) aj (Zx) az ⟨Tryz.func45,by kernel_rfl⟩ (aS (aN (by kernel_rfl))) ⟨⟨[.agg [.int .i64,.str,.own 0,.own 1,.int .i64,.bool,.own 2,.int .i64,.int .i64,.bool,.bool]],[.arr U.str,.tree U.Type,.tree U.Value]⟩,fun x=>(x.1.1.1,x.1.1.2.1,x.1.1.2.2.2.2.1,x.1.1.2.2.2.2.2.1,x.1.1.2.2.2.2.2.2.2.1,x.1.1.2.2.2.2.2.2.2.2.1,x.1.1.2.2.2.2.2.2.2.2.2.1,x.1.1.2.2.2.2.2.2.2.2.2.2.1,x.2.1,x.2.2.1,x.2.2.2.1)⟩ (fun x=>rfl) (fun x=>by kernel_rfl)
def MG(y:(Int)⊕(Int)){R:Type}(k:Ex->List (AV K)->List (Ob K)->R):R:=match y with
 |.inl a0=>k Ex.ret (aw.aV D ⟨[.any,.int .i64],[]⟩ (((),(a0,())),())) (aw.aX D ⟨[.any,.int .i64],[]⟩ (((),(a0,())),()))
 |.inr (a1)=>k (Ex.exit 0) (aw.aV D ⟨[.int .i64,.any],[]⟩ ((a1,((),())),())) (aw.aX D ⟨[.int .i64,.any],[]⟩ ((a1,((),())),()))
def Zz:List (bA K ((Int)⊕(Int))):=[⟨Ex.ret,⟨[.any,.int .i64],[]⟩,fun x=>.inl x.1.2.1⟩,⟨(Ex.exit 0),⟨[.int .i64,.any],[]⟩,fun x=>.inr (x.1.1)⟩]
def MH:bo K:=bD D false 27 0 [0,1,5] [1,4] ⟨[.ai U.Stream,.int .i64,.int .i64],[]⟩ (fun x=>M.pV x.1.1 al x.1.2.1 x.1.2.2.1) MG
def Cj(m:(List M.ah)->Int->Option (Int)):aK K:={f:=14,sh:=⟨[.ai U.Stream,.int .i64],[]⟩,R:=Int,run:=fun x=>m x.1.1 x.1.2.1,dflt:=default,out:=fun r=>(Sh.enc D (.int .i64) r,aB.encs D [] ())}
def yD:Cx K:={aP with mode:=aO .plain [(38,.plain)],call:=callOf D [Cf M.sZ],loop:=aM [(5,MH)]}
theorem MI:aI (yD):=aQ aj _ (an Zw (aA))
theorem ZA:bq (yD) (bw (bB Tryz.f14) 0) (MH):=
 bI (cx:=yD) (n:=27) (n0:=0) (ins:=[0,1,5]) (outs:=[1,4]) (sh:=⟨[.ai U.Stream,.int .i64,.int .i64],[]⟩) (run:=fun n x=>M.pV x.1.1 n x.1.2.1 x.1.2.2.1) (bz:=Zz) (out:=MG) aj (MI) az (aN (by kernel_rfl)) (fun _=>rfl) (fun m x=>by kernel_rfl) (an ⟨cr,fun _ _ _=>rfl⟩ (an ⟨bJ,fun _ _ _=>rfl⟩ (aA))) false al
theorem ZB:(Cj (M.s7)).Ok D Tryz.prog:=
 aR (cx:=yD) (c:=Cj (M.s7)) (fz:=true) (fn:=Tryz.f14) aj (MI) az ⟨Tryz.func14,by kernel_rfl⟩ (aS (bN 1 (by kernel_rfl) (bT (.mk (by kernel_rfl) (ZA))))) ⟨⟨[.int .i64],[]⟩,fun x=>x.1.1⟩ (fun x=>rfl) (fun x=>by kernel_rfl)
def yE(m:(List Int)->Int->Option (Int)):aK K:={f:=16,sh:=⟨[.ai U.i64,.int .i64],[]⟩,R:=Int,run:=fun x=>m x.1.1 x.1.2.1,dflt:=default,out:=fun r=>(Sh.enc D (.int .i64) r,aB.encs D [] ())}
def MJ:Cx K:={aP with mode:=aO .plain [],call:=callOf D [],loop:=aM []}
theorem ZC:aI (MJ):=aQ aj _ (aA)
theorem MK:(yE (M.ma)).Ok D Tryz.prog:=
 aR (cx:=MJ) (c:=yE (M.ma)) (fz:=true) (fn:=Tryz.f16) aj (ZC) az ⟨Tryz.func16,by kernel_rfl⟩ (aS (aN (by kernel_rfl))) ⟨⟨[.int .i64],[]⟩,fun x=>x.1.1⟩ (fun x=>rfl) (fun x=>by kernel_rfl)
def Cm(m:M.af->Int->Option (Int)):aK K:={f:=39,sh:=⟨[.el U.Task,.int .i64],[]⟩,R:=Int,run:=fun x=>m x.1.1 x.1.2.1,dflt:=default,out:=fun r=>(Sh.enc D (.int .i64) r,aB.encs D [] ())}
def ML:Cx K:={aP with mode:=aO .plain [(16,.plain)],call:=callOf D [yE M.ma],loop:=aM []}
theorem ZD:aI (ML):=aQ aj _ (an MK (aA))
theorem ZE:(Cm (M.s8)).Ok D Tryz.prog:=
 aR (cx:=ML) (c:=Cm (M.s8)) (fz:=true) (fn:=Tryz.f39) aj (ZD) az ⟨Tryz.func39,by kernel_rfl⟩ (aS (aN (by kernel_rfl))) ⟨⟨[.int .i64],[]⟩,fun x=>x.1.1⟩ (fun x=>rfl) (fun x=>by kernel_rfl)
def MM(y:(Int)⊕(Int)){R:Type}(k:Ex->List (AV K)->List (Ob K)->R):R:=match y with
 |.inl a0=>k Ex.ret (aw.aV D ⟨[.any,.int .i64],[]⟩ (((),(a0,())),())) (aw.aX D ⟨[.any,.int .i64],[]⟩ (((),(a0,())),()))
 |.inr (a1)=>k (Ex.exit 0) (aw.aV D ⟨[.int .i64,.any],[]⟩ ((a1,((),())),())) (aw.aX D ⟨[.int .i64,.any],[]⟩ ((a1,((),())),()))
def ZF:List (bA K ((Int)⊕(Int))):=[⟨Ex.ret,⟨[.any,.int .i64],[]⟩,fun x=>.inl x.1.2.1⟩,⟨(Ex.exit 0),⟨[.int .i64,.any],[]⟩,fun x=>.inr (x.1.1)⟩]
def MN:bo K:=bD D false 27 0 [0,1,5] [1,4] ⟨[.ai U.Task,.int .i64,.int .i64],[]⟩ (fun x=>M.pW x.1.1 al x.1.2.1 x.1.2.2.1) MM
def CB(m:(List M.af)->Int->Option (Int)):aK K:={f:=15,sh:=⟨[.ai U.Task,.int .i64],[]⟩,R:=Int,run:=fun x=>m x.1.1 x.1.2.1,dflt:=default,out:=fun r=>(Sh.enc D (.int .i64) r,aB.encs D [] ())}
def yF:Cx K:={aP with mode:=aO .plain [(39,.plain)],call:=callOf D [Cm M.s8],loop:=aM [(5,MN)]}
theorem MO:aI (yF):=aQ aj _ (an ZE (aA))
theorem ZG:bq (yF) (bw (bB Tryz.f15) 0) (MN):=
 bI (cx:=yF) (n:=27) (n0:=0) (ins:=[0,1,5]) (outs:=[1,4]) (sh:=⟨[.ai U.Task,.int .i64,.int .i64],[]⟩) (run:=fun n x=>M.pW x.1.1 n x.1.2.1 x.1.2.2.1) (bz:=ZF) (out:=MM) aj (MO) az (aN (by kernel_rfl)) (fun _=>rfl) (fun m x=>by kernel_rfl) (an ⟨cr,fun _ _ _=>rfl⟩ (an ⟨bJ,fun _ _ _=>rfl⟩ (aA))) false al
theorem ZH:(CB (M.s9)).Ok D Tryz.prog:=
 aR (cx:=yF) (c:=CB (M.s9)) (fz:=true) (fn:=Tryz.f15) aj (MO) az ⟨Tryz.func15,by kernel_rfl⟩ (aS (bN 1 (by kernel_rfl) (bT (.mk (by kernel_rfl) (ZG))))) ⟨⟨[.int .i64],[]⟩,fun x=>x.1.1⟩ (fun x=>rfl) (fun x=>by kernel_rfl)
def CC(m:(List M.ay)->Int->Option (Int)):aK K:={f:=17,sh:=⟨[.ai U.Note,.int .i64],[]⟩,R:=Int,run:=fun x=>m x.1.1 x.1.2.1,dflt:=default,out:=fun r=>(Sh.enc D (.int .i64) r,aB.encs D [] ())}
def MP:Cx K:={aP with mode:=aO .plain [],call:=callOf D [],loop:=aM []}
theorem ZI:aI (MP):=aQ aj _ (aA)
theorem ZJ:(CC (M.ta)).Ok D Tryz.prog:=
 aR (cx:=MP) (c:=CC (M.ta)) (fz:=true) (fn:=Tryz.f17) aj (ZI) az ⟨Tryz.func17,by kernel_rfl⟩ (aS (aN (by kernel_rfl))) ⟨⟨[.int .i64],[]⟩,fun x=>x.1.1⟩ (fun x=>rfl) (fun x=>by kernel_rfl)
def CE(m:M.ar->Int->Option (Int)):aK K:={f:=4,sh:=⟨[.el U.Async,.int .i64],[]⟩,R:=Int,run:=fun x=>m x.1.1 x.1.2.1,dflt:=default,out:=fun r=>(Sh.enc D (.int .i64) r,aB.encs D [] ())}
def MQ:Cx K:={aP with mode:=aO .plain [(13,.plain),(14,.plain),(15,.plain),(16,.plain),(17,.plain)],call:=callOf D [AN M.rK,Cj M.s7,CB M.s9,yE M.ma,CC M.ta],loop:=aM []}
theorem ZK:aI (MQ):=aQ aj _ (an Vj (an ZB (an ZH (an MK (an ZJ (aA))))))
theorem ZL:(CE (M.tc)).Ok D Tryz.prog:=
 aR (cx:=MQ) (c:=CE (M.tc)) (fz:=true) (fn:=Tryz.f4) aj (ZK) az ⟨Tryz.func4,by kernel_rfl⟩ (aS (aN (by kernel_rfl))) ⟨⟨[.int .i64],[]⟩,fun x=>x.1.1⟩ (fun x=>rfl) (fun x=>by kernel_rfl)
def MR(y:(List M.ah)){R:Type}(k:Ex->List (AV K)->List (Ob K)->R):R:=match y with
 |a0=>k (Ex.exit 0) (aw.aV D ⟨[.own 1],[.dead,.tree U.Stream]⟩ (((),()),((),(a0,())))) (aw.aX D ⟨[.own 1],[.dead,.tree U.Stream]⟩ (((),()),((),(a0,()))))
def ZM:List (bA K ((List M.ah))):=[⟨(Ex.exit 0),⟨[.own 1],[.dead,.tree U.Stream]⟩,fun x=>x.2.2.1⟩]
def MS:bo K:=bD D false 23 1 [0,3,4] [3] ⟨[.ai U.Stream,.own 1,.int .i64],[.dead,.tree U.Stream]⟩ (fun x=>M.nF x.1.1 al x.1.2.2.1 x.2.2.1) MR
def CG(m:(List M.ah)->Option ((List M.ah))):aK K:={f:=20,sh:=⟨[.ai U.Stream],[]⟩,R:=(List M.ah),run:=fun x=>m x.1.1,dflt:=default,out:=fun r=>(Sh.enc D (.own 0) (),aB.encs D [.tree U.Stream] (r,()))}
def yG:Cx K:={aP with mode:=aO .plain [(45,.fresh)],eV:=[[some U.Stream]],deep:=fun c=>cC (D.cells c (K.zero c)),call:=callOf D [Ci M.s6],loop:=aM [(3,MS)]}
theorem MU:aI (yG):=aQ aj _ (an Zy (aA))
theorem ZN:bq (yG) (bw (bB Tryz.f20) 0) (MS):=
 bI (cx:=yG) (n:=23) (n0:=1) (ins:=[0,3,4]) (outs:=[3]) (sh:=⟨[.ai U.Stream,.own 1,.int .i64],[.dead,.tree U.Stream]⟩) (run:=fun n x=>M.nF x.1.1 n x.1.2.2.1 x.2.2.1) (bz:=ZM) (out:=MR) aj (MU) az (aN (by kernel_rfl)) (fun _=>rfl) (fun m x=>by kernel_rfl) (an ⟨bJ,fun _ _ _=>rfl⟩ (aA)) false al
theorem ZO:(CG (M.te)).Ok D Tryz.prog:=
 aR (cx:=yG) (c:=CG (M.te)) (fz:=false) (fn:=Tryz.f20) aj (MU) az ⟨Tryz.func20,by kernel_rfl⟩ (aS (bN 1 (by kernel_rfl) (bT (.mk (by kernel_rfl) (ZN))))) ⟨⟨[.own 0],[.tree U.Stream]⟩,fun x=>x.2.1⟩ (fun x=>rfl) (fun x=>by kernel_rfl)
def CH(m:M.af->Option (Int×Int×Int×Int×Int×Int×Bool×Bool×Bool×(List Int)×(List Int))):aK K:={f:=46,sh:=⟨[.el U.Task],[]⟩,R:=Int×Int×Int×Int×Int×Int×Bool×Bool×Bool×(List Int)×(List Int),run:=fun x=>m x.1.1,dflt:=default,out:=fun r=>(Sh.enc D (.agg [.int .i64,.int .i64,.int .i64,.int .i64,.int .i64,.int .i64,.bool,.bool,.bool,.own 0,.own 1]) (r.1,(r.2.1,(r.2.2.1,(r.2.2.2.1,(r.2.2.2.2.1,(r.2.2.2.2.2.1,(r.2.2.2.2.2.2.1,(r.2.2.2.2.2.2.2.1,(r.2.2.2.2.2.2.2.2.1,((),((),()))))))))))),aB.encs D [.arr U.i64,.arr U.i64] (r.2.2.2.2.2.2.2.2.2.1,(r.2.2.2.2.2.2.2.2.2.2,())))}
def MV:Cx K:={aP with mode:=aO .plain [(22,.fresh)],eV:=[[none,none,none,none,none,none,none,none,none,some U.i64,some U.i64]],deep:=fun c=>cC (D.cells c (K.zero c)),call:=callOf D [xi M.lO],loop:=aM []}
theorem ZP:aI (MV):=aQ aj _ (an H3 (aA))
theorem ZQ:(CH (M.tf)).Ok D Tryz.prog:=
 aR (cx:=MV) (c:=CH (M.tf)) (fz:=false) (fn:=Tryz.f46) aj (ZP) az ⟨Tryz.func46,by kernel_rfl⟩ (aS (aN (by kernel_rfl))) ⟨⟨[.agg [.int .i64,.int .i64,.int .i64,.int .i64,.int .i64,.int .i64,.bool,.bool,.bool,.own 0,.own 1]],[.arr U.i64,.arr U.i64]⟩,fun x=>(x.1.1.1,x.1.1.2.1,x.1.1.2.2.1,x.1.1.2.2.2.1,x.1.1.2.2.2.2.1,x.1.1.2.2.2.2.2.1,x.1.1.2.2.2.2.2.2.1,x.1.1.2.2.2.2.2.2.2.1,x.1.1.2.2.2.2.2.2.2.2.1,x.2.1,x.2.2.1)⟩ (fun x=>rfl) (fun x=>by kernel_rfl)
def MW(y:(List M.af)){R:Type}(k:Ex->List (AV K)->List (Ob K)->R):R:=match y with
 |a0=>k (Ex.exit 0) (aw.aV D ⟨[.own 1],[.dead,.tree U.Task]⟩ (((),()),((),(a0,())))) (aw.aX D ⟨[.own 1],[.dead,.tree U.Task]⟩ (((),()),((),(a0,()))))
def ZR:List (bA K ((List M.af))):=[⟨(Ex.exit 0),⟨[.own 1],[.dead,.tree U.Task]⟩,fun x=>x.2.2.1⟩]
def MX:bo K:=bD D false 23 1 [0,3,4] [3] ⟨[.ai U.Task,.own 1,.int .i64],[.dead,.tree U.Task]⟩ (fun x=>M.nG x.1.1 al x.1.2.2.1 x.2.2.1) MW
def CJ(m:(List M.af)->Option ((List M.af))):aK K:={f:=21,sh:=⟨[.ai U.Task],[]⟩,R:=(List M.af),run:=fun x=>m x.1.1,dflt:=default,out:=fun r=>(Sh.enc D (.own 0) (),aB.encs D [.tree U.Task] (r,()))}
def yH:Cx K:={aP with mode:=aO .plain [(46,.fresh)],eV:=[[some U.Task]],deep:=fun c=>cC (D.cells c (K.zero c)),call:=callOf D [CH M.tf],loop:=aM [(3,MX)]}
theorem MY:aI (yH):=aQ aj _ (an ZQ (aA))
theorem ZS:bq (yH) (bw (bB Tryz.f21) 0) (MX):=
 bI (cx:=yH) (n:=23) (n0:=1) (ins:=[0,3,4]) (outs:=[3]) (sh:=⟨[.ai U.Task,.own 1,.int .i64],[.dead,.tree U.Task]⟩) (run:=fun n x=>M.nG x.1.1 n x.1.2.2.1 x.2.2.1) (bz:=ZR) (out:=MW) aj (MY) az (aN (by kernel_rfl)) (fun _=>rfl) (fun m x=>by kernel_rfl) (an ⟨bJ,fun _ _ _=>rfl⟩ (aA)) false al
theorem ZT:(CJ (M.tg)).Ok D Tryz.prog:=
 aR (cx:=yH) (c:=CJ (M.tg)) (fz:=false) (fn:=Tryz.f21) aj (MY) az ⟨Tryz.func21,by kernel_rfl⟩ (aS (bN 1 (by kernel_rfl) (bT (.mk (by kernel_rfl) (ZS))))) ⟨⟨[.own 0],[.tree U.Task]⟩,fun x=>x.2.1⟩ (fun x=>rfl) (fun x=>by kernel_rfl)
def CL(m:M.ay->Option (M.ay)):aK K:={f:=47,sh:=⟨[.el U.Note],[]⟩,R:=M.ay,run:=fun x=>m x.1.1,dflt:=default,out:=fun r=>(Sh.enc D (.el U.Note) r,aB.encs D [] ())}
def MZ:Cx K:={aP with mode:=aO .plain [],eV:=[[]],deep:=fun c=>cC (D.cells c (K.zero c)),call:=callOf D [],loop:=aM []}
theorem ZU:aI (MZ):=aQ aj _ (aA)
theorem ZV:(CL (M.vJ)).Ok D Tryz.prog:=
 aR (cx:=MZ) (c:=CL (M.vJ)) (fz:=false) (fn:=Tryz.f47) aj (ZU) az ⟨Tryz.func47,by kernel_rfl⟩ (aS (aN (by kernel_rfl))) ⟨⟨[.el U.Note],[]⟩,fun x=>x.1.1⟩ (fun x=>rfl) (fun x=>by kernel_rfl)
def M1(y:(List M.ay)){R:Type}(k:Ex->List (AV K)->List (Ob K)->R):R:=match y with
 |a0=>k (Ex.exit 0) (aw.aV D ⟨[.own 1],[.dead,.arr U.Note]⟩ (((),()),((),(a0,())))) (aw.aX D ⟨[.own 1],[.dead,.arr U.Note]⟩ (((),()),((),(a0,()))))
def ZW:List (bA K ((List M.ay))):=[⟨(Ex.exit 0),⟨[.own 1],[.dead,.arr U.Note]⟩,fun x=>x.2.2.1⟩]
def M3:bo K:=bD D false 23 1 [0,3,4] [3] ⟨[.ai U.Note,.own 1,.int .i64],[.dead,.arr U.Note]⟩ (fun x=>M.nH x.1.1 al x.1.2.2.1 x.2.2.1) M1
def CM(m:(List M.ay)->Option ((List M.ay))):aK K:={f:=23,sh:=⟨[.ai U.Note],[]⟩,R:=(List M.ay),run:=fun x=>m x.1.1,dflt:=default,out:=fun r=>(Sh.enc D (.own 0) (),aB.encs D [.arr U.Note] (r,()))}
def yI:Cx K:={aP with mode:=aO .plain [(47,.fresh)],eV:=[[some U.Note]],deep:=fun c=>cC (D.cells c (K.zero c)),call:=callOf D [CL M.vJ],loop:=aM [(3,M3)]}
theorem M4:aI (yI):=aQ aj _ (an ZV (aA))
theorem ZX:bq (yI) (bw (bB Tryz.f23) 0) (M3):=
 bI (cx:=yI) (n:=23) (n0:=1) (ins:=[0,3,4]) (outs:=[3]) (sh:=⟨[.ai U.Note,.own 1,.int .i64],[.dead,.arr U.Note]⟩) (run:=fun n x=>M.nH x.1.1 n x.1.2.2.1 x.2.2.1) (bz:=ZW) (out:=M1) aj (M4) az (aN (by kernel_rfl)) (fun _=>rfl) (fun m x=>by kernel_rfl) (an ⟨bJ,fun _ _ _=>rfl⟩ (aA)) false al
theorem ZY:(CM (M.ti)).Ok D Tryz.prog:=
 aR (cx:=yI) (c:=CM (M.ti)) (fz:=false) (fn:=Tryz.f23) aj (M4) az ⟨Tryz.func23,by kernel_rfl⟩ (aS (bN 1 (by kernel_rfl) (bT (.mk (by kernel_rfl) (ZX))))) ⟨⟨[.own 0],[.arr U.Note]⟩,fun x=>x.2.1⟩ (fun x=>rfl) (fun x=>by kernel_rfl)
def CN(m:M.ar->Option ((List M.aD)×(List M.ah)×(List M.af)×(List Int)×(List M.ay))):aK K:={f:=6,sh:=⟨[.el U.Async],[]⟩,R:=(List M.aD)×(List M.ah)×(List M.af)×(List Int)×(List M.ay),run:=fun x=>m x.1.1,dflt:=default,out:=fun r=>(Sh.enc D (.agg [.own 0,.own 1,.own 2,.own 3,.own 4]) ((),((),((),((),((),()))))),aB.encs D [.tree U.Prog,.tree U.Stream,.tree U.Task,.arr U.i64,.arr U.Note] (r.1,(r.2.1,(r.2.2.1,(r.2.2.2.1,(r.2.2.2.2,()))))))}
def M5:Cx K:={aP with mode:=aO .plain [(19,.fresh),(20,.fresh),(21,.fresh),(22,.fresh),(23,.fresh)],eV:=[[some U.Prog,some U.Stream,some U.Task,some U.i64,some U.Note]],deep:=fun c=>cC (D.cells c (K.zero c)),call:=callOf D [AS M.rN,CG M.te,CJ M.tg,xi M.lO,CM M.ti],loop:=aM []}
theorem ZZ:aI (M5):=aQ aj _ (an Vt (an ZO (an ZT (an H3 (an ZY (aA))))))
theorem Z0:(CN (M.tj)).Ok D Tryz.prog:=
 aR (cx:=M5) (c:=CN (M.tj)) (fz:=false) (fn:=Tryz.f6) aj (ZZ) az ⟨Tryz.func6,by kernel_rfl⟩ (aS (aN (by kernel_rfl))) ⟨⟨[.agg [.own 0,.own 1,.own 2,.own 3,.own 4]],[.tree U.Prog,.tree U.Stream,.tree U.Task,.arr U.i64,.arr U.Note]⟩,fun x=>(x.2.1,x.2.2.1,x.2.2.2.1,x.2.2.2.2.1,x.2.2.2.2.2.1)⟩ (fun x=>rfl) (fun x=>by kernel_rfl)
def CO(m:M.aG->Option (Bool)):aK K:={f:=98,sh:=⟨[.el U.cb],[]⟩,R:=Bool,run:=fun x=>m x.1.1,dflt:=default,out:=fun r=>(Sh.enc D (.bool) r,aB.encs D [] ())}
def M6:Cx K:={aP with mode:=aO .plain [(43,.plain)],call:=callOf D [jW M.jX],loop:=aM []}
theorem Z1:aI (M6):=aQ aj _ (an lR (aA))
theorem Z2:(CO (M.kR)).Ok D Tryz.prog:=
 aR (cx:=M6) (c:=CO (M.kR)) (fz:=true) (fn:=Tryz.f98) aj (Z1) az ⟨Tryz.func98,by kernel_rfl⟩ (aS (aN (by kernel_rfl))) ⟨⟨[.bool],[]⟩,fun x=>x.1.1⟩ (fun x=>rfl) (fun x=>by kernel_rfl)
def M7(y:(Bool)⊕(Unit)){R:Type}(k:Ex->List (AV K)->List (Ob K)->R):R:=match y with
 |.inl a0=>k Ex.ret (aw.aV D ⟨[.bool],[.dead]⟩ ((a0,()),((),()))) (aw.aX D ⟨[.bool],[.dead]⟩ ((a0,()),((),())))
 |.inr (a1)=>k (Ex.exit 0) (aw.aV D ⟨[.any],[.dead]⟩ (((),()),((),()))) (aw.aX D ⟨[.any],[.dead]⟩ (((),()),((),())))
def Z3:List (bA K ((Bool)⊕(Unit))):=[⟨Ex.ret,⟨[.bool],[.dead]⟩,fun x=>.inl x.1.1⟩,⟨(Ex.exit 0),⟨[.any],[.dead]⟩,fun x=>.inr (())⟩]
def M8:bo K:=bD D false 28 1 [1,3] [2] ⟨[.ptr 0 0,.int .i64],[.el U.Prog]⟩ (fun x=>M.nI x.2.1 al x.1.2.1) M7
def CP(m:M.aD->Option (Bool)):aK K:={f:=67,sh:=⟨[.el U.Prog],[]⟩,R:=Bool,run:=fun x=>m x.1.1,dflt:=default,out:=fun r=>(Sh.enc D (.bool) r,aB.encs D [] ())}
def yJ:Cx K:={aP with mode:=aO .plain [(43,.plain),(98,.plain)],call:=callOf D [jW M.jX,CO M.kR],loop:=aM [(4,M8)]}
theorem M9:aI (yJ):=aQ aj _ (an lR (an Z2 (aA)))
theorem Z4:bq (yJ) (bw (bB Tryz.f67) 0) (M8):=
 bI (cx:=yJ) (n:=28) (n0:=1) (ins:=[1,3]) (outs:=[2]) (sh:=⟨[.ptr 0 0,.int .i64],[.el U.Prog]⟩) (run:=fun n x=>M.nI x.2.1 n x.1.2.1) (bz:=Z3) (out:=M7) aj (M9) az (aN (by kernel_rfl)) (fun _=>rfl) (fun m x=>by kernel_rfl) (an ⟨cr,fun _ _ _=>rfl⟩ (an ⟨bJ,fun _ _ _=>rfl⟩ (aA))) false al
theorem Z5:(CP (M.pX)).Ok D Tryz.prog:=
 aR (cx:=yJ) (c:=CP (M.pX)) (fz:=true) (fn:=Tryz.f67) aj (M9) az ⟨Tryz.func67,by kernel_rfl⟩ (aS (bN 1 (by kernel_rfl) (bT (.mk (by kernel_rfl) (Z4))))) ⟨⟨[.bool],[]⟩,fun x=>x.1.1⟩ (fun x=>rfl) (fun x=>by kernel_rfl)
def Na(y:(Bool)⊕(Unit)){R:Type}(k:Ex->List (AV K)->List (Ob K)->R):R:=match y with
 |.inl a0=>k Ex.ret (aw.aV D ⟨[.bool],[]⟩ ((a0,()),())) (aw.aX D ⟨[.bool],[]⟩ ((a0,()),()))
 |.inr (a1)=>k (Ex.exit 0) (aw.aV D ⟨[.any],[]⟩ (((),()),())) (aw.aX D ⟨[.any],[]⟩ (((),()),()))
def Z6:List (bA K ((Bool)⊕(Unit))):=[⟨Ex.ret,⟨[.bool],[]⟩,fun x=>.inl x.1.1⟩,⟨(Ex.exit 0),⟨[.any],[]⟩,fun x=>.inr (())⟩]
def Nb:bo K:=bD D false 24 0 [0,3] [2] ⟨[.ai U.Prog,.int .i64],[]⟩ (fun x=>M.pY x.1.1 al x.1.2.1) Na
def CQ(m:(List M.aD)->Option (Bool)):aK K:={f:=40,sh:=⟨[.ai U.Prog],[]⟩,R:=Bool,run:=fun x=>m x.1.1,dflt:=default,out:=fun r=>(Sh.enc D (.bool) r,aB.encs D [] ())}
def yK:Cx K:={aP with mode:=aO .plain [(67,.plain)],call:=callOf D [CP M.pX],loop:=aM [(4,Nb)]}
theorem Nc:aI (yK):=aQ aj _ (an Z5 (aA))
theorem Z7:bq (yK) (bw (bB Tryz.f40) 0) (Nb):=
 bI (cx:=yK) (n:=24) (n0:=0) (ins:=[0,3]) (outs:=[2]) (sh:=⟨[.ai U.Prog,.int .i64],[]⟩) (run:=fun n x=>M.pY x.1.1 n x.1.2.1) (bz:=Z6) (out:=Na) aj (Nc) az (aN (by kernel_rfl)) (fun _=>rfl) (fun m x=>by kernel_rfl) (an ⟨cr,fun _ _ _=>rfl⟩ (an ⟨bJ,fun _ _ _=>rfl⟩ (aA))) false al
theorem Z8:(CQ (M.tn)).Ok D Tryz.prog:=
 aR (cx:=yK) (c:=CQ (M.tn)) (fz:=true) (fn:=Tryz.f40) aj (Nc) az ⟨Tryz.func40,by kernel_rfl⟩ (aS (bN 1 (by kernel_rfl) (bT (.mk (by kernel_rfl) (Z7))))) ⟨⟨[.bool],[]⟩,fun x=>x.1.1⟩ (fun x=>rfl) (fun x=>by kernel_rfl)
def Nh(y:(Bool×(List M.aD)×(List M.ah)×(List M.af)×(List Int)×(List M.ay))⊕(M.ar)){R:Type}(k:Ex->List (AV K)->List (Ob K)->R):R:=match y with
 |.inl a0=>k Ex.ret (aw.aV D ⟨[.any,.bool],[.box [.ai U.Prog,.ai U.Stream,.ai U.Task,.ai U.i64,.ai U.Note]]⟩ (((),(a0.1,())),((a0.2.1,(a0.2.2.1,(a0.2.2.2.1,(a0.2.2.2.2.1,(a0.2.2.2.2.2,()))))),()))) (aw.aX D ⟨[.any,.bool],[.box [.ai U.Prog,.ai U.Stream,.ai U.Task,.ai U.i64,.ai U.Note]]⟩ (((),(a0.1,())),((a0.2.1,(a0.2.2.1,(a0.2.2.2.1,(a0.2.2.2.2.1,(a0.2.2.2.2.2,()))))),())))
 |.inr (a1)=>k (Ex.exit 0) (aw.aV D ⟨[.ptr 0 0,.any],[.el U.Async]⟩ (((),((),())),(a1,()))) (aw.aX D ⟨[.ptr 0 0,.any],[.el U.Async]⟩ (((),((),())),(a1,())))
def Z9:List (bA K ((Bool×(List M.aD)×(List M.ah)×(List M.af)×(List Int)×(List M.ay))⊕(M.ar))):=[⟨Ex.ret,⟨[.any,.bool],[.box [.ai U.Prog,.ai U.Stream,.ai U.Task,.ai U.i64,.ai U.Note]]⟩,fun x=>.inl (x.1.2.1,x.2.1.1,x.2.1.2.1,x.2.1.2.2.1,x.2.1.2.2.2.1,x.2.1.2.2.2.2.1)⟩,⟨(Ex.exit 0),⟨[.ptr 0 0,.any],[.el U.Async]⟩,fun x=>.inr (x.2.1)⟩]
def Ni:bo K:=bD D false 169 1 [0,3] [0,2] ⟨[.ptr 0 0,.int .i64],[.el U.Async]⟩ (fun x=>M.nJ x.2.1 al x.1.2.1) Nh
def Nj(y:(Bool)⊕(Unit)){R:Type}(k:Ex->List (AV K)->List (Ob K)->R):R:=match y with
 |.inl a0=>k Ex.ret (aw.aV D ⟨[.bool],[]⟩ ((a0,()),())) (aw.aX D ⟨[.bool],[]⟩ ((a0,()),()))
 |.inr (a1)=>k (Ex.exit 0) (aw.aV D ⟨[.any],[]⟩ (((),()),())) (aw.aX D ⟨[.any],[]⟩ (((),()),()))
def aab:List (bA K ((Bool)⊕(Unit))):=[⟨Ex.ret,⟨[.bool],[]⟩,fun x=>.inl x.1.1⟩,⟨(Ex.exit 0),⟨[.any],[]⟩,fun x=>.inr (())⟩]
def Nk:bo K:=bD D false 20 0 [0,3] [2] ⟨[.ai U.i64,.int .i64],[]⟩ (fun x=>M.pZ x.1.1 al x.1.2.1) Nj
def CS(m:(List Int)->Option (Bool)):aK K:={f:=70,sh:=⟨[.ai U.i64],[]⟩,R:=Bool,run:=fun x=>m x.1.1,dflt:=default,out:=fun r=>(Sh.enc D (.bool) r,aB.encs D [] ())}
def yL:Cx K:={aP with mode:=aO .plain [],call:=callOf D [],loop:=aM [(2,Nk)]}
theorem Nl:aI (yL):=aQ aj _ (aA)
theorem aac:bq (yL) (bw (bB Tryz.f70) 0) (Nk):=
 bI (cx:=yL) (n:=20) (n0:=0) (ins:=[0,3]) (outs:=[2]) (sh:=⟨[.ai U.i64,.int .i64],[]⟩) (run:=fun n x=>M.pZ x.1.1 n x.1.2.1) (bz:=aab) (out:=Nj) aj (Nl) az (aN (by kernel_rfl)) (fun _=>rfl) (fun m x=>by kernel_rfl) (an ⟨cr,fun _ _ _=>rfl⟩ (an ⟨bJ,fun _ _ _=>rfl⟩ (aA))) false al
theorem aad:(CS (M.qa)).Ok D Tryz.prog:=
 aR (cx:=yL) (c:=CS (M.qa)) (fz:=true) (fn:=Tryz.f70) aj (Nl) az ⟨Tryz.func70,by kernel_rfl⟩ (aS (bN 1 (by kernel_rfl) (bT (.mk (by kernel_rfl) (aac))))) ⟨⟨[.bool],[]⟩,fun x=>x.1.1⟩ (fun x=>rfl) (fun x=>by kernel_rfl)
def Nn(y:(Bool×(List M.aD)×(List M.ah)×(List M.af)×(List Int)×(List M.ay))⊕(Int×(List M.aD)×(List M.ah)×(List M.af)×(List Int)×(List M.ay)×M.af)){R:Type}(k:Ex->List (AV K)->List (Ob K)->R):R:=match y with
 |.inl a0=>k Ex.ret (aw.aV D ⟨[.any,.any,.bool],[.box [.ai U.Prog,.ai U.Stream,.ai U.Task,.ai U.i64,.ai U.Note],.dead]⟩ (((),((),(a0.1,()))),((a0.2.1,(a0.2.2.1,(a0.2.2.2.1,(a0.2.2.2.2.1,(a0.2.2.2.2.2,()))))),((),())))) (aw.aX D ⟨[.any,.any,.bool],[.box [.ai U.Prog,.ai U.Stream,.ai U.Task,.ai U.i64,.ai U.Note],.dead]⟩ (((),((),(a0.1,()))),((a0.2.1,(a0.2.2.1,(a0.2.2.2.1,(a0.2.2.2.2.1,(a0.2.2.2.2.2,()))))),((),()))))
 |.inr (a1)=>k (Ex.exit 0) (aw.aV D ⟨[.ptr 1 0,.int .i64,.any],[.box [.ai U.Prog,.ai U.Stream,.ai U.Task,.ai U.i64,.ai U.Note],.el U.Task]⟩ (((),(a1.1,((),()))),((a1.2.1,(a1.2.2.1,(a1.2.2.2.1,(a1.2.2.2.2.1,(a1.2.2.2.2.2.1,()))))),(a1.2.2.2.2.2.2,())))) (aw.aX D ⟨[.ptr 1 0,.int .i64,.any],[.box [.ai U.Prog,.ai U.Stream,.ai U.Task,.ai U.i64,.ai U.Note],.el U.Task]⟩ (((),(a1.1,((),()))),((a1.2.1,(a1.2.2.1,(a1.2.2.2.1,(a1.2.2.2.2.1,(a1.2.2.2.2.2.1,()))))),(a1.2.2.2.2.2.2,()))))
def aae:List (bA K ((Bool×(List M.aD)×(List M.ah)×(List M.af)×(List Int)×(List M.ay))⊕(Int×(List M.aD)×(List M.ah)×(List M.af)×(List Int)×(List M.ay)×M.af))):=[⟨Ex.ret,⟨[.any,.any,.bool],[.box [.ai U.Prog,.ai U.Stream,.ai U.Task,.ai U.i64,.ai U.Note],.dead]⟩,fun x=>.inl (x.1.2.2.1,x.2.1.1,x.2.1.2.1,x.2.1.2.2.1,x.2.1.2.2.2.1,x.2.1.2.2.2.2.1)⟩,⟨(Ex.exit 0),⟨[.ptr 1 0,.int .i64,.any],[.box [.ai U.Prog,.ai U.Stream,.ai U.Task,.ai U.i64,.ai U.Note],.el U.Task]⟩,fun x=>.inr ((x.1.2.1,x.2.1.1,x.2.1.2.1,x.2.1.2.2.1,x.2.1.2.2.2.1,x.2.1.2.2.2.2.1,x.2.2.1))⟩]
def Np:bo K:=bD D false 202 2 [0,5,6,7] [5,6,4] ⟨[.ptr 0 0,.ptr 1 0,.int .i64,.int .i64],[.el U.Async,.el U.Task]⟩ (fun x=>M.nK x.1.2.2.1 x.2.1 x.2.2.1 al x.1.2.2.2.1) Nn
def Nq(y:(Bool)⊕(Unit)){R:Type}(k:Ex->List (AV K)->List (Ob K)->R):R:=match y with
 |.inl a0=>k Ex.ret (aw.aV D ⟨[.bool],[]⟩ ((a0,()),())) (aw.aX D ⟨[.bool],[]⟩ ((a0,()),()))
 |.inr (a1)=>k (Ex.exit 0) (aw.aV D ⟨[.any],[]⟩ (((),()),())) (aw.aX D ⟨[.any],[]⟩ (((),()),()))
def aaf:List (bA K ((Bool)⊕(Unit))):=[⟨Ex.ret,⟨[.bool],[]⟩,fun x=>.inl x.1.1⟩,⟨(Ex.exit 0),⟨[.any],[]⟩,fun x=>.inr (())⟩]
def Nr:bo K:=bD D false 18 0 [0,1,5] [4] ⟨[.ai U.i64,.int .i64,.int .i64],[]⟩ (fun x=>M.qb x.1.1 x.1.2.1 al x.1.2.2.1) Nq
def CU(m:(List Int)->Int->Option (Bool)):aK K:={f:=71,sh:=⟨[.ai U.i64,.int .i64],[]⟩,R:=Bool,run:=fun x=>m x.1.1 x.1.2.1,dflt:=default,out:=fun r=>(Sh.enc D (.bool) r,aB.encs D [] ())}
def yM:Cx K:={aP with mode:=aO .plain [],call:=callOf D [],loop:=aM [(2,Nr)]}
theorem Ns:aI (yM):=aQ aj _ (aA)
theorem aag:bq (yM) (bw (bB Tryz.f71) 0) (Nr):=
 bI (cx:=yM) (n:=18) (n0:=0) (ins:=[0,1,5]) (outs:=[4]) (sh:=⟨[.ai U.i64,.int .i64,.int .i64],[]⟩) (run:=fun n x=>M.qb x.1.1 x.1.2.1 n x.1.2.2.1) (bz:=aaf) (out:=Nq) aj (Ns) az (aN (by kernel_rfl)) (fun _=>rfl) (fun m x=>by kernel_rfl) (an ⟨cr,fun _ _ _=>rfl⟩ (an ⟨bJ,fun _ _ _=>rfl⟩ (aA))) false al
theorem aah:(CU (M.tp)).Ok D Tryz.prog:=
 aR (cx:=yM) (c:=CU (M.tp)) (fz:=true) (fn:=Tryz.f71) aj (Ns) az ⟨Tryz.func71,by kernel_rfl⟩ (aS (bN 1 (by kernel_rfl) (bT (.mk (by kernel_rfl) (aag))))) ⟨⟨[.bool],[]⟩,fun x=>x.1.1⟩ (fun x=>rfl) (fun x=>by kernel_rfl)
def Nu(y:(Bool)⊕(Int×M.af)){R:Type}(k:Ex->List (AV K)->List (Ob K)->R):R:=match y with
 |.inl a0=>k Ex.ret (aw.aV D ⟨[.any,.any,.bool],[.dead]⟩ (((),((),(a0,()))),((),()))) (aw.aX D ⟨[.any,.any,.bool],[.dead]⟩ (((),((),(a0,()))),((),())))
 |.inr (a1)=>k (Ex.exit 2) (aw.aV D ⟨[.ptr 0 0,.int .i64,.any],[.el U.Task]⟩ (((),(a1.1,((),()))),(a1.2,()))) (aw.aX D ⟨[.ptr 0 0,.int .i64,.any],[.el U.Task]⟩ (((),(a1.1,((),()))),(a1.2,())))
def aai:List (bA K ((Bool)⊕(Int×M.af))):=[⟨Ex.ret,⟨[.any,.any,.bool],[.dead]⟩,fun x=>.inl x.1.2.2.1⟩,⟨(Ex.exit 2),⟨[.ptr 0 0,.int .i64,.any],[.el U.Task]⟩,fun x=>.inr ((x.1.2.1,x.2.1))⟩]
def Nv:bo K:=bD D false 202 1 [5,6,8] [5,6,4] ⟨[.ptr 0 0,.int .i64,.int .i64],[.el U.Task]⟩ (fun x=>M.nL x.1.2.1 x.2.1 al x.1.2.2.1) Nu
def CV(m:M.af->Option (Bool)):aK K:={f:=72,sh:=⟨[.el U.Task],[]⟩,R:=Bool,run:=fun x=>m x.1.1,dflt:=default,out:=fun r=>(Sh.enc D (.bool) r,aB.encs D [] ())}
def Nw:Cx K:={aP with mode:=aO .plain [],call:=callOf D [],loop:=aM []}
theorem aaj:aI (Nw):=aQ aj _ (aA)
theorem aak:(CV (M.CW)).Ok D Tryz.prog:=
 aR (cx:=Nw) (c:=CV (M.CW)) (fz:=true) (fn:=Tryz.f72) aj (aaj) az ⟨Tryz.func72,by kernel_rfl⟩ (aS (aN (by kernel_rfl))) ⟨⟨[.bool],[]⟩,fun x=>x.1.1⟩ (fun x=>rfl) (fun x=>by kernel_rfl)
def CX(m:Int->M.ar->Option (Bool×M.ar)):aK K:={f:=42,sh:=⟨[.ptr 0 0,.int .i64],[.el U.Async]⟩,R:=Bool×M.ar,run:=fun x=>m x.1.2.1 x.2.1,dflt:=default,out:=fun r=>(Sh.enc D (.bool) r.1,aB.encs D [.el U.Async] (r.2,()))}
def tq:Cx K:={aP with mode:=aO .plain [(43,.plain),(70,.plain),(71,.plain),(72,.plain)],call:=callOf D [jW M.jX,CS M.qa,CU M.tp,CV M.CW],loop:=aM [(8,Np),(13,Nv)]}
theorem CY:aI (tq):=aQ aj _ (an lR (an aad (an aah (an aak (aA)))))
theorem aal:bq (tq) (bw (bB Tryz.f42) 0) (Np):=
 bI (cx:=tq) (n:=202) (n0:=2) (ins:=[0,5,6,7]) (outs:=[5,6,4]) (sh:=⟨[.ptr 0 0,.ptr 1 0,.int .i64,.int .i64],[.el U.Async,.el U.Task]⟩) (run:=fun n x=>M.nK x.1.2.2.1 x.2.1 x.2.2.1 n x.1.2.2.2.1) (bz:=aae) (out:=Nn) aj (CY) az (aN (by kernel_rfl)) (fun _=>rfl) (fun m x=>by kernel_rfl) (an ⟨cr,fun _ _ _=>rfl⟩ (an ⟨bJ,fun _ _ _=>rfl⟩ (aA))) false al
theorem aam:bq (tq) (bw (bB Tryz.f42) 1) (Nv):=
 bI (cx:=tq) (n:=202) (n0:=1) (ins:=[5,6,8]) (outs:=[5,6,4]) (sh:=⟨[.ptr 0 0,.int .i64,.int .i64],[.el U.Task]⟩) (run:=fun n x=>M.nL x.1.2.1 x.2.1 n x.1.2.2.1) (bz:=aai) (out:=Nu) aj (CY) az (aN (by kernel_rfl)) (fun _=>rfl) (fun m x=>by kernel_rfl) (an ⟨cr,fun _ _ _=>rfl⟩ (an ⟨bJ,fun _ _ _=>rfl⟩ (aA))) false al
theorem aan:(CX (M.tr)).Ok D Tryz.prog:=
 aR (cx:=tq) (c:=CX (M.tr)) (fz:=true) (fn:=Tryz.f42) aj (CY) az ⟨Tryz.func42,by kernel_rfl⟩ (aS (bN 2 (by kernel_rfl) (lt_succ (bT (.mk (by kernel_rfl) (aal))) (.mk (by kernel_rfl) (aam))))) ⟨⟨[.bool],[.el U.Async]⟩,fun x=>(x.1.1,x.2.1)⟩ (fun x=>rfl) (fun x=>by kernel_rfl)
def Nx(y:(Bool×(List M.aD)×(List M.ah)×(List M.af)×(List Int)×(List M.ay))⊕(M.ar)){R:Type}(k:Ex->List (AV K)->List (Ob K)->R):R:=match y with
 |.inl a0=>k Ex.ret (aw.aV D ⟨[.any,.bool],[.box [.ai U.Prog,.ai U.Stream,.ai U.Task,.ai U.i64,.ai U.Note]]⟩ (((),(a0.1,())),((a0.2.1,(a0.2.2.1,(a0.2.2.2.1,(a0.2.2.2.2.1,(a0.2.2.2.2.2,()))))),()))) (aw.aX D ⟨[.any,.bool],[.box [.ai U.Prog,.ai U.Stream,.ai U.Task,.ai U.i64,.ai U.Note]]⟩ (((),(a0.1,())),((a0.2.1,(a0.2.2.1,(a0.2.2.2.1,(a0.2.2.2.2.1,(a0.2.2.2.2.2,()))))),())))
 |.inr (a1)=>k (Ex.exit 2) (aw.aV D ⟨[.ptr 0 0,.any],[.el U.Async]⟩ (((),((),())),(a1,()))) (aw.aX D ⟨[.ptr 0 0,.any],[.el U.Async]⟩ (((),((),())),(a1,())))
def aao:List (bA K ((Bool×(List M.aD)×(List M.ah)×(List M.af)×(List Int)×(List M.ay))⊕(M.ar))):=[⟨Ex.ret,⟨[.any,.bool],[.box [.ai U.Prog,.ai U.Stream,.ai U.Task,.ai U.i64,.ai U.Note]]⟩,fun x=>.inl (x.1.2.1,x.2.1.1,x.2.1.2.1,x.2.1.2.2.1,x.2.1.2.2.2.1,x.2.1.2.2.2.2.1)⟩,⟨(Ex.exit 2),⟨[.ptr 0 0,.any],[.el U.Async]⟩,fun x=>.inr (x.2.1)⟩]
def Ny:bo K:=bD D false 169 1 [0,4] [0,2] ⟨[.ptr 0 0,.int .i64],[.el U.Async]⟩ (fun x=>M.kS al x.1.2.1 x.2.1) Nx
def Nz(y:(Bool×(List M.aD)×(List M.ah)×(List M.af)×(List Int)×(List M.ay))⊕(M.ar)){R:Type}(k:Ex->List (AV K)->List (Ob K)->R):R:=match y with
 |.inl a0=>k Ex.ret (aw.aV D ⟨[.any,.bool],[.box [.ai U.Prog,.ai U.Stream,.ai U.Task,.ai U.i64,.ai U.Note]]⟩ (((),(a0.1,())),((a0.2.1,(a0.2.2.1,(a0.2.2.2.1,(a0.2.2.2.2.1,(a0.2.2.2.2.2,()))))),()))) (aw.aX D ⟨[.any,.bool],[.box [.ai U.Prog,.ai U.Stream,.ai U.Task,.ai U.i64,.ai U.Note]]⟩ (((),(a0.1,())),((a0.2.1,(a0.2.2.1,(a0.2.2.2.1,(a0.2.2.2.2.1,(a0.2.2.2.2.2,()))))),())))
 |.inr (a1)=>k (Ex.exit 4) (aw.aV D ⟨[.ptr 0 0,.any],[.el U.Async]⟩ (((),((),())),(a1,()))) (aw.aX D ⟨[.ptr 0 0,.any],[.el U.Async]⟩ (((),((),())),(a1,())))
def aap:List (bA K ((Bool×(List M.aD)×(List M.ah)×(List M.af)×(List Int)×(List M.ay))⊕(M.ar))):=[⟨Ex.ret,⟨[.any,.bool],[.box [.ai U.Prog,.ai U.Stream,.ai U.Task,.ai U.i64,.ai U.Note]]⟩,fun x=>.inl (x.1.2.1,x.2.1.1,x.2.1.2.1,x.2.1.2.2.1,x.2.1.2.2.2.1,x.2.1.2.2.2.2.1)⟩,⟨(Ex.exit 4),⟨[.ptr 0 0,.any],[.el U.Async]⟩,fun x=>.inr (x.2.1)⟩]
def NA:bo K:=bD D false 169 1 [0,5] [0,2] ⟨[.ptr 0 0,.int .i64],[.el U.Async]⟩ (fun x=>M.nM x.2.1 al x.1.2.1) Nz
def NB(y:(Bool×(List M.aD)×(List M.ah)×(List M.af)×(List Int)×(List M.ay))⊕((List M.aD)×(List M.ah)×(List M.af)×(List Int)×(List M.ay))){R:Type}(k:Ex->List (AV K)->List (Ob K)->R):R:=match y with
 |.inl a0=>k Ex.ret (aw.aV D ⟨[.bool],[.box [.ai U.Prog,.ai U.Stream,.ai U.Task,.ai U.i64,.ai U.Note]]⟩ ((a0.1,()),((a0.2.1,(a0.2.2.1,(a0.2.2.2.1,(a0.2.2.2.2.1,(a0.2.2.2.2.2,()))))),()))) (aw.aX D ⟨[.bool],[.box [.ai U.Prog,.ai U.Stream,.ai U.Task,.ai U.i64,.ai U.Note]]⟩ ((a0.1,()),((a0.2.1,(a0.2.2.1,(a0.2.2.2.1,(a0.2.2.2.2.1,(a0.2.2.2.2.2,()))))),())))
 |.inr (a1)=>k (Ex.exit 6) (aw.aV D ⟨[.any],[.box [.ai U.Prog,.ai U.Stream,.ai U.Task,.ai U.i64,.ai U.Note]]⟩ (((),()),((a1.1,(a1.2.1,(a1.2.2.1,(a1.2.2.2.1,(a1.2.2.2.2,()))))),()))) (aw.aX D ⟨[.any],[.box [.ai U.Prog,.ai U.Stream,.ai U.Task,.ai U.i64,.ai U.Note]]⟩ (((),()),((a1.1,(a1.2.1,(a1.2.2.1,(a1.2.2.2.1,(a1.2.2.2.2,()))))),())))
def aaq:List (bA K ((Bool×(List M.aD)×(List M.ah)×(List M.af)×(List Int)×(List M.ay))⊕((List M.aD)×(List M.ah)×(List M.af)×(List Int)×(List M.ay)))):=[⟨Ex.ret,⟨[.bool],[.box [.ai U.Prog,.ai U.Stream,.ai U.Task,.ai U.i64,.ai U.Note]]⟩,fun x=>.inl (x.1.1,x.2.1.1,x.2.1.2.1,x.2.1.2.2.1,x.2.1.2.2.2.1,x.2.1.2.2.2.2.1)⟩,⟨(Ex.exit 6),⟨[.any],[.box [.ai U.Prog,.ai U.Stream,.ai U.Task,.ai U.i64,.ai U.Note]]⟩,fun x=>.inr ((x.2.1.1,x.2.1.2.1,x.2.1.2.2.1,x.2.1.2.2.2.1,x.2.1.2.2.2.2.1))⟩]
def NC:bo K:=bD D false 169 1 [0,6] [2] ⟨[.ptr 0 0,.int .i64],[.el U.Async]⟩ (fun x=>M.nN x.2.1 al x.1.2.1) NB
def CZ(m:M.ar->Option (Bool×M.ar)):aK K:={f:=18,sh:=⟨[.ptr 0 0],[.el U.Async]⟩,R:=Bool×M.ar,run:=fun x=>m x.2.1,dflt:=default,out:=fun r=>(Sh.enc D (.bool) r.1,aB.encs D [.el U.Async] (r.2,()))}
def kU:Cx K:={aP with mode:=aO .plain [(40,.plain),(41,.plain),(42,.qc),(43,.plain)],call:=callOf D [CQ M.tn,BU M.sG,CX M.tr,jW M.jX],loop:=aM [(4,Ni),(9,Ny),(14,NA),(19,NC)]}
theorem vK:aI (kU):=aQ aj _ (an Z8 (an YB (an aan (an lR (aA)))))
theorem aar:bq (kU) (bw (bB Tryz.f18) 0) (Ni):=
 bI (cx:=kU) (n:=169) (n0:=1) (ins:=[0,3]) (outs:=[0,2]) (sh:=⟨[.ptr 0 0,.int .i64],[.el U.Async]⟩) (run:=fun n x=>M.nJ x.2.1 n x.1.2.1) (bz:=Z9) (out:=Nh) aj (vK) az (aN (by kernel_rfl)) (fun _=>rfl) (fun m x=>by kernel_rfl) (an ⟨cr,fun _ _ _=>rfl⟩ (an ⟨bJ,fun _ _ _=>rfl⟩ (aA))) false al
theorem aas:bq (kU) (bw (bB Tryz.f18) 1) (Ny):=
 bI (cx:=kU) (n:=169) (n0:=1) (ins:=[0,4]) (outs:=[0,2]) (sh:=⟨[.ptr 0 0,.int .i64],[.el U.Async]⟩) (run:=fun n x=>M.kS n x.1.2.1 x.2.1) (bz:=aao) (out:=Nx) aj (vK) az (aN (by kernel_rfl)) (fun _=>rfl) (fun m x=>by kernel_rfl) (an ⟨cr,fun _ _ _=>rfl⟩ (an ⟨bJ,fun _ _ _=>rfl⟩ (aA))) false al
theorem aat:bq (kU) (bw (bB Tryz.f18) 2) (NA):=
 bI (cx:=kU) (n:=169) (n0:=1) (ins:=[0,5]) (outs:=[0,2]) (sh:=⟨[.ptr 0 0,.int .i64],[.el U.Async]⟩) (run:=fun n x=>M.nM x.2.1 n x.1.2.1) (bz:=aap) (out:=Nz) aj (vK) az (aN (by kernel_rfl)) (fun _=>rfl) (fun m x=>by kernel_rfl) (an ⟨cr,fun _ _ _=>rfl⟩ (an ⟨bJ,fun _ _ _=>rfl⟩ (aA))) false al
theorem aau:bq (kU) (bw (bB Tryz.f18) 3) (NC):=
 bI (cx:=kU) (n:=169) (n0:=1) (ins:=[0,6]) (outs:=[2]) (sh:=⟨[.ptr 0 0,.int .i64],[.el U.Async]⟩) (run:=fun n x=>M.nN x.2.1 n x.1.2.1) (bz:=aaq) (out:=NB) aj (vK) az (aN (by kernel_rfl)) (fun _=>rfl) (fun m x=>by kernel_rfl) (an ⟨cr,fun _ _ _=>rfl⟩ (an ⟨bJ,fun _ _ _=>rfl⟩ (aA))) false al
theorem aav:(CZ (M.qd)).Ok D Tryz.prog:=
 aR (cx:=kU) (c:=CZ (M.qd)) (fz:=true) (fn:=Tryz.f18) aj (vK) az ⟨Tryz.func18,by kernel_rfl⟩ (aS (bN 4 (by kernel_rfl) (lt_succ (lt_succ (lt_succ (bT (.mk (by kernel_rfl) (aar))) (.mk (by kernel_rfl) (aas))) (.mk (by kernel_rfl) (aat))) (.mk (by kernel_rfl) (aau))))) ⟨⟨[.bool],[.el U.Async]⟩,fun x=>(x.1.1,x.2.1)⟩ (fun x=>rfl) (fun x=>by kernel_rfl)
def ND(y:(List M.ay)){R:Type}(k:Ex->List (AV K)->List (Ob K)->R):R:=match y with
 |a0=>k (Ex.exit 0) (aw.aV D ⟨[.own 2],[.dead,.dead,.arr U.Note]⟩ (((),()),((),((),(a0,()))))) (aw.aX D ⟨[.own 2],[.dead,.dead,.arr U.Note]⟩ (((),()),((),((),(a0,())))))
def aaw:List (bA K ((List M.ay))):=[⟨(Ex.exit 0),⟨[.own 2],[.dead,.dead,.arr U.Note]⟩,fun x=>x.2.2.2.1⟩]
def NF:bo K:=bD D false 35 2 [1,2,5,6] [5] ⟨[.int .i64,.ptr 0 0,.own 2,.int .i64],[.el U.Async,.dead,.arr U.Note]⟩ (fun x=>M.mX x.1.1 x.2.1 al x.1.2.2.2.1 x.2.2.2.1) ND
def C0(m:M.ar->Int->Option ((List M.ay))):aK K:={f:=5,sh:=⟨[.el U.Async,.int .i64],[]⟩,R:=(List M.ay),run:=fun x=>m x.1.1 x.1.2.1,dflt:=default,out:=fun r=>(Sh.enc D (.ai U.Note) r,aB.encs D [] ())}
def yN:Cx K:={aP with mode:=aO .plain [(18,.qc)],call:=callOf D [CZ M.qd],loop:=aM [(5,NF)]}
theorem NG:aI (yN):=aQ aj _ (an aav (aA))
theorem aax:bq (yN) (bw (bB Tryz.f5) 0) (NF):=
 bI (cx:=yN) (n:=35) (n0:=2) (ins:=[1,2,5,6]) (outs:=[5]) (sh:=⟨[.int .i64,.ptr 0 0,.own 2,.int .i64],[.el U.Async,.dead,.arr U.Note]⟩) (run:=fun n x=>M.mX x.1.1 x.2.1 n x.1.2.2.2.1 x.2.2.2.1) (bz:=aaw) (out:=ND) aj (NG) az (aN (by kernel_rfl)) (fun _=>rfl) (fun m x=>by kernel_rfl) (an ⟨bJ,fun _ _ _=>rfl⟩ (aA)) false al
theorem aay:(C0 (M.pg)).Ok D Tryz.prog:=
 aR (cx:=yN) (c:=C0 (M.pg)) (fz:=true) (fn:=Tryz.f5) aj (NG) az ⟨Tryz.func5,by kernel_rfl⟩ (aS (bN 1 (by kernel_rfl) (bT (.mk (by kernel_rfl) (aax))))) ⟨⟨[.ai U.Note],[]⟩,fun x=>x.1.1⟩ (fun x=>rfl) (fun x=>by kernel_rfl)
def C2(m:M.aG->Option (Bool)):aK K:={f:=109,sh:=⟨[.el U.cb],[]⟩,R:=Bool,run:=fun x=>m x.1.1,dflt:=default,out:=fun r=>(Sh.enc D (.bool) r,aB.encs D [] ())}
def NH:Cx K:={aP with mode:=aO .plain [(54,.plain)],call:=callOf D [hC M.hJ],loop:=aM []}
theorem aaz:aI (NH):=aQ aj _ (an i7 (aA))
theorem aaA:(C2 (M.nO)).Ok D Tryz.prog:=
 aR (cx:=NH) (c:=C2 (M.nO)) (fz:=true) (fn:=Tryz.f109) aj (aaz) az ⟨Tryz.func109,by kernel_rfl⟩ (aS (aN (by kernel_rfl))) ⟨⟨[.bool],[]⟩,fun x=>x.1.1⟩ (fun x=>rfl) (fun x=>by kernel_rfl)
def C3(m:M.aG->Option (Bool)):aK K:={f:=108,sh:=⟨[.el U.cb],[]⟩,R:=Bool,run:=fun x=>m x.1.1,dflt:=default,out:=fun r=>(Sh.enc D (.bool) r,aB.encs D [] ())}
def NI:Cx K:={aP with mode:=aO .plain [(109,.plain)],call:=callOf D [C2 M.nO],loop:=aM []}
theorem aaB:aI (NI):=aQ aj _ (an aaA (aA))
theorem aaC:(C3 (M.C4)).Ok D Tryz.prog:=
 aR (cx:=NI) (c:=C3 (M.C4)) (fz:=true) (fn:=Tryz.f108) aj (aaB) az ⟨Tryz.func108,by kernel_rfl⟩ (aS (aN (by kernel_rfl))) ⟨⟨[.bool],[]⟩,fun x=>x.1.1⟩ (fun x=>rfl) (fun x=>by kernel_rfl)
def NJ(y:(Int)⊕(Unit)){R:Type}(k:Ex->List (AV K)->List (Ob K)->R):R:=match y with
 |.inl a0=>k Ex.ret (aw.aV D ⟨[.int .i64],[]⟩ ((a0,()),())) (aw.aX D ⟨[.int .i64],[]⟩ ((a0,()),()))
 |.inr (a1)=>k (Ex.exit 0) (aw.aV D ⟨[.any],[]⟩ (((),()),())) (aw.aX D ⟨[.any],[]⟩ (((),()),()))
def aaD:List (bA K ((Int)⊕(Unit))):=[⟨Ex.ret,⟨[.int .i64],[]⟩,fun x=>.inl x.1.1⟩,⟨(Ex.exit 0),⟨[.any],[]⟩,fun x=>.inr (())⟩]
def NK:bo K:=bD D false 19 0 [0,1,7,8] [4] ⟨[.ai U.cb,.fn 108 [],.int .i64,.int .i64],[]⟩ (fun x=>M.nP x.1.1 x.1.2.2.1 al x.1.2.2.2.1) NJ
def C5(m:(List M.aG)->Option (Int)):aK K:={f:=127,sh:=⟨[.ai U.cb,.fn 108 []],[]⟩,R:=Int,run:=fun x=>m x.1.1,dflt:=default,out:=fun r=>(Sh.enc D (.int .i64) r,aB.encs D [] ())}
def yO:Cx K:={aP with mode:=aO .plain [(108,.plain)],call:=callOf D [C3 M.C4],loop:=aM [(2,NK)]}
theorem NL:aI (yO):=aQ aj _ (an aaC (aA))
theorem aaE:bq (yO) (bw (bB Tryz.f127) 0) (NK):=
 bI (cx:=yO) (n:=19) (n0:=0) (ins:=[0,1,7,8]) (outs:=[4]) (sh:=⟨[.ai U.cb,.fn 108 [],.int .i64,.int .i64],[]⟩) (run:=fun n x=>M.nP x.1.1 x.1.2.2.1 n x.1.2.2.2.1) (bz:=aaD) (out:=NJ) aj (NL) az (aN (by kernel_rfl)) (fun _=>rfl) (fun m x=>by kernel_rfl) (an ⟨cr,fun _ _ _=>rfl⟩ (an ⟨bJ,fun _ _ _=>rfl⟩ (aA))) false al
theorem aaF:(C5 (M.vL)).Ok D Tryz.prog:=
 aR (cx:=yO) (c:=C5 (M.vL)) (fz:=true) (fn:=Tryz.f127) aj (NL) az ⟨Tryz.func127,by kernel_rfl⟩ (aS (bN 1 (by kernel_rfl) (bT (.mk (by kernel_rfl) (aaE))))) ⟨⟨[.int .i64],[]⟩,fun x=>x.1.1⟩ (fun x=>rfl) (fun x=>by kernel_rfl)
def C6(m:(List M.aG)->Option (Bool)):aK K:={f:=107,sh:=⟨[.ai U.cb,.fn 108 []],[]⟩,R:=Bool,run:=fun x=>m x.1.1,dflt:=default,out:=fun r=>(Sh.enc D (.bool) r,aB.encs D [] ())}
def NM:Cx K:={aP with mode:=aO .plain [(127,.plain)],call:=callOf D [C5 M.vL],loop:=aM []}
theorem aaG:aI (NM):=aQ aj _ (an aaF (aA))
theorem aaH:(C6 (M.tu)).Ok D Tryz.prog:=
 aR (cx:=NM) (c:=C6 (M.tu)) (fz:=true) (fn:=Tryz.f107) aj (aaG) az ⟨Tryz.func107,by kernel_rfl⟩ (aS (aN (by kernel_rfl))) ⟨⟨[.bool],[]⟩,fun x=>x.1.1⟩ (fun x=>rfl) (fun x=>by kernel_rfl)
def C7(m:M.aD->Option (Bool)):aK K:={f:=79,sh:=⟨[.el U.Prog],[]⟩,R:=Bool,run:=fun x=>m x.1.1,dflt:=default,out:=fun r=>(Sh.enc D (.bool) r,aB.encs D [] ())}
def NN:Cx K:={aP with mode:=aO .plain [(54,.plain),(107,.plain)],call:=callOf D [hC M.hJ,C6 M.tu],loop:=aM []}
theorem aaI:aI (NN):=aQ aj _ (an i7 (an aaH (aA)))
theorem aaJ:(C7 (M.qe)).Ok D Tryz.prog:=
 aR (cx:=NN) (c:=C7 (M.qe)) (fz:=true) (fn:=Tryz.f79) aj (aaI) az ⟨Tryz.func79,by kernel_rfl⟩ (aS (aN (by kernel_rfl))) ⟨⟨[.bool],[]⟩,fun x=>x.1.1⟩ (fun x=>rfl) (fun x=>by kernel_rfl)
def C9(m:M.aD->Option (Bool)):aK K:={f:=78,sh:=⟨[.el U.Prog],[]⟩,R:=Bool,run:=fun x=>m x.1.1,dflt:=default,out:=fun r=>(Sh.enc D (.bool) r,aB.encs D [] ())}
def NP:Cx K:={aP with mode:=aO .plain [(79,.plain)],call:=callOf D [C7 M.qe],loop:=aM []}
theorem aaK:aI (NP):=aQ aj _ (an aaJ (aA))
theorem aaL:(C9 (M.tw)).Ok D Tryz.prog:=
 aR (cx:=NP) (c:=C9 (M.tw)) (fz:=true) (fn:=Tryz.f78) aj (aaK) az ⟨Tryz.func78,by kernel_rfl⟩ (aS (aN (by kernel_rfl))) ⟨⟨[.bool],[]⟩,fun x=>x.1.1⟩ (fun x=>rfl) (fun x=>by kernel_rfl)
def NQ(y:(Int)⊕(Unit)){R:Type}(k:Ex->List (AV K)->List (Ob K)->R):R:=match y with
 |.inl a0=>k Ex.ret (aw.aV D ⟨[.int .i64],[]⟩ ((a0,()),())) (aw.aX D ⟨[.int .i64],[]⟩ ((a0,()),()))
 |.inr (a1)=>k (Ex.exit 0) (aw.aV D ⟨[.any],[]⟩ (((),()),())) (aw.aX D ⟨[.any],[]⟩ (((),()),()))
def aaM:List (bA K ((Int)⊕(Unit))):=[⟨Ex.ret,⟨[.int .i64],[]⟩,fun x=>.inl x.1.1⟩,⟨(Ex.exit 0),⟨[.any],[]⟩,fun x=>.inr (())⟩]
def NR:bo K:=bD D false 19 0 [0,1,7,8] [4] ⟨[.ai U.Prog,.fn 78 [],.int .i64,.int .i64],[]⟩ (fun x=>M.qf x.1.1 x.1.2.2.1 al x.1.2.2.2.1) NQ
def Da(m:(List M.aD)->Option (Int)):aK K:={f:=106,sh:=⟨[.ai U.Prog,.fn 78 []],[]⟩,R:=Int,run:=fun x=>m x.1.1,dflt:=default,out:=fun r=>(Sh.enc D (.int .i64) r,aB.encs D [] ())}
def yP:Cx K:={aP with mode:=aO .plain [(78,.plain)],call:=callOf D [C9 M.tw],loop:=aM [(2,NR)]}
theorem NS:aI (yP):=aQ aj _ (an aaL (aA))
theorem aaN:bq (yP) (bw (bB Tryz.f106) 0) (NR):=
 bI (cx:=yP) (n:=19) (n0:=0) (ins:=[0,1,7,8]) (outs:=[4]) (sh:=⟨[.ai U.Prog,.fn 78 [],.int .i64,.int .i64],[]⟩) (run:=fun n x=>M.qf x.1.1 x.1.2.2.1 n x.1.2.2.2.1) (bz:=aaM) (out:=NQ) aj (NS) az (aN (by kernel_rfl)) (fun _=>rfl) (fun m x=>by kernel_rfl) (an ⟨cr,fun _ _ _=>rfl⟩ (an ⟨bJ,fun _ _ _=>rfl⟩ (aA))) false al
theorem aaO:(Da (M.vM)).Ok D Tryz.prog:=
 aR (cx:=yP) (c:=Da (M.vM)) (fz:=true) (fn:=Tryz.f106) aj (NS) az ⟨Tryz.func106,by kernel_rfl⟩ (aS (bN 1 (by kernel_rfl) (bT (.mk (by kernel_rfl) (aaN))))) ⟨⟨[.int .i64],[]⟩,fun x=>x.1.1⟩ (fun x=>rfl) (fun x=>by kernel_rfl)
def Db(m:(List M.aD)->Option (Bool)):aK K:={f:=77,sh:=⟨[.ai U.Prog,.fn 78 []],[]⟩,R:=Bool,run:=fun x=>m x.1.1,dflt:=default,out:=fun r=>(Sh.enc D (.bool) r,aB.encs D [] ())}
def NT:Cx K:={aP with mode:=aO .plain [(106,.plain)],call:=callOf D [Da M.vM],loop:=aM []}
theorem aaP:aI (NT):=aQ aj _ (an aaO (aA))
theorem aaQ:(Db (M.tz)).Ok D Tryz.prog:=
 aR (cx:=NT) (c:=Db (M.tz)) (fz:=true) (fn:=Tryz.f77) aj (aaP) az ⟨Tryz.func77,by kernel_rfl⟩ (aS (aN (by kernel_rfl))) ⟨⟨[.bool],[]⟩,fun x=>x.1.1⟩ (fun x=>rfl) (fun x=>by kernel_rfl)
def Dc(m:(List M.aD)->Option (Bool)):aK K:={f:=48,sh:=⟨[.ai U.Prog],[]⟩,R:=Bool,run:=fun x=>m x.1.1,dflt:=default,out:=fun r=>(Sh.enc D (.bool) r,aB.encs D [] ())}
def NU:Cx K:={aP with mode:=aO .plain [(76,.plain),(54,.plain),(77,.plain)],call:=callOf D [xk M.xl,hC M.hJ,Db M.tz],loop:=aM []}
theorem aaR:aI (NU):=aQ aj _ (an H5 (an i7 (an aaQ (aA))))
theorem aaS:(Dc (M.tA)).Ok D Tryz.prog:=
 aR (cx:=NU) (c:=Dc (M.tA)) (fz:=true) (fn:=Tryz.f48) aj (aaR) az ⟨Tryz.func48,by kernel_rfl⟩ (aS (aN (by kernel_rfl))) ⟨⟨[.bool],[]⟩,fun x=>x.1.1⟩ (fun x=>rfl) (fun x=>by kernel_rfl)
def Df(m:M.ay->Option (Bool)):aK K:={f:=81,sh:=⟨[.el U.Note],[]⟩,R:=Bool,run:=fun x=>m x.1.1,dflt:=default,out:=fun r=>(Sh.enc D (.bool) r,aB.encs D [] ())}
def NV:Cx K:={aP with mode:=aO .plain [(54,.plain)],call:=callOf D [hC M.hJ],loop:=aM []}
theorem aaT:aI (NV):=aQ aj _ (an i7 (aA))
theorem aaU:(Df (M.tB)).Ok D Tryz.prog:=
 aR (cx:=NV) (c:=Df (M.tB)) (fz:=true) (fn:=Tryz.f81) aj (aaT) az ⟨Tryz.func81,by kernel_rfl⟩ (aS (aN (by kernel_rfl))) ⟨⟨[.bool],[]⟩,fun x=>x.1.1⟩ (fun x=>rfl) (fun x=>by kernel_rfl)
def NW(y:(Int)⊕(Unit)){R:Type}(k:Ex->List (AV K)->List (Ob K)->R):R:=match y with
 |.inl a0=>k Ex.ret (aw.aV D ⟨[.int .i64],[]⟩ ((a0,()),())) (aw.aX D ⟨[.int .i64],[]⟩ ((a0,()),()))
 |.inr (a1)=>k (Ex.exit 0) (aw.aV D ⟨[.any],[]⟩ (((),()),())) (aw.aX D ⟨[.any],[]⟩ (((),()),()))
def aaV:List (bA K ((Int)⊕(Unit))):=[⟨Ex.ret,⟨[.int .i64],[]⟩,fun x=>.inl x.1.1⟩,⟨(Ex.exit 0),⟨[.any],[]⟩,fun x=>.inr (())⟩]
def NY:bo K:=bD D false 19 0 [0,1,7,8] [4] ⟨[.ai U.Note,.fn 81 [],.int .i64,.int .i64],[]⟩ (fun x=>M.qg x.1.1 x.1.2.2.1 al x.1.2.2.2.1) NW
def Dh(m:(List M.ay)->Option (Int)):aK K:={f:=55,sh:=⟨[.ai U.Note,.fn 81 []],[]⟩,R:=Int,run:=fun x=>m x.1.1,dflt:=default,out:=fun r=>(Sh.enc D (.int .i64) r,aB.encs D [] ())}
def yQ:Cx K:={aP with mode:=aO .plain [(81,.plain)],call:=callOf D [Df M.tB],loop:=aM [(2,NY)]}
theorem NZ:aI (yQ):=aQ aj _ (an aaU (aA))
theorem aaW:bq (yQ) (bw (bB Tryz.f55) 0) (NY):=
 bI (cx:=yQ) (n:=19) (n0:=0) (ins:=[0,1,7,8]) (outs:=[4]) (sh:=⟨[.ai U.Note,.fn 81 [],.int .i64,.int .i64],[]⟩) (run:=fun n x=>M.qg x.1.1 x.1.2.2.1 n x.1.2.2.2.1) (bz:=aaV) (out:=NW) aj (NZ) az (aN (by kernel_rfl)) (fun _=>rfl) (fun m x=>by kernel_rfl) (an ⟨cr,fun _ _ _=>rfl⟩ (an ⟨bJ,fun _ _ _=>rfl⟩ (aA))) false al
theorem aaX:(Dh (M.vN)).Ok D Tryz.prog:=
 aR (cx:=yQ) (c:=Dh (M.vN)) (fz:=true) (fn:=Tryz.f55) aj (NZ) az ⟨Tryz.func55,by kernel_rfl⟩ (aS (bN 1 (by kernel_rfl) (bT (.mk (by kernel_rfl) (aaW))))) ⟨⟨[.int .i64],[]⟩,fun x=>x.1.1⟩ (fun x=>rfl) (fun x=>by kernel_rfl)
def Di(m:(List M.ay)->Option (Bool)):aK K:={f:=80,sh:=⟨[.ai U.Note,.fn 81 []],[]⟩,R:=Bool,run:=fun x=>m x.1.1,dflt:=default,out:=fun r=>(Sh.enc D (.bool) r,aB.encs D [] ())}
def N2:Cx K:={aP with mode:=aO .plain [(55,.plain)],call:=callOf D [Dh M.vN],loop:=aM []}
theorem aaY:aI (N2):=aQ aj _ (an aaX (aA))
theorem aaZ:(Di (M.tC)).Ok D Tryz.prog:=
 aR (cx:=N2) (c:=Di (M.tC)) (fz:=true) (fn:=Tryz.f80) aj (aaY) az ⟨Tryz.func80,by kernel_rfl⟩ (aS (aN (by kernel_rfl))) ⟨⟨[.bool],[]⟩,fun x=>x.1.1⟩ (fun x=>rfl) (fun x=>by kernel_rfl)
def Dj(m:(List M.ay)->Option (Bool)):aK K:={f:=49,sh:=⟨[.ai U.Note],[]⟩,R:=Bool,run:=fun x=>m x.1.1,dflt:=default,out:=fun r=>(Sh.enc D (.bool) r,aB.encs D [] ())}
def N3:Cx K:={aP with mode:=aO .plain [(80,.plain)],call:=callOf D [Di M.tC],loop:=aM []}
theorem aa0:aI (N3):=aQ aj _ (an aaZ (aA))
theorem aa1:(Dj (M.tD)).Ok D Tryz.prog:=
 aR (cx:=N3) (c:=Dj (M.tD)) (fz:=true) (fn:=Tryz.f49) aj (aa0) az ⟨Tryz.func49,by kernel_rfl⟩ (aS (aN (by kernel_rfl))) ⟨⟨[.bool],[]⟩,fun x=>x.1.1⟩ (fun x=>rfl) (fun x=>by kernel_rfl)
def Dk(m:M.ah->Option (Bool)):aK K:={f:=51,sh:=⟨[.el U.Stream],[]⟩,R:=Bool,run:=fun x=>m x.1.1,dflt:=default,out:=fun r=>(Sh.enc D (.bool) r,aB.encs D [] ())}
def N4:Cx K:={aP with mode:=aO .plain [(52,.plain)],call:=callOf D [Ce M.sS],loop:=aM []}
theorem aa2:aI (N4):=aQ aj _ (an Y8 (aA))
theorem aa3:(Dk (M.tG)).Ok D Tryz.prog:=
 aR (cx:=N4) (c:=Dk (M.tG)) (fz:=true) (fn:=Tryz.f51) aj (aa2) az ⟨Tryz.func51,by kernel_rfl⟩ (aS (aN (by kernel_rfl))) ⟨⟨[.bool],[]⟩,fun x=>x.1.1⟩ (fun x=>rfl) (fun x=>by kernel_rfl)
def N5(y:(Int)⊕(Unit)){R:Type}(k:Ex->List (AV K)->List (Ob K)->R):R:=match y with
 |.inl a0=>k Ex.ret (aw.aV D ⟨[.int .i64],[]⟩ ((a0,()),())) (aw.aX D ⟨[.int .i64],[]⟩ ((a0,()),()))
 |.inr (a1)=>k (Ex.exit 0) (aw.aV D ⟨[.any],[]⟩ (((),()),())) (aw.aX D ⟨[.any],[]⟩ (((),()),()))
def aa4:List (bA K ((Int)⊕(Unit))):=[⟨Ex.ret,⟨[.int .i64],[]⟩,fun x=>.inl x.1.1⟩,⟨(Ex.exit 0),⟨[.any],[]⟩,fun x=>.inr (())⟩]
def N6:bo K:=bD D false 19 0 [0,1,7,8] [4] ⟨[.ai U.Stream,.fn 51 [],.int .i64,.int .i64],[]⟩ (fun x=>M.qh x.1.1 x.1.2.2.1 al x.1.2.2.2.1) N5
def Dl(m:(List M.ah)->Option (Int)):aK K:={f:=82,sh:=⟨[.ai U.Stream,.fn 51 []],[]⟩,R:=Int,run:=fun x=>m x.1.1,dflt:=default,out:=fun r=>(Sh.enc D (.int .i64) r,aB.encs D [] ())}
def yR:Cx K:={aP with mode:=aO .plain [(51,.plain)],call:=callOf D [Dk M.tG],loop:=aM [(2,N6)]}
theorem N7:aI (yR):=aQ aj _ (an aa3 (aA))
theorem aa5:bq (yR) (bw (bB Tryz.f82) 0) (N6):=
 bI (cx:=yR) (n:=19) (n0:=0) (ins:=[0,1,7,8]) (outs:=[4]) (sh:=⟨[.ai U.Stream,.fn 51 [],.int .i64,.int .i64],[]⟩) (run:=fun n x=>M.qh x.1.1 x.1.2.2.1 n x.1.2.2.2.1) (bz:=aa4) (out:=N5) aj (N7) az (aN (by kernel_rfl)) (fun _=>rfl) (fun m x=>by kernel_rfl) (an ⟨cr,fun _ _ _=>rfl⟩ (an ⟨bJ,fun _ _ _=>rfl⟩ (aA))) false al
theorem aa6:(Dl (M.vO)).Ok D Tryz.prog:=
 aR (cx:=yR) (c:=Dl (M.vO)) (fz:=true) (fn:=Tryz.f82) aj (N7) az ⟨Tryz.func82,by kernel_rfl⟩ (aS (bN 1 (by kernel_rfl) (bT (.mk (by kernel_rfl) (aa5))))) ⟨⟨[.int .i64],[]⟩,fun x=>x.1.1⟩ (fun x=>rfl) (fun x=>by kernel_rfl)
def Dm(m:(List M.ah)->Option (Bool)):aK K:={f:=50,sh:=⟨[.ai U.Stream,.fn 51 []],[]⟩,R:=Bool,run:=fun x=>m x.1.1,dflt:=default,out:=fun r=>(Sh.enc D (.bool) r,aB.encs D [] ())}
def N8:Cx K:={aP with mode:=aO .plain [(82,.plain)],call:=callOf D [Dl M.vO],loop:=aM []}
theorem aa7:aI (N8):=aQ aj _ (an aa6 (aA))
theorem aa8:(Dm (M.tH)).Ok D Tryz.prog:=
 aR (cx:=N8) (c:=Dm (M.tH)) (fz:=true) (fn:=Tryz.f50) aj (aa7) az ⟨Tryz.func50,by kernel_rfl⟩ (aS (aN (by kernel_rfl))) ⟨⟨[.bool],[]⟩,fun x=>x.1.1⟩ (fun x=>rfl) (fun x=>by kernel_rfl)
def Dn(m:(List M.aG)->Option (Int)):aK K:={f:=89,sh:=⟨[.ai U.cb],[]⟩,R:=Int,run:=fun x=>m x.1.1,dflt:=default,out:=fun r=>(Sh.enc D (.int .i64) r,aB.encs D [] ())}
def N9:Cx K:={aP with mode:=aO .plain [],call:=callOf D [],loop:=aM []}
theorem aa9:aI (N9):=aQ aj _ (aA)
theorem aba:(Dn (M.Dp)).Ok D Tryz.prog:=
 aR (cx:=N9) (c:=Dn (M.Dp)) (fz:=true) (fn:=Tryz.f89) aj (aa9) az ⟨Tryz.func89,by kernel_rfl⟩ (aS (aN (by kernel_rfl))) ⟨⟨[.int .i64],[]⟩,fun x=>x.1.1⟩ (fun x=>rfl) (fun x=>by kernel_rfl)
def Dq(m:(List M.af)->Option (Int)):aK K:={f:=117,sh:=⟨[.ai U.Task],[]⟩,R:=Int,run:=fun x=>m x.1.1,dflt:=default,out:=fun r=>(Sh.enc D (.int .i64) r,aB.encs D [] ())}
def Oa:Cx K:={aP with mode:=aO .plain [],call:=callOf D [],loop:=aM []}
theorem abb:aI (Oa):=aQ aj _ (aA)
theorem abd:(Dq (M.Ds)).Ok D Tryz.prog:=
 aR (cx:=Oa) (c:=Dq (M.Ds)) (fz:=true) (fn:=Tryz.f117) aj (abb) az ⟨Tryz.func117,by kernel_rfl⟩ (aS (aN (by kernel_rfl))) ⟨⟨[.int .i64],[]⟩,fun x=>x.1.1⟩ (fun x=>rfl) (fun x=>by kernel_rfl)
def Oc(y:(Bool)⊕(M.af)){R:Type}(k:Ex->List (AV K)->List (Ob K)->R):R:=match y with
 |.inl a0=>k Ex.ret (aw.aV D ⟨[.any,.bool],[.dead,.dead]⟩ (((),(a0,())),((),((),())))) (aw.aX D ⟨[.any,.bool],[.dead,.dead]⟩ (((),(a0,())),((),((),()))))
 |.inr (a1)=>k (Ex.exit 0) (aw.aV D ⟨[.ptr 1 0,.any],[.dead,.el U.Task]⟩ (((),((),())),((),(a1,())))) (aw.aX D ⟨[.ptr 1 0,.any],[.dead,.el U.Task]⟩ (((),((),())),((),(a1,()))))
def abe:List (bA K ((Bool)⊕(M.af))):=[⟨Ex.ret,⟨[.any,.bool],[.dead,.dead]⟩,fun x=>.inl x.1.2.1⟩,⟨(Ex.exit 0),⟨[.ptr 1 0,.any],[.dead,.el U.Task]⟩,fun x=>.inr (x.2.2.1)⟩]
def Oe:bo K:=bD D false 78 2 [2,3,10,11,12] [3,4] ⟨[.ptr 0 0,.ptr 1 0,.ai U.i64,.int .i64,.int .i64],[.el U.Async,.el U.Task]⟩ (fun x=>M.qi x.1.2.2.1 x.1.2.2.2.1 x.2.1 x.2.2.1 al x.1.2.2.2.2.1) Oc
def Of(y:(Bool)⊕(Unit)){R:Type}(k:Ex->List (AV K)->List (Ob K)->R):R:=match y with
 |.inl a0=>k Ex.ret (aw.aV D ⟨[.bool],[.dead]⟩ ((a0,()),((),()))) (aw.aX D ⟨[.bool],[.dead]⟩ ((a0,()),((),())))
 |.inr (a1)=>k (Ex.exit 2) (aw.aV D ⟨[.any],[.dead]⟩ (((),()),((),()))) (aw.aX D ⟨[.any],[.dead]⟩ (((),()),((),())))
def abf:List (bA K ((Bool)⊕(Unit))):=[⟨Ex.ret,⟨[.bool],[.dead]⟩,fun x=>.inl x.1.1⟩,⟨(Ex.exit 2),⟨[.any],[.dead]⟩,fun x=>.inr (())⟩]
def Og:bo K:=bD D false 78 1 [3,51,52,53] [4] ⟨[.ptr 0 0,.ai U.i64,.int .i64,.int .i64],[.el U.Task]⟩ (fun x=>M.qj x.1.2.1 x.1.2.2.1 x.2.1 al x.1.2.2.2.1) Of
def Dt(m:M.ar->M.af->Option (Bool)):aK K:={f:=90,sh:=⟨[.el U.Async,.el U.Task],[]⟩,R:=Bool,run:=fun x=>m x.1.1 x.1.2.1,dflt:=default,out:=fun r=>(Sh.enc D (.bool) r,aB.encs D [] ())}
def tI:Cx K:={aP with mode:=aO .plain [(117,.plain),(54,.plain),(118,.plain)],call:=callOf D [Dq M.Ds,hC M.hJ,yc M.lX],loop:=aM [(2,Oe),(8,Og)]}
theorem Du:aI (tI):=aQ aj _ (an abd (an i7 (an Kx (aA))))
theorem abg:bq (tI) (bw (bB Tryz.f90) 0) (Oe):=
 bI (cx:=tI) (n:=78) (n0:=2) (ins:=[2,3,10,11,12]) (outs:=[3,4]) (sh:=⟨[.ptr 0 0,.ptr 1 0,.ai U.i64,.int .i64,.int .i64],[.el U.Async,.el U.Task]⟩) (run:=fun n x=>M.qi x.1.2.2.1 x.1.2.2.2.1 x.2.1 x.2.2.1 n x.1.2.2.2.2.1) (bz:=abe) (out:=Oc) aj (Du) az (aN (by kernel_rfl)) (fun _=>rfl) (fun m x=>by kernel_rfl) (an ⟨cr,fun _ _ _=>rfl⟩ (an ⟨bJ,fun _ _ _=>rfl⟩ (aA))) false al
theorem abh:bq (tI) (bw (bB Tryz.f90) 1) (Og):=
 bI (cx:=tI) (n:=78) (n0:=1) (ins:=[3,51,52,53]) (outs:=[4]) (sh:=⟨[.ptr 0 0,.ai U.i64,.int .i64,.int .i64],[.el U.Task]⟩) (run:=fun n x=>M.qj x.1.2.1 x.1.2.2.1 x.2.1 n x.1.2.2.2.1) (bz:=abf) (out:=Of) aj (Du) az (aN (by kernel_rfl)) (fun _=>rfl) (fun m x=>by kernel_rfl) (an ⟨cr,fun _ _ _=>rfl⟩ (an ⟨bJ,fun _ _ _=>rfl⟩ (aA))) false al
theorem abj:(Dt (M.tJ)).Ok D Tryz.prog:=
 aR (cx:=tI) (c:=Dt (M.tJ)) (fz:=true) (fn:=Tryz.f90) aj (Du) az ⟨Tryz.func90,by kernel_rfl⟩ (aS (bN 2 (by kernel_rfl) (lt_succ (bT (.mk (by kernel_rfl) (abg))) (.mk (by kernel_rfl) (abh))))) ⟨⟨[.bool],[]⟩,fun x=>x.1.1⟩ (fun x=>rfl) (fun x=>by kernel_rfl)
def Dv(m:M.af->Option (Bool)):aK K:={f:=91,sh:=⟨[.el U.Task],[]⟩,R:=Bool,run:=fun x=>m x.1.1,dflt:=default,out:=fun r=>(Sh.enc D (.bool) r,aB.encs D [] ())}
def Oh:Cx K:={aP with mode:=aO .plain [],call:=callOf D [],loop:=aM []}
theorem abk:aI (Oh):=aQ aj _ (aA)
theorem abl:(Dv (M.Dw)).Ok D Tryz.prog:=
 aR (cx:=Oh) (c:=Dv (M.Dw)) (fz:=true) (fn:=Tryz.f91) aj (abk) az ⟨Tryz.func91,by kernel_rfl⟩ (aS (aN (by kernel_rfl))) ⟨⟨[.bool],[]⟩,fun x=>x.1.1⟩ (fun x=>rfl) (fun x=>by kernel_rfl)
def Dx(m:M.ar->Int->Option (Bool)):aK K:={f:=53,sh:=⟨[.el U.Async,.int .i64],[]⟩,R:=Bool,run:=fun x=>m x.1.1 x.1.2.1,dflt:=default,out:=fun r=>(Sh.enc D (.bool) r,aB.encs D [] ())}
def Oi:Cx K:={aP with mode:=aO .plain [(76,.plain),(54,.plain),(89,.plain),(90,.plain),(91,.plain)],call:=callOf D [xk M.xl,hC M.hJ,Dn M.Dp,Dt M.tJ,Dv M.Dw],loop:=aM []}
theorem abm:aI (Oi):=aQ aj _ (an H5 (an i7 (an aba (an abj (an abl (aA))))))
theorem abn:(Dx (M.tK)).Ok D Tryz.prog:=
 aR (cx:=Oi) (c:=Dx (M.tK)) (fz:=true) (fn:=Tryz.f53) aj (abm) az ⟨Tryz.func53,by kernel_rfl⟩ (aS (aN (by kernel_rfl))) ⟨⟨[.bool],[]⟩,fun x=>x.1.1⟩ (fun x=>rfl) (fun x=>by kernel_rfl)
def Oj(y:(Bool)⊕(M.ar)){R:Type}(k:Ex->List (AV K)->List (Ob K)->R):R:=match y with
 |.inl a0=>k Ex.ret (aw.aV D ⟨[.any,.bool],[.dead]⟩ (((),(a0,())),((),()))) (aw.aX D ⟨[.any,.bool],[.dead]⟩ (((),(a0,())),((),())))
 |.inr (a1)=>k (Ex.exit 0) (aw.aV D ⟨[.ptr 0 0,.any],[.el U.Async]⟩ (((),((),())),(a1,()))) (aw.aX D ⟨[.ptr 0 0,.any],[.el U.Async]⟩ (((),((),())),(a1,())))
def abo:List (bA K ((Bool)⊕(M.ar))):=[⟨Ex.ret,⟨[.any,.bool],[.dead]⟩,fun x=>.inl x.1.2.1⟩,⟨(Ex.exit 0),⟨[.ptr 0 0,.any],[.el U.Async]⟩,fun x=>.inr (x.2.1)⟩]
def Ol:bo K:=bD D false 68 1 [1,33,34] [1,2] ⟨[.ptr 0 0,.int .i64,.int .i64],[.el U.Async]⟩ (fun x=>M.nQ x.1.2.1 x.2.1 al x.1.2.2.1) Oj
def Om(y:(Bool)⊕(Unit)){R:Type}(k:Ex->List (AV K)->List (Ob K)->R):R:=match y with
 |.inl a0=>k Ex.ret (aw.aV D ⟨[.bool],[.dead]⟩ ((a0,()),((),()))) (aw.aX D ⟨[.bool],[.dead]⟩ ((a0,()),((),())))
 |.inr (a1)=>k (Ex.exit 2) (aw.aV D ⟨[.any],[.dead]⟩ (((),()),((),()))) (aw.aX D ⟨[.any],[.dead]⟩ (((),()),((),())))
def abp:List (bA K ((Bool)⊕(Unit))):=[⟨Ex.ret,⟨[.bool],[.dead]⟩,fun x=>.inl x.1.1⟩,⟨(Ex.exit 2),⟨[.any],[.dead]⟩,fun x=>.inr (())⟩]
def On:bo K:=bD D false 68 1 [1,43,44,45] [2] ⟨[.ptr 0 0,.ai U.i64,.int .i64,.int .i64],[.el U.Async]⟩ (fun x=>M.nR x.1.2.1 x.1.2.2.1 x.2.1 al x.1.2.2.2.1) Om
def Dy(m:M.ar->Option (Bool)):aK K:={f:=24,sh:=⟨[.el U.Async],[]⟩,R:=Bool,run:=fun x=>m x.1.1,dflt:=default,out:=fun r=>(Sh.enc D (.bool) r,aB.encs D [] ())}
def tL:Cx K:={aP with mode:=aO .plain [(48,.plain),(49,.plain),(50,.plain),(53,.plain),(54,.plain)],call:=callOf D [Dc M.tA,Dj M.tD,Dm M.tH,Dx M.tK,hC M.hJ],loop:=aM [(6,Ol),(12,On)]}
theorem Dz:aI (tL):=aQ aj _ (an aaS (an aa1 (an aa8 (an abn (an i7 (aA))))))
theorem abq:bq (tL) (bw (bB Tryz.f24) 0) (Ol):=
 bI (cx:=tL) (n:=68) (n0:=1) (ins:=[1,33,34]) (outs:=[1,2]) (sh:=⟨[.ptr 0 0,.int .i64,.int .i64],[.el U.Async]⟩) (run:=fun n x=>M.nQ x.1.2.1 x.2.1 n x.1.2.2.1) (bz:=abo) (out:=Oj) aj (Dz) az (aN (by kernel_rfl)) (fun _=>rfl) (fun m x=>by kernel_rfl) (an ⟨cr,fun _ _ _=>rfl⟩ (an ⟨bJ,fun _ _ _=>rfl⟩ (aA))) false al
theorem abr:bq (tL) (bw (bB Tryz.f24) 1) (On):=
 bI (cx:=tL) (n:=68) (n0:=1) (ins:=[1,43,44,45]) (outs:=[2]) (sh:=⟨[.ptr 0 0,.ai U.i64,.int .i64,.int .i64],[.el U.Async]⟩) (run:=fun n x=>M.nR x.1.2.1 x.1.2.2.1 x.2.1 n x.1.2.2.2.1) (bz:=abp) (out:=Om) aj (Dz) az (aN (by kernel_rfl)) (fun _=>rfl) (fun m x=>by kernel_rfl) (an ⟨cr,fun _ _ _=>rfl⟩ (an ⟨bJ,fun _ _ _=>rfl⟩ (aA))) false al
theorem abt:(Dy (M.tM)).Ok D Tryz.prog:=
 aR (cx:=tL) (c:=Dy (M.tM)) (fz:=true) (fn:=Tryz.f24) aj (Dz) az ⟨Tryz.func24,by kernel_rfl⟩ (aS (bN 2 (by kernel_rfl) (lt_succ (bT (.mk (by kernel_rfl) (abq))) (.mk (by kernel_rfl) (abr))))) ⟨⟨[.bool],[]⟩,fun x=>x.1.1⟩ (fun x=>rfl) (fun x=>by kernel_rfl)
def yS(m:M.ay->Int->Option (Bool)):aK K:={f:=27,sh:=⟨[.el U.Note,.rp U.i64 0],[]⟩,R:=Bool,run:=fun x=>m x.1.1 x.1.2.1,dflt:=default,out:=fun r=>(Sh.enc D (.bool) r,aB.encs D [] ())}
def Oo:Cx K:={aP with mode:=aO .plain [],call:=callOf D [],loop:=aM []}
theorem abu:aI (Oo):=aQ aj _ (aA)
theorem Oq:(yS (M.yT)).Ok D Tryz.prog:=
 aR (cx:=Oo) (c:=yS (M.yT)) (fz:=true) (fn:=Tryz.f27) aj (abu) az ⟨Tryz.func27,by kernel_rfl⟩ (aS (aN (by kernel_rfl))) ⟨⟨[.bool],[]⟩,fun x=>x.1.1⟩ (fun x=>rfl) (fun x=>by kernel_rfl)
def Ot(y:(Int)⊕(Unit)){R:Type}(k:Ex->List (AV K)->List (Ob K)->R):R:=match y with
 |.inl a0=>k Ex.ret (aw.aV D ⟨[.int .i64],[]⟩ ((a0,()),())) (aw.aX D ⟨[.int .i64],[]⟩ ((a0,()),()))
 |.inr (a1)=>k (Ex.exit 0) (aw.aV D ⟨[.any],[]⟩ (((),()),())) (aw.aX D ⟨[.any],[]⟩ (((),()),()))
def abv:List (bA K ((Int)⊕(Unit))):=[⟨Ex.ret,⟨[.int .i64],[]⟩,fun x=>.inl x.1.1⟩,⟨(Ex.exit 0),⟨[.any],[]⟩,fun x=>.inr (())⟩]
def Ou:bo K:=bD D false 19 0 [0,1,7,8] [4] ⟨[.ai U.Note,.fn 27 [.rp U.i64 0],.int .i64,.int .i64],[]⟩ (fun x=>M.pe x.1.1 x.1.2.1.1 x.1.2.2.1 al x.1.2.2.2.1) Ot
def DC(m:(List M.ay)->Int->Option (Int)):aK K:={f:=55,sh:=⟨[.ai U.Note,.fn 27 [.rp U.i64 0]],[]⟩,R:=Int,run:=fun x=>m x.1.1 x.1.2.1.1,dflt:=default,out:=fun r=>(Sh.enc D (.int .i64) r,aB.encs D [] ())}
def yU:Cx K:={aP with mode:=aO .plain [(27,.plain)],call:=callOf D [yS M.yT],loop:=aM [(2,Ou)]}
theorem Ov:aI (yU):=aQ aj _ (an Oq (aA))
theorem abw:bq (yU) (bw (bB Tryz.f55) 0) (Ou):=
 bI (cx:=yU) (n:=19) (n0:=0) (ins:=[0,1,7,8]) (outs:=[4]) (sh:=⟨[.ai U.Note,.fn 27 [.rp U.i64 0],.int .i64,.int .i64],[]⟩) (run:=fun n x=>M.pe x.1.1 x.1.2.1.1 x.1.2.2.1 n x.1.2.2.2.1) (bz:=abv) (out:=Ot) aj (Ov) az (aN (by kernel_rfl)) (fun _=>rfl) (fun m x=>by kernel_rfl) (an ⟨cr,fun _ _ _=>rfl⟩ (an ⟨bJ,fun _ _ _=>rfl⟩ (aA))) false al
theorem abx:(DC (M.rE)).Ok D Tryz.prog:=
 aR (cx:=yU) (c:=DC (M.rE)) (fz:=true) (fn:=Tryz.f55) aj (Ov) az ⟨Tryz.func55,by kernel_rfl⟩ (aS (bN 1 (by kernel_rfl) (bT (.mk (by kernel_rfl) (abw))))) ⟨⟨[.int .i64],[]⟩,fun x=>x.1.1⟩ (fun x=>rfl) (fun x=>by kernel_rfl)
def Ox(y:Int×Int×(List M.ay)){R:Type}(k:Ex->List (AV K)->List (Ob K)->R):R:=match y with
 |a0=>k (Ex.exit 0) (aw.aV D ⟨[.own 2,.int .i64],[.dead,.box [.int .i64],.arr U.Note]⟩ (((),(a0.1,())),((),((a0.2.1,()),(a0.2.2,()))))) (aw.aX D ⟨[.own 2,.int .i64],[.dead,.box [.int .i64],.arr U.Note]⟩ (((),(a0.1,())),((),((a0.2.1,()),(a0.2.2,())))))
def aby:List (bA K (Int×Int×(List M.ay))):=[⟨(Ex.exit 0),⟨[.own 2,.int .i64],[.dead,.box [.int .i64],.arr U.Note]⟩,fun x=>(x.1.2.1,x.2.2.1.1,x.2.2.2.1)⟩]
def Oy:bo K:=bD D false 42 2 [0,1,5,6] [0,5] ⟨[.own 2,.fn 27 [.ptr 1 0],.int .i64,.int .i64],[.dead,.box [.int .i64],.arr U.Note]⟩ (fun x=>M.i6 x.2.2.1.1 al x.1.2.2.1 x.1.2.2.2.1 x.2.2.2.1) Ox
def DD(m:(List M.ay)->Int->Option (Int×(List M.ay))):aK K:={f:=25,sh:=⟨[.own 0,.fn 27 [.ptr 1 0]],[.arr U.Note,.box [.int .i64]]⟩,R:=Int×(List M.ay),run:=fun x=>m x.2.1 x.2.2.1.1,dflt:=default,out:=fun r=>(Sh.enc D (.own 2) (),aB.encs D [.dead,.box [.int .i64],.arr U.Note] ((),((r.1,()),(r.2,()))))}
def yV:Cx K:={aP with mode:=aO .plain [(55,.plain),(27,.plain)],eV:=[[some U.Note]],cut:=true,Oz:=true,OA:=true,mv:=true,call:=callOf D [DC M.rE,yS M.yT],loop:=aM [(5,Oy)]}
theorem OB:aI (yV):=aQ aj _ (an abx (an Oq (aA)))
theorem abz:bq (yV) (bw (bB Tryz.f25) 0) (Oy):=
 bI (cx:=yV) (n:=42) (n0:=2) (ins:=[0,1,5,6]) (outs:=[0,5]) (sh:=⟨[.own 2,.fn 27 [.ptr 1 0],.int .i64,.int .i64],[.dead,.box [.int .i64],.arr U.Note]⟩) (run:=fun n x=>M.i6 x.2.2.1.1 n x.1.2.2.1 x.1.2.2.2.1 x.2.2.2.1) (bz:=aby) (out:=Ox) aj (OB) az (aN (by kernel_rfl)) (fun _=>rfl) (fun m x=>by kernel_rfl) (an ⟨bJ,fun _ _ _=>rfl⟩ (aA)) false al
theorem abA:(DD (M.rF)).Ok D Tryz.prog:=
 aR (cx:=yV) (c:=DD (M.rF)) (fz:=false) (fn:=Tryz.f25) aj (OB) az ⟨Tryz.func25,by kernel_rfl⟩ (aS (bN 1 (by kernel_rfl) (bT (.mk (by kernel_rfl) (abz))))) ⟨⟨[.own 2],[.dead,.box [.int .i64],.arr U.Note]⟩,fun x=>(x.2.2.1.1,x.2.2.2.1)⟩ (fun x=>rfl) (fun x=>by kernel_rfl)
def DF(m:M.ar->Int->Option ((List M.ay))):aK K:={f:=7,sh:=⟨[.el U.Async,.int .i64],[]⟩,R:=(List M.ay),run:=fun x=>m x.1.1 x.1.2.1,dflt:=default,out:=fun r=>(Sh.enc D (.own 0) (),aB.encs D [.arr U.Note] (r,()))}
def OC:Cx K:={aP with mode:=aO .plain [(24,.plain),(26,.fresh),(25,.pass)],eV:=[[some U.Note]],call:=callOf D [Dy M.tM,Av M.mP,DD M.rF],loop:=aM []}
theorem abB:aI (OC):=aQ aj _ (an abt (an Ui (an abA (aA))))
theorem abC:(DF (M.pf)).Ok D Tryz.prog:=
 aR (cx:=OC) (c:=DF (M.pf)) (fz:=false) (fn:=Tryz.f7) aj (abB) az ⟨Tryz.func7,by kernel_rfl⟩ (aS (aN (by kernel_rfl))) ⟨⟨[.own 0],[.arr U.Note]⟩,fun x=>x.2.1⟩ (fun x=>rfl) (fun x=>by kernel_rfl)
def OD(y:(Bool)⊕(Unit)){R:Type}(k:Ex->List (AV K)->List (Ob K)->R):R:=match y with
 |.inl a0=>k Ex.ret (aw.aV D ⟨[.bool],[]⟩ ((a0,()),())) (aw.aX D ⟨[.bool],[]⟩ ((a0,()),()))
 |.inr (a1)=>k (Ex.exit 0) (aw.aV D ⟨[.any],[]⟩ (((),()),())) (aw.aX D ⟨[.any],[]⟩ (((),()),()))
def abD:List (bA K ((Bool)⊕(Unit))):=[⟨Ex.ret,⟨[.bool],[]⟩,fun x=>.inl x.1.1⟩,⟨(Ex.exit 0),⟨[.any],[]⟩,fun x=>.inr (())⟩]
def OE:bo K:=bD D false 27 0 [0,1,5] [4] ⟨[.ai U.Value,.ai U.Value,.int .i64],[]⟩ (fun x=>M.qk x.1.1 x.1.2.1 al x.1.2.2.1) OD
def DG(m:(List M.ae)->(List M.ae)->Option (Bool)):aK K:={f:=94,sh:=⟨[.ai U.Value,.ai U.Value],[]⟩,R:=Bool,run:=fun x=>m x.1.1 x.1.2.1,dflt:=default,out:=fun r=>(Sh.enc D (.bool) r,aB.encs D [] ())}
def yW:Cx K:={aP with mode:=aO .plain [(122,.plain)],call:=callOf D [jS M.xe],loop:=aM [(4,OE)]}
theorem OF:aI (yW):=aQ aj _ (an Vb (aA))
theorem abE:bq (yW) (bw (bB Tryz.f94) 0) (OE):=
 bI (cx:=yW) (n:=27) (n0:=0) (ins:=[0,1,5]) (outs:=[4]) (sh:=⟨[.ai U.Value,.ai U.Value,.int .i64],[]⟩) (run:=fun n x=>M.qk x.1.1 x.1.2.1 n x.1.2.2.1) (bz:=abD) (out:=OD) aj (OF) az (aN (by kernel_rfl)) (fun _=>rfl) (fun m x=>by kernel_rfl) (an ⟨cr,fun _ _ _=>rfl⟩ (an ⟨bJ,fun _ _ _=>rfl⟩ (aA))) false al
theorem abG:(DG (M.tN)).Ok D Tryz.prog:=
 aR (cx:=yW) (c:=DG (M.tN)) (fz:=true) (fn:=Tryz.f94) aj (OF) az ⟨Tryz.func94,by kernel_rfl⟩ (aS (bN 1 (by kernel_rfl) (bT (.mk (by kernel_rfl) (abE))))) ⟨⟨[.bool],[]⟩,fun x=>x.1.1⟩ (fun x=>rfl) (fun x=>by kernel_rfl)
def DI(m:M.ah->M.ah->Option (Bool)):aK K:={f:=57,sh:=⟨[.el U.Stream,.el U.Stream],[]⟩,R:=Bool,run:=fun x=>m x.1.1 x.1.2.1,dflt:=default,out:=fun r=>(Sh.enc D (.bool) r,aB.encs D [] ())}
def OG:Cx K:={aP with mode:=aO .plain [(93,.plain),(94,.plain)],call:=callOf D [jV M.xN,DG M.tN],loop:=aM []}
theorem abH:aI (OG):=aQ aj _ (an WH (an abG (aA)))
theorem abI:(DI (M.tO)).Ok D Tryz.prog:=
 aR (cx:=OG) (c:=DI (M.tO)) (fz:=true) (fn:=Tryz.f57) aj (abH) az ⟨Tryz.func57,by kernel_rfl⟩ (aS (aN (by kernel_rfl))) ⟨⟨[.bool],[]⟩,fun x=>x.1.1⟩ (fun x=>rfl) (fun x=>by kernel_rfl)
def OH(y:(Bool)⊕(Unit)){R:Type}(k:Ex->List (AV K)->List (Ob K)->R):R:=match y with
 |.inl a0=>k Ex.ret (aw.aV D ⟨[.bool],[]⟩ ((a0,()),())) (aw.aX D ⟨[.bool],[]⟩ ((a0,()),()))
 |.inr (a1)=>k (Ex.exit 0) (aw.aV D ⟨[.any],[]⟩ (((),()),())) (aw.aX D ⟨[.any],[]⟩ (((),()),()))
def abJ:List (bA K ((Bool)⊕(Unit))):=[⟨Ex.ret,⟨[.bool],[]⟩,fun x=>.inl x.1.1⟩,⟨(Ex.exit 0),⟨[.any],[]⟩,fun x=>.inr (())⟩]
def OI:bo K:=bD D false 27 0 [0,1,5] [4] ⟨[.ai U.Stream,.ai U.Stream,.int .i64],[]⟩ (fun x=>M.ql x.1.1 x.1.2.1 al x.1.2.2.1) OH
def DJ(m:(List M.ah)->(List M.ah)->Option (Bool)):aK K:={f:=30,sh:=⟨[.ai U.Stream,.ai U.Stream],[]⟩,R:=Bool,run:=fun x=>m x.1.1 x.1.2.1,dflt:=default,out:=fun r=>(Sh.enc D (.bool) r,aB.encs D [] ())}
def yX:Cx K:={aP with mode:=aO .plain [(57,.plain)],call:=callOf D [DI M.tO],loop:=aM [(4,OI)]}
theorem OJ:aI (yX):=aQ aj _ (an abI (aA))
theorem abK:bq (yX) (bw (bB Tryz.f30) 0) (OI):=
 bI (cx:=yX) (n:=27) (n0:=0) (ins:=[0,1,5]) (outs:=[4]) (sh:=⟨[.ai U.Stream,.ai U.Stream,.int .i64],[]⟩) (run:=fun n x=>M.ql x.1.1 x.1.2.1 n x.1.2.2.1) (bz:=abJ) (out:=OH) aj (OJ) az (aN (by kernel_rfl)) (fun _=>rfl) (fun m x=>by kernel_rfl) (an ⟨cr,fun _ _ _=>rfl⟩ (an ⟨bJ,fun _ _ _=>rfl⟩ (aA))) false al
theorem abL:(DJ (M.tP)).Ok D Tryz.prog:=
 aR (cx:=yX) (c:=DJ (M.tP)) (fz:=true) (fn:=Tryz.f30) aj (OJ) az ⟨Tryz.func30,by kernel_rfl⟩ (aS (bN 1 (by kernel_rfl) (bT (.mk (by kernel_rfl) (abK))))) ⟨⟨[.bool],[]⟩,fun x=>x.1.1⟩ (fun x=>rfl) (fun x=>by kernel_rfl)
def DK(m:M.ar->M.ar->Option (Bool)):aK K:={f:=9,sh:=⟨[.el U.Async,.el U.Async],[]⟩,R:=Bool,run:=fun x=>m x.1.1 x.1.2.1,dflt:=default,out:=fun r=>(Sh.enc D (.bool) r,aB.encs D [] ())}
def OK:Cx K:={aP with mode:=aO .plain [(29,.plain),(30,.plain),(31,.plain),(32,.plain),(8,.plain)],call:=callOf D [AX M.rR,DJ M.tP,AZ M.rT,xo M.lP,xr M.nb],loop:=aM []}
theorem abM:aI (OK):=aQ aj _ (an VG (an abL (an VN (an Ij (an It (aA))))))
theorem abN:(DK (M.tQ)).Ok D Tryz.prog:=
 aR (cx:=OK) (c:=DK (M.tQ)) (fz:=true) (fn:=Tryz.f9) aj (abM) az ⟨Tryz.func9,by kernel_rfl⟩ (aS (aN (by kernel_rfl))) ⟨⟨[.bool],[]⟩,fun x=>x.1.1⟩ (fun x=>rfl) (fun x=>by kernel_rfl)
def OL(y:Int×(List M.ah)){R:Type}(k:Ex->List (AV K)->List (Ob K)->R):R:=match y with
 |a0=>k (Ex.exit 0) (aw.aV D ⟨[.int .i64],[.tree U.Stream]⟩ ((a0.1,()),(a0.2,()))) (aw.aX D ⟨[.int .i64],[.tree U.Stream]⟩ ((a0.1,()),(a0.2,())))
def abO:List (bA K (Int×(List M.ah))):=[⟨(Ex.exit 0),⟨[.int .i64],[.tree U.Stream]⟩,fun x=>(x.1.1,x.2.1)⟩]
def OM:bo K:=bD D true 101 1 [0,1,5] [1] ⟨[.own 0,.int .i64,.int .i64],[.tree U.Stream]⟩ (fun x=>M.o9 al x.1.2.1 x.1.2.2.1 x.2.1) OL
def DL(m:Int->(List M.ah)->Option (Int×(List M.ah))):aK K:={f:=34,sh:=⟨[.own 0,.int .i64],[.tree U.Stream]⟩,R:=Int×(List M.ah),run:=fun x=>m x.1.2.1 x.2.1,dflt:=default,out:=fun r=>(Sh.enc D (.int .i64) r.1,aB.encs D [.tree U.Stream] (r.2,()))}
def yY:Cx K:={aP with mode:=aO .plain [(60,.plain),(61,.pass),(62,.pass),(63,.pass)],deep:=fun c=>cC (D.cells c (K.zero c)),opn:=true,call:=callOf D [sU M.iC,yv M.lK,l6 M.xa,l7 M.xb],loop:=aM [(2,OM)]}
theorem ON:aI (yY):=aQ aj _ (an yu (an LP (an Zg (an Zk (aA)))))
theorem abP:bq (yY) (bw (bB Tryz.f34) 0) (OM):=
 bI (cx:=yY) (n:=101) (n0:=1) (ins:=[0,1,5]) (outs:=[1]) (sh:=⟨[.own 0,.int .i64,.int .i64],[.tree U.Stream]⟩) (run:=fun n x=>M.o9 n x.1.2.1 x.1.2.2.1 x.2.1) (bz:=abO) (out:=OL) aj (ON) az (aN (by kernel_rfl)) (fun _=>rfl) (fun m x=>by kernel_rfl) (an ⟨bJ,fun _ _ _=>rfl⟩ (aA)) true al
theorem abQ:(DL (M.rx)).Ok D Tryz.prog:=
 aR (cx:=yY) (c:=DL (M.rx)) (fz:=true) (fn:=Tryz.f34) aj (ON) az ⟨Tryz.func34,by kernel_rfl⟩ (aS (bN 1 (by kernel_rfl) (bT (.mk (by kernel_rfl) (abP))))) ⟨⟨[.int .i64],[.tree U.Stream]⟩,fun x=>(x.1.1,x.2.1)⟩ (fun x=>rfl) (fun x=>by kernel_rfl)
def DN(m:Int->(List M.aD)->(List M.ah)->(List M.af)->(List Int)->(List M.ay)->Option (Int×(List M.aD)×(List M.ah)×(List M.af)×(List Int)×(List M.ay))):aK K:={f:=10,sh:=⟨[.agg [.own 0,.own 1,.own 2,.own 3,.own 4],.int .i64],[.tree U.Prog,.tree U.Stream,.tree U.Task,.arr U.i64,.arr U.Note]⟩,R:=Int×(List M.aD)×(List M.ah)×(List M.af)×(List Int)×(List M.ay),run:=fun x=>m x.1.2.1 x.2.1 x.2.2.1 x.2.2.2.1 x.2.2.2.2.1 x.2.2.2.2.2.1,dflt:=default,out:=fun r=>(Sh.enc D (.int .i64) r.1,aB.encs D [.tree U.Prog,.tree U.Stream,.tree U.Task,.arr U.i64,.arr U.Note] (r.2.1,(r.2.2.1,(r.2.2.2.1,(r.2.2.2.2.1,(r.2.2.2.2.2,()))))))}
def OO:Cx K:={aP with mode:=aO .plain [(33,.pass),(34,.pass),(35,.pass),(36,.pass),(11,.pass)],deep:=fun c=>cC (D.cells c (K.zero c)),opn:=true,call:=callOf D [A5 M.ru,DL M.rx,A6 M.ry,xx M.lM,xA M.mV],loop:=aM []}
theorem abR:aI (OO):=aQ aj _ (an VX (an abQ (an V2 (an IE (an IL (aA))))))
theorem abS:(DN (M.rD)).Ok D Tryz.prog:=
 aR (cx:=OO) (c:=DN (M.rD)) (fz:=true) (fn:=Tryz.f10) aj (abR) az ⟨Tryz.func10,by kernel_rfl⟩ (aS (aN (by kernel_rfl))) ⟨⟨[.int .i64],[.tree U.Prog,.tree U.Stream,.tree U.Task,.arr U.i64,.arr U.Note]⟩,fun x=>(x.1.1,x.2.1,x.2.2.1,x.2.2.2.1,x.2.2.2.2.1,x.2.2.2.2.2.1)⟩ (fun x=>rfl) (fun x=>by kernel_rfl)
def DO(m:M.ar->Int->Option (Bool)):aK K:={f:=3,sh:=⟨[.el U.Async,.int .i64],[]⟩,R:=Bool,run:=fun x=>m x.1.1 x.1.2.1,dflt:=default,out:=fun r=>(Sh.enc D (.bool) r,aB.encs D [] ())}
def OP:Cx K:={aP with mode:=aO .plain [(4,.plain),(6,.fresh),(5,.nC),(7,.fresh),(8,.plain),(9,.plain),(10,.pass),(11,.pass),(12,.plain)],deep:=fun c=>cC (D.cells c (K.zero c)),call:=callOf D [CE M.tc,CN M.tj,C0 M.pg,DF M.pf,xr M.nb,DK M.tQ,DN M.rD,xA M.mV,A7 M.rA],loop:=aM []}
theorem abT:aI (OP):=aQ aj _ (an ZL (an Z0 (an aay (an abC (an It (an abN (an abS (an IL (an V7 (aA))))))))))
theorem abU:(DO (M.rG)).Ok D Tryz.prog:=
 aR (cx:=OP) (c:=DO (M.rG)) (fz:=true) (fn:=Tryz.f3) aj (abT) az ⟨Tryz.func3,by kernel_rfl⟩ (aS (aN (by kernel_rfl))) ⟨⟨[.bool],[]⟩,fun x=>x.1.1⟩ (fun x=>rfl) (fun x=>by kernel_rfl)
