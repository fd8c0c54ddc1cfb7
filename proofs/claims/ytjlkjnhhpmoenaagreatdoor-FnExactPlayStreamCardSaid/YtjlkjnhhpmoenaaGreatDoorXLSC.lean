/-
  Part of the proof of the claim.
-/
import Derived.Test.YtjlkjnhhpmoenaaGreatDoorXLSM
import Derived.Test.YtjlkjnhhpmoenaaGreatDoorXQHd3
import Derived.Test.YtjlkjnhhpmoenaaGreatDoorXQHdR
import Derived.Test.YtjlkjnhhpmoenaaGreatDoorXQHdU
import Derived.Test.YtjlkjnhhpmoenaaGreatDoorXQHdS
import Derived.Test.YtjlkjnhhpmoenaaGreatDoorProg
set_option linter.unusedVariables false
set_option maxRecDepth 100000
open Go Go.Proofs
open Go.V
noncomputable section
def aeh : Go.TypeId->Option U:=bf [(2,U.i64),(3,U.i64),(4,U.bool),(5,U.u8),(6,U.u8),(9,U.str),(10,U.str),(11,U.str),(12,U.u64),(21,U.i32),(22,U.WW),(23,U.KI),(25,U.Type),(26,U.ET),(28,U.Stream),(29,U.qE),(32,U.KI),(34,U.Type),(35,U.ET),(37,U.Stream),(41,U.qE),(50,U.aei),(55,U.Value),(65,U.aU),(75,U.aU),(96,U.Jv),(103,U.Value),(120,U.u64),(122,U.KJ),(133,U.u64),(168,U.u32),(186,U.i64),(196,U.u64),(212,U.u8),(213,U.u8),(216,U.i32),(217,U.i32)]
def aiU : Go.TypeId->List (Option U):=bn [] [(22,[some U.str]),(23,[some U.Type]),(25,[none,none,some U.str,some U.Type]),(26,[some U.Value]),(28,[none,none,some U.str,some U.Type,none,none,some U.Value,none,none,none,none]),(29,[some U.aU]),(32,[some U.Type]),(34,[none,none,some U.str,some U.Type]),(35,[some U.Value]),(37,[none,none,some U.str,some U.Type,none,none,some U.Value,none,none,none,none]),(41,[some U.aU]),(50,[some U.u8]),(55,[none,none,none,some U.Value]),(96,[some U.i64]),(103,[none,none,none,some U.Value]),(122,[some U.u8,none,none])]
theorem aj : Tryz.prog.follows .mixedOrders=true:=by kernel_rfl
def iR : Cx K:={P:=Tryz.prog,D:=D,ty:=aeh,sls:=aiU,mode:=bn .plain [],call:=callOf D [],loop:=bf []}
def Dv (y:(Int)⊕(Int)) {R:Type} (k:Ex->List (AV K)->List (Ob K)->R):R:=match y with
 | .inl a0=>k Ex.ret (eP.eU D ⟨[.any, .int .i64],[]⟩ (((),(a0,())),())) (eP.eY D ⟨[.any, .int .i64],[]⟩ (((),(a0,())),()))
 | .inr (a1)=>k (Ex.exit 0) (eP.eU D ⟨[.int .i64, .any],[]⟩ ((a1,((),())),())) (eP.eY D ⟨[.int .i64, .any],[]⟩ ((a1,((),())),()))
def Qp : List (fH K ((Int)⊕(Int))):=[⟨Ex.ret,⟨[.any, .int .i64],[]⟩,fun x=> .inl x.1.2.1⟩,⟨(Ex.exit 0),⟨[.int .i64, .any],[]⟩,fun x=> .inr (x.1.1)⟩]
def GM : fC K:=fM D false 28 0 [0,1,5] [1,4] ⟨[.bV U.str, .int .i64, .int .i64],[]⟩ (fun x=>M.mM x.1.1 aG x.1.2.1 x.1.2.2.1) Dv
def Bv (m:(List (List UInt8))->Int->Option (Int)):bY K:={f:=75,sh:=⟨[.bV U.str, .int .i64],[]⟩,R:=Int,run:=fun x=>m x.1.1 x.1.2.1,dflt:=default,out:=fun r=>(Sh.enc D (.int .i64) r,dW.encs D [] ())}
def xJ : Cx K:={iR with mode:=bn .plain [],call:=callOf D [],loop:=bf [(5,GM)]}
theorem GN : aH (xJ):=ax aF _ (bH)
theorem Ph : dB (xJ) (dH (dL Tryz.f75) 0) (GM):=
 df (cx:=xJ) (n:=28) (n0:=0) (ins:=[0,1,5]) (outs:=[1,4]) (sh:=⟨[.bV U.str, .int .i64, .int .i64],[]⟩) (run:=fun n x=>M.mM x.1.1 n x.1.2.1 x.1.2.2.1) (fF:=Qp) (out:=Dv) aF (GN) aj (ay (by kernel_rfl)) (fun _=>rfl) (fun m x=>by kernel_rfl) (az ⟨iT,fun _ _ _=>rfl⟩ (az ⟨dh,fun _ _ _=>rfl⟩ (bH))) false aG
theorem WX : (Bv (M.wU)).Ok D Tryz.prog:=
 bz (cx:=xJ) (c:=Bv (M.wU)) (fz:=true) (fn:=Tryz.f75) aF (GN) aj ⟨Tryz.func75,by kernel_rfl⟩ (bC (bF 1 (by kernel_rfl) (dV (.mk (by kernel_rfl) (Ph))))) ⟨⟨[.int .i64],[]⟩,fun x=>x.1.1⟩ (fun x=>rfl) (fun x=>by kernel_rfl)
def jl (m:M.ae->Int->Option (Int)):bY K:={f:=32,sh:=⟨[.el U.Type, .int .i64],[]⟩,R:=Int,run:=fun x=>m x.1.1 x.1.2.1,dflt:=default,out:=fun r=>(Sh.enc D (.int .i64) r,dW.encs D [] ())}
def GR (y:(Int)⊕(Int)) {R:Type} (k:Ex->List (AV K)->List (Ob K)->R):R:=match y with
 | .inl a0=>k Ex.ret (eP.eU D ⟨[.any, .int .i64],[]⟩ (((),(a0,())),())) (eP.eY D ⟨[.any, .int .i64],[]⟩ (((),(a0,())),()))
 | .inr (a1)=>k (Ex.exit 0) (eP.eU D ⟨[.int .i64, .any],[]⟩ ((a1,((),())),())) (eP.eY D ⟨[.int .i64, .any],[]⟩ ((a1,((),())),()))
def VI : List (fH K ((Int)⊕(Int))):=[⟨Ex.ret,⟨[.any, .int .i64],[]⟩,fun x=> .inl x.1.2.1⟩,⟨(Ex.exit 0),⟨[.int .i64, .any],[]⟩,fun x=> .inr (x.1.1)⟩]
def KL (aV:M.ae->Int->Option (Int)):fC K:=fM D false 27 0 [0,1,5] [1,4] ⟨[.bV U.Type, .int .i64, .int .i64],[]⟩ (fun x=>M.qM aV x.1.1 aG x.1.2.1 x.1.2.2.1) GR
def Gg (m:(List M.ae)->Int->Option (Int)):bY K:={f:=76,sh:=⟨[.bV U.Type, .int .i64],[]⟩,R:=Int,run:=fun x=>m x.1.1 x.1.2.1,dflt:=default,out:=fun r=>(Sh.enc D (.int .i64) r,dW.encs D [] ())}
def Cc (aV:M.ae->Int->Option (Int)):Cx K:={iR with mode:=bn .plain [(32, .plain)],call:=callOf D [jl aV],loop:=bf [(5,KL aV)]}
theorem KN (aV:M.ae->Int->Option (Int)) (jb:(jl aV).Ok D Tryz.prog):aH (Cc aV):=ax aF _ (az jb (bH))
theorem Tc (aV:M.ae->Int->Option (Int)) (jb:(jl aV).Ok D Tryz.prog):dB (Cc aV) (dH (dL Tryz.f76) 0) (KL aV):=
 df (cx:=Cc aV) (n:=27) (n0:=0) (ins:=[0,1,5]) (outs:=[1,4]) (sh:=⟨[.bV U.Type, .int .i64, .int .i64],[]⟩) (run:=fun n x=>M.qM aV x.1.1 n x.1.2.1 x.1.2.2.1) (fF:=VI) (out:=GR) aF (KN aV jb) aj (ay (by kernel_rfl)) (fun _=>rfl) (fun m x=>by kernel_rfl) (az ⟨iT,fun _ _ _=>rfl⟩ (az ⟨dh,fun _ _ _=>rfl⟩ (bH))) false aG
theorem aba (aV:M.ae->Int->Option (Int)) (jb:(jl aV).Ok D Tryz.prog):(Gg (M.C9 aV)).Ok D Tryz.prog:=
 bz (cx:=Cc aV) (c:=Gg (M.C9 aV)) (fz:=true) (fn:=Tryz.f76) aF (KN aV jb) aj ⟨Tryz.func76,by kernel_rfl⟩ (bC (bF 1 (by kernel_rfl) (dV (.mk (by kernel_rfl) (Tc aV jb))))) ⟨⟨[.int .i64],[]⟩,fun x=>x.1.1⟩ (fun x=>rfl) (fun x=>by kernel_rfl)
def UC (aV:M.ae->Int->Option (Int)):Cx K:={iR with mode:=bn .plain [(75, .plain),(76, .plain)],call:=callOf D [Bv M.wU,Gg (M.C9 aV)],loop:=bf []}
theorem Zg (aV:M.ae->Int->Option (Int)) (jb:(jl aV).Ok D Tryz.prog):aH (UC aV):=ax aF _ (az WX (az (aba aV jb) (bH)))
theorem Zh (aV:M.ae->Int->Option (Int)) (jb:(jl aV).Ok D Tryz.prog):(jl (M.Dw aV)).Ok D Tryz.prog:=
 bz (cx:=UC aV) (c:=jl (M.Dw aV)) (fz:=true) (fn:=Tryz.f32) aF (Zg aV jb) aj ⟨Tryz.func32,by kernel_rfl⟩ (bC (ay (by kernel_rfl))) ⟨⟨[.int .i64],[]⟩,fun x=>x.1.1⟩ (fun x=>rfl) (fun x=>by kernel_rfl)
theorem Oa : ∀n,(jl (M.vZ n)).Ok D Tryz.prog
 |0=>jm fun _=>rfl
 |n+1=>Zh (M.vZ n) (Oa n)
theorem acx : (jl (M.Qq)).Ok D Tryz.prog:=Oa aG
def Dx (y:(List (List UInt8))) {R:Type} (k:Ex->List (AV K)->List (Ob K)->R):R:=match y with
 |a0=>k (Ex.exit 0) (eP.eU D ⟨[.own 1],[.dead, .arr U.str]⟩ (((),()),((),(a0,())))) (eP.eY D ⟨[.own 1],[.dead, .arr U.str]⟩ (((),()),((),(a0,()))))
def Qr : List (fH K ((List (List UInt8)))):=[⟨(Ex.exit 0),⟨[.own 1],[.dead, .arr U.str]⟩,fun x=>x.2.2.1⟩]
def GU : fC K:=fM D false 22 1 [0,3,4] [3] ⟨[.bV U.str, .own 1, .int .i64],[.dead, .arr U.str]⟩ (fun x=>M.kG x.1.1 aG x.1.2.2.1 x.2.2.1) Dx
def Bz (m:(List (List UInt8))->Option ((List (List UInt8)))):bY K:={f:=82,sh:=⟨[.bV U.str],[]⟩,R:=(List (List UInt8)),run:=fun x=>m x.1.1,dflt:=default,out:=fun r=>(Sh.enc D (.own 0) (),dW.encs D [.arr U.str] (r,()))}
def xK : Cx K:={iR with mode:=bn .plain [],Zi:=[[some U.str]],deep:=fun c=>bT (D.cells c (K.zero c)),call:=callOf D [],loop:=bf [(3,GU)]}
theorem GV : aH (xK):=ax aF _ (bH)
theorem Pj : dB (xK) (dH (dL Tryz.f82) 0) (GU):=
 df (cx:=xK) (n:=22) (n0:=1) (ins:=[0,3,4]) (outs:=[3]) (sh:=⟨[.bV U.str, .own 1, .int .i64],[.dead, .arr U.str]⟩) (run:=fun n x=>M.kG x.1.1 n x.1.2.2.1 x.2.2.1) (fF:=Qr) (out:=Dx) aF (GV) aj (ay (by kernel_rfl)) (fun _=>rfl) (fun m x=>by kernel_rfl) (az ⟨dh,fun _ _ _=>rfl⟩ (bH)) false aG
theorem WY : (Bz (M.wV)).Ok D Tryz.prog:=
 bz (cx:=xK) (c:=Bz (M.wV)) (fz:=false) (fn:=Tryz.f82) aF (GV) aj ⟨Tryz.func82,by kernel_rfl⟩ (bC (bF 1 (by kernel_rfl) (dV (.mk (by kernel_rfl) (Pj))))) ⟨⟨[.own 0],[.arr U.str]⟩,fun x=>x.2.1⟩ (fun x=>rfl) (fun x=>by kernel_rfl)
def jo (m:M.ae->Option (Int×(List UInt8)×(List (List UInt8))×(List M.ae))):bY K:={f:=42,sh:=⟨[.el U.Type],[]⟩,R:=Int×(List UInt8)×(List (List UInt8))×(List M.ae),run:=fun x=>m x.1.1,dflt:=default,out:=fun r=>(Sh.enc D (.agg [.int .i64, .str, .own 0, .own 1]) (r.1,(r.2.1,((),((),())))),dW.encs D [.arr U.str, .tree U.Type] (r.2.2.1,(r.2.2.2,())))}
def GX (y:(List M.ae)) {R:Type} (k:Ex->List (AV K)->List (Ob K)->R):R:=match y with
 |a0=>k (Ex.exit 0) (eP.eU D ⟨[.own 1],[.dead, .tree U.Type]⟩ (((),()),((),(a0,())))) (eP.eY D ⟨[.own 1],[.dead, .tree U.Type]⟩ (((),()),((),(a0,()))))
def VJ : List (fH K ((List M.ae))):=[⟨(Ex.exit 0),⟨[.own 1],[.dead, .tree U.Type]⟩,fun x=>x.2.2.1⟩]
def KO (aX:M.ae->Option (Int×(List UInt8)×(List (List UInt8))×(List M.ae))):fC K:=fM D false 23 1 [0,3,4] [3] ⟨[.bV U.Type, .own 1, .int .i64],[.dead, .tree U.Type]⟩ (fun x=>M.oG aX x.1.1 aG x.1.2.2.1 x.2.2.1) GX
def Gh (m:(List M.ae)->Option ((List M.ae))):bY K:={f:=83,sh:=⟨[.bV U.Type],[]⟩,R:=(List M.ae),run:=fun x=>m x.1.1,dflt:=default,out:=fun r=>(Sh.enc D (.own 0) (),dW.encs D [.tree U.Type] (r,()))}
def Ce (aX:M.ae->Option (Int×(List UInt8)×(List (List UInt8))×(List M.ae))):Cx K:={iR with mode:=bn .plain [(42, .fresh)],Zi:=[[some U.Type]],deep:=fun c=>bT (D.cells c (K.zero c)),call:=callOf D [jo aX],loop:=bf [(3,KO aX)]}
theorem KP (aX:M.ae->Option (Int×(List UInt8)×(List (List UInt8))×(List M.ae))) (jc:(jo aX).Ok D Tryz.prog):aH (Ce aX):=ax aF _ (az jc (bH))
theorem Td (aX:M.ae->Option (Int×(List UInt8)×(List (List UInt8))×(List M.ae))) (jc:(jo aX).Ok D Tryz.prog):dB (Ce aX) (dH (dL Tryz.f83) 0) (KO aX):=
 df (cx:=Ce aX) (n:=23) (n0:=1) (ins:=[0,3,4]) (outs:=[3]) (sh:=⟨[.bV U.Type, .own 1, .int .i64],[.dead, .tree U.Type]⟩) (run:=fun n x=>M.oG aX x.1.1 n x.1.2.2.1 x.2.2.1) (fF:=VJ) (out:=GX) aF (KP aX jc) aj (ay (by kernel_rfl)) (fun _=>rfl) (fun m x=>by kernel_rfl) (az ⟨dh,fun _ _ _=>rfl⟩ (bH)) false aG
theorem abb (aX:M.ae->Option (Int×(List UInt8)×(List (List UInt8))×(List M.ae))) (jc:(jo aX).Ok D Tryz.prog):(Gh (M.Dc aX)).Ok D Tryz.prog:=
 bz (cx:=Ce aX) (c:=Gh (M.Dc aX)) (fz:=false) (fn:=Tryz.f83) aF (KP aX jc) aj ⟨Tryz.func83,by kernel_rfl⟩ (bC (bF 1 (by kernel_rfl) (dV (.mk (by kernel_rfl) (Td aX jc))))) ⟨⟨[.own 0],[.tree U.Type]⟩,fun x=>x.2.1⟩ (fun x=>rfl) (fun x=>by kernel_rfl)
def UD (aX:M.ae->Option (Int×(List UInt8)×(List (List UInt8))×(List M.ae))):Cx K:={iR with mode:=bn .plain [(82, .fresh),(83, .fresh)],Zi:=[[none,none,some U.str,some U.Type]],deep:=fun c=>bT (D.cells c (K.zero c)),call:=callOf D [Bz M.wV,Gh (M.Dc aX)],loop:=bf []}
theorem Zj (aX:M.ae->Option (Int×(List UInt8)×(List (List UInt8))×(List M.ae))) (jc:(jo aX).Ok D Tryz.prog):aH (UD aX):=ax aF _ (az WY (az (abb aX jc) (bH)))
theorem Zk (aX:M.ae->Option (Int×(List UInt8)×(List (List UInt8))×(List M.ae))) (jc:(jo aX).Ok D Tryz.prog):(jo (M.Dy aX)).Ok D Tryz.prog:=
 bz (cx:=UD aX) (c:=jo (M.Dy aX)) (fz:=false) (fn:=Tryz.f42) aF (Zj aX jc) aj ⟨Tryz.func42,by kernel_rfl⟩ (bC (ay (by kernel_rfl))) ⟨⟨[.agg [.int .i64, .str, .own 0, .own 1]],[.arr U.str, .tree U.Type]⟩,fun x=>(x.1.1.1,x.1.1.2.1,x.2.1,x.2.2.1)⟩ (fun x=>rfl) (fun x=>by kernel_rfl)
theorem Oc : ∀n,(jo (M.wo n)).Ok D Tryz.prog
 |0=>jm fun _=>rfl
 |n+1=>Zk (M.wo n) (Oc n)
theorem acy : (jo (M.Qs)).Ok D Tryz.prog:=Oc aG
def Dz (y:(Bool)⊕(Unit)) {R:Type} (k:Ex->List (AV K)->List (Ob K)->R):R:=match y with
 | .inl a0=>k Ex.ret (eP.eU D ⟨[.bool],[]⟩ ((a0,()),())) (eP.eY D ⟨[.bool],[]⟩ ((a0,()),()))
 | .inr (a1)=>k (Ex.exit 0) (eP.eU D ⟨[.any],[]⟩ (((),()),())) (eP.eY D ⟨[.any],[]⟩ (((),()),()))
def Qu : List (fH K ((Bool)⊕(Unit))):=[⟨Ex.ret,⟨[.bool],[]⟩,fun x=> .inl x.1.1⟩,⟨(Ex.exit 0),⟨[.any],[]⟩,fun x=> .inr (())⟩]
def GY : fC K:=fM D false 26 0 [0,1,5] [4] ⟨[.bV U.str, .bV U.str, .int .i64],[]⟩ (fun x=>M.mO x.1.1 x.1.2.1 aG x.1.2.2.1) Dz
def BA (m:(List (List UInt8))->(List (List UInt8))->Option (Bool)):bY K:={f:=95,sh:=⟨[.bV U.str, .bV U.str],[]⟩,R:=Bool,run:=fun x=>m x.1.1 x.1.2.1,dflt:=default,out:=fun r=>(Sh.enc D (.bool) r,dW.encs D [] ())}
def xM : Cx K:={iR with mode:=bn .plain [],call:=callOf D [],loop:=bf [(4,GY)]}
theorem GZ : aH (xM):=ax aF _ (bH)
theorem Pm : dB (xM) (dH (dL Tryz.f95) 0) (GY):=
 df (cx:=xM) (n:=26) (n0:=0) (ins:=[0,1,5]) (outs:=[4]) (sh:=⟨[.bV U.str, .bV U.str, .int .i64],[]⟩) (run:=fun n x=>M.mO x.1.1 x.1.2.1 n x.1.2.2.1) (fF:=Qu) (out:=Dz) aF (GZ) aj (ay (by kernel_rfl)) (fun _=>rfl) (fun m x=>by kernel_rfl) (az ⟨iT,fun _ _ _=>rfl⟩ (az ⟨dh,fun _ _ _=>rfl⟩ (bH))) false aG
theorem WZ : (BA (M.wW)).Ok D Tryz.prog:=
 bz (cx:=xM) (c:=BA (M.wW)) (fz:=true) (fn:=Tryz.f95) aF (GZ) aj ⟨Tryz.func95,by kernel_rfl⟩ (bC (bF 1 (by kernel_rfl) (dV (.mk (by kernel_rfl) (Pm))))) ⟨⟨[.bool],[]⟩,fun x=>x.1.1⟩ (fun x=>rfl) (fun x=>by kernel_rfl)
def jq (m:M.ae->M.ae->Option (Bool)):bY K:={f:=55,sh:=⟨[.el U.Type, .el U.Type],[]⟩,R:=Bool,run:=fun x=>m x.1.1 x.1.2.1,dflt:=default,out:=fun r=>(Sh.enc D (.bool) r,dW.encs D [] ())}
def G5 (y:(Bool)⊕(Unit)) {R:Type} (k:Ex->List (AV K)->List (Ob K)->R):R:=match y with
 | .inl a0=>k Ex.ret (eP.eU D ⟨[.bool],[]⟩ ((a0,()),())) (eP.eY D ⟨[.bool],[]⟩ ((a0,()),()))
 | .inr (a1)=>k (Ex.exit 0) (eP.eU D ⟨[.any],[]⟩ (((),()),())) (eP.eY D ⟨[.any],[]⟩ (((),()),()))
def VK : List (fH K ((Bool)⊕(Unit))):=[⟨Ex.ret,⟨[.bool],[]⟩,fun x=> .inl x.1.1⟩,⟨(Ex.exit 0),⟨[.any],[]⟩,fun x=> .inr (())⟩]
def KQ (aW:M.ae->M.ae->Option (Bool)):fC K:=fM D false 27 0 [0,1,5] [4] ⟨[.bV U.Type, .bV U.Type, .int .i64],[]⟩ (fun x=>M.qN aW x.1.1 x.1.2.1 aG x.1.2.2.1) G5
def Gi (m:(List M.ae)->(List M.ae)->Option (Bool)):bY K:={f:=96,sh:=⟨[.bV U.Type, .bV U.Type],[]⟩,R:=Bool,run:=fun x=>m x.1.1 x.1.2.1,dflt:=default,out:=fun r=>(Sh.enc D (.bool) r,dW.encs D [] ())}
def Cf (aW:M.ae->M.ae->Option (Bool)):Cx K:={iR with mode:=bn .plain [(55, .plain)],call:=callOf D [jq aW],loop:=bf [(4,KQ aW)]}
theorem KR (aW:M.ae->M.ae->Option (Bool)) (jd:(jq aW).Ok D Tryz.prog):aH (Cf aW):=ax aF _ (az jd (bH))
theorem Tf (aW:M.ae->M.ae->Option (Bool)) (jd:(jq aW).Ok D Tryz.prog):dB (Cf aW) (dH (dL Tryz.f96) 0) (KQ aW):=
 df (cx:=Cf aW) (n:=27) (n0:=0) (ins:=[0,1,5]) (outs:=[4]) (sh:=⟨[.bV U.Type, .bV U.Type, .int .i64],[]⟩) (run:=fun n x=>M.qN aW x.1.1 x.1.2.1 n x.1.2.2.1) (fF:=VK) (out:=G5) aF (KR aW jd) aj (ay (by kernel_rfl)) (fun _=>rfl) (fun m x=>by kernel_rfl) (az ⟨iT,fun _ _ _=>rfl⟩ (az ⟨dh,fun _ _ _=>rfl⟩ (bH))) false aG
theorem abd (aW:M.ae->M.ae->Option (Bool)) (jd:(jq aW).Ok D Tryz.prog):(Gi (M.Df aW)).Ok D Tryz.prog:=
 bz (cx:=Cf aW) (c:=Gi (M.Df aW)) (fz:=true) (fn:=Tryz.f96) aF (KR aW jd) aj ⟨Tryz.func96,by kernel_rfl⟩ (bC (bF 1 (by kernel_rfl) (dV (.mk (by kernel_rfl) (Tf aW jd))))) ⟨⟨[.bool],[]⟩,fun x=>x.1.1⟩ (fun x=>rfl) (fun x=>by kernel_rfl)
def UE (aW:M.ae->M.ae->Option (Bool)):Cx K:={iR with mode:=bn .plain [(95, .plain),(96, .plain)],call:=callOf D [BA M.wW,Gi (M.Df aW)],loop:=bf []}
theorem Zl (aW:M.ae->M.ae->Option (Bool)) (jd:(jq aW).Ok D Tryz.prog):aH (UE aW):=ax aF _ (az WZ (az (abd aW jd) (bH)))
theorem Zm (aW:M.ae->M.ae->Option (Bool)) (jd:(jq aW).Ok D Tryz.prog):(jq (M.DC aW)).Ok D Tryz.prog:=
 bz (cx:=UE aW) (c:=jq (M.DC aW)) (fz:=true) (fn:=Tryz.f55) aF (Zl aW jd) aj ⟨Tryz.func55,by kernel_rfl⟩ (bC (ay (by kernel_rfl))) ⟨⟨[.bool],[]⟩,fun x=>x.1.1⟩ (fun x=>rfl) (fun x=>by kernel_rfl)
theorem Oe : ∀n,(jq (M.wu n)).Ok D Tryz.prog
 |0=>jm fun _=>rfl
 |n+1=>Zm (M.wu n) (Oe n)
theorem acz : (jq (M.Qv)).Ok D Tryz.prog:=Oe aG
def jZ (m:M.ae->Int->Option (Int×Int)):bY K:={f:=125,sh:=⟨[.el U.Type, .int .i64],[]⟩,R:=Int×Int,run:=fun x=>m x.1.1 x.1.2.1,dflt:=default,out:=fun r=>(Sh.enc D (.lD [.int .i64, .int .i64]) (r.1,(r.2,())),dW.encs D [] ())}
def Ci (m:Int->Int->Option (Int)):bY K:={f:=41,sh:=⟨[.int .i64, .int .i64],[]⟩,R:=Int,run:=fun x=>m x.1.1 x.1.2.1,dflt:=default,out:=fun r=>(Sh.enc D (.int .i64) r,dW.encs D [] ())}
def UF : Cx K:={iR with mode:=bn .plain [],call:=callOf D [],loop:=bf []}
theorem Zn : aH (UF):=ax aF _ (bH)
theorem UG : (Ci (M.rE)).Ok D Tryz.prog:=
 bz (cx:=UF) (c:=Ci (M.rE)) (fz:=true) (fn:=Tryz.f41) aF (Zn) aj ⟨Tryz.func41,by kernel_rfl⟩ (bC (ay (by kernel_rfl))) ⟨⟨[.int .i64],[]⟩,fun x=>x.1.1⟩ (fun x=>rfl) (fun x=>by kernel_rfl)
def G6 (y:(Int×Int)⊕(Int×Int)) {R:Type} (k:Ex->List (AV K)->List (Ob K)->R):R:=match y with
 | .inl a0=>k Ex.ret (eP.eU D ⟨[.any, .any, .int .i64, .int .i64],[.dead]⟩ (((),((),(a0.1,(a0.2,())))),((),()))) (eP.eY D ⟨[.any, .any, .int .i64, .int .i64],[.dead]⟩ (((),((),(a0.1,(a0.2,())))),((),())))
 | .inr (a1)=>k (Ex.exit 0) (eP.eU D ⟨[.int .i64, .int .i64, .any, .any],[.dead]⟩ ((a1.1,(a1.2,((),((),())))),((),()))) (eP.eY D ⟨[.int .i64, .int .i64, .any, .any],[.dead]⟩ ((a1.1,(a1.2,((),((),())))),((),())))
def VL : List (fH K ((Int×Int)⊕(Int×Int))):=[⟨Ex.ret,⟨[.any, .any, .int .i64, .int .i64],[.dead]⟩,fun x=> .inl (x.1.2.2.1,x.1.2.2.2.1)⟩,⟨(Ex.exit 0),⟨[.int .i64, .int .i64, .any, .any],[.dead]⟩,fun x=> .inr ((x.1.1,x.1.2.1))⟩]
def KT (bM:M.ae->Int->Option (Int×Int)):fC K:=fM D false 48 1 [1,2,6,7,8] [6,7,4,5] ⟨[.int .i64, .ptr 0 0, .int .i64, .int .i64, .int .i64],[.el U.Type]⟩ (fun x=>M.oH bM x.1.1 aG x.1.2.2.1 x.1.2.2.2.1 x.1.2.2.2.2.1 x.2.1) G6
def Cj (bM:M.ae->Int->Option (Int×Int)):Cx K:={iR with mode:=bn .plain [(125, .plain),(41, .plain)],call:=callOf D [jZ bM,Ci M.rE],loop:=bf [(6,KT bM)]}
theorem KU (bM:M.ae->Int->Option (Int×Int)) (qc:(jZ bM).Ok D Tryz.prog):aH (Cj bM):=ax aF _ (az qc (az UG (bH)))
theorem Ti (bM:M.ae->Int->Option (Int×Int)) (qc:(jZ bM).Ok D Tryz.prog):dB (Cj bM) (dH (dL Tryz.f125) 0) (KT bM):=
 df (cx:=Cj bM) (n:=48) (n0:=1) (ins:=[1,2,6,7,8]) (outs:=[6,7,4,5]) (sh:=⟨[.int .i64, .ptr 0 0, .int .i64, .int .i64, .int .i64],[.el U.Type]⟩) (run:=fun n x=>M.oH bM x.1.1 n x.1.2.2.1 x.1.2.2.2.1 x.1.2.2.2.2.1 x.2.1) (fF:=VL) (out:=G6) aF (KU bM qc) aj (ay (by kernel_rfl)) (fun _=>rfl) (fun m x=>by kernel_rfl) (az ⟨iT,fun _ _ _=>rfl⟩ (az ⟨dh,fun _ _ _=>rfl⟩ (bH))) false aG
theorem W9 (bM:M.ae->Int->Option (Int×Int)) (qc:(jZ bM).Ok D Tryz.prog):(jZ (M.Aw bM)).Ok D Tryz.prog:=
 bz (cx:=Cj bM) (c:=jZ (M.Aw bM)) (fz:=true) (fn:=Tryz.f125) aF (KU bM qc) aj ⟨Tryz.func125,by kernel_rfl⟩ (bC (bF 1 (by kernel_rfl) (dV (.mk (by kernel_rfl) (Ti bM qc))))) ⟨⟨[.lD [.int .i64, .int .i64]],[]⟩,fun x=>(x.1.1.1,x.1.1.2.1)⟩ (fun x=>rfl) (fun x=>by kernel_rfl)
theorem KW : ∀n,(jZ (M.qF n)).Ok D Tryz.prog
 |0=>jm fun _=>rfl
 |n+1=>W9 (M.qF n) (KW n)
theorem abe : (jZ (M.Na)).Ok D Tryz.prog:=KW aG
def qG (m:Int->Int->Int->Option (Bool)):bY K:={f:=34,sh:=⟨[.int .i64, .int .i64, .int .i64],[]⟩,R:=Bool,run:=fun x=>m x.1.1 x.1.2.1 x.1.2.2.1,dflt:=default,out:=fun r=>(Sh.enc D (.bool) r,dW.encs D [] ())}
def Xa : Cx K:={iR with mode:=bn .plain [],call:=callOf D [],loop:=bf []}
theorem abf : aH (Xa):=ax aF _ (bH)
theorem y9 : (qG (M.EU)).Ok D Tryz.prog:=
 bz (cx:=Xa) (c:=qG (M.EU)) (fz:=true) (fn:=Tryz.f34) aF (abf) aj ⟨Tryz.func34,by kernel_rfl⟩ (bC (ay (by kernel_rfl))) ⟨⟨[.bool],[]⟩,fun x=>x.1.1⟩ (fun x=>rfl) (fun x=>by kernel_rfl)
def G7 (y:(Bool)⊕(Unit)) {R:Type} (k:Ex->List (AV K)->List (Ob K)->R):R:=match y with
 | .inl a0=>k Ex.ret (eP.eU D ⟨[.bool],[]⟩ ((a0,()),())) (eP.eY D ⟨[.bool],[]⟩ ((a0,()),()))
 | .inr (a1)=>k (Ex.exit 0) (eP.eU D ⟨[.any],[]⟩ (((),()),())) (eP.eY D ⟨[.any],[]⟩ (((),()),()))
def VM : List (fH K ((Bool)⊕(Unit))):=[⟨Ex.ret,⟨[.bool],[]⟩,fun x=> .inl x.1.1⟩,⟨(Ex.exit 0),⟨[.any],[]⟩,fun x=> .inr (())⟩]
def KX : fC K:=fM D false 69 0 [0,3] [2] ⟨[.str, .int .i64],[]⟩ (fun x=>M.qO x.1.1 aG x.1.2.1) G7
def zY (m:(List UInt8)->Option (Bool)):bY K:={f:=159,sh:=⟨[.str],[]⟩,R:=Bool,run:=fun x=>m x.1.1,dflt:=default,out:=fun r=>(Sh.enc D (.bool) r,dW.encs D [] ())}
def Cm : Cx K:={iR with mode:=bn .plain [],call:=callOf D [],loop:=bf [(4,KX)]}
theorem KY : aH (Cm):=ax aF _ (bH)
theorem Tj : dB (Cm) (dH (dL Tryz.f159) 0) (KX):=
 df (cx:=Cm) (n:=69) (n0:=0) (ins:=[0,3]) (outs:=[2]) (sh:=⟨[.str, .int .i64],[]⟩) (run:=fun n x=>M.qO x.1.1 n x.1.2.1) (fF:=VM) (out:=G7) aF (KY) aj (ay (by kernel_rfl)) (fun _=>rfl) (fun m x=>by kernel_rfl) (az ⟨iT,fun _ _ _=>rfl⟩ (az ⟨dh,fun _ _ _=>rfl⟩ (bH))) false aG
theorem Qw : (zY (M.wX)).Ok D Tryz.prog:=
 bz (cx:=Cm) (c:=zY (M.wX)) (fz:=true) (fn:=Tryz.f159) aF (KY) aj ⟨Tryz.func159,by kernel_rfl⟩ (bC (bF 1 (by kernel_rfl) (dV (.mk (by kernel_rfl) (Tj))))) ⟨⟨[.bool],[]⟩,fun x=>x.1.1⟩ (fun x=>rfl) (fun x=>by kernel_rfl)
def Az (y:(Bool)⊕((List (List UInt8))×Int)) {R:Type} (k:Ex->List (AV K)->List (Ob K)->R):R:=match y with
 | .inl a0=>k Ex.ret (eP.eU D ⟨[.any, .any, .bool],[]⟩ (((),((),(a0,()))),())) (eP.eY D ⟨[.any, .any, .bool],[]⟩ (((),((),(a0,()))),()))
 | .inr (a1)=>k (Ex.exit 2) (eP.eU D ⟨[.bV U.str, .int .i64, .any],[]⟩ ((a1.1,(a1.2,((),()))),())) (eP.eY D ⟨[.bV U.str, .int .i64, .any],[]⟩ ((a1.1,(a1.2,((),()))),()))
def NJ : List (fH K ((Bool)⊕((List (List UInt8))×Int))):=[⟨Ex.ret,⟨[.any, .any, .bool],[]⟩,fun x=> .inl x.1.2.2.1⟩,⟨(Ex.exit 2),⟨[.bV U.str, .int .i64, .any],[]⟩,fun x=> .inr ((x.1.1,x.1.2.1))⟩]
def DD : fC K:=fM D false 39 0 [0,3,4] [0,3,2] ⟨[.bV U.str, .int .i64, .int .i64],[]⟩ (fun x=>M.iV x.1.1 x.1.2.1 aG x.1.2.2.1) Az
def DF (y:(Bool)⊕(Unit)) {R:Type} (k:Ex->List (AV K)->List (Ob K)->R):R:=match y with
 | .inl a0=>k Ex.ret (eP.eU D ⟨[.bool],[]⟩ ((a0,()),())) (eP.eY D ⟨[.bool],[]⟩ ((a0,()),()))
 | .inr (a1)=>k (Ex.exit 0) (eP.eU D ⟨[.any],[]⟩ (((),()),())) (eP.eY D ⟨[.any],[]⟩ (((),()),()))
def Qx : List (fH K ((Bool)⊕(Unit))):=[⟨Ex.ret,⟨[.bool],[]⟩,fun x=> .inl x.1.1⟩,⟨(Ex.exit 0),⟨[.any],[]⟩,fun x=> .inr (())⟩]
def G8 : fC K:=fM D false 39 0 [0,3] [2] ⟨[.bV U.str, .int .i64],[]⟩ (fun x=>M.jr aG x.1.1 x.1.2.1) DF
def BB (m:(List (List UInt8))->Option (Bool)):bY K:={f:=160,sh:=⟨[.bV U.str],[]⟩,R:=Bool,run:=fun x=>m x.1.1,dflt:=default,out:=fun r=>(Sh.enc D (.bool) r,dW.encs D [] ())}
def qf : Cx K:={iR with mode:=bn .plain [(159, .plain)],call:=callOf D [zY M.wX],loop:=bf [(9,DD),(4,G8)]}
theorem zf : aH (qf):=ax aF _ (az Qw (bH))
theorem KZ : dB (qf) (dH (dH (dL Tryz.f160) 0) 0) (DD):=
 df (cx:=qf) (n:=39) (n0:=0) (ins:=[0,3,4]) (outs:=[0,3,2]) (sh:=⟨[.bV U.str, .int .i64, .int .i64],[]⟩) (run:=fun n x=>M.iV x.1.1 x.1.2.1 n x.1.2.2.1) (fF:=NJ) (out:=Az) aF (zf) aj (ay (by kernel_rfl)) (fun _=>rfl) (fun m x=>by kernel_rfl) (az ⟨iT,fun _ _ _=>rfl⟩ (az ⟨dh,fun _ _ _=>rfl⟩ (bH))) false aG
theorem Pn : dB (qf) (dH (dL Tryz.f160) 0) (G8):=
 df (cx:=qf) (n:=39) (n0:=0) (ins:=[0,3]) (outs:=[2]) (sh:=⟨[.bV U.str, .int .i64],[]⟩) (run:=fun n x=>M.jr n x.1.1 x.1.2.1) (fF:=Qx) (out:=DF) aF (zf) aj (bF 1 (by kernel_rfl) (dV (.mk (by kernel_rfl) (KZ)))) (fun _=>rfl) (fun m x=>by kernel_rfl) (az ⟨iT,fun _ _ _=>rfl⟩ (az ⟨dh,fun _ _ _=>rfl⟩ (bH))) false aG
theorem Xb : (BB (M.wY)).Ok D Tryz.prog:=
 bz (cx:=qf) (c:=BB (M.wY)) (fz:=true) (fn:=Tryz.f160) aF (zf) aj ⟨Tryz.func160,by kernel_rfl⟩ (bC (bF 1 (by kernel_rfl) (dV (.mk (by kernel_rfl) (Pn))))) ⟨⟨[.bool],[]⟩,fun x=>x.1.1⟩ (fun x=>rfl) (fun x=>by kernel_rfl)
def EW (y:(Bool)⊕(Unit)) {R:Type} (k:Ex->List (AV K)->List (Ob K)->R):R:=match y with
 | .inl a0=>k Ex.ret (eP.eU D ⟨[.bool],[.dead]⟩ ((a0,()),((),()))) (eP.eY D ⟨[.bool],[.dead]⟩ ((a0,()),((),())))
 | .inr (a1)=>k (Ex.exit 0) (eP.eU D ⟨[.any],[.dead]⟩ (((),()),((),()))) (eP.eY D ⟨[.any],[.dead]⟩ (((),()),((),())))
def Tm : List (fH K ((Bool)⊕(Unit))):=[⟨Ex.ret,⟨[.bool],[.dead]⟩,fun x=> .inl x.1.1⟩,⟨(Ex.exit 0),⟨[.any],[.dead]⟩,fun x=> .inr (())⟩]
def Jw : fC K:=fM D false 18 1 [1,3] [2] ⟨[.ptr 0 0, .int .i64],[.el U.Type]⟩ (fun x=>M.je aG x.1.2.1 x.2.1) EW
def DI (m:M.ae->Option (Bool)):bY K:={f:=161,sh:=⟨[.el U.Type],[]⟩,R:=Bool,run:=fun x=>m x.1.1,dflt:=default,out:=fun r=>(Sh.enc D (.bool) r,dW.encs D [] ())}
def zZ : Cx K:={iR with mode:=bn .plain [],call:=callOf D [],loop:=bf [(2,Jw)]}
theorem Jy : aH (zZ):=ax aF _ (bH)
theorem Qy : dB (zZ) (dH (dL Tryz.f161) 0) (Jw):=
 df (cx:=zZ) (n:=18) (n0:=1) (ins:=[1,3]) (outs:=[2]) (sh:=⟨[.ptr 0 0, .int .i64],[.el U.Type]⟩) (run:=fun n x=>M.je n x.1.2.1 x.2.1) (fF:=Tm) (out:=EW) aF (Jy) aj (ay (by kernel_rfl)) (fun _=>rfl) (fun m x=>by kernel_rfl) (az ⟨iT,fun _ _ _=>rfl⟩ (az ⟨dh,fun _ _ _=>rfl⟩ (bH))) false aG
theorem Zo : (DI (M.sU)).Ok D Tryz.prog:=
 bz (cx:=zZ) (c:=DI (M.sU)) (fz:=true) (fn:=Tryz.f161) aF (Jy) aj ⟨Tryz.func161,by kernel_rfl⟩ (bC (bF 1 (by kernel_rfl) (dV (.mk (by kernel_rfl) (Qy))))) ⟨⟨[.bool],[]⟩,fun x=>x.1.1⟩ (fun x=>rfl) (fun x=>by kernel_rfl)
def ku (m:M.ae->Int->Int->Option (Bool)):bY K:={f:=107,sh:=⟨[.el U.Type, .int .i64, .int .i64],[]⟩,R:=Bool,run:=fun x=>m x.1.1 x.1.2.1 x.1.2.2.1,dflt:=default,out:=fun r=>(Sh.enc D (.bool) r,dW.encs D [] ())}
def Jz (y:(Bool)⊕(Unit)) {R:Type} (k:Ex->List (AV K)->List (Ob K)->R):R:=match y with
 | .inl a0=>k Ex.ret (eP.eU D ⟨[.bool],[.dead]⟩ ((a0,()),((),()))) (eP.eY D ⟨[.bool],[.dead]⟩ ((a0,()),((),())))
 | .inr (a1)=>k (Ex.exit 0) (eP.eU D ⟨[.any],[.dead]⟩ (((),()),((),()))) (eP.eY D ⟨[.any],[.dead]⟩ (((),()),((),())))
def Xc : List (fH K ((Bool)⊕(Unit))):=[⟨Ex.ret,⟨[.bool],[.dead]⟩,fun x=> .inl x.1.1⟩,⟨(Ex.exit 0),⟨[.any],[.dead]⟩,fun x=> .inr (())⟩]
def Og (bU:M.ae->Int->Int->Option (Bool)):fC K:=fM D false 28 1 [1,2,3,7] [6] ⟨[.int .i64, .int .i64, .ptr 0 0, .int .i64],[.el U.Type]⟩ (fun x=>M.lJ bU x.1.1 x.1.2.1 aG x.1.2.2.2.1 x.2.1) Jz
def EX (bU:M.ae->Int->Int->Option (Bool)):Cx K:={iR with mode:=bn .plain [(34, .plain),(107, .plain)],call:=callOf D [qG M.EU,ku bU],loop:=bf [(4,Og bU)]}
theorem Oh (bU:M.ae->Int->Int->Option (Bool)) (rM:(ku bU).Ok D Tryz.prog):aH (EX bU):=ax aF _ (az y9 (az rM (bH)))
theorem VN (bU:M.ae->Int->Int->Option (Bool)) (rM:(ku bU).Ok D Tryz.prog):dB (EX bU) (dH (dL Tryz.f107) 0) (Og bU):=
 df (cx:=EX bU) (n:=28) (n0:=1) (ins:=[1,2,3,7]) (outs:=[6]) (sh:=⟨[.int .i64, .int .i64, .ptr 0 0, .int .i64],[.el U.Type]⟩) (run:=fun n x=>M.lJ bU x.1.1 x.1.2.1 n x.1.2.2.2.1 x.2.1) (fF:=Xc) (out:=Jz) aF (Oh bU rM) aj (ay (by kernel_rfl)) (fun _=>rfl) (fun m x=>by kernel_rfl) (az ⟨iT,fun _ _ _=>rfl⟩ (az ⟨dh,fun _ _ _=>rfl⟩ (bH))) false aG
theorem Zp (bU:M.ae->Int->Int->Option (Bool)) (rM:(ku bU).Ok D Tryz.prog):(ku (M.DJ bU)).Ok D Tryz.prog:=
 bz (cx:=EX bU) (c:=ku (M.DJ bU)) (fz:=true) (fn:=Tryz.f107) aF (Oh bU rM) aj ⟨Tryz.func107,by kernel_rfl⟩ (bC (bF 1 (by kernel_rfl) (dV (.mk (by kernel_rfl) (VN bU rM))))) ⟨⟨[.bool],[]⟩,fun x=>x.1.1⟩ (fun x=>rfl) (fun x=>by kernel_rfl)
theorem Oi : ∀n,(ku (M.mP n)).Ok D Tryz.prog
 |0=>jm fun _=>rfl
 |n+1=>Zp (M.mP n) (Oi n)
theorem UH : (ku (M.ve)).Ok D Tryz.prog:=Oi aG
def DK (m:M.ae->Option (Bool)):bY K:={f:=143,sh:=⟨[.el U.Type],[]⟩,R:=Bool,run:=fun x=>m x.1.1,dflt:=default,out:=fun r=>(Sh.enc D (.bool) r,dW.encs D [] ())}
def Oj : Cx K:={iR with mode:=bn .plain [(34, .plain),(159, .plain),(160, .plain),(161, .plain),(107, .plain)],call:=callOf D [qG M.EU,zY M.wX,BB M.wY,DI M.sU,ku M.ve],loop:=bf []}
theorem VO : aH (Oj):=ax aF _ (az y9 (az Qw (az Xb (az Zo (az UH (bH))))))
theorem Zq : (DK (M.zg)).Ok D Tryz.prog:=
 bz (cx:=Oj) (c:=DK (M.zg)) (fz:=true) (fn:=Tryz.f143) aF (VO) aj ⟨Tryz.func143,by kernel_rfl⟩ (bC (ay (by kernel_rfl))) ⟨⟨[.bool],[]⟩,fun x=>x.1.1⟩ (fun x=>rfl) (fun x=>by kernel_rfl)
def jv (m:M.ae->Option (Bool)):bY K:={f:=126,sh:=⟨[.el U.Type],[]⟩,R:=Bool,run:=fun x=>m x.1.1,dflt:=default,out:=fun r=>(Sh.enc D (.bool) r,dW.encs D [] ())}
def EY (y:(Bool)⊕(Unit)) {R:Type} (k:Ex->List (AV K)->List (Ob K)->R):R:=match y with
 | .inl a0=>k Ex.ret (eP.eU D ⟨[.bool],[.dead]⟩ ((a0,()),((),()))) (eP.eY D ⟨[.bool],[.dead]⟩ ((a0,()),((),())))
 | .inr (a1)=>k (Ex.exit 0) (eP.eU D ⟨[.any],[.dead]⟩ (((),()),((),()))) (eP.eY D ⟨[.any],[.dead]⟩ (((),()),((),())))
def Tn : List (fH K ((Bool)⊕(Unit))):=[⟨Ex.ret,⟨[.bool],[.dead]⟩,fun x=> .inl x.1.1⟩,⟨(Ex.exit 0),⟨[.any],[.dead]⟩,fun x=> .inr (())⟩]
def JA (bI:M.ae->Option (Bool)):fC K:=fM D false 21 1 [1,3] [2] ⟨[.ptr 0 0, .int .i64],[.el U.Type]⟩ (fun x=>M.jf bI aG x.1.2.1 x.2.1) EY
def Aa (bI:M.ae->Option (Bool)):Cx K:={iR with mode:=bn .plain [(143, .plain),(126, .plain)],call:=callOf D [DK M.zg,jv bI],loop:=bf [(4,JA bI)]}
theorem JB (bI:M.ae->Option (Bool)) (oh:(jv bI).Ok D Tryz.prog):aH (Aa bI):=ax aF _ (az Zq (az oh (bH)))
theorem Qz (bI:M.ae->Option (Bool)) (oh:(jv bI).Ok D Tryz.prog):dB (Aa bI) (dH (dL Tryz.f126) 0) (JA bI):=
 df (cx:=Aa bI) (n:=21) (n0:=1) (ins:=[1,3]) (outs:=[2]) (sh:=⟨[.ptr 0 0, .int .i64],[.el U.Type]⟩) (run:=fun n x=>M.jf bI n x.1.2.1 x.2.1) (fF:=Tn) (out:=EY) aF (JB bI oh) aj (ay (by kernel_rfl)) (fun _=>rfl) (fun m x=>by kernel_rfl) (az ⟨iT,fun _ _ _=>rfl⟩ (az ⟨dh,fun _ _ _=>rfl⟩ (bH))) false aG
theorem VP (bI:M.ae->Option (Bool)) (oh:(jv bI).Ok D Tryz.prog):(jv (M.xN bI)).Ok D Tryz.prog:=
 bz (cx:=Aa bI) (c:=jv (M.xN bI)) (fz:=true) (fn:=Tryz.f126) aF (JB bI oh) aj ⟨Tryz.func126,by kernel_rfl⟩ (bC (bF 1 (by kernel_rfl) (dV (.mk (by kernel_rfl) (Qz bI oh))))) ⟨⟨[.bool],[]⟩,fun x=>x.1.1⟩ (fun x=>rfl) (fun x=>by kernel_rfl)
theorem JC : ∀n,(jv (M.kz n)).Ok D Tryz.prog
 |0=>jm fun _=>rfl
 |n+1=>VP (M.kz n) (JC n)
theorem Zr : (jv (M.IJ)).Ok D Tryz.prog:=JC aG
def qP (m:M.ae->Int->Option (Int)):bY K:={f:=129,sh:=⟨[.el U.Type, .int .i64],[]⟩,R:=Int,run:=fun x=>m x.1.1 x.1.2.1,dflt:=default,out:=fun r=>(Sh.enc D (.int .i64) r,dW.encs D [] ())}
def Ol (y:Int) {R:Type} (k:Ex->List (AV K)->List (Ob K)->R):R:=match y with
 |a0=>k (Ex.exit 0) (eP.eU D ⟨[.int .i64],[]⟩ ((a0,()),())) (eP.eY D ⟨[.int .i64],[]⟩ ((a0,()),()))
def abg : List (fH K (Int)):=[⟨(Ex.exit 0),⟨[.int .i64],[]⟩,fun x=>x.1.1⟩]
def UI (dM:M.ae->Int->Option (Int)):fC K:=fM D false 26 0 [1,5,11,12,13] [5] ⟨[.int .i64, .int .i64, .bV U.Type, .int .i64, .int .i64],[]⟩ (fun x=>M.wZ dM x.1.1 x.1.2.2.1 x.1.2.2.2.1 aG x.1.2.1 x.1.2.2.2.2.1) Ol
def Nb (dM:M.ae->Int->Option (Int)):Cx K:={iR with mode:=bn .plain [(129, .plain)],call:=callOf D [qP dM],loop:=bf [(5,UI dM)]}
theorem UJ (dM:M.ae->Int->Option (Int)) (xe:(qP dM).Ok D Tryz.prog):aH (Nb dM):=ax aF _ (az xe (bH))
theorem Zt (dM:M.ae->Int->Option (Int)) (xe:(qP dM).Ok D Tryz.prog):dB (Nb dM) (dH (dL Tryz.f129) 0) (UI dM):=
 df (cx:=Nb dM) (n:=26) (n0:=0) (ins:=[1,5,11,12,13]) (outs:=[5]) (sh:=⟨[.int .i64, .int .i64, .bV U.Type, .int .i64, .int .i64],[]⟩) (run:=fun n x=>M.wZ dM x.1.1 x.1.2.2.1 x.1.2.2.2.1 n x.1.2.1 x.1.2.2.2.2.1) (fF:=abg) (out:=Ol) aF (UJ dM xe) aj (ay (by kernel_rfl)) (fun _=>rfl) (fun m x=>by kernel_rfl) (az ⟨dh,fun _ _ _=>rfl⟩ (bH)) false aG
theorem acA (dM:M.ae->Int->Option (Int)) (xe:(qP dM).Ok D Tryz.prog):(qP (M.La dM)).Ok D Tryz.prog:=
 bz (cx:=Nb dM) (c:=qP (M.La dM)) (fz:=true) (fn:=Tryz.f129) aF (UJ dM xe) aj ⟨Tryz.func129,by kernel_rfl⟩ (bC (bF 1 (by kernel_rfl) (dV (.mk (by kernel_rfl) (Zt dM xe))))) ⟨⟨[.int .i64],[]⟩,fun x=>x.1.1⟩ (fun x=>rfl) (fun x=>by kernel_rfl)
theorem UK : ∀n,(qP (M.AA n)).Ok D Tryz.prog
 |0=>jm fun _=>rfl
 |n+1=>acA (M.AA n) (UK n)
theorem agd : (qP (M.abh)).Ok D Tryz.prog:=UK aG
def oI (m:M.ae->Option (Int)):bY K:={f:=130,sh:=⟨[.el U.Type],[]⟩,R:=Int,run:=fun x=>m x.1.1,dflt:=default,out:=fun r=>(Sh.enc D (.int .i64) r,dW.encs D [] ())}
def Lc (y:Int) {R:Type} (k:Ex->List (AV K)->List (Ob K)->R):R:=match y with
 |a0=>k (Ex.exit 0) (eP.eU D ⟨[.int .i64],[]⟩ ((a0,()),())) (eP.eY D ⟨[.int .i64],[]⟩ ((a0,()),()))
def Zu : List (fH K (Int)):=[⟨(Ex.exit 0),⟨[.int .i64],[]⟩,fun x=>x.1.1⟩]
def QA (dw:M.ae->Option (Int)):fC K:=fM D false 19 0 [3,7,8,9] [3] ⟨[.int .i64, .bV U.Type, .int .i64, .int .i64],[]⟩ (fun x=>M.sV dw x.1.2.1 x.1.2.2.1 aG x.1.1 x.1.2.2.2.1) Lc
def IK (dw:M.ae->Option (Int)):Cx K:={iR with mode:=bn .plain [(130, .plain)],call:=callOf D [oI dw],loop:=bf [(3,QA dw)]}
theorem QB (dw:M.ae->Option (Int)) (uy:(oI dw).Ok D Tryz.prog):aH (IK dw):=ax aF _ (az uy (bH))
theorem Xd (dw:M.ae->Option (Int)) (uy:(oI dw).Ok D Tryz.prog):dB (IK dw) (dH (dL Tryz.f130) 0) (QA dw):=
 df (cx:=IK dw) (n:=19) (n0:=0) (ins:=[3,7,8,9]) (outs:=[3]) (sh:=⟨[.int .i64, .bV U.Type, .int .i64, .int .i64],[]⟩) (run:=fun n x=>M.sV dw x.1.2.1 x.1.2.2.1 n x.1.1 x.1.2.2.2.1) (fF:=Zu) (out:=Lc) aF (QB dw uy) aj (ay (by kernel_rfl)) (fun _=>rfl) (fun m x=>by kernel_rfl) (az ⟨dh,fun _ _ _=>rfl⟩ (bH)) false aG
theorem abj (dw:M.ae->Option (Int)) (uy:(oI dw).Ok D Tryz.prog):(oI (M.G9 dw)).Ok D Tryz.prog:=
 bz (cx:=IK dw) (c:=oI (M.G9 dw)) (fz:=true) (fn:=Tryz.f130) aF (QB dw uy) aj ⟨Tryz.func130,by kernel_rfl⟩ (bC (bF 1 (by kernel_rfl) (dV (.mk (by kernel_rfl) (Xd dw uy))))) ⟨⟨[.int .i64],[]⟩,fun x=>x.1.1⟩ (fun x=>rfl) (fun x=>by kernel_rfl)
theorem QC : ∀n,(oI (M.xg n)).Ok D Tryz.prog
 |0=>jm fun _=>rfl
 |n+1=>abj (M.xg n) (QC n)
theorem aej : (oI (M.WN)).Ok D Tryz.prog:=QC aG
def fD (m:M.ae->Option (Bool)):bY K:={f:=131,sh:=⟨[.el U.Type],[]⟩,R:=Bool,run:=fun x=>m x.1.1,dflt:=default,out:=fun r=>(Sh.enc D (.bool) r,dW.encs D [] ())}
def zh (m:M.ae->Option (Bool)):bY K:={f:=150,sh:=⟨[.el U.Type],[]⟩,R:=Bool,run:=fun x=>m x.1.1,dflt:=default,out:=fun r=>(Sh.enc D (.bool) r,dW.encs D [] ())}
def JD (aB:M.ae->Option (Bool)):Cx K:={iR with mode:=bn .plain [(131, .plain)],call:=callOf D [fD aB],loop:=bf []}
theorem QD (aB:M.ae->Option (Bool)) (dI:(fD aB).Ok D Tryz.prog):aH (JD aB):=ax aF _ (az dI (bH))
theorem VQ (aB:M.ae->Option (Bool)) (dI:(fD aB).Ok D Tryz.prog):(zh (M.uz aB)).Ok D Tryz.prog:=
 bz (cx:=JD aB) (c:=zh (M.uz aB)) (fz:=true) (fn:=Tryz.f150) aF (QD aB dI) aj ⟨Tryz.func150,by kernel_rfl⟩ (bC (ay (by kernel_rfl))) ⟨⟨[.bool],[]⟩,fun x=>x.1.1⟩ (fun x=>rfl) (fun x=>by kernel_rfl)
def nM (y:(Int)⊕(Unit)) {R:Type} (k:Ex->List (AV K)->List (Ob K)->R):R:=match y with
 | .inl a0=>k Ex.ret (eP.eU D ⟨[.int .i64],[]⟩ ((a0,()),())) (eP.eY D ⟨[.int .i64],[]⟩ ((a0,()),()))
 | .inr (a1)=>k (Ex.exit 0) (eP.eU D ⟨[.any],[]⟩ (((),()),())) (eP.eY D ⟨[.any],[]⟩ (((),()),()))
def xO : List (fH K ((Int)⊕(Unit))):=[⟨Ex.ret,⟨[.int .i64],[]⟩,fun x=> .inl x.1.1⟩,⟨(Ex.exit 0),⟨[.any],[]⟩,fun x=> .inr (())⟩]
def pR (aB:M.ae->Option (Bool)):fC K:=fM D false 19 0 [0,1,7,8] [4] ⟨[.bV U.Type, .fn 150 [], .int .i64, .int .i64],[]⟩ (fun x=>M.dP aB x.1.1 x.1.2.2.1 aG x.1.2.2.2.1) nM
def jT (m:(List M.ae)->Option (Int)):bY K:={f:=156,sh:=⟨[.bV U.Type, .fn 150 []],[]⟩,R:=Int,run:=fun x=>m x.1.1,dflt:=default,out:=fun r=>(Sh.enc D (.int .i64) r,dW.encs D [] ())}
def iy (aB:M.ae->Option (Bool)):Cx K:={iR with mode:=bn .plain [(150, .plain)],call:=callOf D [zh (M.uz aB)],loop:=bf [(2,pR aB)]}
theorem pU (aB:M.ae->Option (Bool)) (dI:(fD aB).Ok D Tryz.prog):aH (iy aB):=ax aF _ (az (VQ aB dI) (bH))
theorem xE (aB:M.ae->Option (Bool)) (dI:(fD aB).Ok D Tryz.prog):dB (iy aB) (dH (dL Tryz.f156) 0) (pR aB):=
 df (cx:=iy aB) (n:=19) (n0:=0) (ins:=[0,1,7,8]) (outs:=[4]) (sh:=⟨[.bV U.Type, .fn 150 [], .int .i64, .int .i64],[]⟩) (run:=fun n x=>M.dP aB x.1.1 x.1.2.2.1 n x.1.2.2.2.1) (fF:=xO) (out:=nM) aF (pU aB dI) aj (ay (by kernel_rfl)) (fun _=>rfl) (fun m x=>by kernel_rfl) (az ⟨iT,fun _ _ _=>rfl⟩ (az ⟨dh,fun _ _ _=>rfl⟩ (bH))) false aG
theorem AB (aB:M.ae->Option (Bool)) (dI:(fD aB).Ok D Tryz.prog):(jT (M.gU aB)).Ok D Tryz.prog:=
 bz (cx:=iy aB) (c:=jT (M.gU aB)) (fz:=true) (fn:=Tryz.f156) aF (pU aB dI) aj ⟨Tryz.func156,by kernel_rfl⟩ (bC (bF 1 (by kernel_rfl) (dV (.mk (by kernel_rfl) (xE aB dI))))) ⟨⟨[.int .i64],[]⟩,fun x=>x.1.1⟩ (fun x=>rfl) (fun x=>by kernel_rfl)
def iY (m:(List M.ae)->Option (Bool)):bY K:={f:=133,sh:=⟨[.bV U.Type, .fn 150 []],[]⟩,R:=Bool,run:=fun x=>m x.1.1,dflt:=default,out:=fun r=>(Sh.enc D (.bool) r,dW.encs D [] ())}
def oJ (aB:M.ae->Option (Bool)):Cx K:={iR with mode:=bn .plain [(156, .plain)],call:=callOf D [jT (M.gU aB)],loop:=bf []}
theorem wz (aB:M.ae->Option (Bool)) (dI:(fD aB).Ok D Tryz.prog):aH (oJ aB):=ax aF _ (az (AB aB dI) (bH))
theorem xP (aB:M.ae->Option (Bool)) (dI:(fD aB).Ok D Tryz.prog):(iY (M.dQ aB)).Ok D Tryz.prog:=
 bz (cx:=oJ aB) (c:=iY (M.dQ aB)) (fz:=true) (fn:=Tryz.f133) aF (wz aB dI) aj ⟨Tryz.func133,by kernel_rfl⟩ (bC (ay (by kernel_rfl))) ⟨⟨[.bool],[]⟩,fun x=>x.1.1⟩ (fun x=>rfl) (fun x=>by kernel_rfl)
def jw (m:Int->Int->Int->Option (Bool)):bY K:={f:=46,sh:=⟨[.int .i64, .int .i64, .int .i64],[]⟩,R:=Bool,run:=fun x=>m x.1.1 x.1.2.1 x.1.2.2.1,dflt:=default,out:=fun r=>(Sh.enc D (.bool) r,dW.encs D [] ())}
def UL : Cx K:={iR with mode:=bn .plain [],call:=callOf D [],loop:=bf []}
theorem Zv : aH (UL):=ax aF _ (bH)
theorem oK : (jw (M.sW)).Ok D Tryz.prog:=
 bz (cx:=UL) (c:=jw (M.sW)) (fz:=true) (fn:=Tryz.f46) aF (Zv) aj ⟨Tryz.func46,by kernel_rfl⟩ (bC (ay (by kernel_rfl))) ⟨⟨[.bool],[]⟩,fun x=>x.1.1⟩ (fun x=>rfl) (fun x=>by kernel_rfl)
def oL (m:(List (List UInt8))->Option (Int)):bY K:={f:=137,sh:=⟨[.bV U.str],[]⟩,R:=Int,run:=fun x=>m x.1.1,dflt:=default,out:=fun r=>(Sh.enc D (.int .i64) r,dW.encs D [] ())}
def Ha : Cx K:={iR with mode:=bn .plain [],call:=callOf D [],loop:=bf []}
theorem Po : aH (Ha):=ax aF _ (bH)
theorem zi : (oL (M.vg)).Ok D Tryz.prog:=
 bz (cx:=Ha) (c:=oL (M.vg)) (fz:=true) (fn:=Tryz.f137) aF (Po) aj ⟨Tryz.func137,by kernel_rfl⟩ (bC (ay (by kernel_rfl))) ⟨⟨[.int .i64],[]⟩,fun x=>x.1.1⟩ (fun x=>rfl) (fun x=>by kernel_rfl)
def JE (y:(Bool)⊕((List UInt8))) {R:Type} (k:Ex->List (AV K)->List (Ob K)->R):R:=match y with
 | .inl a0=>k Ex.ret (eP.eU D ⟨[.any, .bool],[]⟩ (((),(a0,())),())) (eP.eY D ⟨[.any, .bool],[]⟩ (((),(a0,())),()))
 | .inr (a1)=>k (Ex.exit 0) (eP.eU D ⟨[.str, .any],[]⟩ ((a1,((),())),())) (eP.eY D ⟨[.str, .any],[]⟩ ((a1,((),())),()))
def Xe : List (fH K ((Bool)⊕((List UInt8)))):=[⟨Ex.ret,⟨[.any, .bool],[]⟩,fun x=> .inl x.1.2.1⟩,⟨(Ex.exit 0),⟨[.str, .any],[]⟩,fun x=> .inr (x.1.1)⟩]
def Om : fC K:=fM D false 75 0 [0,7,8] [0,2] ⟨[.str, .int .i64, .int .i64],[]⟩ (fun x=>M.qH x.1.1 x.1.2.1 aG x.1.2.2.1) JE
def CB (m:(List UInt8)->Option (Bool)):bY K:={f:=152,sh:=⟨[.str],[]⟩,R:=Bool,run:=fun x=>m x.1.1,dflt:=default,out:=fun r=>(Sh.enc D (.bool) r,dW.encs D [] ())}
def EZ : Cx K:={iR with mode:=bn .plain [],call:=callOf D [],loop:=bf [(2,Om)]}
theorem Oo : aH (EZ):=ax aF _ (bH)
theorem VR : dB (EZ) (dH (dL Tryz.f152) 0) (Om):=
 df (cx:=EZ) (n:=75) (n0:=0) (ins:=[0,7,8]) (outs:=[0,2]) (sh:=⟨[.str, .int .i64, .int .i64],[]⟩) (run:=fun n x=>M.qH x.1.1 x.1.2.1 n x.1.2.2.1) (fF:=Xe) (out:=JE) aF (Oo) aj (ay (by kernel_rfl)) (fun _=>rfl) (fun m x=>by kernel_rfl) (az ⟨iT,fun _ _ _=>rfl⟩ (az ⟨dh,fun _ _ _=>rfl⟩ (bH))) false aG
theorem UM : (CB (M.AL)).Ok D Tryz.prog:=
 bz (cx:=EZ) (c:=CB (M.AL)) (fz:=true) (fn:=Tryz.f152) aF (Oo) aj ⟨Tryz.func152,by kernel_rfl⟩ (bC (bF 1 (by kernel_rfl) (dV (.mk (by kernel_rfl) (VR))))) ⟨⟨[.bool],[]⟩,fun x=>x.1.1⟩ (fun x=>rfl) (fun x=>by kernel_rfl)
def xQ (m:(List UInt8)->Option (Bool)):bY K:={f:=165,sh:=⟨[.str],[]⟩,R:=Bool,run:=fun x=>m x.1.1,dflt:=default,out:=fun r=>(Sh.enc D (.bool) r,dW.encs D [] ())}
def He : Cx K:={iR with mode:=bn .plain [(152, .plain)],call:=callOf D [CB M.AL],loop:=bf []}
theorem Pq : aH (He):=ax aF _ (az UM (bH))
theorem Tq : (xQ (M.rO)).Ok D Tryz.prog:=
 bz (cx:=He) (c:=xQ (M.rO)) (fz:=true) (fn:=Tryz.f165) aF (Pq) aj ⟨Tryz.func165,by kernel_rfl⟩ (bC (ay (by kernel_rfl))) ⟨⟨[.bool],[]⟩,fun x=>x.1.1⟩ (fun x=>rfl) (fun x=>by kernel_rfl)
def kM (y:(Int)⊕(Unit)) {R:Type} (k:Ex->List (AV K)->List (Ob K)->R):R:=match y with
 | .inl a0=>k Ex.ret (eP.eU D ⟨[.int .i64],[]⟩ ((a0,()),())) (eP.eY D ⟨[.int .i64],[]⟩ ((a0,()),()))
 | .inr (a1)=>k (Ex.exit 0) (eP.eU D ⟨[.any],[]⟩ (((),()),())) (eP.eY D ⟨[.any],[]⟩ (((),()),()))
def uP : List (fH K ((Int)⊕(Unit))):=[⟨Ex.ret,⟨[.int .i64],[]⟩,fun x=> .inl x.1.1⟩,⟨(Ex.exit 0),⟨[.any],[]⟩,fun x=> .inr (())⟩]
def lK : fC K:=fM D false 19 0 [0,1,7,8] [4] ⟨[.bV U.str, .fn 165 [], .int .i64, .int .i64],[]⟩ (fun x=>M.dA x.1.1 x.1.2.2.1 aG x.1.2.2.2.1) kM
def iU (m:(List (List UInt8))->Option (Int)):bY K:={f:=172,sh:=⟨[.bV U.str, .fn 165 []],[]⟩,R:=Int,run:=fun x=>m x.1.1,dflt:=default,out:=fun r=>(Sh.enc D (.int .i64) r,dW.encs D [] ())}
def gm : Cx K:={iR with mode:=bn .plain [(165, .plain)],call:=callOf D [xQ M.rO],loop:=bf [(2,lK)]}
theorem lL : aH (gm):=ax aF _ (az Tq (bH))
theorem uA : dB (gm) (dH (dL Tryz.f172) 0) (lK):=
 df (cx:=gm) (n:=19) (n0:=0) (ins:=[0,1,7,8]) (outs:=[4]) (sh:=⟨[.bV U.str, .fn 165 [], .int .i64, .int .i64],[]⟩) (run:=fun n x=>M.dA x.1.1 x.1.2.2.1 n x.1.2.2.2.1) (fF:=uP) (out:=kM) aF (lL) aj (ay (by kernel_rfl)) (fun _=>rfl) (fun m x=>by kernel_rfl) (az ⟨iT,fun _ _ _=>rfl⟩ (az ⟨dh,fun _ _ _=>rfl⟩ (bH))) false aG
theorem xG : (iU (M.fJ)).Ok D Tryz.prog:=
 bz (cx:=gm) (c:=iU (M.fJ)) (fz:=true) (fn:=Tryz.f172) aF (lL) aj ⟨Tryz.func172,by kernel_rfl⟩ (bC (bF 1 (by kernel_rfl) (dV (.mk (by kernel_rfl) (uA))))) ⟨⟨[.int .i64],[]⟩,fun x=>x.1.1⟩ (fun x=>rfl) (fun x=>by kernel_rfl)
def ig (m:(List (List UInt8))->Option (Bool)):bY K:={f:=164,sh:=⟨[.bV U.str, .fn 165 []],[]⟩,R:=Bool,run:=fun x=>m x.1.1,dflt:=default,out:=fun r=>(Sh.enc D (.bool) r,dW.encs D [] ())}
def lq : Cx K:={iR with mode:=bn .plain [(172, .plain)],call:=callOf D [iU M.fJ],loop:=bf []}
theorem sZ : aH (lq):=ax aF _ (az xG (bH))
theorem uQ : (ig (M.dO)).Ok D Tryz.prog:=
 bz (cx:=lq) (c:=ig (M.dO)) (fz:=true) (fn:=Tryz.f164) aF (sZ) aj ⟨Tryz.func164,by kernel_rfl⟩ (bC (ay (by kernel_rfl))) ⟨⟨[.bool],[]⟩,fun x=>x.1.1⟩ (fun x=>rfl) (fun x=>by kernel_rfl)
def DL (m:(List (List UInt8))->Option (Bool)):bY K:={f:=151,sh:=⟨[.bV U.str],[]⟩,R:=Bool,run:=fun x=>m x.1.1,dflt:=default,out:=fun r=>(Sh.enc D (.bool) r,dW.encs D [] ())}
def Oq : Cx K:={iR with mode:=bn .plain [(137, .plain),(46, .plain),(163, .plain),(164, .plain)],call:=callOf D [oL M.vg,jw M.sW,DN M.tq,ig M.dO],loop:=bf []}
theorem VS : aH (Oq):=ax aF _ (az zi (az oK (az Zw (az uQ (bH)))))
theorem Zx : (DL (M.zk)).Ok D Tryz.prog:=
 bz (cx:=Oq) (c:=DL (M.zk)) (fz:=true) (fn:=Tryz.f151) aF (VS) aj ⟨Tryz.func151,by kernel_rfl⟩ (bC (ay (by kernel_rfl))) ⟨⟨[.bool],[]⟩,fun x=>x.1.1⟩ (fun x=>rfl) (fun x=>by kernel_rfl)
def rF (m:(List M.ae)->Option (Int)):bY K:={f:=154,sh:=⟨[.bV U.Type],[]⟩,R:=Int,run:=fun x=>m x.1.1,dflt:=default,out:=fun r=>(Sh.enc D (.int .i64) r,dW.encs D [] ())}
def Ld : Cx K:={iR with mode:=bn .plain [],call:=callOf D [],loop:=bf []}
theorem Tt : aH (Ld):=ax aF _ (bH)
theorem DR : (rF (M.AO)).Ok D Tryz.prog:=
 bz (cx:=Ld) (c:=rF (M.AO)) (fz:=true) (fn:=Tryz.f154) aF (Tt) aj ⟨Tryz.func154,by kernel_rfl⟩ (bC (ay (by kernel_rfl))) ⟨⟨[.int .i64],[]⟩,fun x=>x.1.1⟩ (fun x=>rfl) (fun x=>by kernel_rfl)
def xR (m:M.ae->Option (Bool)):bY K:={f:=111,sh:=⟨[.el U.Type],[]⟩,R:=Bool,run:=fun x=>m x.1.1,dflt:=default,out:=fun r=>(Sh.enc D (.bool) r,dW.encs D [] ())}
def UN : Cx K:={iR with mode:=bn .plain [],call:=callOf D [],loop:=bf []}
theorem Zy : aH (UN):=ax aF _ (bH)
theorem Le : (xR (M.Lh)).Ok D Tryz.prog:=
 bz (cx:=UN) (c:=xR (M.Lh)) (fz:=true) (fn:=Tryz.f111) aF (Zy) aj ⟨Tryz.func111,by kernel_rfl⟩ (bC (ay (by kernel_rfl))) ⟨⟨[.bool],[]⟩,fun x=>x.1.1⟩ (fun x=>rfl) (fun x=>by kernel_rfl)
def lM (y:(Int)⊕(Unit)) {R:Type} (k:Ex->List (AV K)->List (Ob K)->R):R:=match y with
 | .inl a0=>k Ex.ret (eP.eU D ⟨[.int .i64],[]⟩ ((a0,()),())) (eP.eY D ⟨[.int .i64],[]⟩ ((a0,()),()))
 | .inr (a1)=>k (Ex.exit 0) (eP.eU D ⟨[.any],[]⟩ (((),()),())) (eP.eY D ⟨[.any],[]⟩ (((),()),()))
def wB : List (fH K ((Int)⊕(Unit))):=[⟨Ex.ret,⟨[.int .i64],[]⟩,fun x=> .inl x.1.1⟩,⟨(Ex.exit 0),⟨[.any],[]⟩,fun x=> .inr (())⟩]
def nN : fC K:=fM D false 19 0 [0,1,7,8] [4] ⟨[.bV U.Type, .fn 111 [], .int .i64, .int .i64],[]⟩ (fun x=>M.dD x.1.1 x.1.2.2.1 aG x.1.2.2.2.1) lM
def jy (m:(List M.ae)->Option (Int)):bY K:={f:=156,sh:=⟨[.bV U.Type, .fn 111 []],[]⟩,R:=Int,run:=fun x=>m x.1.1,dflt:=default,out:=fun r=>(Sh.enc D (.int .i64) r,dW.encs D [] ())}
def gJ : Cx K:={iR with mode:=bn .plain [(111, .plain)],call:=callOf D [xR M.Lh],loop:=bf [(2,nN)]}
theorem nO : aH (gJ):=ax aF _ (az Le (bH))
theorem vk : dB (gJ) (dH (dL Tryz.f156) 0) (nN):=
 df (cx:=gJ) (n:=19) (n0:=0) (ins:=[0,1,7,8]) (outs:=[4]) (sh:=⟨[.bV U.Type, .fn 111 [], .int .i64, .int .i64],[]⟩) (run:=fun n x=>M.dD x.1.1 x.1.2.2.1 n x.1.2.2.2.1) (fF:=wB) (out:=lM) aF (nO) aj (ay (by kernel_rfl)) (fun _=>rfl) (fun m x=>by kernel_rfl) (az ⟨iT,fun _ _ _=>rfl⟩ (az ⟨dh,fun _ _ _=>rfl⟩ (bH))) false aG
theorem yQ : (jy (M.fQ)).Ok D Tryz.prog:=
 bz (cx:=gJ) (c:=jy (M.fQ)) (fz:=true) (fn:=Tryz.f156) aF (nO) aj ⟨Tryz.func156,by kernel_rfl⟩ (bC (bF 1 (by kernel_rfl) (dV (.mk (by kernel_rfl) (vk))))) ⟨⟨[.int .i64],[]⟩,fun x=>x.1.1⟩ (fun x=>rfl) (fun x=>by kernel_rfl)
def iE (m:(List M.ae)->Option (Bool)):bY K:={f:=133,sh:=⟨[.bV U.Type, .fn 111 []],[]⟩,R:=Bool,run:=fun x=>m x.1.1,dflt:=default,out:=fun r=>(Sh.enc D (.bool) r,dW.encs D [] ())}
def mQ : Cx K:={iR with mode:=bn .plain [(156, .plain)],call:=callOf D [jy M.fQ],loop:=bf []}
theorem uS : aH (mQ):=ax aF _ (az yQ (bH))
theorem wC : (iE (M.dY)).Ok D Tryz.prog:=
 bz (cx:=mQ) (c:=iE (M.dY)) (fz:=true) (fn:=Tryz.f133) aF (uS) aj ⟨Tryz.func133,by kernel_rfl⟩ (bC (ay (by kernel_rfl))) ⟨⟨[.bool],[]⟩,fun x=>x.1.1⟩ (fun x=>rfl) (fun x=>by kernel_rfl)
def IL (m:M.ae->Int->Option (Bool)):bY K:={f:=153,sh:=⟨[.el U.Type, .int .i64],[]⟩,R:=Bool,run:=fun x=>m x.1.1 x.1.2.1,dflt:=default,out:=fun r=>(Sh.enc D (.bool) r,dW.encs D [] ())}
def UO : Cx K:={iR with mode:=bn .plain [(154, .plain),(133, .plain)],call:=callOf D [rF M.AO,iE M.dY],loop:=bf []}
theorem Zz : aH (UO):=ax aF _ (az DR (az wC (bH)))
theorem acB : (IL (M.xU)).Ok D Tryz.prog:=
 bz (cx:=UO) (c:=IL (M.xU)) (fz:=true) (fn:=Tryz.f153) aF (Zz) aj ⟨Tryz.func153,by kernel_rfl⟩ (bC (ay (by kernel_rfl))) ⟨⟨[.bool],[]⟩,fun x=>x.1.1⟩ (fun x=>rfl) (fun x=>by kernel_rfl)
def pV (y:(Int)⊕(Unit)) {R:Type} (k:Ex->List (AV K)->List (Ob K)->R):R:=match y with
 | .inl a0=>k Ex.ret (eP.eU D ⟨[.int .i64],[]⟩ ((a0,()),())) (eP.eY D ⟨[.int .i64],[]⟩ ((a0,()),()))
 | .inr (a1)=>k (Ex.exit 0) (eP.eU D ⟨[.any],[]⟩ (((),()),())) (eP.eY D ⟨[.any],[]⟩ (((),()),()))
def zl : List (fH K ((Int)⊕(Unit))):=[⟨Ex.ret,⟨[.int .i64],[]⟩,fun x=> .inl x.1.1⟩,⟨(Ex.exit 0),⟨[.any],[]⟩,fun x=> .inr (())⟩]
def qI : fC K:=fM D false 19 0 [0,1,7,8] [4] ⟨[.bV U.i64, .int .i64, .int .i64, .int .i64],[]⟩ (fun x=>M.eu x.1.1 x.1.2.1 x.1.2.2.1 aG x.1.2.2.2.1) pV
def kS (m:(List Int)->Int->Option (Int)):bY K:={f:=155,sh:=⟨[.bV U.i64, .int .i64],[]⟩,R:=Int,run:=fun x=>m x.1.1 x.1.2.1,dflt:=default,out:=fun r=>(Sh.enc D (.int .i64) r,dW.encs D [] ())}
def iW : Cx K:={iR with mode:=bn .plain [],call:=callOf D [],loop:=bf [(2,qI)]}
theorem qJ : aH (iW):=ax aF _ (bH)
theorem yR : dB (iW) (dH (dL Tryz.f155) 0) (qI):=
 df (cx:=iW) (n:=19) (n0:=0) (ins:=[0,1,7,8]) (outs:=[4]) (sh:=⟨[.bV U.i64, .int .i64, .int .i64, .int .i64],[]⟩) (run:=fun n x=>M.eu x.1.1 x.1.2.1 x.1.2.2.1 n x.1.2.2.2.1) (fF:=zl) (out:=pV) aF (qJ) aj (ay (by kernel_rfl)) (fun _=>rfl) (fun m x=>by kernel_rfl) (az ⟨iT,fun _ _ _=>rfl⟩ (az ⟨dh,fun _ _ _=>rfl⟩ (bH))) false aG
theorem CE : (kS (M.iF)).Ok D Tryz.prog:=
 bz (cx:=iW) (c:=kS (M.iF)) (fz:=true) (fn:=Tryz.f155) aF (qJ) aj ⟨Tryz.func155,by kernel_rfl⟩ (bC (bF 1 (by kernel_rfl) (dV (.mk (by kernel_rfl) (yR))))) ⟨⟨[.int .i64],[]⟩,fun x=>x.1.1⟩ (fun x=>rfl) (fun x=>by kernel_rfl)
def jO (m:(List Int)->Int->Option (Bool)):bY K:={f:=132,sh:=⟨[.bV U.i64, .int .i64],[]⟩,R:=Bool,run:=fun x=>m x.1.1 x.1.2.1,dflt:=default,out:=fun r=>(Sh.enc D (.bool) r,dW.encs D [] ())}
def qg : Cx K:={iR with mode:=bn .plain [(155, .plain)],call:=callOf D [kS M.iF],loop:=bf []}
theorem xW : aH (qg):=ax aF _ (az CE (bH))
theorem zn : (jO (M.fE)).Ok D Tryz.prog:=
 bz (cx:=qg) (c:=jO (M.fE)) (fz:=true) (fn:=Tryz.f132) aF (xW) aj ⟨Tryz.func132,by kernel_rfl⟩ (bC (ay (by kernel_rfl))) ⟨⟨[.bool],[]⟩,fun x=>x.1.1⟩ (fun x=>rfl) (fun x=>by kernel_rfl)
def eX (m:M.ae->(List Int)->Option (Bool)):bY K:={f:=112,sh:=⟨[.el U.Type, .bV U.i64],[]⟩,R:=Bool,run:=fun x=>m x.1.1 x.1.2.1,dflt:=default,out:=fun r=>(Sh.enc D (.bool) r,dW.encs D [] ())}
def zo (m:M.ae->(List Int)->Option (Bool)):bY K:={f:=134,sh:=⟨[.el U.Type, .rp U.Jv 0],[]⟩,R:=Bool,run:=fun x=>m x.1.1 x.1.2.1,dflt:=default,out:=fun r=>(Sh.enc D (.bool) r,dW.encs D [] ())}
def JF (aC:M.ae->(List Int)->Option (Bool)):Cx K:={iR with mode:=bn .plain [(112, .plain)],call:=callOf D [eX aC],loop:=bf []}
theorem QE (aC:M.ae->(List Int)->Option (Bool)) (dJ:(eX aC).Ok D Tryz.prog):aH (JF aC):=ax aF _ (az dJ (bH))
theorem VT (aC:M.ae->(List Int)->Option (Bool)) (dJ:(eX aC).Ok D Tryz.prog):(zo (M.uB aC)).Ok D Tryz.prog:=
 bz (cx:=JF aC) (c:=zo (M.uB aC)) (fz:=true) (fn:=Tryz.f134) aF (QE aC dJ) aj ⟨Tryz.func134,by kernel_rfl⟩ (bC (ay (by kernel_rfl))) ⟨⟨[.bool],[]⟩,fun x=>x.1.1⟩ (fun x=>rfl) (fun x=>by kernel_rfl)
def lN (y:(Int)⊕(Unit)) {R:Type} (k:Ex->List (AV K)->List (Ob K)->R):R:=match y with
 | .inl a0=>k Ex.ret (eP.eU D ⟨[.int .i64],[]⟩ ((a0,()),())) (eP.eY D ⟨[.int .i64],[]⟩ ((a0,()),()))
 | .inr (a1)=>k (Ex.exit 0) (eP.eU D ⟨[.any],[]⟩ (((),()),())) (eP.eY D ⟨[.any],[]⟩ (((),()),()))
def wE : List (fH K ((Int)⊕(Unit))):=[⟨Ex.ret,⟨[.int .i64],[]⟩,fun x=> .inl x.1.1⟩,⟨(Ex.exit 0),⟨[.any],[]⟩,fun x=> .inr (())⟩]
def nP (aC:M.ae->(List Int)->Option (Bool)):fC K:=fM D false 19 0 [0,1,7,8] [4] ⟨[.bV U.Type, .fn 134 [.rp U.Jv 0], .int .i64, .int .i64],[]⟩ (fun x=>M.dE aC x.1.1 x.1.2.1.1 x.1.2.2.1 aG x.1.2.2.2.1) lN
def jA (m:(List M.ae)->(List Int)->Option (Int)):bY K:={f:=156,sh:=⟨[.bV U.Type, .fn 134 [.rp U.Jv 0]],[]⟩,R:=Int,run:=fun x=>m x.1.1 x.1.2.1.1,dflt:=default,out:=fun r=>(Sh.enc D (.int .i64) r,dW.encs D [] ())}
def gK (aC:M.ae->(List Int)->Option (Bool)):Cx K:={iR with mode:=bn .plain [(134, .plain)],call:=callOf D [zo (M.uB aC)],loop:=bf [(2,nP aC)]}
theorem nR (aC:M.ae->(List Int)->Option (Bool)) (dJ:(eX aC).Ok D Tryz.prog):aH (gK aC):=ax aF _ (az (VT aC dJ) (bH))
theorem vz (aC:M.ae->(List Int)->Option (Bool)) (dJ:(eX aC).Ok D Tryz.prog):dB (gK aC) (dH (dL Tryz.f156) 0) (nP aC):=
 df (cx:=gK aC) (n:=19) (n0:=0) (ins:=[0,1,7,8]) (outs:=[4]) (sh:=⟨[.bV U.Type, .fn 134 [.rp U.Jv 0], .int .i64, .int .i64],[]⟩) (run:=fun n x=>M.dE aC x.1.1 x.1.2.1.1 x.1.2.2.1 n x.1.2.2.2.1) (fF:=wE) (out:=lN) aF (nR aC dJ) aj (ay (by kernel_rfl)) (fun _=>rfl) (fun m x=>by kernel_rfl) (az ⟨iT,fun _ _ _=>rfl⟩ (az ⟨dh,fun _ _ _=>rfl⟩ (bH))) false aG
theorem yS (aC:M.ae->(List Int)->Option (Bool)) (dJ:(eX aC).Ok D Tryz.prog):(jA (M.fU aC)).Ok D Tryz.prog:=
 bz (cx:=gK aC) (c:=jA (M.fU aC)) (fz:=true) (fn:=Tryz.f156) aF (nR aC dJ) aj ⟨Tryz.func156,by kernel_rfl⟩ (bC (bF 1 (by kernel_rfl) (dV (.mk (by kernel_rfl) (vz aC dJ))))) ⟨⟨[.int .i64],[]⟩,fun x=>x.1.1⟩ (fun x=>rfl) (fun x=>by kernel_rfl)
def iG (m:(List M.ae)->(List Int)->Option (Bool)):bY K:={f:=133,sh:=⟨[.bV U.Type, .fn 134 [.rp U.Jv 0]],[]⟩,R:=Bool,run:=fun x=>m x.1.1 x.1.2.1.1,dflt:=default,out:=fun r=>(Sh.enc D (.bool) r,dW.encs D [] ())}
def mV (aC:M.ae->(List Int)->Option (Bool)):Cx K:={iR with mode:=bn .plain [(156, .plain)],call:=callOf D [jA (M.fU aC)],loop:=bf []}
theorem uT (aC:M.ae->(List Int)->Option (Bool)) (dJ:(eX aC).Ok D Tryz.prog):aH (mV aC):=ax aF _ (az (yS aC dJ) (bH))
theorem wF (aC:M.ae->(List Int)->Option (Bool)) (dJ:(eX aC).Ok D Tryz.prog):(iG (M.dZ aC)).Ok D Tryz.prog:=
 bz (cx:=mV aC) (c:=iG (M.dZ aC)) (fz:=true) (fn:=Tryz.f133) aF (uT aC dJ) aj ⟨Tryz.func133,by kernel_rfl⟩ (bC (ay (by kernel_rfl))) ⟨⟨[.bool],[]⟩,fun x=>x.1.1⟩ (fun x=>rfl) (fun x=>by kernel_rfl)
def QF (aC:M.ae->(List Int)->Option (Bool)):Cx K:={iR with mode:=bn .plain [(132, .plain),(133, .plain)],call:=callOf D [jO M.fE,iG (M.dZ aC)],loop:=bf []}
theorem Xf (aC:M.ae->(List Int)->Option (Bool)) (dJ:(eX aC).Ok D Tryz.prog):aH (QF aC):=ax aF _ (az zn (az (wF aC dJ) (bH)))
theorem Xg (aC:M.ae->(List Int)->Option (Bool)) (dJ:(eX aC).Ok D Tryz.prog):(eX (M.AP aC)).Ok D Tryz.prog:=
 bz (cx:=QF aC) (c:=eX (M.AP aC)) (fz:=true) (fn:=Tryz.f112) aF (Xf aC dJ) aj ⟨Tryz.func112,by kernel_rfl⟩ (bC (ay (by kernel_rfl))) ⟨⟨[.bool],[]⟩,fun x=>x.1.1⟩ (fun x=>rfl) (fun x=>by kernel_rfl)
theorem Lj : ∀n,(eX (M.lQ n)).Ok D Tryz.prog
 |0=>jm fun _=>rfl
 |n+1=>Xg (M.lQ n) (Lj n)
theorem QG : (eX (M.rP)).Ok D Tryz.prog:=Lj aG
def QH (aB:M.ae->Option (Bool)):Cx K:={iR with mode:=bn .plain [(133, .plain),(46, .plain),(151, .plain),(152, .plain),(153, .plain),(154, .plain),(137, .plain),(112, .plain)],call:=callOf D [iY (M.dQ aB),jw M.sW,DL M.zk,CB M.AL,IL M.xU,rF M.AO,oL M.vg,eX M.rP],loop:=bf []}
theorem Xh (aB:M.ae->Option (Bool)) (dI:(fD aB).Ok D Tryz.prog):aH (QH aB):=ax aF _ (az (xP aB dI) (az oK (az Zx (az UM (az acB (az DR (az zi (az QG (bH)))))))))
theorem Xi (aB:M.ae->Option (Bool)) (dI:(fD aB).Ok D Tryz.prog):(fD (M.xh aB)).Ok D Tryz.prog:=
 bz (cx:=QH aB) (c:=fD (M.xh aB)) (fz:=true) (fn:=Tryz.f131) aF (Xh aB dI) aj ⟨Tryz.func131,by kernel_rfl⟩ (bC (ay (by kernel_rfl))) ⟨⟨[.bool],[]⟩,fun x=>x.1.1⟩ (fun x=>rfl) (fun x=>by kernel_rfl)
theorem Ll : ∀n,(fD (M.oM n)).Ok D Tryz.prog
 |0=>jm fun _=>rfl
 |n+1=>Xi (M.oM n) (Ll n)
theorem abk : (fD (M.Nc)).Ok D Tryz.prog:=Ll aG
def E5 (m:M.ae->Option (Bool)):bY K:={f:=106,sh:=⟨[.el U.Type],[]⟩,R:=Bool,run:=fun x=>m x.1.1,dflt:=default,out:=fun r=>(Sh.enc D (.bool) r,dW.encs D [] ())}
def Xj : Cx K:={iR with mode:=bn .plain [(125, .plain),(126, .plain)],call:=callOf D [jZ M.Na,jv M.IJ],loop:=bf []}
theorem abl : aH (Xj):=ax aF _ (az abe (az Zr (bH)))
theorem Xk : (E5 (M.E8)).Ok D Tryz.prog:=
 bz (cx:=Xj) (c:=E5 (M.E8)) (fz:=true) (fn:=Tryz.f106) aF (abl) aj ⟨Tryz.func106,by kernel_rfl⟩ (bC (ay (by kernel_rfl))) ⟨⟨[.bool],[]⟩,fun x=>x.1.1⟩ (fun x=>rfl) (fun x=>by kernel_rfl)
def gV (m:M.ae->Option (Int×(List UInt8)×(List (List UInt8))×(List M.ae))):bY K:={f:=92,sh:=⟨[.el U.Type],[]⟩,R:=Int×(List UInt8)×(List (List UInt8))×(List M.ae),run:=fun x=>m x.1.1,dflt:=default,out:=fun r=>(Sh.enc D (.agg [.int .i64, .str, .own 0, .own 1]) (r.1,(r.2.1,((),((),())))),dW.encs D [.arr U.str, .tree U.Type] (r.2.2.1,(r.2.2.2,())))}
def DT (y:(List M.ae)) {R:Type} (k:Ex->List (AV K)->List (Ob K)->R):R:=match y with
 |a0=>k (Ex.exit 0) (eP.eU D ⟨[.own 1],[.dead, .tree U.Type]⟩ (((),()),((),(a0,())))) (eP.eY D ⟨[.own 1],[.dead, .tree U.Type]⟩ (((),()),((),(a0,()))))
def QI : List (fH K ((List M.ae))):=[⟨(Ex.exit 0),⟨[.own 1],[.dead, .tree U.Type]⟩,fun x=>x.2.2.1⟩]
def Hg (aK:M.ae->Option (Int×(List UInt8)×(List (List UInt8))×(List M.ae))):fC K:=fM D false 20 1 [3,7,8,9] [3] ⟨[.own 1, .bV U.Type, .int .i64, .int .i64],[.dead, .tree U.Type]⟩ (fun x=>M.mW aK x.1.2.1 x.1.2.2.1 aG x.1.2.2.2.1 x.2.2.1) DT
def BC (m:(List M.ae)->Option ((List M.ae))):bY K:={f:=118,sh:=⟨[.bV U.Type],[]⟩,R:=(List M.ae),run:=fun x=>m x.1.1,dflt:=default,out:=fun r=>(Sh.enc D (.own 0) (),dW.encs D [.tree U.Type] (r,()))}
def xX (aK:M.ae->Option (Int×(List UInt8)×(List (List UInt8))×(List M.ae))):Cx K:={iR with mode:=bn .plain [(92, .fresh)],Zi:=[[some U.Type]],deep:=fun c=>bT (D.cells c (K.zero c)),call:=callOf D [gV aK],loop:=bf [(3,Hg aK)]}
theorem Hl (aK:M.ae->Option (Int×(List UInt8)×(List (List UInt8))×(List M.ae))) (gX:(gV aK).Ok D Tryz.prog):aH (xX aK):=ax aF _ (az gX (bH))
theorem Pv (aK:M.ae->Option (Int×(List UInt8)×(List (List UInt8))×(List M.ae))) (gX:(gV aK).Ok D Tryz.prog):dB (xX aK) (dH (dL Tryz.f118) 0) (Hg aK):=
 df (cx:=xX aK) (n:=20) (n0:=1) (ins:=[3,7,8,9]) (outs:=[3]) (sh:=⟨[.own 1, .bV U.Type, .int .i64, .int .i64],[.dead, .tree U.Type]⟩) (run:=fun n x=>M.mW aK x.1.2.1 x.1.2.2.1 n x.1.2.2.2.1 x.2.2.1) (fF:=QI) (out:=DT) aF (Hl aK gX) aj (ay (by kernel_rfl)) (fun _=>rfl) (fun m x=>by kernel_rfl) (az ⟨dh,fun _ _ _=>rfl⟩ (bH)) false aG
theorem Xl (aK:M.ae->Option (Int×(List UInt8)×(List (List UInt8))×(List M.ae))) (gX:(gV aK).Ok D Tryz.prog):(BC (M.xk aK)).Ok D Tryz.prog:=
 bz (cx:=xX aK) (c:=BC (M.xk aK)) (fz:=false) (fn:=Tryz.f118) aF (Hl aK gX) aj ⟨Tryz.func118,by kernel_rfl⟩ (bC (bF 1 (by kernel_rfl) (dV (.mk (by kernel_rfl) (Pv aK gX))))) ⟨⟨[.own 0],[.tree U.Type]⟩,fun x=>x.2.1⟩ (fun x=>rfl) (fun x=>by kernel_rfl)
def Ot (aK:M.ae->Option (Int×(List UInt8)×(List (List UInt8))×(List M.ae))):Cx K:={iR with mode:=bn .plain [(117, .fresh),(118, .fresh)],Zi:=[[none,none,some U.str,some U.Type]],deep:=fun c=>bT (D.cells c (K.zero c)),call:=callOf D [jU M.dR,BC (M.xk aK)],loop:=bf []}
theorem VU (aK:M.ae->Option (Int×(List UInt8)×(List (List UInt8))×(List M.ae))) (gX:(gV aK).Ok D Tryz.prog):aH (Ot aK):=ax aF _ (az AQ (az (Xl aK gX) (bH)))
theorem VV (aK:M.ae->Option (Int×(List UInt8)×(List (List UInt8))×(List M.ae))) (gX:(gV aK).Ok D Tryz.prog):(gV (M.xY aK)).Ok D Tryz.prog:=
 bz (cx:=Ot aK) (c:=gV (M.xY aK)) (fz:=false) (fn:=Tryz.f92) aF (VU aK gX) aj ⟨Tryz.func92,by kernel_rfl⟩ (bC (ay (by kernel_rfl))) ⟨⟨[.agg [.int .i64, .str, .own 0, .own 1]],[.arr U.str, .tree U.Type]⟩,fun x=>(x.1.1.1,x.1.1.2.1,x.2.1,x.2.2.1)⟩ (fun x=>rfl) (fun x=>by kernel_rfl)
theorem JG : ∀n,(gV (M.oN n)).Ok D Tryz.prog
 |0=>jm fun _=>rfl
 |n+1=>VV (M.oN n) (JG n)
theorem ZA : (gV (M.IM)).Ok D Tryz.prog:=JG aG
def Gj (m:M.ae->Option (Bool)):bY K:={f:=70,sh:=⟨[.el U.Type],[]⟩,R:=Bool,run:=fun x=>m x.1.1,dflt:=default,out:=fun r=>(Sh.enc D (.bool) r,dW.encs D [] ())}
def QJ : Cx K:={iR with mode:=bn .plain [(106, .plain),(107, .plain)],call:=callOf D [E5 M.E8,ku M.ve],loop:=bf []}
theorem Xm : aH (QJ):=ax aF _ (az Xk (az UH (bH)))
theorem abm : (Gj (M.Dh)).Ok D Tryz.prog:=
 bz (cx:=QJ) (c:=Gj (M.Dh)) (fz:=true) (fn:=Tryz.f70) aF (Xm) aj ⟨Tryz.func70,by kernel_rfl⟩ (bC (ay (by kernel_rfl))) ⟨⟨[.bool],[]⟩,fun x=>x.1.1⟩ (fun x=>rfl) (fun x=>by kernel_rfl)
def IP (m:M.ae->Option (Bool)):bY K:={f:=127,sh:=⟨[.el U.Type],[]⟩,R:=Bool,run:=fun x=>m x.1.1,dflt:=default,out:=fun r=>(Sh.enc D (.bool) r,dW.encs D [] ())}
def UQ : Cx K:={iR with mode:=bn .plain [(106, .plain)],call:=callOf D [E5 M.E8],loop:=bf []}
theorem ZB : aH (UQ):=ax aF _ (az Xk (bH))
theorem acC : (IP (M.Hm)).Ok D Tryz.prog:=
 bz (cx:=UQ) (c:=IP (M.Hm)) (fz:=true) (fn:=Tryz.f127) aF (ZB) aj ⟨Tryz.func127,by kernel_rfl⟩ (bC (ay (by kernel_rfl))) ⟨⟨[.bool],[]⟩,fun x=>x.1.1⟩ (fun x=>rfl) (fun x=>by kernel_rfl)
def dU (m:M.af->M.ae->Option (Bool)):bY K:={f:=128,sh:=⟨[.el U.Value, .el U.Type],[]⟩,R:=Bool,run:=fun x=>m x.1.1 x.1.2.1,dflt:=default,out:=fun r=>(Sh.enc D (.bool) r,dW.encs D [] ())}
def Gl (m:(List M.af)->M.ae->Option (Bool)):bY K:={f:=149,sh:=⟨[.bV U.Value, .el U.Type],[]⟩,R:=Bool,run:=fun x=>m x.1.1 x.1.2.1,dflt:=default,out:=fun r=>(Sh.enc D (.bool) r,dW.encs D [] ())}
def QK (ak:M.af->M.ae->Option (Bool)):Cx K:={iR with mode:=bn .plain [(128, .plain)],call:=callOf D [dU ak],loop:=bf []}
theorem Xn (ak:M.af->M.ae->Option (Bool)) (bW:(dU ak).Ok D Tryz.prog):aH (QK ak):=ax aF _ (az bW (bH))
theorem abn (ak:M.af->M.ae->Option (Bool)) (bW:(dU ak).Ok D Tryz.prog):(Gl (M.zq ak)).Ok D Tryz.prog:=
 bz (cx:=QK ak) (c:=Gl (M.zq ak)) (fz:=true) (fn:=Tryz.f149) aF (Xn ak bW) aj ⟨Tryz.func149,by kernel_rfl⟩ (bC (ay (by kernel_rfl))) ⟨⟨[.bool],[]⟩,fun x=>x.1.1⟩ (fun x=>rfl) (fun x=>by kernel_rfl)
def Fa (y:(Bool)⊕(Unit)) {R:Type} (k:Ex->List (AV K)->List (Ob K)->R):R:=match y with
 | .inl a0=>k Ex.ret (eP.eU D ⟨[.bool],[.dead]⟩ ((a0,()),((),()))) (eP.eY D ⟨[.bool],[.dead]⟩ ((a0,()),((),())))
 | .inr (a1)=>k (Ex.exit 0) (eP.eU D ⟨[.any],[.dead]⟩ (((),()),((),()))) (eP.eY D ⟨[.any],[.dead]⟩ (((),()),((),())))
def Tu : List (fH K ((Bool)⊕(Unit))):=[⟨Ex.ret,⟨[.bool],[.dead]⟩,fun x=> .inl x.1.1⟩,⟨(Ex.exit 0),⟨[.any],[.dead]⟩,fun x=> .inr (())⟩]
def JH (ak:M.af->M.ae->Option (Bool)):fC K:=fM D false 25 1 [0,5,7] [6] ⟨[.bV U.Value, .ptr 0 0, .int .i64],[.el U.Type]⟩ (fun x=>M.jg ak x.1.1 aG x.1.2.2.1 x.2.1) Fa
def DU (m:(List M.af)->Int->M.ae->Option (Bool)):bY K:={f:=144,sh:=⟨[.bV U.Value, .int .i64, .el U.Type],[]⟩,R:=Bool,run:=fun x=>m x.1.1 x.1.2.1 x.1.2.2.1,dflt:=default,out:=fun r=>(Sh.enc D (.bool) r,dW.encs D [] ())}
def Ac (ak:M.af->M.ae->Option (Bool)):Cx K:={iR with mode:=bn .plain [(128, .plain)],call:=callOf D [dU ak],loop:=bf [(4,JH ak)]}
theorem JI (ak:M.af->M.ae->Option (Bool)) (bW:(dU ak).Ok D Tryz.prog):aH (Ac ak):=ax aF _ (az bW (bH))
theorem QL (ak:M.af->M.ae->Option (Bool)) (bW:(dU ak).Ok D Tryz.prog):dB (Ac ak) (dH (dL Tryz.f144) 0) (JH ak):=
 df (cx:=Ac ak) (n:=25) (n0:=1) (ins:=[0,5,7]) (outs:=[6]) (sh:=⟨[.bV U.Value, .ptr 0 0, .int .i64],[.el U.Type]⟩) (run:=fun n x=>M.jg ak x.1.1 n x.1.2.2.1 x.2.1) (fF:=Tu) (out:=Fa) aF (JI ak bW) aj (ay (by kernel_rfl)) (fun _=>rfl) (fun m x=>by kernel_rfl) (az ⟨iT,fun _ _ _=>rfl⟩ (az ⟨dh,fun _ _ _=>rfl⟩ (bH))) false aG
theorem ZC (ak:M.af->M.ae->Option (Bool)) (bW:(dU ak).Ok D Tryz.prog):(DU (M.wG ak)).Ok D Tryz.prog:=
 bz (cx:=Ac ak) (c:=DU (M.wG ak)) (fz:=true) (fn:=Tryz.f144) aF (JI ak bW) aj ⟨Tryz.func144,by kernel_rfl⟩ (bC (bF 1 (by kernel_rfl) (dV (.mk (by kernel_rfl) (QL ak bW))))) ⟨⟨[.bool],[]⟩,fun x=>x.1.1⟩ (fun x=>rfl) (fun x=>by kernel_rfl)
def CG (m:Int->Option (Bool)):bY K:={f:=145,sh:=⟨[.int .i64],[]⟩,R:=Bool,run:=fun x=>m x.1.1,dflt:=default,out:=fun r=>(Sh.enc D (.bool) r,dW.encs D [] ())}
def UR : Cx K:={iR with mode:=bn .plain [(34, .plain)],call:=callOf D [qG M.EU],loop:=bf []}
theorem ZE : aH (UR):=ax aF _ (az y9 (bH))
theorem UT : (CG (M.lu)).Ok D Tryz.prog:=
 bz (cx:=UR) (c:=CG (M.lu)) (fz:=true) (fn:=Tryz.f145) aF (ZE) aj ⟨Tryz.func145,by kernel_rfl⟩ (bC (ay (by kernel_rfl))) ⟨⟨[.bool],[]⟩,fun x=>x.1.1⟩ (fun x=>rfl) (fun x=>by kernel_rfl)
def Fb (y:(List UInt8)×Int×Int) {R:Type} (k:Ex->List (AV K)->List (Ob K)->R):R:=match y with
 |a0=>k (Ex.exit 1) (eP.eU D ⟨[.str, .int .i64, .int .i64],[]⟩ ((a0.1,(a0.2.1,(a0.2.2,()))),())) (eP.eY D ⟨[.str, .int .i64, .int .i64],[]⟩ ((a0.1,(a0.2.1,(a0.2.2,()))),()))
def Tv : List (fH K ((List UInt8)×Int×Int)):=[⟨(Ex.exit 1),⟨[.str, .int .i64, .int .i64],[]⟩,fun x=>(x.1.1,x.1.2.1,x.1.2.2.1)⟩]
def JJ : fC K:=fM D false 66 0 [0,4,5,6] [0,4,5] ⟨[.str, .int .i64, .int .i64, .int .i64],[]⟩ (fun x=>M.lS x.1.1 x.1.2.1 aG x.1.2.2.1 x.1.2.2.2.1) Fb
def Gm (m:Int->Option ((List UInt8))):bY K:={f:=173,sh:=⟨[.int .i64],[]⟩,R:=(List UInt8),run:=fun x=>m x.1.1,dflt:=default,out:=fun r=>(Sh.enc D (.str) r,dW.encs D [] ())}
def QM : Cx K:={iR with mode:=bn .plain [],call:=callOf D [],loop:=bf []}
theorem Xo : aH (QM):=ax aF _ (bH)
theorem abo : (Gm (M.uC)).Ok D Tryz.prog:=
 bz (cx:=QM) (c:=Gm (M.uC)) (fz:=true) (fn:=Tryz.f173) aF (Xo) aj ⟨Tryz.func173,by kernel_rfl⟩ (bC (ay (by kernel_rfl))) ⟨⟨[.str],[]⟩,fun x=>x.1.1⟩ (fun x=>rfl) (fun x=>by kernel_rfl)
def DV (m:(List UInt8)->Option (Int×Int)):bY K:={f:=168,sh:=⟨[.str],[]⟩,R:=Int×Int,run:=fun x=>m x.1.1,dflt:=default,out:=fun r=>(Sh.enc D (.lD [.int .i64, .int .i64]) (r.1,(r.2,())),dW.encs D [] ())}
def Ad : Cx K:={iR with mode:=bn .plain [(145, .plain),(173, .plain)],call:=callOf D [CG M.lu,Gm M.uC],loop:=bf [(13,JJ)]}
theorem JK : aH (Ad):=ax aF _ (az UT (az abo (bH)))
theorem QN : dB (Ad) (dH (dL Tryz.f168) 0) (JJ):=
 df (cx:=Ad) (n:=66) (n0:=0) (ins:=[0,4,5,6]) (outs:=[0,4,5]) (sh:=⟨[.str, .int .i64, .int .i64, .int .i64],[]⟩) (run:=fun n x=>M.lS x.1.1 x.1.2.1 n x.1.2.2.1 x.1.2.2.2.1) (fF:=Tv) (out:=Fb) aF (JK) aj (ay (by kernel_rfl)) (fun _=>rfl) (fun m x=>by kernel_rfl) (az ⟨dh,fun _ _ _=>rfl⟩ (bH)) false aG
theorem ZF : (DV (M.zt)).Ok D Tryz.prog:=
 bz (cx:=Ad) (c:=DV (M.zt)) (fz:=true) (fn:=Tryz.f168) aF (JK) aj ⟨Tryz.func168,by kernel_rfl⟩ (bC (bF 1 (by kernel_rfl) (dV (.mk (by kernel_rfl) (QN))))) ⟨⟨[.lD [.int .i64, .int .i64]],[]⟩,fun x=>(x.1.1.1,x.1.1.2.1)⟩ (fun x=>rfl) (fun x=>by kernel_rfl)
def DW (y:(Bool×(List Int))⊕((List Int))) {R:Type} (k:Ex->List (AV K)->List (Ob K)->R):R:=match y with
 | .inl a0=>k Ex.ret (eP.eU D ⟨[.any, .own 2, .bool],[.dead, .dead, .arr U.i64]⟩ (((),((),(a0.1,()))),((),((),(a0.2,()))))) (eP.eY D ⟨[.any, .own 2, .bool],[.dead, .dead, .arr U.i64]⟩ (((),((),(a0.1,()))),((),((),(a0.2,())))))
 | .inr (a1)=>k (Ex.exit 0) (eP.eU D ⟨[.own 1, .any, .any],[.dead, .arr U.i64]⟩ (((),((),((),()))),((),(a1,())))) (eP.eY D ⟨[.own 1, .any, .any],[.dead, .arr U.i64]⟩ (((),((),((),()))),((),(a1,()))))
def QO : List (fH K ((Bool×(List Int))⊕((List Int)))):=[⟨Ex.ret,⟨[.any, .own 2, .bool],[.dead, .dead, .arr U.i64]⟩,fun x=> .inl (x.1.2.2.1,x.2.2.2.1)⟩,⟨(Ex.exit 0),⟨[.own 1, .any, .any],[.dead, .arr U.i64]⟩,fun x=> .inr (x.2.2.1)⟩]
def Hq : fC K:=fM D false 26 1 [0,4] [4,2,3] ⟨[.str, .own 1],[.dead, .arr U.i64]⟩ (fun x=>M.mX aG x.1.1 x.2.2.1) DW
def BD (m:(List UInt8)->Option ((List Int)×Bool)):bY K:={f:=162,sh:=⟨[.str],[]⟩,R:=(List Int)×Bool,run:=fun x=>m x.1.1,dflt:=default,out:=fun r=>(Sh.enc D (.lD [.bV U.i64, .bool]) (r.1,(r.2,())),dW.encs D [] ())}
def xZ : Cx K:={iR with mode:=bn .plain [(168, .plain)],call:=callOf D [DV M.zt],loop:=bf [(2,Hq)]}
theorem Hr : aH (xZ):=ax aF _ (az ZF (bH))
theorem Px : dB (xZ) (dH (dL Tryz.f162) 0) (Hq):=
 df (cx:=xZ) (n:=26) (n0:=1) (ins:=[0,4]) (outs:=[4,2,3]) (sh:=⟨[.str, .own 1],[.dead, .arr U.i64]⟩) (run:=fun n x=>M.mX n x.1.1 x.2.2.1) (fF:=QO) (out:=DW) aF (Hr) aj (ay (by kernel_rfl)) (fun _=>rfl) (fun m x=>by kernel_rfl) (az ⟨iT,fun _ _ _=>rfl⟩ (az ⟨dh,fun _ _ _=>rfl⟩ (bH))) false aG
theorem Xp : (BD (M.xm)).Ok D Tryz.prog:=
 bz (cx:=xZ) (c:=BD (M.xm)) (fz:=true) (fn:=Tryz.f162) aF (Hr) aj ⟨Tryz.func162,by kernel_rfl⟩ (bC (bF 1 (by kernel_rfl) (dV (.mk (by kernel_rfl) (Px))))) ⟨⟨[.lD [.bV U.i64, .bool]],[]⟩,fun x=>(x.1.1.1,x.1.1.2.1)⟩ (fun x=>rfl) (fun x=>by kernel_rfl)
def IQ (m:(List UInt8)->Option (Bool)):bY K:={f:=146,sh:=⟨[.str],[]⟩,R:=Bool,run:=fun x=>m x.1.1,dflt:=default,out:=fun r=>(Sh.enc D (.bool) r,dW.encs D [] ())}
def UU : Cx K:={iR with mode:=bn .plain [(162, .sF)],call:=callOf D [BD M.xm],loop:=bf []}
theorem ZG : aH (UU):=ax aF _ (az Xp (bH))
theorem acD : (IQ (M.Ht)).Ok D Tryz.prog:=
 bz (cx:=UU) (c:=IQ (M.Ht)) (fz:=true) (fn:=Tryz.f146) aF (ZG) aj ⟨Tryz.func146,by kernel_rfl⟩ (bC (ay (by kernel_rfl))) ⟨⟨[.bool],[]⟩,fun x=>x.1.1⟩ (fun x=>rfl) (fun x=>by kernel_rfl)
def JL (y:(Bool)⊕(Unit)) {R:Type} (k:Ex->List (AV K)->List (Ob K)->R):R:=match y with
 | .inl a0=>k Ex.ret (eP.eU D ⟨[.bool],[]⟩ ((a0,()),())) (eP.eY D ⟨[.bool],[]⟩ ((a0,()),()))
 | .inr (a1)=>k (Ex.exit 0) (eP.eU D ⟨[.any],[]⟩ (((),()),())) (eP.eY D ⟨[.any],[]⟩ (((),()),()))
def Xq : List (fH K ((Bool)⊕(Unit))):=[⟨Ex.ret,⟨[.bool],[]⟩,fun x=> .inl x.1.1⟩,⟨(Ex.exit 0),⟨[.any],[]⟩,fun x=> .inr (())⟩]
def Ou (ak:M.af->M.ae->Option (Bool)):fC K:=fM D false 27 0 [0,1,5] [4] ⟨[.bV U.Value, .bV U.Type, .int .i64],[]⟩ (fun x=>M.lT ak x.1.1 x.1.2.1 aG x.1.2.2.1) JL
def IU (m:(List M.af)->(List M.ae)->Option (Bool)):bY K:={f:=147,sh:=⟨[.bV U.Value, .bV U.Type],[]⟩,R:=Bool,run:=fun x=>m x.1.1 x.1.2.1,dflt:=default,out:=fun r=>(Sh.enc D (.bool) r,dW.encs D [] ())}
def Fe (ak:M.af->M.ae->Option (Bool)):Cx K:={iR with mode:=bn .plain [(128, .plain)],call:=callOf D [dU ak],loop:=bf [(4,Ou ak)]}
theorem Ov (ak:M.af->M.ae->Option (Bool)) (bW:(dU ak).Ok D Tryz.prog):aH (Fe ak):=ax aF _ (az bW (bH))
theorem VW (ak:M.af->M.ae->Option (Bool)) (bW:(dU ak).Ok D Tryz.prog):dB (Fe ak) (dH (dL Tryz.f147) 0) (Ou ak):=
 df (cx:=Fe ak) (n:=27) (n0:=0) (ins:=[0,1,5]) (outs:=[4]) (sh:=⟨[.bV U.Value, .bV U.Type, .int .i64],[]⟩) (run:=fun n x=>M.lT ak x.1.1 x.1.2.1 n x.1.2.2.1) (fF:=Xq) (out:=JL) aF (Ov ak bW) aj (ay (by kernel_rfl)) (fun _=>rfl) (fun m x=>by kernel_rfl) (az ⟨iT,fun _ _ _=>rfl⟩ (az ⟨dh,fun _ _ _=>rfl⟩ (bH))) false aG
theorem acE (ak:M.af->M.ae->Option (Bool)) (bW:(dU ak).Ok D Tryz.prog):(IU (M.Hu ak)).Ok D Tryz.prog:=
 bz (cx:=Fe ak) (c:=IU (M.Hu ak)) (fz:=true) (fn:=Tryz.f147) aF (Ov ak bW) aj ⟨Tryz.func147,by kernel_rfl⟩ (bC (bF 1 (by kernel_rfl) (dV (.mk (by kernel_rfl) (VW ak bW))))) ⟨⟨[.bool],[]⟩,fun x=>x.1.1⟩ (fun x=>rfl) (fun x=>by kernel_rfl)
def DX (m:Int->Option (Int×Int×Bool)):bY K:={f:=148,sh:=⟨[.int .i64],[]⟩,R:=Int×Int×Bool,run:=fun x=>m x.1.1,dflt:=default,out:=fun r=>(Sh.enc D (.lD [.int .i64, .int .i64, .bool]) (r.1,(r.2.1,(r.2.2,()))),dW.encs D [] ())}
def Ox : Cx K:={iR with mode:=bn .plain [],call:=callOf D [],loop:=bf []}
theorem VX : aH (Ox):=ax aF _ (bH)
theorem ZH : (DX (M.DY)).Ok D Tryz.prog:=
 bz (cx:=Ox) (c:=DX (M.DY)) (fz:=true) (fn:=Tryz.f148) aF (VX) aj ⟨Tryz.func148,by kernel_rfl⟩ (bC (ay (by kernel_rfl))) ⟨⟨[.lD [.int .i64, .int .i64, .bool]],[]⟩,fun x=>(x.1.1.1,x.1.1.2.1,x.1.1.2.2.1)⟩ (fun x=>rfl) (fun x=>by kernel_rfl)
def QP (ak:M.af->M.ae->Option (Bool)):Cx K:={iR with mode:=bn .plain [(144, .plain),(145, .plain),(146, .plain),(147, .plain),(148, .plain),(34, .plain),(149, .plain)],call:=callOf D [qG M.EU,Gl (M.zq ak),DU (M.wG ak),CG M.lu,IQ M.Ht,IU (M.Hu ak),DX M.DY],loop:=bf []}
theorem Xr (ak:M.af->M.ae->Option (Bool)) (bW:(dU ak).Ok D Tryz.prog):aH (QP ak):=ax aF _ (az y9 (az (abn ak bW) (az (ZC ak bW) (az UT (az acD (az (acE ak bW) (az ZH (bH))))))))
theorem Xt (ak:M.af->M.ae->Option (Bool)) (bW:(dU ak).Ok D Tryz.prog):(dU (M.oO ak)).Ok D Tryz.prog:=
 bz (cx:=QP ak) (c:=dU (M.oO ak)) (fz:=true) (fn:=Tryz.f128) aF (Xr ak bW) aj ⟨Tryz.func128,by kernel_rfl⟩ (bC (ay (by kernel_rfl))) ⟨⟨[.bool],[]⟩,fun x=>x.1.1⟩ (fun x=>rfl) (fun x=>by kernel_rfl)
theorem Lm : ∀n,(dU (M.tu n)).Ok D Tryz.prog
 |0=>jm fun _=>rfl
 |n+1=>Xt (M.tu n) (Lm n)
theorem abp : (dU (M.Nh)).Ok D Tryz.prog:=Lm aG
def Py (m:M.af->M.ae->Option (Bool)):bY K:={f:=108,sh:=⟨[.el U.Value, .el U.Type],[]⟩,R:=Bool,run:=fun x=>m x.1.1 x.1.2.1,dflt:=default,out:=fun r=>(Sh.enc D (.bool) r,dW.encs D [] ())}
def aas : Cx K:={iR with mode:=bn .plain [(127, .plain),(128, .plain)],call:=callOf D [IP M.Hm,dU M.Nh],loop:=bf []}
theorem acF : aH (aas):=ax aF _ (az acC (az abp (bH)))
theorem age : (Py (M.Tz)).Ok D Tryz.prog:=
 bz (cx:=aas) (c:=Py (M.Tz)) (fz:=true) (fn:=Tryz.f108) aF (acF) aj ⟨Tryz.func108,by kernel_rfl⟩ (bC (ay (by kernel_rfl))) ⟨⟨[.bool],[]⟩,fun x=>x.1.1⟩ (fun x=>rfl) (fun x=>by kernel_rfl)
def Hw (y:(Bool)⊕(Unit)) {R:Type} (k:Ex->List (AV K)->List (Ob K)->R):R:=match y with
 | .inl a0=>k Ex.ret (eP.eU D ⟨[.bool],[.dead]⟩ ((a0,()),((),()))) (eP.eY D ⟨[.bool],[.dead]⟩ ((a0,()),((),())))
 | .inr (a1)=>k (Ex.exit 0) (eP.eU D ⟨[.any],[.dead]⟩ (((),()),((),()))) (eP.eY D ⟨[.any],[.dead]⟩ (((),()),((),())))
def VY : List (fH K ((Bool)⊕(Unit))):=[⟨Ex.ret,⟨[.bool],[.dead]⟩,fun x=> .inl x.1.1⟩,⟨(Ex.exit 0),⟨[.any],[.dead]⟩,fun x=> .inr (())⟩]
def Lp : fC K:=fM D false 25 1 [0,4,7] [6] ⟨[.bV U.Value, .ptr 0 0, .int .i64],[.el U.Type]⟩ (fun x=>M.kC x.1.1 aG x.1.2.2.1 x.2.1) Hw
def Gn (m:(List M.af)->M.ae->Int->Option (Bool)):bY K:={f:=71,sh:=⟨[.bV U.Value, .el U.Type, .int .i64],[]⟩,R:=Bool,run:=fun x=>m x.1.1 x.1.2.1 x.1.2.2.1,dflt:=default,out:=fun r=>(Sh.enc D (.bool) r,dW.encs D [] ())}
def CJ : Cx K:={iR with mode:=bn .plain [(108, .plain)],call:=callOf D [Py M.Tz],loop:=bf [(4,Lp)]}
theorem Lr : aH (CJ):=ax aF _ (az age (bH))
theorem TA : dB (CJ) (dH (dL Tryz.f71) 0) (Lp):=
 df (cx:=CJ) (n:=25) (n0:=1) (ins:=[0,4,7]) (outs:=[6]) (sh:=⟨[.bV U.Value, .ptr 0 0, .int .i64],[.el U.Type]⟩) (run:=fun n x=>M.kC x.1.1 n x.1.2.2.1 x.2.1) (fF:=VY) (out:=Hw) aF (Lr) aj (ay (by kernel_rfl)) (fun _=>rfl) (fun m x=>by kernel_rfl) (az ⟨iT,fun _ _ _=>rfl⟩ (az ⟨dh,fun _ _ _=>rfl⟩ (bH))) false aG
theorem abq : (Gn (M.Di)).Ok D Tryz.prog:=
 bz (cx:=CJ) (c:=Gn (M.Di)) (fz:=true) (fn:=Tryz.f71) aF (Lr) aj ⟨Tryz.func71,by kernel_rfl⟩ (bC (bF 1 (by kernel_rfl) (dV (.mk (by kernel_rfl) (TA))))) ⟨⟨[.bool],[]⟩,fun x=>x.1.1⟩ (fun x=>rfl) (fun x=>by kernel_rfl)
def DZ (m:M.ah->Option (Bool)):bY K:={f:=23,sh:=⟨[.el U.Stream],[]⟩,R:=Bool,run:=fun x=>m x.1.1,dflt:=default,out:=fun r=>(Sh.enc D (.bool) r,dW.encs D [] ())}
def Oy : Cx K:={iR with mode:=bn .plain [(70, .plain),(34, .plain),(71, .plain)],call:=callOf D [Gj M.Dh,qG M.EU,Gn M.Di],loop:=bf []}
theorem VZ : aH (Oy):=ax aF _ (az abm (az y9 (az abq (bH))))
theorem ZI : (DZ (M.zu)).Ok D Tryz.prog:=
 bz (cx:=Oy) (c:=DZ (M.zu)) (fz:=true) (fn:=Tryz.f23) aF (VZ) aj ⟨Tryz.func23,by kernel_rfl⟩ (bC (ay (by kernel_rfl))) ⟨⟨[.bool],[]⟩,fun x=>x.1.1⟩ (fun x=>rfl) (fun x=>by kernel_rfl)
def lF (m:M.ae->Option (M.ae)):bY K:={f:=78,sh:=⟨[.el U.Type],[]⟩,R:=M.ae,run:=fun x=>m x.1.1,dflt:=default,out:=fun r=>(Sh.enc D (.el U.Type) r,dW.encs D [] ())}
def JM (y:Int×(List UInt8)×Int×(List UInt8)×(List (List UInt8))×(List M.ae)×(List (List UInt8))×(List M.ae)) {R:Type} (k:Ex->List (AV K)->List (Ob K)->R):R:=match y with
 |a0=>k (Ex.exit 0) (eP.eU D ⟨[.ptr 1 0, .ptr 2 0],[.dead, .box [.int .i64, .str, .own 7, .own 8], .box [.int .i64, .str, .own 9, .own 10], .dead, .dead, .dead, .dead, .arr U.str, .arr U.Type, .arr U.str, .arr U.Type]⟩ (((),((),())),((),((a0.1,(a0.2.1,((),((),())))),((a0.2.2.1,(a0.2.2.2.1,((),((),())))),((),((),((),((),(a0.2.2.2.2.1,(a0.2.2.2.2.2.1,(a0.2.2.2.2.2.2.1,(a0.2.2.2.2.2.2.2,()))))))))))))) (eP.eY D ⟨[.ptr 1 0, .ptr 2 0],[.dead, .box [.int .i64, .str, .own 7, .own 8], .box [.int .i64, .str, .own 9, .own 10], .dead, .dead, .dead, .dead, .arr U.str, .arr U.Type, .arr U.str, .arr U.Type]⟩ (((),((),())),((),((a0.1,(a0.2.1,((),((),())))),((a0.2.2.1,(a0.2.2.2.1,((),((),())))),((),((),((),((),(a0.2.2.2.2.1,(a0.2.2.2.2.2.1,(a0.2.2.2.2.2.2.1,(a0.2.2.2.2.2.2.2,())))))))))))))
def Xu : List (fH K (Int×(List UInt8)×Int×(List UInt8)×(List (List UInt8))×(List M.ae)×(List (List UInt8))×(List M.ae))):=[⟨(Ex.exit 0),⟨[.ptr 1 0, .ptr 2 0],[.dead, .box [.int .i64, .str, .own 7, .own 8], .box [.int .i64, .str, .own 9, .own 10], .dead, .dead, .dead, .dead, .arr U.str, .arr U.Type, .arr U.str, .arr U.Type]⟩,fun x=>(x.2.2.1.1,x.2.2.1.2.1,x.2.2.2.1.1,x.2.2.2.1.2.1,x.2.2.2.2.2.2.2.2.1,x.2.2.2.2.2.2.2.2.2.1,x.2.2.2.2.2.2.2.2.2.2.1,x.2.2.2.2.2.2.2.2.2.2.2.1)⟩]
def Oz (cu:M.ae->Option (M.ae)):fC K:=fM D false 33 7 [1,2,3,4] [2,3] ⟨[.ptr 0 0, .ptr 1 0, .ptr 2 0, .int .i64],[.el U.Type, .box [.int .i64, .str, .own 7, .own 8], .box [.int .i64, .str, .own 9, .own 10], .dead, .dead, .dead, .dead, .arr U.str, .arr U.Type, .arr U.str, .arr U.Type]⟩ (fun x=>M.qK cu x.2.2.1.1 x.2.2.1.2.1 x.2.2.2.1.1 x.2.2.2.1.2.1 x.2.2.2.2.2.2.2.2.1 x.2.2.2.2.2.2.2.2.2.1 x.2.2.2.2.2.2.2.2.2.2.1 aG x.1.2.2.2.1 x.2.1 x.2.2.2.2.2.2.2.2.2.2.2.1) JM
def Ff (cu:M.ae->Option (M.ae)):Cx K:={iR with mode:=bn .plain [(78, .sF)],call:=callOf D [lF cu],loop:=bf [(3,Oz cu)]}
theorem OA (cu:M.ae->Option (M.ae)) (rQ:(lF cu).Ok D Tryz.prog):aH (Ff cu):=ax aF _ (az rQ (bH))
theorem V3 (cu:M.ae->Option (M.ae)) (rQ:(lF cu).Ok D Tryz.prog):dB (Ff cu) (dH (dL Tryz.f78) 0) (Oz cu):=
 df (cx:=Ff cu) (n:=33) (n0:=7) (ins:=[1,2,3,4]) (outs:=[2,3]) (sh:=⟨[.ptr 0 0, .ptr 1 0, .ptr 2 0, .int .i64],[.el U.Type, .box [.int .i64, .str, .own 7, .own 8], .box [.int .i64, .str, .own 9, .own 10], .dead, .dead, .dead, .dead, .arr U.str, .arr U.Type, .arr U.str, .arr U.Type]⟩) (run:=fun n x=>M.qK cu x.2.2.1.1 x.2.2.1.2.1 x.2.2.2.1.1 x.2.2.2.1.2.1 x.2.2.2.2.2.2.2.2.1 x.2.2.2.2.2.2.2.2.2.1 x.2.2.2.2.2.2.2.2.2.2.1 n x.1.2.2.2.1 x.2.1 x.2.2.2.2.2.2.2.2.2.2.2.1) (fF:=Xu) (out:=JM) aF (OA cu rQ) aj (ay (by kernel_rfl)) (fun _=>rfl) (fun m x=>by kernel_rfl) (az ⟨dh,fun _ _ _=>rfl⟩ (bH)) false aG
theorem ZJ (cu:M.ae->Option (M.ae)) (rQ:(lF cu).Ok D Tryz.prog):(lF (M.D5 cu)).Ok D Tryz.prog:=
 bz (cx:=Ff cu) (c:=lF (M.D5 cu)) (fz:=true) (fn:=Tryz.f78) aF (OA cu rQ) aj ⟨Tryz.func78,by kernel_rfl⟩ (bC (bF 1 (by kernel_rfl) (dV (.mk (by kernel_rfl) (V3 cu rQ))))) ⟨⟨[.el U.Type],[]⟩,fun x=>x.1.1⟩ (fun x=>rfl) (fun x=>by kernel_rfl)
theorem OB : ∀n,(lF (M.tC n)).Ok D Tryz.prog
 |0=>jm fun _=>rfl
 |n+1=>ZJ (M.tC n) (OB n)
theorem acG : (lF (M.QQ)).Ok D Tryz.prog:=OB aG
def jB (m:M.af->Option (M.af)):bY K:={f:=109,sh:=⟨[.el U.Value],[]⟩,R:=M.af,run:=fun x=>m x.1.1,dflt:=default,out:=fun r=>(Sh.enc D (.el U.Value) r,dW.encs D [] ())}
def Fg (y:Int×Int×(List UInt8)×Int×Int×(List UInt8)×(List M.af)×(List M.af)) {R:Type} (k:Ex->List (AV K)->List (Ob K)->R):R:=match y with
 |a0=>k (Ex.exit 0) (eP.eU D ⟨[.ptr 1 0, .ptr 2 0],[.dead, .box [.int .i64, .int .i64, .str, .own 5], .box [.int .i64, .int .i64, .str, .own 6], .dead, .dead, .arr U.Value, .arr U.Value]⟩ (((),((),())),((),((a0.1,(a0.2.1,(a0.2.2.1,((),())))),((a0.2.2.2.1,(a0.2.2.2.2.1,(a0.2.2.2.2.2.1,((),())))),((),((),(a0.2.2.2.2.2.2.1,(a0.2.2.2.2.2.2.2,()))))))))) (eP.eY D ⟨[.ptr 1 0, .ptr 2 0],[.dead, .box [.int .i64, .int .i64, .str, .own 5], .box [.int .i64, .int .i64, .str, .own 6], .dead, .dead, .arr U.Value, .arr U.Value]⟩ (((),((),())),((),((a0.1,(a0.2.1,(a0.2.2.1,((),())))),((a0.2.2.2.1,(a0.2.2.2.2.1,(a0.2.2.2.2.2.1,((),())))),((),((),(a0.2.2.2.2.2.2.1,(a0.2.2.2.2.2.2.2,())))))))))
def TB : List (fH K (Int×Int×(List UInt8)×Int×Int×(List UInt8)×(List M.af)×(List M.af))):=[⟨(Ex.exit 0),⟨[.ptr 1 0, .ptr 2 0],[.dead, .box [.int .i64, .int .i64, .str, .own 5], .box [.int .i64, .int .i64, .str, .own 6], .dead, .dead, .arr U.Value, .arr U.Value]⟩,fun x=>(x.2.2.1.1,x.2.2.1.2.1,x.2.2.1.2.2.1,x.2.2.2.1.1,x.2.2.2.1.2.1,x.2.2.2.1.2.2.1,x.2.2.2.2.2.2.1,x.2.2.2.2.2.2.2.1)⟩]
def JO (bJ:M.af->Option (M.af)):fC K:=fM D false 31 5 [1,2,3,4] [2,3] ⟨[.ptr 0 0, .ptr 1 0, .ptr 2 0, .int .i64],[.el U.Value, .box [.int .i64, .int .i64, .str, .own 5], .box [.int .i64, .int .i64, .str, .own 6], .dead, .dead, .arr U.Value, .arr U.Value]⟩ (fun x=>M.kD bJ x.2.2.1.1 x.2.2.1.2.1 x.2.2.1.2.2.1 x.2.2.2.1.1 x.2.2.2.1.2.1 x.2.2.2.1.2.2.1 x.2.2.2.2.2.2.1 aG x.1.2.2.2.1 x.2.1 x.2.2.2.2.2.2.2.1) Fg
def Ae (bJ:M.af->Option (M.af)):Cx K:={iR with mode:=bn .plain [(109, .sF)],call:=callOf D [jB bJ],loop:=bf [(3,JO bJ)]}
theorem JP (bJ:M.af->Option (M.af)) (oq:(jB bJ).Ok D Tryz.prog):aH (Ae bJ):=ax aF _ (az oq (bH))
theorem QR (bJ:M.af->Option (M.af)) (oq:(jB bJ).Ok D Tryz.prog):dB (Ae bJ) (dH (dL Tryz.f109) 0) (JO bJ):=
 df (cx:=Ae bJ) (n:=31) (n0:=5) (ins:=[1,2,3,4]) (outs:=[2,3]) (sh:=⟨[.ptr 0 0, .ptr 1 0, .ptr 2 0, .int .i64],[.el U.Value, .box [.int .i64, .int .i64, .str, .own 5], .box [.int .i64, .int .i64, .str, .own 6], .dead, .dead, .arr U.Value, .arr U.Value]⟩) (run:=fun n x=>M.kD bJ x.2.2.1.1 x.2.2.1.2.1 x.2.2.1.2.2.1 x.2.2.2.1.1 x.2.2.2.1.2.1 x.2.2.2.1.2.2.1 x.2.2.2.2.2.2.1 n x.1.2.2.2.1 x.2.1 x.2.2.2.2.2.2.2.1) (fF:=TB) (out:=Fg) aF (JP bJ oq) aj (ay (by kernel_rfl)) (fun _=>rfl) (fun m x=>by kernel_rfl) (az ⟨dh,fun _ _ _=>rfl⟩ (bH)) false aG
theorem V4 (bJ:M.af->Option (M.af)) (oq:(jB bJ).Ok D Tryz.prog):(jB (M.x8 bJ)).Ok D Tryz.prog:=
 bz (cx:=Ae bJ) (c:=jB (M.x8 bJ)) (fz:=true) (fn:=Tryz.f109) aF (JP bJ oq) aj ⟨Tryz.func109,by kernel_rfl⟩ (bC (bF 1 (by kernel_rfl) (dV (.mk (by kernel_rfl) (QR bJ oq))))) ⟨⟨[.el U.Value],[]⟩,fun x=>x.1.1⟩ (fun x=>rfl) (fun x=>by kernel_rfl)
theorem JQ : ∀n,(jB (M.lG n)).Ok D Tryz.prog
 |0=>jm fun _=>rfl
 |n+1=>V4 (M.lG n) (JQ n)
theorem ZK : (jB (M.IV)).Ok D Tryz.prog:=JQ aG
def D6 (m:M.ah->Option (M.ah×Int)):bY K:={f:=37,sh:=⟨[.el U.Stream],[]⟩,R:=M.ah×Int,run:=fun x=>m x.1.1,dflt:=default,out:=fun r=>(Sh.enc D (.lD [.el U.Stream, .int .i64]) (r.1,(r.2,())),dW.encs D [] ())}
def OC : Cx K:={iR with mode:=bn .plain [],call:=callOf D [],loop:=bf []}
theorem V5 : aH (OC):=ax aF _ (bH)
theorem ZL : (D6 (M.zx)).Ok D Tryz.prog:=
 bz (cx:=OC) (c:=D6 (M.zx)) (fz:=true) (fn:=Tryz.f37) aF (V5) aj ⟨Tryz.func37,by kernel_rfl⟩ (bC (ay (by kernel_rfl))) ⟨⟨[.lD [.el U.Stream, .int .i64]],[]⟩,fun x=>(x.1.1.1,x.1.1.2.1)⟩ (fun x=>rfl) (fun x=>by kernel_rfl)
def IW (m:M.ae->Option (Bool)):bY K:={f:=110,sh:=⟨[.el U.Type],[]⟩,R:=Bool,run:=fun x=>m x.1.1,dflt:=default,out:=fun r=>(Sh.enc D (.bool) r,dW.encs D [] ())}
def UW : Cx K:={iR with mode:=bn .plain [(129, .plain),(130, .plain),(131, .plain)],call:=callOf D [qP M.abh,oI M.WN,fD M.Nc],loop:=bf []}
theorem ZM : aH (UW):=ax aF _ (az agd (az aej (az abk (bH))))
theorem acH : (IW (M.Hy)).Ok D Tryz.prog:=
 bz (cx:=UW) (c:=IW (M.Hy)) (fz:=true) (fn:=Tryz.f110) aF (ZM) aj ⟨Tryz.func110,by kernel_rfl⟩ (bC (ay (by kernel_rfl))) ⟨⟨[.bool],[]⟩,fun x=>x.1.1⟩ (fun x=>rfl) (fun x=>by kernel_rfl)
def zy (m:M.ae->Option (Bool)):bY K:={f:=85,sh:=⟨[.el U.Type],[]⟩,R:=Bool,run:=fun x=>m x.1.1,dflt:=default,out:=fun r=>(Sh.enc D (.bool) r,dW.encs D [] ())}
def JR : Cx K:={iR with mode:=bn .plain [(110, .plain),(111, .plain),(112, .plain)],call:=callOf D [IW M.Hy,xR M.Lh,eX M.rP],loop:=bf []}
theorem QS : aH (JR):=ax aF _ (az acH (az Le (az QG (bH))))
theorem V6 : (zy (M.uD)).Ok D Tryz.prog:=
 bz (cx:=JR) (c:=zy (M.uD)) (fz:=true) (fn:=Tryz.f85) aF (QS) aj ⟨Tryz.func85,by kernel_rfl⟩ (bC (ay (by kernel_rfl))) ⟨⟨[.bool],[]⟩,fun x=>x.1.1⟩ (fun x=>rfl) (fun x=>by kernel_rfl)
def qh (m:(List M.af)->Option (Int)):bY K:={f:=86,sh:=⟨[.bV U.Value],[]⟩,R:=Int,run:=fun x=>m x.1.1,dflt:=default,out:=fun r=>(Sh.enc D (.int .i64) r,dW.encs D [] ())}
def JS : Cx K:={iR with mode:=bn .plain [],call:=callOf D [],loop:=bf []}
theorem QT : aH (JS):=ax aF _ (bH)
theorem BF : (qh (M.x9)).Ok D Tryz.prog:=
 bz (cx:=JS) (c:=qh (M.x9)) (fz:=true) (fn:=Tryz.f86) aF (QT) aj ⟨Tryz.func86,by kernel_rfl⟩ (bC (ay (by kernel_rfl))) ⟨⟨[.int .i64],[]⟩,fun x=>x.1.1⟩ (fun x=>rfl) (fun x=>by kernel_rfl)
def D7 (m:Int->Option (Int×Int×Bool)):bY K:={f:=135,sh:=⟨[.int .i64],[]⟩,R:=Int×Int×Bool,run:=fun x=>m x.1.1,dflt:=default,out:=fun r=>(Sh.enc D (.lD [.int .i64, .int .i64, .bool]) (r.1,(r.2.1,(r.2.2,()))),dW.encs D [] ())}
def OD : Cx K:={iR with mode:=bn .plain [],call:=callOf D [],loop:=bf []}
theorem V7 : aH (OD):=ax aF _ (bH)
theorem ZN : (D7 (M.zA)).Ok D Tryz.prog:=
 bz (cx:=OD) (c:=D7 (M.zA)) (fz:=true) (fn:=Tryz.f135) aF (V7) aj ⟨Tryz.func135,by kernel_rfl⟩ (bC (ay (by kernel_rfl))) ⟨⟨[.lD [.int .i64, .int .i64, .bool]],[]⟩,fun x=>(x.1.1.1,x.1.1.2.1,x.1.1.2.2.1)⟩ (fun x=>rfl) (fun x=>by kernel_rfl)
def IX (m:Int->Option (Bool)):bY K:={f:=136,sh:=⟨[.int .i64],[]⟩,R:=Bool,run:=fun x=>m x.1.1,dflt:=default,out:=fun r=>(Sh.enc D (.bool) r,dW.encs D [] ())}
def UX : Cx K:={iR with mode:=bn .plain [(46, .plain)],call:=callOf D [jw M.sW],loop:=bf []}
theorem ZO : aH (UX):=ax aF _ (az oK (bH))
theorem acI : (IX (M.QU)).Ok D Tryz.prog:=
 bz (cx:=UX) (c:=IX (M.QU)) (fz:=true) (fn:=Tryz.f136) aF (ZO) aj ⟨Tryz.func136,by kernel_rfl⟩ (bC (ay (by kernel_rfl))) ⟨⟨[.bool],[]⟩,fun x=>x.1.1⟩ (fun x=>rfl) (fun x=>by kernel_rfl)
def Ls (m:M.af->M.ae->Option (Bool)):bY K:={f:=114,sh:=⟨[.el U.Value, .el U.Type],[]⟩,R:=Bool,run:=fun x=>m x.1.1 x.1.2.1,dflt:=default,out:=fun r=>(Sh.enc D (.bool) r,dW.encs D [] ())}
def Xv : Cx K:={iR with mode:=bn .plain [(135, .plain),(136, .plain),(137, .plain),(46, .plain)],call:=callOf D [jw M.sW,D7 M.zA,IX M.QU,oL M.vg],loop:=bf []}
theorem abr : aH (Xv):=ax aF _ (az oK (az ZN (az acI (az zi (bH)))))
theorem aek : (Ls (M.Nj)).Ok D Tryz.prog:=
 bz (cx:=Xv) (c:=Ls (M.Nj)) (fz:=true) (fn:=Tryz.f114) aF (abr) aj ⟨Tryz.func114,by kernel_rfl⟩ (bC (ay (by kernel_rfl))) ⟨⟨[.bool],[]⟩,fun x=>x.1.1⟩ (fun x=>rfl) (fun x=>by kernel_rfl)
def IY (m:(List UInt8)->Option (Bool)):bY K:={f:=115,sh:=⟨[.str],[]⟩,R:=Bool,run:=fun x=>m x.1.1,dflt:=default,out:=fun r=>(Sh.enc D (.bool) r,dW.encs D [] ())}
def UY : Cx K:={iR with mode:=bn .plain [(138, .plain)],call:=callOf D [kU M.eG],loop:=bf []}
theorem ZP : aH (UY):=ax aF _ (az CO (bH))
theorem acJ : (IY (M.Hz)).Ok D Tryz.prog:=
 bz (cx:=UY) (c:=IY (M.Hz)) (fz:=true) (fn:=Tryz.f115) aF (ZP) aj ⟨Tryz.func115,by kernel_rfl⟩ (bC (ay (by kernel_rfl))) ⟨⟨[.bool],[]⟩,fun x=>x.1.1⟩ (fun x=>rfl) (fun x=>by kernel_rfl)
def D8 (m:M.ae->Int->Option (M.ae×Bool)):bY K:={f:=140,sh:=⟨[.el U.Type, .int .i64],[]⟩,R:=M.ae×Bool,run:=fun x=>m x.1.1 x.1.2.1,dflt:=default,out:=fun r=>(Sh.enc D (.lD [.el U.Type, .bool]) (r.1,(r.2,())),dW.encs D [] ())}
def OE : Cx K:={iR with mode:=bn .plain [(154, .plain),(46, .plain)],call:=callOf D [rF M.AO,jw M.sW],loop:=bf []}
theorem V8 : aH (OE):=ax aF _ (az DR (az oK (bH)))
theorem ZQ : (D8 (M.tH)).Ok D Tryz.prog:=
 bz (cx:=OE) (c:=D8 (M.tH)) (fz:=true) (fn:=Tryz.f140) aF (V8) aj ⟨Tryz.func140,by kernel_rfl⟩ (bC (ay (by kernel_rfl))) ⟨⟨[.lD [.el U.Type, .bool]],[]⟩,fun x=>(x.1.1.1,x.1.1.2.1)⟩ (fun x=>rfl) (fun x=>by kernel_rfl)
def D9 (m:M.af->M.ae->Option ((List M.ae)×Bool)):bY K:={f:=116,sh:=⟨[.el U.Value, .el U.Type],[]⟩,R:=(List M.ae)×Bool,run:=fun x=>m x.1.1 x.1.2.1,dflt:=default,out:=fun r=>(Sh.enc D (.lD [.bV U.Type, .bool]) (r.1,(r.2,())),dW.encs D [] ())}
def OG : Cx K:={iR with mode:=bn .plain [(139, .sF),(140, .sF),(111, .plain)],call:=callOf D [lH M.eQ,D8 M.tH,xR M.Lh],loop:=bf []}
theorem V9 : aH (OG):=ax aF _ (az Ea (az ZQ (az Le (bH))))
theorem ZR : (D9 (M.zB)).Ok D Tryz.prog:=
 bz (cx:=OG) (c:=D9 (M.zB)) (fz:=true) (fn:=Tryz.f116) aF (V9) aj ⟨Tryz.func116,by kernel_rfl⟩ (bC (ay (by kernel_rfl))) ⟨⟨[.lD [.bV U.Type, .bool]],[]⟩,fun x=>(x.1.1.1,x.1.1.2.1)⟩ (fun x=>rfl) (fun x=>by kernel_rfl)
def qQ (m:M.af->M.ae->Option (Bool)):bY K:={f:=89,sh:=⟨[.el U.Value, .el U.Type],[]⟩,R:=Bool,run:=fun x=>m x.1.1 x.1.2.1,dflt:=default,out:=fun r=>(Sh.enc D (.bool) r,dW.encs D [] ())}
def OH (y:(Bool)⊕(Unit)) {R:Type} (k:Ex->List (AV K)->List (Ob K)->R):R:=match y with
 | .inl a0=>k Ex.ret (eP.eU D ⟨[.bool],[]⟩ ((a0,()),())) (eP.eY D ⟨[.bool],[]⟩ ((a0,()),()))
 | .inr (a1)=>k (Ex.exit 0) (eP.eU D ⟨[.any],[]⟩ (((),()),())) (eP.eY D ⟨[.any],[]⟩ (((),()),()))
def abt : List (fH K ((Bool)⊕(Unit))):=[⟨Ex.ret,⟨[.bool],[]⟩,fun x=> .inl x.1.1⟩,⟨(Ex.exit 0),⟨[.any],[]⟩,fun x=> .inr (())⟩]
def UZ (dF:M.af->M.ae->Option (Bool)):fC K:=fM D false 68 0 [5,53,54,55] [4] ⟨[.bV U.Type, .bV U.Value, .int .i64, .int .i64],[]⟩ (fun x=>M.rU dF x.1.1 x.1.2.1 x.1.2.2.1 aG x.1.2.2.2.1) OH
def Nk (dF:M.af->M.ae->Option (Bool)):Cx K:={iR with mode:=bn .plain [(114, .plain),(115, .plain),(116, .sF),(89, .plain)],call:=callOf D [Ls M.Nj,IY M.Hz,D9 M.zB,qQ dF],loop:=bf [(7,UZ dF)]}
theorem U0 (dF:M.af->M.ae->Option (Bool)) (xn:(qQ dF).Ok D Tryz.prog):aH (Nk dF):=ax aF _ (az aek (az acJ (az ZR (az xn (bH)))))
theorem ZT (dF:M.af->M.ae->Option (Bool)) (xn:(qQ dF).Ok D Tryz.prog):dB (Nk dF) (dH (dL Tryz.f89) 0) (UZ dF):=
 df (cx:=Nk dF) (n:=68) (n0:=0) (ins:=[5,53,54,55]) (outs:=[4]) (sh:=⟨[.bV U.Type, .bV U.Value, .int .i64, .int .i64],[]⟩) (run:=fun n x=>M.rU dF x.1.1 x.1.2.1 x.1.2.2.1 n x.1.2.2.2.1) (fF:=abt) (out:=OH) aF (U0 dF xn) aj (ay (by kernel_rfl)) (fun _=>rfl) (fun m x=>by kernel_rfl) (az ⟨iT,fun _ _ _=>rfl⟩ (az ⟨dh,fun _ _ _=>rfl⟩ (bH))) false aG
theorem acK (dF:M.af->M.ae->Option (Bool)) (xn:(qQ dF).Ok D Tryz.prog):(qQ (M.Lt dF)).Ok D Tryz.prog:=
 bz (cx:=Nk dF) (c:=qQ (M.Lt dF)) (fz:=true) (fn:=Tryz.f89) aF (U0 dF xn) aj ⟨Tryz.func89,by kernel_rfl⟩ (bC (bF 1 (by kernel_rfl) (dV (.mk (by kernel_rfl) (ZT dF xn))))) ⟨⟨[.bool],[]⟩,fun x=>x.1.1⟩ (fun x=>rfl) (fun x=>by kernel_rfl)
theorem U1 : ∀n,(qQ (M.vC n)).Ok D Tryz.prog
 |0=>jm fun _=>rfl
 |n+1=>acK (M.vC n) (U1 n)
theorem agf : (qQ (M.abu)).Ok D Tryz.prog:=U1 aG
def yc (m:M.af->M.ah->Option (Bool)):bY K:={f:=88,sh:=⟨[.el U.Value, .rp U.Stream 0],[]⟩,R:=Bool,run:=fun x=>m x.1.1 x.1.2.1,dflt:=default,out:=fun r=>(Sh.enc D (.bool) r,dW.encs D [] ())}
def HY : Cx K:={iR with mode:=bn .plain [(89, .plain)],call:=callOf D [qQ M.abu],loop:=bf []}
theorem Pz : aH (HY):=ax aF _ (az agf (bH))
theorem TC : (yc (M.rV)).Ok D Tryz.prog:=
 bz (cx:=HY) (c:=yc (M.rV)) (fz:=true) (fn:=Tryz.f88) aF (Pz) aj ⟨Tryz.func88,by kernel_rfl⟩ (bC (ay (by kernel_rfl))) ⟨⟨[.bool],[]⟩,fun x=>x.1.1⟩ (fun x=>rfl) (fun x=>by kernel_rfl)
def lU (y:(Int)⊕(Unit)) {R:Type} (k:Ex->List (AV K)->List (Ob K)->R):R:=match y with
 | .inl a0=>k Ex.ret (eP.eU D ⟨[.int .i64],[]⟩ ((a0,()),())) (eP.eY D ⟨[.int .i64],[]⟩ ((a0,()),()))
 | .inr (a1)=>k (Ex.exit 0) (eP.eU D ⟨[.any],[]⟩ (((),()),())) (eP.eY D ⟨[.any],[]⟩ (((),()),()))
def wH : List (fH K ((Int)⊕(Unit))):=[⟨Ex.ret,⟨[.int .i64],[]⟩,fun x=> .inl x.1.1⟩,⟨(Ex.exit 0),⟨[.any],[]⟩,fun x=> .inr (())⟩]
def nS : fC K:=fM D false 19 0 [0,1,7,8] [4] ⟨[.bV U.Value, .fn 88 [.rp U.Stream 0], .int .i64, .int .i64],[]⟩ (fun x=>M.dG x.1.1 x.1.2.1.1 x.1.2.2.1 aG x.1.2.2.2.1) lU
def jC (m:(List M.af)->M.ah->Option (Int)):bY K:={f:=113,sh:=⟨[.bV U.Value, .fn 88 [.rp U.Stream 0]],[]⟩,R:=Int,run:=fun x=>m x.1.1 x.1.2.1.1,dflt:=default,out:=fun r=>(Sh.enc D (.int .i64) r,dW.encs D [] ())}
def gQ : Cx K:={iR with mode:=bn .plain [(88, .plain)],call:=callOf D [yc M.rV],loop:=bf [(2,nS)]}
theorem nU : aH (gQ):=ax aF _ (az TC (bH))
theorem vF : dB (gQ) (dH (dL Tryz.f113) 0) (nS):=
 df (cx:=gQ) (n:=19) (n0:=0) (ins:=[0,1,7,8]) (outs:=[4]) (sh:=⟨[.bV U.Value, .fn 88 [.rp U.Stream 0], .int .i64, .int .i64],[]⟩) (run:=fun n x=>M.dG x.1.1 x.1.2.1.1 x.1.2.2.1 n x.1.2.2.2.1) (fF:=wH) (out:=lU) aF (nU) aj (ay (by kernel_rfl)) (fun _=>rfl) (fun m x=>by kernel_rfl) (az ⟨iT,fun _ _ _=>rfl⟩ (az ⟨dh,fun _ _ _=>rfl⟩ (bH))) false aG
theorem yT : (jC (M.fV)).Ok D Tryz.prog:=
 bz (cx:=gQ) (c:=jC (M.fV)) (fz:=true) (fn:=Tryz.f113) aF (nU) aj ⟨Tryz.func113,by kernel_rfl⟩ (bC (bF 1 (by kernel_rfl) (dV (.mk (by kernel_rfl) (vF))))) ⟨⟨[.int .i64],[]⟩,fun x=>x.1.1⟩ (fun x=>rfl) (fun x=>by kernel_rfl)
def iH (m:(List M.af)->M.ah->Option (Bool)):bY K:={f:=87,sh:=⟨[.bV U.Value, .fn 88 [.rp U.Stream 0]],[]⟩,R:=Bool,run:=fun x=>m x.1.1 x.1.2.1.1,dflt:=default,out:=fun r=>(Sh.enc D (.bool) r,dW.encs D [] ())}
def mY : Cx K:={iR with mode:=bn .plain [(113, .plain)],call:=callOf D [jC M.fV],loop:=bf []}
theorem uU : aH (mY):=ax aF _ (az yT (bH))
theorem wI : (iH (M.ed)).Ok D Tryz.prog:=
 bz (cx:=mY) (c:=iH (M.ed)) (fz:=true) (fn:=Tryz.f87) aF (uU) aj ⟨Tryz.func87,by kernel_rfl⟩ (bC (ay (by kernel_rfl))) ⟨⟨[.bool],[]⟩,fun x=>x.1.1⟩ (fun x=>rfl) (fun x=>by kernel_rfl)
def CP (m:M.ah->Option (Int)):bY K:={f:=90,sh:=⟨[.el U.Stream],[]⟩,R:=Int,run:=fun x=>m x.1.1,dflt:=default,out:=fun r=>(Sh.enc D (.int .i64) r,dW.encs D [] ())}
def U2 : Cx K:={iR with mode:=bn .plain [],call:=callOf D [],loop:=bf []}
theorem ZU : aH (U2):=ax aF _ (bH)
theorem U3 : (CP (M.vG)).Ok D Tryz.prog:=
 bz (cx:=U2) (c:=CP (M.vG)) (fz:=true) (fn:=Tryz.f90) aF (ZU) aj ⟨Tryz.func90,by kernel_rfl⟩ (bC (ay (by kernel_rfl))) ⟨⟨[.int .i64],[]⟩,fun x=>x.1.1⟩ (fun x=>rfl) (fun x=>by kernel_rfl)
def Eb (m:M.ah->Option (Bool)):bY K:={f:=45,sh:=⟨[.el U.Stream],[]⟩,R:=Bool,run:=fun x=>m x.1.1,dflt:=default,out:=fun r=>(Sh.enc D (.bool) r,dW.encs D [] ())}
def OI : Cx K:={iR with mode:=bn .plain [(85, .plain),(46, .plain),(86, .plain),(87, .plain),(90, .plain)],call:=callOf D [zy M.uD,jw M.sW,qh M.x9,iH M.ed,CP M.vG],loop:=bf []}
theorem We : aH (OI):=ax aF _ (az V6 (az oK (az BF (az wI (az U3 (bH))))))
theorem ZV : (Eb (M.zC)).Ok D Tryz.prog:=
 bz (cx:=OI) (c:=Eb (M.zC)) (fz:=true) (fn:=Tryz.f45) aF (We) aj ⟨Tryz.func45,by kernel_rfl⟩ (bC (ay (by kernel_rfl))) ⟨⟨[.bool],[]⟩,fun x=>x.1.1⟩ (fun x=>rfl) (fun x=>by kernel_rfl)
def tJ (m:Int->(List UInt8)->Int->Bool->Int->Int->Bool->Bool->(List (List UInt8))->(List M.ae)->(List M.af)->Option (Int×Int×(List UInt8)×Int×Bool×Int×Int×Bool×Bool×(List (List UInt8))×(List M.ae)×(List M.af))):bY K:={f:=51,sh:=⟨[.ptr 0 0],[.box [.int .i64, .str, .own 1, .own 2, .int .i64, .bool, .own 3, .int .i64, .int .i64, .bool, .bool], .arr U.str, .tree U.Type, .tree U.Value]⟩,R:=Int×Int×(List UInt8)×Int×Bool×Int×Int×Bool×Bool×(List (List UInt8))×(List M.ae)×(List M.af),run:=fun x=>m x.2.1.1 x.2.1.2.1 x.2.1.2.2.2.2.1 x.2.1.2.2.2.2.2.1 x.2.1.2.2.2.2.2.2.2.1 x.2.1.2.2.2.2.2.2.2.2.1 x.2.1.2.2.2.2.2.2.2.2.2.1 x.2.1.2.2.2.2.2.2.2.2.2.2.1 x.2.2.1 x.2.2.2.1 x.2.2.2.2.1,dflt:=default,out:=fun r=>(Sh.enc D (.int .i64) r.1,dW.encs D [.box [.int .i64, .str, .own 4, .own 5, .int .i64, .bool, .own 6, .int .i64, .int .i64, .bool, .bool], .dead, .dead, .dead, .arr U.str, .tree U.Type, .tree U.Value] ((r.2.1,(r.2.2.1,((),((),(r.2.2.2.1,(r.2.2.2.2.1,((),(r.2.2.2.2.2.1,(r.2.2.2.2.2.2.1,(r.2.2.2.2.2.2.2.1,(r.2.2.2.2.2.2.2.2.1,()))))))))))),((),((),((),(r.2.2.2.2.2.2.2.2.2.1,(r.2.2.2.2.2.2.2.2.2.2.1,(r.2.2.2.2.2.2.2.2.2.2.2,()))))))))}
def BJ : Cx K:={iR with mode:=bn .plain [],deep:=fun c=>bT (D.cells c (K.zero c)),mv:=true,call:=callOf D [],loop:=bf []}
theorem KA : aH (BJ):=ax aF _ (bH)
theorem NK : (tJ (M.mi)).Ok D Tryz.prog:=
 bz (cx:=BJ) (c:=tJ (M.mi)) (fz:=true) (fn:=Tryz.f51) aF (KA) aj ⟨Tryz.func51,by kernel_rfl⟩ (bC (ay (by kernel_rfl))) ⟨⟨[.int .i64],[.box [.int .i64, .str, .own 4, .own 5, .int .i64, .bool, .own 6, .int .i64, .int .i64, .bool, .bool], .dead, .dead, .dead, .arr U.str, .tree U.Type, .tree U.Value]⟩,fun x=>(x.1.1,x.2.1.1,x.2.1.2.1,x.2.1.2.2.2.2.1,x.2.1.2.2.2.2.2.1,x.2.1.2.2.2.2.2.2.2.1,x.2.1.2.2.2.2.2.2.2.2.1,x.2.1.2.2.2.2.2.2.2.2.2.1,x.2.1.2.2.2.2.2.2.2.2.2.2.1,x.2.2.2.2.2.1,x.2.2.2.2.2.2.1,x.2.2.2.2.2.2.2.1)⟩ (fun x=>rfl) (fun x=>by kernel_rfl)
def Fh (y:(List UInt8)) {R:Type} (k:Ex->List (AV K)->List (Ob K)->R):R:=match y with
 |a0=>k (Ex.exit 0) (eP.eU D ⟨[.str],[]⟩ ((a0,()),())) (eP.eY D ⟨[.str],[]⟩ ((a0,()),()))
def TD : List (fH K ((List UInt8))):=[⟨(Ex.exit 0),⟨[.str],[]⟩,fun x=>x.1.1⟩]
def JU : fC K:=fM D false 20 0 [0,3] [3] ⟨[.int .i64, .str],[]⟩ (fun x=>M.pg aG x.1.1 x.1.2.1) Fh
def kH (m:Int->Option ((List UInt8))):bY K:={f:=59,sh:=⟨[.int .i64],[]⟩,R:=(List UInt8),run:=fun x=>m x.1.1,dflt:=default,out:=fun r=>(Sh.enc D (.str) r,dW.encs D [] ())}
def Af : Cx K:={iR with mode:=bn .plain [],deep:=fun c=>bT (D.cells c (K.zero c)),call:=callOf D [],loop:=bf [(4,JU)]}
theorem JV : aH (Af):=ax aF _ (bH)
theorem QV : dB (Af) (dH (dL Tryz.f59) 0) (JU):=
 df (cx:=Af) (n:=20) (n0:=0) (ins:=[0,3]) (outs:=[3]) (sh:=⟨[.int .i64, .str],[]⟩) (run:=fun n x=>M.pg n x.1.1 x.1.2.1) (fF:=TD) (out:=Fh) aF (JV) aj (ay (by kernel_rfl)) (fun _=>rfl) (fun m x=>by kernel_rfl) (az ⟨dh,fun _ _ _=>rfl⟩ (bH)) false aG
theorem rW : (kH (M.gz)).Ok D Tryz.prog:=
 bz (cx:=Af) (c:=kH (M.gz)) (fz:=true) (fn:=Tryz.f59) aF (JV) aj ⟨Tryz.func59,by kernel_rfl⟩ (bC (bF 1 (by kernel_rfl) (dV (.mk (by kernel_rfl) (QV))))) ⟨⟨[.str],[]⟩,fun x=>x.1.1⟩ (fun x=>rfl) (fun x=>by kernel_rfl)
def AU (y:Int×(List (List UInt8))) {R:Type} (k:Ex->List (AV K)->List (Ob K)->R):R:=match y with
 |a0=>k (Ex.exit 0) (eP.eU D ⟨[.int .i64],[.arr U.str]⟩ ((a0.1,()),(a0.2,()))) (eP.eY D ⟨[.int .i64],[.arr U.str]⟩ ((a0.1,()),(a0.2,())))
def NL : List (fH K (Int×(List (List UInt8)))):=[⟨(Ex.exit 0),⟨[.int .i64],[.arr U.str]⟩,fun x=>(x.1.1,x.2.1)⟩]
def Ec : fC K:=fM D true 20 1 [0,1,5] [1] ⟨[.own 0, .int .i64, .int .i64],[.arr U.str]⟩ (fun x=>M.jV aG x.1.2.1 x.1.2.2.1 x.2.1) AU
def sG (m:Int->(List (List UInt8))->Option (Int×(List (List UInt8)))):bY K:={f:=97,sh:=⟨[.own 0, .int .i64],[.arr U.str]⟩,R:=Int×(List (List UInt8)),run:=fun x=>m x.1.2.1 x.2.1,dflt:=default,out:=fun r=>(Sh.enc D (.int .i64) r.1,dW.encs D [.arr U.str] (r.2,()))}
def uF : Cx K:={iR with mode:=bn .plain [(59, .plain)],deep:=fun c=>bT (D.cells c (K.zero c)),opn:=true,call:=callOf D [kH M.gz],loop:=bf [(2,Ec)]}
theorem Ed : aH (uF):=ax aF _ (az rW (bH))
theorem Lu : dB (uF) (dH (dL Tryz.f97) 0) (Ec):=
 df (cx:=uF) (n:=20) (n0:=1) (ins:=[0,1,5]) (outs:=[1]) (sh:=⟨[.own 0, .int .i64, .int .i64],[.arr U.str]⟩) (run:=fun n x=>M.jV n x.1.2.1 x.1.2.2.1 x.2.1) (fF:=NL) (out:=AU) aF (Ed) aj (ay (by kernel_rfl)) (fun _=>rfl) (fun m x=>by kernel_rfl) (az ⟨dh,fun _ _ _=>rfl⟩ (bH)) true aG
theorem H5 : (sG (M.lV)).Ok D Tryz.prog:=
 bz (cx:=uF) (c:=sG (M.lV)) (fz:=true) (fn:=Tryz.f97) aF (Ed) aj ⟨Tryz.func97,by kernel_rfl⟩ (bC (bF 1 (by kernel_rfl) (dV (.mk (by kernel_rfl) (Lu))))) ⟨⟨[.int .i64],[.arr U.str]⟩,fun x=>(x.1.1,x.2.1)⟩ (fun x=>rfl) (fun x=>by kernel_rfl)
def iM (m:Int->(List M.ae)->Option (Int×(List M.ae))):bY K:={f:=98,sh:=⟨[.own 0, .int .i64],[.tree U.Type]⟩,R:=Int×(List M.ae),run:=fun x=>m x.1.2.1 x.2.1,dflt:=default,out:=fun r=>(Sh.enc D (.int .i64) r.1,dW.encs D [.tree U.Type] (r.2,()))}
def Ee (y:Int×(List M.ae)) {R:Type} (k:Ex->List (AV K)->List (Ob K)->R):R:=match y with
 |a0=>k (Ex.exit 0) (eP.eU D ⟨[.int .i64],[.tree U.Type]⟩ ((a0.1,()),(a0.2,()))) (eP.eY D ⟨[.int .i64],[.tree U.Type]⟩ ((a0.1,()),(a0.2,())))
def QW : List (fH K (Int×(List M.ae))):=[⟨(Ex.exit 0),⟨[.int .i64],[.tree U.Type]⟩,fun x=>(x.1.1,x.2.1)⟩]
def H6 (bG:Int->(List M.ae)->Option (Int×(List M.ae))):fC K:=fM D true 42 1 [0,1,5] [1] ⟨[.own 0, .int .i64, .int .i64],[.tree U.Type]⟩ (fun x=>M.mZ bG aG x.1.2.1 x.1.2.2.1 x.2.1) Ee
def yf (bG:Int->(List M.ae)->Option (Int×(List M.ae))):Cx K:={iR with mode:=bn .plain [(59, .plain),(97, .pass),(98, .pass)],deep:=fun c=>bT (D.cells c (K.zero c)),opn:=true,call:=callOf D [kH M.gz,sG M.lV,iM bG],loop:=bf [(2,H6 bG)]}
theorem H7 (bG:Int->(List M.ae)->Option (Int×(List M.ae))) (mr:(iM bG).Ok D Tryz.prog):aH (yf bG):=ax aF _ (az rW (az H5 (az mr (bH))))
theorem PD (bG:Int->(List M.ae)->Option (Int×(List M.ae))) (mr:(iM bG).Ok D Tryz.prog):dB (yf bG) (dH (dL Tryz.f98) 0) (H6 bG):=
 df (cx:=yf bG) (n:=42) (n0:=1) (ins:=[0,1,5]) (outs:=[1]) (sh:=⟨[.own 0, .int .i64, .int .i64],[.tree U.Type]⟩) (run:=fun n x=>M.mZ bG n x.1.2.1 x.1.2.2.1 x.2.1) (fF:=QW) (out:=Ee) aF (H7 bG mr) aj (ay (by kernel_rfl)) (fun _=>rfl) (fun m x=>by kernel_rfl) (az ⟨dh,fun _ _ _=>rfl⟩ (bH)) true aG
theorem TE (bG:Int->(List M.ae)->Option (Int×(List M.ae))) (mr:(iM bG).Ok D Tryz.prog):(iM (M.vH bG)).Ok D Tryz.prog:=
 bz (cx:=yf bG) (c:=iM (M.vH bG)) (fz:=true) (fn:=Tryz.f98) aF (H7 bG mr) aj ⟨Tryz.func98,by kernel_rfl⟩ (bC (bF 1 (by kernel_rfl) (dV (.mk (by kernel_rfl) (PD bG mr))))) ⟨⟨[.int .i64],[.tree U.Type]⟩,fun x=>(x.1.1,x.2.1)⟩ (fun x=>rfl) (fun x=>by kernel_rfl)
theorem H8 : ∀n,(iM (M.pq n)).Ok D Tryz.prog
 |0=>jm fun _=>rfl
 |n+1=>TE (M.pq n) (H8 n)
theorem Xw : (iM (M.Fj)).Ok D Tryz.prog:=H8 aG
def Ef (m:Int->(List UInt8)->Int->(List (List UInt8))->(List M.ae)->Option (Int×(List (List UInt8))×(List M.ae))):bY K:={f:=58,sh:=⟨[.agg [.int .i64, .str, .own 0, .own 1], .int .i64],[.arr U.str, .tree U.Type]⟩,R:=Int×(List (List UInt8))×(List M.ae),run:=fun x=>m x.1.1.1 x.1.1.2.1 x.1.2.1 x.2.1 x.2.2.1,dflt:=default,out:=fun r=>(Sh.enc D (.int .i64) r.1,dW.encs D [.arr U.str, .tree U.Type] (r.2.1,(r.2.2,())))}
def OJ : Cx K:={iR with mode:=bn .plain [(97, .pass),(98, .pass)],deep:=fun c=>bT (D.cells c (K.zero c)),opn:=true,call:=callOf D [sG M.lV,iM M.Fj],loop:=bf []}
theorem Wh : aH (OJ):=ax aF _ (az H5 (az Xw (bH)))
theorem ZW : (Ef (M.Eg)).Ok D Tryz.prog:=
 bz (cx:=OJ) (c:=Ef (M.Eg)) (fz:=true) (fn:=Tryz.f58) aF (Wh) aj ⟨Tryz.func58,by kernel_rfl⟩ (bC (ay (by kernel_rfl))) ⟨⟨[.int .i64],[.arr U.str, .tree U.Type]⟩,fun x=>(x.1.1,x.2.1,x.2.2.1)⟩ (fun x=>rfl) (fun x=>by kernel_rfl)
def gp (m:Int->(List M.af)->Option (Int×(List M.af))):bY K:={f:=17,sh:=⟨[.own 0, .int .i64],[.tree U.Value]⟩,R:=Int×(List M.af),run:=fun x=>m x.1.2.1 x.2.1,dflt:=default,out:=fun r=>(Sh.enc D (.int .i64) r.1,dW.encs D [.tree U.Value] (r.2,()))}
def BK (y:Int×(List M.af)) {R:Type} (k:Ex->List (AV K)->List (Ob K)->R):R:=match y with
 |a0=>k (Ex.exit 0) (eP.eU D ⟨[.int .i64],[.tree U.Value]⟩ ((a0.1,()),(a0.2,()))) (eP.eY D ⟨[.int .i64],[.tree U.Value]⟩ ((a0.1,()),(a0.2,())))
def PE : List (fH K (Int×(List M.af))):=[⟨(Ex.exit 0),⟨[.int .i64],[.tree U.Value]⟩,fun x=>(x.1.1,x.2.1)⟩]
def Fp (bu:Int->(List M.af)->Option (Int×(List M.af))):fC K:=fM D true 42 1 [0,1,5] [1] ⟨[.own 0, .int .i64, .int .i64],[.tree U.Value]⟩ (fun x=>M.kV bu aG x.1.2.1 x.1.2.2.1 x.2.1) BK
def vP (bu:Int->(List M.af)->Option (Int×(List M.af))):Cx K:={iR with mode:=bn .plain [(59, .plain),(17, .pass)],deep:=fun c=>bT (D.cells c (K.zero c)),opn:=true,call:=callOf D [kH M.gz,gp bu],loop:=bf [(2,Fp bu)]}
theorem Fq (bu:Int->(List M.af)->Option (Int×(List M.af))) (kN:(gp bu).Ok D Tryz.prog):aH (vP bu):=ax aF _ (az rW (az kN (bH)))
theorem NM (bu:Int->(List M.af)->Option (Int×(List M.af))) (kN:(gp bu).Ok D Tryz.prog):dB (vP bu) (dH (dL Tryz.f17) 0) (Fp bu):=
 df (cx:=vP bu) (n:=42) (n0:=1) (ins:=[0,1,5]) (outs:=[1]) (sh:=⟨[.own 0, .int .i64, .int .i64],[.tree U.Value]⟩) (run:=fun n x=>M.kV bu n x.1.2.1 x.1.2.2.1 x.2.1) (fF:=PE) (out:=BK) aF (Fq bu kN) aj (ay (by kernel_rfl)) (fun _=>rfl) (fun m x=>by kernel_rfl) (az ⟨dh,fun _ _ _=>rfl⟩ (bH)) true aG
theorem QX (bu:Int->(List M.af)->Option (Int×(List M.af))) (kN:(gp bu).Ok D Tryz.prog):(gp (M.tK bu)).Ok D Tryz.prog:=
 bz (cx:=vP bu) (c:=gp (M.tK bu)) (fz:=true) (fn:=Tryz.f17) aF (Fq bu kN) aj ⟨Tryz.func17,by kernel_rfl⟩ (bC (bF 1 (by kernel_rfl) (dV (.mk (by kernel_rfl) (NM bu kN))))) ⟨⟨[.int .i64],[.tree U.Value]⟩,fun x=>(x.1.1,x.2.1)⟩ (fun x=>rfl) (fun x=>by kernel_rfl)
theorem Fv : ∀n,(gp (M.ng n)).Ok D Tryz.prog
 |0=>jm fun _=>rfl
 |n+1=>QX (M.ng n) (Fv n)
theorem JW : (gp (M.qR)).Ok D Tryz.prog:=Fv aG
def zD (m:Int->(List UInt8)->Int->Bool->Int->Int->Bool->Bool->Int->(List (List UInt8))->(List M.ae)->(List M.af)->Option (Int×(List (List UInt8))×(List M.ae)×(List M.af))):bY K:={f:=15,sh:=⟨[.agg [.int .i64, .str, .own 0, .own 1, .int .i64, .bool, .own 2, .int .i64, .int .i64, .bool, .bool], .int .i64],[.arr U.str, .tree U.Type, .tree U.Value]⟩,R:=Int×(List (List UInt8))×(List M.ae)×(List M.af),run:=fun x=>m x.1.1.1 x.1.1.2.1 x.1.1.2.2.2.2.1 x.1.1.2.2.2.2.2.1 x.1.1.2.2.2.2.2.2.2.1 x.1.1.2.2.2.2.2.2.2.2.1 x.1.1.2.2.2.2.2.2.2.2.2.1 x.1.1.2.2.2.2.2.2.2.2.2.2.1 x.1.2.1 x.2.1 x.2.2.1 x.2.2.2.1,dflt:=default,out:=fun r=>(Sh.enc D (.int .i64) r.1,dW.encs D [.arr U.str, .tree U.Type, .tree U.Value] (r.2.1,(r.2.2.1,(r.2.2.2,()))))}
def JX : Cx K:={iR with mode:=bn .plain [(58, .pass),(17, .pass)],deep:=fun c=>bT (D.cells c (K.zero c)),opn:=true,call:=callOf D [Ef M.Eg,gp M.qR],loop:=bf []}
theorem QY : aH (JX):=ax aF _ (az ZW (az JW (bH)))
theorem Wi : (zD (M.oP)).Ok D Tryz.prog:=
 bz (cx:=JX) (c:=zD (M.oP)) (fz:=true) (fn:=Tryz.f15) aF (QY) aj ⟨Tryz.func15,by kernel_rfl⟩ (bC (ay (by kernel_rfl))) ⟨⟨[.int .i64],[.arr U.str, .tree U.Type, .tree U.Value]⟩,fun x=>(x.1.1,x.2.1,x.2.2.1,x.2.2.2.1)⟩ (fun x=>rfl) (fun x=>by kernel_rfl)
def AX (y:(Int)⊕(Int)) {R:Type} (k:Ex->List (AV K)->List (Ob K)->R):R:=match y with
 | .inl a0=>k Ex.ret (eP.eU D ⟨[.any, .int .i64],[]⟩ (((),(a0,())),())) (eP.eY D ⟨[.any, .int .i64],[]⟩ (((),(a0,())),()))
 | .inr (a1)=>k (Ex.exit 0) (eP.eU D ⟨[.int .i64, .any],[]⟩ ((a1,((),())),())) (eP.eY D ⟨[.int .i64, .any],[]⟩ ((a1,((),())),()))
def NP : List (fH K ((Int)⊕(Int))):=[⟨Ex.ret,⟨[.any, .int .i64],[]⟩,fun x=> .inl x.1.2.1⟩,⟨(Ex.exit 0),⟨[.int .i64, .any],[]⟩,fun x=> .inr (x.1.1)⟩]
def Eh : fC K:=fM D false 22 0 [0,1,5] [1,4] ⟨[.bV U.str, .int .i64, .int .i64],[]⟩ (fun x=>M.jW x.1.1 aG x.1.2.1 x.1.2.2.1) AX
def sH (m:(List (List UInt8))->Int->Option (Int)):bY K:={f:=99,sh:=⟨[.bV U.str, .int .i64],[]⟩,R:=Int,run:=fun x=>m x.1.1 x.1.2.1,dflt:=default,out:=fun r=>(Sh.enc D (.int .i64) r,dW.encs D [] ())}
def uG : Cx K:={iR with mode:=bn .plain [(59, .plain)],call:=callOf D [kH M.gz],loop:=bf [(2,Eh)]}
theorem Ei : aH (uG):=ax aF _ (az rW (bH))
theorem LC : dB (uG) (dH (dL Tryz.f99) 0) (Eh):=
 df (cx:=uG) (n:=22) (n0:=0) (ins:=[0,1,5]) (outs:=[1,4]) (sh:=⟨[.bV U.str, .int .i64, .int .i64],[]⟩) (run:=fun n x=>M.jW x.1.1 n x.1.2.1 x.1.2.2.1) (fF:=NP) (out:=AX) aF (Ei) aj (ay (by kernel_rfl)) (fun _=>rfl) (fun m x=>by kernel_rfl) (az ⟨iT,fun _ _ _=>rfl⟩ (az ⟨dh,fun _ _ _=>rfl⟩ (bH))) false aG
theorem H9 : (sH (M.kE)).Ok D Tryz.prog:=
 bz (cx:=uG) (c:=sH (M.kE)) (fz:=true) (fn:=Tryz.f99) aF (Ei) aj ⟨Tryz.func99,by kernel_rfl⟩ (bC (bF 1 (by kernel_rfl) (dV (.mk (by kernel_rfl) (LC))))) ⟨⟨[.int .i64],[]⟩,fun x=>x.1.1⟩ (fun x=>rfl) (fun x=>by kernel_rfl)
def iO (m:(List M.ae)->Int->Option (Int)):bY K:={f:=100,sh:=⟨[.bV U.Type, .int .i64],[]⟩,R:=Int,run:=fun x=>m x.1.1 x.1.2.1,dflt:=default,out:=fun r=>(Sh.enc D (.int .i64) r,dW.encs D [] ())}
def Ej (y:(Int)⊕(Int)) {R:Type} (k:Ex->List (AV K)->List (Ob K)->R):R:=match y with
 | .inl a0=>k Ex.ret (eP.eU D ⟨[.any, .int .i64],[]⟩ (((),(a0,())),())) (eP.eY D ⟨[.any, .int .i64],[]⟩ (((),(a0,())),()))
 | .inr (a1)=>k (Ex.exit 0) (eP.eU D ⟨[.int .i64, .any],[]⟩ ((a1,((),())),())) (eP.eY D ⟨[.int .i64, .any],[]⟩ ((a1,((),())),()))
def QZ : List (fH K ((Int)⊕(Int))):=[⟨Ex.ret,⟨[.any, .int .i64],[]⟩,fun x=> .inl x.1.2.1⟩,⟨(Ex.exit 0),⟨[.int .i64, .any],[]⟩,fun x=> .inr (x.1.1)⟩]
def Ia (bD:(List M.ae)->Int->Option (Int)):fC K:=fM D false 50 0 [0,1,5] [1,4] ⟨[.bV U.Type, .int .i64, .int .i64],[]⟩ (fun x=>M.ni bD x.1.1 aG x.1.2.1 x.1.2.2.1) Ej
def yg (bD:(List M.ae)->Int->Option (Int)):Cx K:={iR with mode:=bn .plain [(59, .plain),(99, .plain),(100, .plain)],call:=callOf D [kH M.gz,sH M.kE,iO bD],loop:=bf [(2,Ia bD)]}
theorem Ib (bD:(List M.ae)->Int->Option (Int)) (mD:(iO bD).Ok D Tryz.prog):aH (yg bD):=ax aF _ (az rW (az H9 (az mD (bH))))
theorem PG (bD:(List M.ae)->Int->Option (Int)) (mD:(iO bD).Ok D Tryz.prog):dB (yg bD) (dH (dL Tryz.f100) 0) (Ia bD):=
 df (cx:=yg bD) (n:=50) (n0:=0) (ins:=[0,1,5]) (outs:=[1,4]) (sh:=⟨[.bV U.Type, .int .i64, .int .i64],[]⟩) (run:=fun n x=>M.ni bD x.1.1 n x.1.2.1 x.1.2.2.1) (fF:=QZ) (out:=Ej) aF (Ib bD mD) aj (ay (by kernel_rfl)) (fun _=>rfl) (fun m x=>by kernel_rfl) (az ⟨iT,fun _ _ _=>rfl⟩ (az ⟨dh,fun _ _ _=>rfl⟩ (bH))) false aG
theorem TF (bD:(List M.ae)->Int->Option (Int)) (mD:(iO bD).Ok D Tryz.prog):(iO (M.vI bD)).Ok D Tryz.prog:=
 bz (cx:=yg bD) (c:=iO (M.vI bD)) (fz:=true) (fn:=Tryz.f100) aF (Ib bD mD) aj ⟨Tryz.func100,by kernel_rfl⟩ (bC (bF 1 (by kernel_rfl) (dV (.mk (by kernel_rfl) (PG bD mD))))) ⟨⟨[.int .i64],[]⟩,fun x=>x.1.1⟩ (fun x=>rfl) (fun x=>by kernel_rfl)
theorem Ic : ∀n,(iO (M.pz n)).Ok D Tryz.prog
 |0=>jm fun _=>rfl
 |n+1=>TF (M.pz n) (Ic n)
theorem Xx : (iO (M.AY)).Ok D Tryz.prog:=Ic aG
def Em (m:M.ae->Int->Option (Int)):bY K:={f:=60,sh:=⟨[.el U.Type, .int .i64],[]⟩,R:=Int,run:=fun x=>m x.1.1 x.1.2.1,dflt:=default,out:=fun r=>(Sh.enc D (.int .i64) r,dW.encs D [] ())}
def OL : Cx K:={iR with mode:=bn .plain [(99, .plain),(100, .plain)],call:=callOf D [sH M.kE,iO M.AY],loop:=bf []}
theorem Wj : aH (OL):=ax aF _ (az H9 (az Xx (bH)))
theorem ZX : (Em (M.zF)).Ok D Tryz.prog:=
 bz (cx:=OL) (c:=Em (M.zF)) (fz:=true) (fn:=Tryz.f60) aF (Wj) aj ⟨Tryz.func60,by kernel_rfl⟩ (bC (ay (by kernel_rfl))) ⟨⟨[.int .i64],[]⟩,fun x=>x.1.1⟩ (fun x=>rfl) (fun x=>by kernel_rfl)
def gq (m:(List M.af)->Int->Option (Int)):bY K:={f:=19,sh:=⟨[.bV U.Value, .int .i64],[]⟩,R:=Int,run:=fun x=>m x.1.1 x.1.2.1,dflt:=default,out:=fun r=>(Sh.enc D (.int .i64) r,dW.encs D [] ())}
def BL (y:(Int)⊕(Int)) {R:Type} (k:Ex->List (AV K)->List (Ob K)->R):R:=match y with
 | .inl a0=>k Ex.ret (eP.eU D ⟨[.any, .int .i64],[]⟩ (((),(a0,())),())) (eP.eY D ⟨[.any, .int .i64],[]⟩ (((),(a0,())),()))
 | .inr (a1)=>k (Ex.exit 0) (eP.eU D ⟨[.int .i64, .any],[]⟩ ((a1,((),())),())) (eP.eY D ⟨[.int .i64, .any],[]⟩ ((a1,((),())),()))
def PH : List (fH K ((Int)⊕(Int))):=[⟨Ex.ret,⟨[.any, .int .i64],[]⟩,fun x=> .inl x.1.2.1⟩,⟨(Ex.exit 0),⟨[.int .i64, .any],[]⟩,fun x=> .inr (x.1.1)⟩]
def Fz (aZ:(List M.af)->Int->Option (Int)):fC K:=fM D false 50 0 [0,1,5] [1,4] ⟨[.bV U.Value, .int .i64, .int .i64],[]⟩ (fun x=>M.kW aZ x.1.1 aG x.1.2.1 x.1.2.2.1) BL
def vS (aZ:(List M.af)->Int->Option (Int)):Cx K:={iR with mode:=bn .plain [(59, .plain),(19, .plain)],call:=callOf D [kH M.gz,gq aZ],loop:=bf [(2,Fz aZ)]}
theorem FB (aZ:(List M.af)->Int->Option (Int)) (kP:(gq aZ).Ok D Tryz.prog):aH (vS aZ):=ax aF _ (az rW (az kP (bH)))
theorem NQ (aZ:(List M.af)->Int->Option (Int)) (kP:(gq aZ).Ok D Tryz.prog):dB (vS aZ) (dH (dL Tryz.f19) 0) (Fz aZ):=
 df (cx:=vS aZ) (n:=50) (n0:=0) (ins:=[0,1,5]) (outs:=[1,4]) (sh:=⟨[.bV U.Value, .int .i64, .int .i64],[]⟩) (run:=fun n x=>M.kW aZ x.1.1 n x.1.2.1 x.1.2.2.1) (fF:=PH) (out:=BL) aF (FB aZ kP) aj (ay (by kernel_rfl)) (fun _=>rfl) (fun m x=>by kernel_rfl) (az ⟨iT,fun _ _ _=>rfl⟩ (az ⟨dh,fun _ _ _=>rfl⟩ (bH))) false aG
theorem Q3 (aZ:(List M.af)->Int->Option (Int)) (kP:(gq aZ).Ok D Tryz.prog):(gq (M.tN aZ)).Ok D Tryz.prog:=
 bz (cx:=vS aZ) (c:=gq (M.tN aZ)) (fz:=true) (fn:=Tryz.f19) aF (FB aZ kP) aj ⟨Tryz.func19,by kernel_rfl⟩ (bC (bF 1 (by kernel_rfl) (dV (.mk (by kernel_rfl) (NQ aZ kP))))) ⟨⟨[.int .i64],[]⟩,fun x=>x.1.1⟩ (fun x=>rfl) (fun x=>by kernel_rfl)
theorem FC : ∀n,(gq (M.ny n)).Ok D Tryz.prog
 |0=>jm fun _=>rfl
 |n+1=>Q3 (M.ny n) (FC n)
theorem JY : (gq (M.qU)).Ok D Tryz.prog:=FC aG
def zG (m:M.ah->Int->Option (Int)):bY K:={f:=18,sh:=⟨[.el U.Stream, .int .i64],[]⟩,R:=Int,run:=fun x=>m x.1.1 x.1.2.1,dflt:=default,out:=fun r=>(Sh.enc D (.int .i64) r,dW.encs D [] ())}
def JZ : Cx K:={iR with mode:=bn .plain [(60, .plain),(19, .plain)],call:=callOf D [Em M.zF,gq M.qU],loop:=bf []}
theorem Q4 : aH (JZ):=ax aF _ (az ZX (az JY (bH)))
theorem Wl : (zG (M.qV)).Ok D Tryz.prog:=
 bz (cx:=JZ) (c:=zG (M.qV)) (fz:=true) (fn:=Tryz.f18) aF (Q4) aj ⟨Tryz.func18,by kernel_rfl⟩ (bC (ay (by kernel_rfl))) ⟨⟨[.int .i64],[]⟩,fun x=>x.1.1⟩ (fun x=>rfl) (fun x=>by kernel_rfl)
def Gp (m:M.ah->Option (M.ah×Int)):bY K:={f:=36,sh:=⟨[.el U.Stream],[]⟩,R:=M.ah×Int,run:=fun x=>m x.1.1,dflt:=default,out:=fun r=>(Sh.enc D (.lD [.el U.Stream, .int .i64]) (r.1,(r.2,())),dW.encs D [] ())}
def Q5 : Cx K:={iR with mode:=bn .plain [],call:=callOf D [],loop:=bf []}
theorem Xy : aH (Q5):=ax aF _ (bH)
theorem abv : (Gp (M.Dj)).Ok D Tryz.prog:=
 bz (cx:=Q5) (c:=Gp (M.Dj)) (fz:=true) (fn:=Tryz.f36) aF (Xy) aj ⟨Tryz.func36,by kernel_rfl⟩ (bC (ay (by kernel_rfl))) ⟨⟨[.lD [.el U.Stream, .int .i64]],[]⟩,fun x=>(x.1.1.1,x.1.1.2.1)⟩ (fun x=>rfl) (fun x=>by kernel_rfl)
def uV (m:Int->(List UInt8)->Int->Bool->Int->Int->Bool->Bool->(List (List UInt8))->(List M.ae)->(List M.af)->Option (Int×Int×(List UInt8)×Int×Bool×Int×Int×Bool×Bool×(List (List UInt8))×(List M.ae)×(List M.af))):bY K:={f:=50,sh:=⟨[.ptr 0 0],[.box [.int .i64, .str, .own 1, .own 2, .int .i64, .bool, .own 3, .int .i64, .int .i64, .bool, .bool], .arr U.str, .tree U.Type, .tree U.Value]⟩,R:=Int×Int×(List UInt8)×Int×Bool×Int×Int×Bool×Bool×(List (List UInt8))×(List M.ae)×(List M.af),run:=fun x=>m x.2.1.1 x.2.1.2.1 x.2.1.2.2.2.2.1 x.2.1.2.2.2.2.2.1 x.2.1.2.2.2.2.2.2.2.1 x.2.1.2.2.2.2.2.2.2.2.1 x.2.1.2.2.2.2.2.2.2.2.2.1 x.2.1.2.2.2.2.2.2.2.2.2.2.1 x.2.2.1 x.2.2.2.1 x.2.2.2.2.1,dflt:=default,out:=fun r=>(Sh.enc D (.int .i64) r.1,dW.encs D [.box [.int .i64, .str, .own 4, .own 5, .int .i64, .bool, .own 6, .int .i64, .int .i64, .bool, .bool], .dead, .dead, .dead, .arr U.str, .tree U.Type, .tree U.Value] ((r.2.1,(r.2.2.1,((),((),(r.2.2.2.1,(r.2.2.2.2.1,((),(r.2.2.2.2.2.1,(r.2.2.2.2.2.2.1,(r.2.2.2.2.2.2.2.1,(r.2.2.2.2.2.2.2.2.1,()))))))))))),((),((),((),(r.2.2.2.2.2.2.2.2.2.1,(r.2.2.2.2.2.2.2.2.2.2.1,(r.2.2.2.2.2.2.2.2.2.2.2,()))))))))}
def En : Cx K:={iR with mode:=bn .plain [],deep:=fun c=>bT (D.cells c (K.zero c)),mv:=true,call:=callOf D [],loop:=bf []}
theorem LD : aH (En):=ax aF _ (bH)
theorem PI : (uV (M.ou)).Ok D Tryz.prog:=
 bz (cx:=En) (c:=uV (M.ou)) (fz:=true) (fn:=Tryz.f50) aF (LD) aj ⟨Tryz.func50,by kernel_rfl⟩ (bC (ay (by kernel_rfl))) ⟨⟨[.int .i64],[.box [.int .i64, .str, .own 4, .own 5, .int .i64, .bool, .own 6, .int .i64, .int .i64, .bool, .bool], .dead, .dead, .dead, .arr U.str, .tree U.Type, .tree U.Value]⟩,fun x=>(x.1.1,x.2.1.1,x.2.1.2.1,x.2.1.2.2.2.2.1,x.2.1.2.2.2.2.2.1,x.2.1.2.2.2.2.2.2.2.1,x.2.1.2.2.2.2.2.2.2.2.1,x.2.1.2.2.2.2.2.2.2.2.2.1,x.2.1.2.2.2.2.2.2.2.2.2.2.1,x.2.2.2.2.2.1,x.2.2.2.2.2.2.1,x.2.2.2.2.2.2.2.1)⟩ (fun x=>rfl) (fun x=>by kernel_rfl)
def Gq (m:M.ah->Option (Int)):bY K:={f:=80,sh:=⟨[.el U.Stream],[]⟩,R:=Int,run:=fun x=>m x.1.1,dflt:=default,out:=fun r=>(Sh.enc D (.int .i64) r,dW.encs D [] ())}
def Q7 : Cx K:={iR with mode:=bn .plain [],call:=callOf D [],loop:=bf []}
theorem Xz : aH (Q7):=ax aF _ (bH)
theorem abw : (Gq (M.Dk)).Ok D Tryz.prog:=
 bz (cx:=Q7) (c:=Gq (M.Dk)) (fz:=true) (fn:=Tryz.f80) aF (Xz) aj ⟨Tryz.func80,by kernel_rfl⟩ (bC (ay (by kernel_rfl))) ⟨⟨[.int .i64],[]⟩,fun x=>x.1.1⟩ (fun x=>rfl) (fun x=>by kernel_rfl)
def CQ (m:Int->Int->Option (Int)):bY K:={f:=81,sh:=⟨[.int .i64, .int .i64],[]⟩,R:=Int,run:=fun x=>m x.1.1 x.1.2.1,dflt:=default,out:=fun r=>(Sh.enc D (.int .i64) r,dW.encs D [] ())}
def U4 : Cx K:={iR with mode:=bn .plain [],call:=callOf D [],loop:=bf []}
theorem ZY : aH (U4):=ax aF _ (bH)
theorem U5 : (CQ (M.vJ)).Ok D Tryz.prog:=
 bz (cx:=U4) (c:=CQ (M.vJ)) (fz:=true) (fn:=Tryz.f81) aF (ZY) aj ⟨Tryz.func81,by kernel_rfl⟩ (bC (ay (by kernel_rfl))) ⟨⟨[.int .i64],[]⟩,fun x=>x.1.1⟩ (fun x=>rfl) (fun x=>by kernel_rfl)
def wJ (m:(List M.ai)->Int->Option (Int)):bY K:={f:=7,sh:=⟨[.bV U.aU, .int .i64],[]⟩,R:=Int,run:=fun x=>m x.1.1 x.1.2.1,dflt:=default,out:=fun r=>(Sh.enc D (.int .i64) r,dW.encs D [] ())}
def FD : Cx K:={iR with mode:=bn .plain [],call:=callOf D [],loop:=bf []}
theorem NR : aH (FD):=ax aF _ (bH)
theorem Q8 : (wJ (M.qi)).Ok D Tryz.prog:=
 bz (cx:=FD) (c:=wJ (M.qi)) (fz:=true) (fn:=Tryz.f7) aF (NR) aj ⟨Tryz.func7,by kernel_rfl⟩ (bC (ay (by kernel_rfl))) ⟨⟨[.int .i64],[]⟩,fun x=>x.1.1⟩ (fun x=>rfl) (fun x=>by kernel_rfl)
def yh (m:M.ai->Option (M.ai)):bY K:={f:=44,sh:=⟨[.el U.aU],[]⟩,R:=M.ai,run:=fun x=>m x.1.1,dflt:=default,out:=fun r=>(Sh.enc D (.el U.aU) r,dW.encs D [] ())}
def Ie : Cx K:={iR with mode:=bn .plain [],Zi:=[[]],deep:=fun c=>bT (D.cells c (K.zero c)),call:=callOf D [],loop:=bf []}
theorem PK : aH (Ie):=ax aF _ (bH)
theorem TG : (yh (M.vK)).Ok D Tryz.prog:=
 bz (cx:=Ie) (c:=yh (M.vK)) (fz:=false) (fn:=Tryz.f44) aF (PK) aj ⟨Tryz.func44,by kernel_rfl⟩ (bC (ay (by kernel_rfl))) ⟨⟨[.el U.aU],[]⟩,fun x=>x.1.1⟩ (fun x=>rfl) (fun x=>by kernel_rfl)
def yV (y:(List M.ai)) {R:Type} (k:Ex->List (AV K)->List (Ob K)->R):R:=match y with
 |a0=>k (Ex.exit 0) (eP.eU D ⟨[.own 1],[.dead, .arr U.aU]⟩ (((),()),((),(a0,())))) (eP.eY D ⟨[.own 1],[.dead, .arr U.aU]⟩ (((),()),((),(a0,()))))
def LG : List (fH K ((List M.ai))):=[⟨(Ex.exit 0),⟨[.own 1],[.dead, .arr U.aU]⟩,fun x=>x.2.2.1⟩]
def BM : fC K:=fM D false 23 1 [0,3,4] [3] ⟨[.bV U.aU, .own 1, .int .i64],[.dead, .arr U.aU]⟩ (fun x=>M.iC x.1.1 aG x.1.2.2.1 x.2.2.1) yV
def wK (m:(List M.ai)->Option ((List M.ai))):bY K:={f:=10,sh:=⟨[.bV U.aU],[]⟩,R:=(List M.ai),run:=fun x=>m x.1.1,dflt:=default,out:=fun r=>(Sh.enc D (.own 0) (),dW.encs D [.arr U.aU] (r,()))}
def sJ : Cx K:={iR with mode:=bn .plain [(44, .fresh)],Zi:=[[some U.aU]],deep:=fun c=>bT (D.cells c (K.zero c)),call:=callOf D [yh M.vK],loop:=bf [(3,BM)]}
theorem BN : aH (sJ):=ax aF _ (az TG (bH))
theorem KC : dB (sJ) (dH (dL Tryz.f10) 0) (BM):=
 df (cx:=sJ) (n:=23) (n0:=1) (ins:=[0,3,4]) (outs:=[3]) (sh:=⟨[.bV U.aU, .own 1, .int .i64],[.dead, .arr U.aU]⟩) (run:=fun n x=>M.iC x.1.1 n x.1.2.2.1 x.2.2.1) (fF:=LG) (out:=yV) aF (BN) aj (ay (by kernel_rfl)) (fun _=>rfl) (fun m x=>by kernel_rfl) (az ⟨dh,fun _ _ _=>rfl⟩ (bH)) false aG
theorem Q9 : (wK (M.qj)).Ok D Tryz.prog:=
 bz (cx:=sJ) (c:=wK (M.qj)) (fz:=false) (fn:=Tryz.f10) aF (BN) aj ⟨Tryz.func10,by kernel_rfl⟩ (bC (bF 1 (by kernel_rfl) (dV (.mk (by kernel_rfl) (KC))))) ⟨⟨[.own 0],[.arr U.aU]⟩,fun x=>x.2.1⟩ (fun x=>rfl) (fun x=>by kernel_rfl)
def BO (y:(List M.af)) {R:Type} (k:Ex->List (AV K)->List (Ob K)->R):R:=match y with
 |a0=>k (Ex.exit 0) (eP.eU D ⟨[.own 1],[.dead, .arr U.Value]⟩ (((),()),((),(a0,())))) (eP.eY D ⟨[.own 1],[.dead, .arr U.Value]⟩ (((),()),((),(a0,()))))
def PL : List (fH K ((List M.af))):=[⟨(Ex.exit 0),⟨[.own 1],[.dead, .arr U.Value]⟩,fun x=>x.2.2.1⟩]
def FH : fC K:=fM D false 21 1 [0,1,5,6] [5] ⟨[.int .i64, .int .i64, .own 1, .int .i64],[.dead, .arr U.Value]⟩ (fun x=>M.kX x.1.1 x.1.2.1 aG x.1.2.2.2.1 x.2.2.1) BO
def zH (m:Int->Int->Option ((List M.af))):bY K:={f:=39,sh:=⟨[.int .i64, .int .i64],[]⟩,R:=(List M.af),run:=fun x=>m x.1.1 x.1.2.1,dflt:=default,out:=fun r=>(Sh.enc D (.bV U.Value) r,dW.encs D [] ())}
def vT : Cx K:={iR with mode:=bn .plain [],call:=callOf D [],loop:=bf [(3,FH)]}
theorem FI : aH (vT):=ax aF _ (bH)
theorem NS : dB (vT) (dH (dL Tryz.f39) 0) (FH):=
 df (cx:=vT) (n:=21) (n0:=1) (ins:=[0,1,5,6]) (outs:=[5]) (sh:=⟨[.int .i64, .int .i64, .own 1, .int .i64],[.dead, .arr U.Value]⟩) (run:=fun n x=>M.kX x.1.1 x.1.2.1 n x.1.2.2.2.1 x.2.2.1) (fF:=PL) (out:=BO) aF (FI) aj (ay (by kernel_rfl)) (fun _=>rfl) (fun m x=>by kernel_rfl) (az ⟨dh,fun _ _ _=>rfl⟩ (bH)) false aG
theorem Wn : (zH (M.uH)).Ok D Tryz.prog:=
 bz (cx:=vT) (c:=zH (M.uH)) (fz:=true) (fn:=Tryz.f39) aF (FI) aj ⟨Tryz.func39,by kernel_rfl⟩ (bC (bF 1 (by kernel_rfl) (dV (.mk (by kernel_rfl) (NS))))) ⟨⟨[.bV U.Value],[]⟩,fun x=>x.1.1⟩ (fun x=>rfl) (fun x=>by kernel_rfl)
def uX (m:M.ai->Option (Bool)):bY K:={f:=48,sh:=⟨[.el U.aU],[]⟩,R:=Bool,run:=fun x=>m x.1.1,dflt:=default,out:=fun r=>(Sh.enc D (.bool) r,dW.encs D [] ())}
def Eo : Cx K:={iR with mode:=bn .plain [(46, .plain)],call:=callOf D [jw M.sW],loop:=bf []}
theorem LH : aH (Eo):=ax aF _ (az oK (bH))
theorem PM : (uX (M.rG)).Ok D Tryz.prog:=
 bz (cx:=Eo) (c:=uX (M.rG)) (fz:=true) (fn:=Tryz.f48) aF (LH) aj ⟨Tryz.func48,by kernel_rfl⟩ (bC (ay (by kernel_rfl))) ⟨⟨[.bool],[]⟩,fun x=>x.1.1⟩ (fun x=>rfl) (fun x=>by kernel_rfl)
def iZ (y:(Int)⊕(Unit)) {R:Type} (k:Ex->List (AV K)->List (Ob K)->R):R:=match y with
 | .inl a0=>k Ex.ret (eP.eU D ⟨[.int .i64],[]⟩ ((a0,()),())) (eP.eY D ⟨[.int .i64],[]⟩ ((a0,()),()))
 | .inr (a1)=>k (Ex.exit 0) (eP.eU D ⟨[.any],[]⟩ (((),()),())) (eP.eY D ⟨[.any],[]⟩ (((),()),()))
def qW : List (fH K ((Int)⊕(Unit))):=[⟨Ex.ret,⟨[.int .i64],[]⟩,fun x=> .inl x.1.1⟩,⟨(Ex.exit 0),⟨[.any],[]⟩,fun x=> .inr (())⟩]
def jJ : fC K:=fM D false 19 0 [0,1,7,8] [4] ⟨[.bV U.aU, .fn 48 [], .int .i64, .int .i64],[]⟩ (fun x=>M.bQ x.1.1 x.1.2.2.1 aG x.1.2.2.2.1) iZ
def gB (m:(List M.ai)->Option (Int)):bY K:={f:=91,sh:=⟨[.bV U.aU, .fn 48 []],[]⟩,R:=Int,run:=fun x=>m x.1.1,dflt:=default,out:=fun r=>(Sh.enc D (.int .i64) r,dW.encs D [] ())}
def fA : Cx K:={iR with mode:=bn .plain [(48, .plain)],call:=callOf D [uX M.rG],loop:=bf [(2,jJ)]}
theorem jK : aH (fA):=ax aF _ (az PM (bH))
theorem qC : dB (fA) (dH (dL Tryz.f91) 0) (jJ):=
 df (cx:=fA) (n:=19) (n0:=0) (ins:=[0,1,7,8]) (outs:=[4]) (sh:=⟨[.bV U.aU, .fn 48 [], .int .i64, .int .i64],[]⟩) (run:=fun n x=>M.bQ x.1.1 x.1.2.2.1 n x.1.2.2.2.1) (fF:=qW) (out:=iZ) aF (jK) aj (ay (by kernel_rfl)) (fun _=>rfl) (fun m x=>by kernel_rfl) (az ⟨iT,fun _ _ _=>rfl⟩ (az ⟨dh,fun _ _ _=>rfl⟩ (bH))) false aG
theorem sS : (gB (M.dX)).Ok D Tryz.prog:=
 bz (cx:=fA) (c:=gB (M.dX)) (fz:=true) (fn:=Tryz.f91) aF (jK) aj ⟨Tryz.func91,by kernel_rfl⟩ (bC (bF 1 (by kernel_rfl) (dV (.mk (by kernel_rfl) (qC))))) ⟨⟨[.int .i64],[]⟩,fun x=>x.1.1⟩ (fun x=>rfl) (fun x=>by kernel_rfl)
def fO (m:(List M.ai)->Option (Bool)):bY K:={f:=47,sh:=⟨[.bV U.aU, .fn 48 []],[]⟩,R:=Bool,run:=fun x=>m x.1.1,dflt:=default,out:=fun r=>(Sh.enc D (.bool) r,dW.encs D [] ())}
def jD : Cx K:={iR with mode:=bn .plain [(91, .plain)],call:=callOf D [gB M.dX],loop:=bf []}
theorem ql : aH (jD):=ax aF _ (az sS (bH))
theorem qX : (fO (M.dm)).Ok D Tryz.prog:=
 bz (cx:=jD) (c:=fO (M.dm)) (fz:=true) (fn:=Tryz.f47) aF (ql) aj ⟨Tryz.func47,by kernel_rfl⟩ (bC (ay (by kernel_rfl))) ⟨⟨[.bool],[]⟩,fun x=>x.1.1⟩ (fun x=>rfl) (fun x=>by kernel_rfl)
def yj (m:M.ai->M.ai->Option (Bool)):bY K:={f:=57,sh:=⟨[.el U.aU, .el U.aU],[]⟩,R:=Bool,run:=fun x=>m x.1.1 x.1.2.1,dflt:=default,out:=fun r=>(Sh.enc D (.bool) r,dW.encs D [] ())}
def Ig : Cx K:={iR with mode:=bn .plain [],call:=callOf D [],loop:=bf []}
theorem PN : aH (Ig):=ax aF _ (bH)
theorem TI : (yj (M.rX)).Ok D Tryz.prog:=
 bz (cx:=Ig) (c:=yj (M.rX)) (fz:=true) (fn:=Tryz.f57) aF (PN) aj ⟨Tryz.func57,by kernel_rfl⟩ (bC (ay (by kernel_rfl))) ⟨⟨[.bool],[]⟩,fun x=>x.1.1⟩ (fun x=>rfl) (fun x=>by kernel_rfl)
def yX (y:(Bool)⊕(Unit)) {R:Type} (k:Ex->List (AV K)->List (Ob K)->R):R:=match y with
 | .inl a0=>k Ex.ret (eP.eU D ⟨[.bool],[]⟩ ((a0,()),())) (eP.eY D ⟨[.bool],[]⟩ ((a0,()),()))
 | .inr (a1)=>k (Ex.exit 0) (eP.eU D ⟨[.any],[]⟩ (((),()),())) (eP.eY D ⟨[.any],[]⟩ (((),()),()))
def LJ : List (fH K ((Bool)⊕(Unit))):=[⟨Ex.ret,⟨[.bool],[]⟩,fun x=> .inl x.1.1⟩,⟨(Ex.exit 0),⟨[.any],[]⟩,fun x=> .inr (())⟩]
def BP : fC K:=fM D false 27 0 [0,1,5] [4] ⟨[.bV U.aU, .bV U.aU, .int .i64],[]⟩ (fun x=>M.jE x.1.1 x.1.2.1 aG x.1.2.2.1) yX
def wL (m:(List M.ai)->(List M.ai)->Option (Bool)):bY K:={f:=14,sh:=⟨[.bV U.aU, .bV U.aU],[]⟩,R:=Bool,run:=fun x=>m x.1.1 x.1.2.1,dflt:=default,out:=fun r=>(Sh.enc D (.bool) r,dW.encs D [] ())}
def sK : Cx K:={iR with mode:=bn .plain [(57, .plain)],call:=callOf D [yj M.rX],loop:=bf [(4,BP)]}
theorem BQ : aH (sK):=ax aF _ (az TI (bH))
theorem KD : dB (sK) (dH (dL Tryz.f14) 0) (BP):=
 df (cx:=sK) (n:=27) (n0:=0) (ins:=[0,1,5]) (outs:=[4]) (sh:=⟨[.bV U.aU, .bV U.aU, .int .i64],[]⟩) (run:=fun n x=>M.jE x.1.1 x.1.2.1 n x.1.2.2.1) (fF:=LJ) (out:=yX) aF (BQ) aj (ay (by kernel_rfl)) (fun _=>rfl) (fun m x=>by kernel_rfl) (az ⟨iT,fun _ _ _=>rfl⟩ (az ⟨dh,fun _ _ _=>rfl⟩ (bH))) false aG
theorem Rf : (wL (M.qm)).Ok D Tryz.prog:=
 bz (cx:=sK) (c:=wL (M.qm)) (fz:=true) (fn:=Tryz.f14) aF (BQ) aj ⟨Tryz.func14,by kernel_rfl⟩ (bC (bF 1 (by kernel_rfl) (dV (.mk (by kernel_rfl) (KD))))) ⟨⟨[.bool],[]⟩,fun x=>x.1.1⟩ (fun x=>rfl) (fun x=>by kernel_rfl)
def xq (y:Int×(List M.ai)) {R:Type} (k:Ex->List (AV K)->List (Ob K)->R):R:=match y with
 |a0=>k (Ex.exit 0) (eP.eU D ⟨[.int .i64],[.arr U.aU]⟩ ((a0.1,()),(a0.2,()))) (eP.eY D ⟨[.int .i64],[.arr U.aU]⟩ ((a0.1,()),(a0.2,())))
def IZ : List (fH K (Int×(List M.ai))):=[⟨(Ex.exit 0),⟨[.int .i64],[.arr U.aU]⟩,fun x=>(x.1.1,x.2.1)⟩]
def yY : fC K:=fM D true 38 1 [0,1,5] [1] ⟨[.own 0, .int .i64, .int .i64],[.arr U.aU]⟩ (fun x=>M.iw aG x.1.2.1 x.1.2.2.1 x.2.1) xq
def tV (m:Int->(List M.ai)->Option (Int×(List M.ai))):bY K:={f:=16,sh:=⟨[.own 0, .int .i64],[.arr U.aU]⟩,R:=Int×(List M.ai),run:=fun x=>m x.1.2.1 x.2.1,dflt:=default,out:=fun r=>(Sh.enc D (.int .i64) r.1,dW.encs D [.arr U.aU] (r.2,()))}
def pW : Cx K:={iR with mode:=bn .plain [],deep:=fun c=>bT (D.cells c (K.zero c)),opn:=true,call:=callOf D [],loop:=bf [(2,yY)]}
theorem yZ : aH (pW):=ax aF _ (bH)
theorem Ih : dB (pW) (dH (dL Tryz.f16) 0) (yY):=
 df (cx:=pW) (n:=38) (n0:=1) (ins:=[0,1,5]) (outs:=[1]) (sh:=⟨[.own 0, .int .i64, .int .i64],[.arr U.aU]⟩) (run:=fun n x=>M.iw n x.1.2.1 x.1.2.2.1 x.2.1) (fF:=IZ) (out:=xq) aF (yZ) aj (ay (by kernel_rfl)) (fun _=>rfl) (fun m x=>by kernel_rfl) (az ⟨dh,fun _ _ _=>rfl⟩ (bH)) true aG
theorem NT : (tV (M.mF)).Ok D Tryz.prog:=
 bz (cx:=pW) (c:=tV (M.mF)) (fz:=true) (fn:=Tryz.f16) aF (yZ) aj ⟨Tryz.func16,by kernel_rfl⟩ (bC (bF 1 (by kernel_rfl) (dV (.mk (by kernel_rfl) (Ih))))) ⟨⟨[.int .i64],[.arr U.aU]⟩,fun x=>(x.1.1,x.2.1)⟩ (fun x=>rfl) (fun x=>by kernel_rfl)
def jh (m:M.af->Int->Option (Int)):bY K:={f:=77,sh:=⟨[.el U.Value, .int .i64],[]⟩,R:=Int,run:=fun x=>m x.1.1 x.1.2.1,dflt:=default,out:=fun r=>(Sh.enc D (.int .i64) r,dW.encs D [] ())}
def FK (y:(Int)⊕(Int)) {R:Type} (k:Ex->List (AV K)->List (Ob K)->R):R:=match y with
 | .inl a0=>k Ex.ret (eP.eU D ⟨[.any, .int .i64],[]⟩ (((),(a0,())),())) (eP.eY D ⟨[.any, .int .i64],[]⟩ (((),(a0,())),()))
 | .inr (a1)=>k (Ex.exit 0) (eP.eU D ⟨[.int .i64, .any],[]⟩ ((a1,((),())),())) (eP.eY D ⟨[.int .i64, .any],[]⟩ ((a1,((),())),()))
def TJ : List (fH K ((Int)⊕(Int))):=[⟨Ex.ret,⟨[.any, .int .i64],[]⟩,fun x=> .inl x.1.2.1⟩,⟨(Ex.exit 0),⟨[.int .i64, .any],[]⟩,fun x=> .inr (x.1.1)⟩]
def J3 (aN:M.af->Int->Option (Int)):fC K:=fM D false 27 0 [0,1,5] [1,4] ⟨[.bV U.Value, .int .i64, .int .i64],[]⟩ (fun x=>M.pF aN x.1.1 aG x.1.2.1 x.1.2.2.1) FK
def yl (m:(List M.af)->Int->Option (Int)):bY K:={f:=33,sh:=⟨[.bV U.Value, .int .i64],[]⟩,R:=Int,run:=fun x=>m x.1.1 x.1.2.1,dflt:=default,out:=fun r=>(Sh.enc D (.int .i64) r,dW.encs D [] ())}
def Ag (aN:M.af->Int->Option (Int)):Cx K:={iR with mode:=bn .plain [(77, .plain)],call:=callOf D [jh aN],loop:=bf [(5,J3 aN)]}
theorem J4 (aN:M.af->Int->Option (Int)) (iI:(jh aN).Ok D Tryz.prog):aH (Ag aN):=ax aF _ (az iI (bH))
theorem Rh (aN:M.af->Int->Option (Int)) (iI:(jh aN).Ok D Tryz.prog):dB (Ag aN) (dH (dL Tryz.f33) 0) (J3 aN):=
 df (cx:=Ag aN) (n:=27) (n0:=0) (ins:=[0,1,5]) (outs:=[1,4]) (sh:=⟨[.bV U.Value, .int .i64, .int .i64],[]⟩) (run:=fun n x=>M.pF aN x.1.1 n x.1.2.1 x.1.2.2.1) (fF:=TJ) (out:=FK) aF (J4 aN iI) aj (ay (by kernel_rfl)) (fun _=>rfl) (fun m x=>by kernel_rfl) (az ⟨iT,fun _ _ _=>rfl⟩ (az ⟨dh,fun _ _ _=>rfl⟩ (bH))) false aG
theorem OM (aN:M.af->Int->Option (Int)) (iI:(jh aN).Ok D Tryz.prog):(yl (M.qY aN)).Ok D Tryz.prog:=
 bz (cx:=Ag aN) (c:=yl (M.qY aN)) (fz:=true) (fn:=Tryz.f33) aF (J4 aN iI) aj ⟨Tryz.func33,by kernel_rfl⟩ (bC (bF 1 (by kernel_rfl) (dV (.mk (by kernel_rfl) (Rh aN iI))))) ⟨⟨[.int .i64],[]⟩,fun x=>x.1.1⟩ (fun x=>rfl) (fun x=>by kernel_rfl)
def Ri (aN:M.af->Int->Option (Int)):Cx K:={iR with mode:=bn .plain [(33, .plain)],call:=callOf D [yl (M.qY aN)],loop:=bf []}
theorem XA (aN:M.af->Int->Option (Int)) (iI:(jh aN).Ok D Tryz.prog):aH (Ri aN):=ax aF _ (az (OM aN iI) (bH))
theorem XB (aN:M.af->Int->Option (Int)) (iI:(jh aN).Ok D Tryz.prog):(jh (M.AZ aN)).Ok D Tryz.prog:=
 bz (cx:=Ri aN) (c:=jh (M.AZ aN)) (fz:=true) (fn:=Tryz.f77) aF (XA aN iI) aj ⟨Tryz.func77,by kernel_rfl⟩ (bC (ay (by kernel_rfl))) ⟨⟨[.int .i64],[]⟩,fun x=>x.1.1⟩ (fun x=>rfl) (fun x=>by kernel_rfl)
theorem LK : ∀n,(jh (M.tX n)).Ok D Tryz.prog
 |0=>jm fun _=>rfl
 |n+1=>XB (M.tX n) (LK n)
theorem abx : (jh (M.Dl)).Ok D Tryz.prog:=LK aG
def ji (m:M.af->Option (Int×Int×(List UInt8)×(List M.af))):bY K:={f:=84,sh:=⟨[.el U.Value],[]⟩,R:=Int×Int×(List UInt8)×(List M.af),run:=fun x=>m x.1.1,dflt:=default,out:=fun r=>(Sh.enc D (.agg [.int .i64, .int .i64, .str, .own 0]) (r.1,(r.2.1,(r.2.2.1,((),())))),dW.encs D [.tree U.Value] (r.2.2.2,()))}
def FM (y:(List M.af)) {R:Type} (k:Ex->List (AV K)->List (Ob K)->R):R:=match y with
 |a0=>k (Ex.exit 0) (eP.eU D ⟨[.own 1],[.dead, .tree U.Value]⟩ (((),()),((),(a0,())))) (eP.eY D ⟨[.own 1],[.dead, .tree U.Value]⟩ (((),()),((),(a0,()))))
def TK : List (fH K ((List M.af))):=[⟨(Ex.exit 0),⟨[.own 1],[.dead, .tree U.Value]⟩,fun x=>x.2.2.1⟩]
def J5 (aP:M.af->Option (Int×Int×(List UInt8)×(List M.af))):fC K:=fM D false 23 1 [0,3,4] [3] ⟨[.bV U.Value, .own 1, .int .i64],[.dead, .tree U.Value]⟩ (fun x=>M.lW aP x.1.1 aG x.1.2.2.1 x.2.2.1) FM
def yt (m:(List M.af)->Option ((List M.af))):bY K:={f:=43,sh:=⟨[.bV U.Value],[]⟩,R:=(List M.af),run:=fun x=>m x.1.1,dflt:=default,out:=fun r=>(Sh.enc D (.own 0) (),dW.encs D [.tree U.Value] (r,()))}
def Ah (aP:M.af->Option (Int×Int×(List UInt8)×(List M.af))):Cx K:={iR with mode:=bn .plain [(84, .fresh)],Zi:=[[some U.Value]],deep:=fun c=>bT (D.cells c (K.zero c)),call:=callOf D [ji aP],loop:=bf [(3,J5 aP)]}
theorem J6 (aP:M.af->Option (Int×Int×(List UInt8)×(List M.af))) (iJ:(ji aP).Ok D Tryz.prog):aH (Ah aP):=ax aF _ (az iJ (bH))
theorem Rj (aP:M.af->Option (Int×Int×(List UInt8)×(List M.af))) (iJ:(ji aP).Ok D Tryz.prog):dB (Ah aP) (dH (dL Tryz.f43) 0) (J5 aP):=
 df (cx:=Ah aP) (n:=23) (n0:=1) (ins:=[0,3,4]) (outs:=[3]) (sh:=⟨[.bV U.Value, .own 1, .int .i64],[.dead, .tree U.Value]⟩) (run:=fun n x=>M.lW aP x.1.1 n x.1.2.2.1 x.2.2.1) (fF:=TK) (out:=FM) aF (J6 aP iJ) aj (ay (by kernel_rfl)) (fun _=>rfl) (fun m x=>by kernel_rfl) (az ⟨dh,fun _ _ _=>rfl⟩ (bH)) false aG
theorem OO (aP:M.af->Option (Int×Int×(List UInt8)×(List M.af))) (iJ:(ji aP).Ok D Tryz.prog):(yt (M.qZ aP)).Ok D Tryz.prog:=
 bz (cx:=Ah aP) (c:=yt (M.qZ aP)) (fz:=false) (fn:=Tryz.f43) aF (J6 aP iJ) aj ⟨Tryz.func43,by kernel_rfl⟩ (bC (bF 1 (by kernel_rfl) (dV (.mk (by kernel_rfl) (Rj aP iJ))))) ⟨⟨[.own 0],[.tree U.Value]⟩,fun x=>x.2.1⟩ (fun x=>rfl) (fun x=>by kernel_rfl)
def Rk (aP:M.af->Option (Int×Int×(List UInt8)×(List M.af))):Cx K:={iR with mode:=bn .plain [(43, .fresh)],Zi:=[[none,none,none,some U.Value]],deep:=fun c=>bT (D.cells c (K.zero c)),call:=callOf D [yt (M.qZ aP)],loop:=bf []}
theorem XC (aP:M.af->Option (Int×Int×(List UInt8)×(List M.af))) (iJ:(ji aP).Ok D Tryz.prog):aH (Rk aP):=ax aF _ (az (OO aP iJ) (bH))
theorem XD (aP:M.af->Option (Int×Int×(List UInt8)×(List M.af))) (iJ:(ji aP).Ok D Tryz.prog):(ji (M.A7 aP)).Ok D Tryz.prog:=
 bz (cx:=Rk aP) (c:=ji (M.A7 aP)) (fz:=false) (fn:=Tryz.f84) aF (XC aP iJ) aj ⟨Tryz.func84,by kernel_rfl⟩ (bC (ay (by kernel_rfl))) ⟨⟨[.agg [.int .i64, .int .i64, .str, .own 0]],[.tree U.Value]⟩,fun x=>(x.1.1.1,x.1.1.2.1,x.1.1.2.2.1,x.2.1)⟩ (fun x=>rfl) (fun x=>by kernel_rfl)
theorem LM : ∀n,(ji (M.tY n)).Ok D Tryz.prog
 |0=>jm fun _=>rfl
 |n+1=>XD (M.tY n) (LM n)
theorem aby : (ji (M.Dn)).Ok D Tryz.prog:=LM aG
def Ep (m:M.ah->Int->Option (Int)):bY K:={f:=6,sh:=⟨[.el U.Stream, .int .i64],[]⟩,R:=Int,run:=fun x=>m x.1.1 x.1.2.1,dflt:=default,out:=fun r=>(Sh.enc D (.int .i64) r,dW.encs D [] ())}
def OQ : Cx K:={iR with mode:=bn .plain [(32, .plain),(33, .plain)],call:=callOf D [jl M.Qq,yl (M.qY M.Dl)],loop:=bf []}
theorem Wp : aH (OQ):=ax aF _ (az acx (az (OM M.Dl abx) (bH)))
theorem ZZ : (Ep (M.zI)).Ok D Tryz.prog:=
 bz (cx:=OQ) (c:=Ep (M.zI)) (fz:=true) (fn:=Tryz.f6) aF (Wp) aj ⟨Tryz.func6,by kernel_rfl⟩ (bC (ay (by kernel_rfl))) ⟨⟨[.int .i64],[]⟩,fun x=>x.1.1⟩ (fun x=>rfl) (fun x=>by kernel_rfl)
def Es (m:M.ah->Option (Int×(List UInt8)×Int×Bool×Int×Int×Bool×Bool×(List (List UInt8))×(List M.ae)×(List M.af))):bY K:={f:=9,sh:=⟨[.el U.Stream],[]⟩,R:=Int×(List UInt8)×Int×Bool×Int×Int×Bool×Bool×(List (List UInt8))×(List M.ae)×(List M.af),run:=fun x=>m x.1.1,dflt:=default,out:=fun r=>(Sh.enc D (.agg [.int .i64, .str, .own 0, .own 1, .int .i64, .bool, .own 2, .int .i64, .int .i64, .bool, .bool]) (r.1,(r.2.1,((),((),(r.2.2.1,(r.2.2.2.1,((),(r.2.2.2.2.1,(r.2.2.2.2.2.1,(r.2.2.2.2.2.2.1,(r.2.2.2.2.2.2.2.1,()))))))))))),dW.encs D [.arr U.str, .tree U.Type, .tree U.Value] (r.2.2.2.2.2.2.2.2.1,(r.2.2.2.2.2.2.2.2.2.1,(r.2.2.2.2.2.2.2.2.2.2,()))))}
def OT : Cx K:={iR with mode:=bn .plain [(42, .fresh),(43, .fresh)],Zi:=[[none,none,some U.str,some U.Type,none,none,some U.Value,none,none,none,none]],deep:=fun c=>bT (D.cells c (K.zero c)),call:=callOf D [jo M.Qs,yt (M.qZ M.Dn)],loop:=bf []}
theorem Wq : aH (OT):=ax aF _ (az acy (az (OO M.Dn aby) (bH)))
theorem Z4 : (Es (M.zJ)).Ok D Tryz.prog:=
 bz (cx:=OT) (c:=Es (M.zJ)) (fz:=false) (fn:=Tryz.f9) aF (Wq) aj ⟨Tryz.func9,by kernel_rfl⟩ (bC (ay (by kernel_rfl))) ⟨⟨[.agg [.int .i64, .str, .own 0, .own 1, .int .i64, .bool, .own 2, .int .i64, .int .i64, .bool, .bool]],[.arr U.str, .tree U.Type, .tree U.Value]⟩,fun x=>(x.1.1.1,x.1.1.2.1,x.1.1.2.2.2.2.1,x.1.1.2.2.2.2.2.1,x.1.1.2.2.2.2.2.2.2.1,x.1.1.2.2.2.2.2.2.2.2.1,x.1.1.2.2.2.2.2.2.2.2.2.1,x.1.1.2.2.2.2.2.2.2.2.2.2.1,x.2.1,x.2.2.1,x.2.2.2.1)⟩ (fun x=>rfl) (fun x=>by kernel_rfl)
def Et (y:(List M.af)) {R:Type} (k:Ex->List (AV K)->List (Ob K)->R):R:=match y with
 |a0=>k (Ex.exit 0) (eP.eU D ⟨[.own 1],[.dead, .arr U.Value]⟩ (((),()),((),(a0,())))) (eP.eY D ⟨[.own 1],[.dead, .arr U.Value]⟩ (((),()),((),(a0,()))))
def Rl : List (fH K ((List M.af))):=[⟨(Ex.exit 0),⟨[.own 1],[.dead, .arr U.Value]⟩,fun x=>x.2.2.1⟩]
def Ii : fC K:=fM D false 21 1 [0,3,4] [3] ⟨[.bV U.Value, .own 1, .int .i64],[.dead, .arr U.Value]⟩ (fun x=>M.nz x.1.1 aG x.1.2.2.1 x.2.2.1) Et
def rH (m:(List M.af)->Option ((List M.af))):bY K:={f:=79,sh:=⟨[.bV U.Value],[]⟩,R:=(List M.af),run:=fun x=>m x.1.1,dflt:=default,out:=fun r=>(Sh.enc D (.own 0) (),dW.encs D [.arr U.Value] (r,()))}
def yu : Cx K:={iR with mode:=bn .plain [(109, .sF)],Zi:=[[some U.Value]],call:=callOf D [jB M.IV],loop:=bf [(3,Ii)]}
theorem Ij : aH (yu):=ax aF _ (az ZK (bH))
theorem PO : dB (yu) (dH (dL Tryz.f79) 0) (Ii):=
 df (cx:=yu) (n:=21) (n0:=1) (ins:=[0,3,4]) (outs:=[3]) (sh:=⟨[.bV U.Value, .own 1, .int .i64],[.dead, .arr U.Value]⟩) (run:=fun n x=>M.nz x.1.1 n x.1.2.2.1 x.2.2.1) (fF:=Rl) (out:=Et) aF (Ij) aj (ay (by kernel_rfl)) (fun _=>rfl) (fun m x=>by kernel_rfl) (az ⟨dh,fun _ _ _=>rfl⟩ (bH)) false aG
theorem Eu : (rH (M.jL)).Ok D Tryz.prog:=
 bz (cx:=yu) (c:=rH (M.jL)) (fz:=false) (fn:=Tryz.f79) aF (Ij) aj ⟨Tryz.func79,by kernel_rfl⟩ (bC (bF 1 (by kernel_rfl) (dV (.mk (by kernel_rfl) (PO))))) ⟨⟨[.own 0],[.arr U.Value]⟩,fun x=>x.2.1⟩ (fun x=>rfl) (fun x=>by kernel_rfl)
def I4 (m:M.ah->Option (M.ah)):bY K:={f:=35,sh:=⟨[.el U.Stream],[]⟩,R:=M.ah,run:=fun x=>m x.1.1,dflt:=default,out:=fun r=>(Sh.enc D (.el U.Stream) r,dW.encs D [] ())}
def U6 : Cx K:={iR with mode:=bn .plain [(78, .sF),(79, .fresh)],call:=callOf D [lF M.QQ,rH M.jL],loop:=bf []}
theorem Z5 : aH (U6):=ax aF _ (az acG (az Eu (bH)))
theorem acL : (I4 (M.Ew)).Ok D Tryz.prog:=
 bz (cx:=U6) (c:=I4 (M.Ew)) (fz:=true) (fn:=Tryz.f35) aF (Z5) aj ⟨Tryz.func35,by kernel_rfl⟩ (bC (ay (by kernel_rfl))) ⟨⟨[.el U.Stream],[]⟩,fun x=>x.1.1⟩ (fun x=>rfl) (fun x=>by kernel_rfl)
def Ey (m:M.ah->(List M.af)->Option (M.ah×Int×Int)):bY K:={f:=38,sh:=⟨[.el U.Stream, .bV U.Value],[]⟩,R:=M.ah×Int×Int,run:=fun x=>m x.1.1 x.1.2.1,dflt:=default,out:=fun r=>(Sh.enc D (.lD [.el U.Stream, .int .i64, .int .i64]) (r.1,(r.2.1,(r.2.2,()))),dW.encs D [] ())}
def OU : Cx K:={iR with mode:=bn .plain [(80, .plain),(81, .plain),(79, .fresh)],call:=callOf D [Gq M.Dk,CQ M.vJ,rH M.jL],loop:=bf []}
theorem Ws : aH (OU):=ax aF _ (az abw (az U5 (az Eu (bH))))
theorem Z7 : (Ey (M.zK)).Ok D Tryz.prog:=
 bz (cx:=OU) (c:=Ey (M.zK)) (fz:=true) (fn:=Tryz.f38) aF (Ws) aj ⟨Tryz.func38,by kernel_rfl⟩ (bC (ay (by kernel_rfl))) ⟨⟨[.lD [.el U.Stream, .int .i64, .int .i64]],[]⟩,fun x=>(x.1.1.1,x.1.1.2.1,x.1.1.2.2.1)⟩ (fun x=>rfl) (fun x=>by kernel_rfl)
open Go.V
def jk (m:M.af->M.af->Option (Bool)):bY K:={f:=56,sh:=⟨[.el U.Value, .el U.Value],[]⟩,R:=Bool,run:=fun x=>m x.1.1 x.1.2.1,dflt:=default,out:=fun r=>(Sh.enc D (.bool) r,dW.encs D [] ())}
def FN (y:(Bool)⊕(Unit)) {R:Type} (k:Ex->List (AV K)->List (Ob K)->R):R:=match y with
 | .inl a0=>k Ex.ret (eP.eU D ⟨[.bool],[]⟩ ((a0,()),())) (eP.eY D ⟨[.bool],[]⟩ ((a0,()),()))
 | .inr (a1)=>k (Ex.exit 0) (eP.eU D ⟨[.any],[]⟩ (((),()),())) (eP.eY D ⟨[.any],[]⟩ (((),()),()))
def TL : List (fH K ((Bool)⊕(Unit))):=[⟨Ex.ret,⟨[.bool],[]⟩,fun x=> .inl x.1.1⟩,⟨(Ex.exit 0),⟨[.any],[]⟩,fun x=> .inr (())⟩]
def J7 (aO:M.af->M.af->Option (Bool)):fC K:=fM D false 27 0 [0,1,5] [4] ⟨[.bV U.Value, .bV U.Value, .int .i64],[]⟩ (fun x=>M.pG aO x.1.1 x.1.2.1 aG x.1.2.2.1) FN
def tZ (m:(List M.af)->(List M.af)->Option (Bool)):bY K:={f:=13,sh:=⟨[.bV U.Value, .bV U.Value],[]⟩,R:=Bool,run:=fun x=>m x.1.1 x.1.2.1,dflt:=default,out:=fun r=>(Sh.enc D (.bool) r,dW.encs D [] ())}
def Ai (aO:M.af->M.af->Option (Bool)):Cx K:={iR with mode:=bn .plain [(56, .plain)],call:=callOf D [jk aO],loop:=bf [(4,J7 aO)]}
theorem J8 (aO:M.af->M.af->Option (Bool)) (iK:(jk aO).Ok D Tryz.prog):aH (Ai aO):=ax aF _ (az iK (bH))
theorem Rn (aO:M.af->M.af->Option (Bool)) (iK:(jk aO).Ok D Tryz.prog):dB (Ai aO) (dH (dL Tryz.f13) 0) (J7 aO):=
 df (cx:=Ai aO) (n:=27) (n0:=0) (ins:=[0,1,5]) (outs:=[4]) (sh:=⟨[.bV U.Value, .bV U.Value, .int .i64],[]⟩) (run:=fun n x=>M.pG aO x.1.1 x.1.2.1 n x.1.2.2.1) (fF:=TL) (out:=FN) aF (J8 aO iK) aj (ay (by kernel_rfl)) (fun _=>rfl) (fun m x=>by kernel_rfl) (az ⟨iT,fun _ _ _=>rfl⟩ (az ⟨dh,fun _ _ _=>rfl⟩ (bH))) false aG
theorem Gs (aO:M.af->M.af->Option (Bool)) (iK:(jk aO).Ok D Tryz.prog):(tZ (M.nC aO)).Ok D Tryz.prog:=
 bz (cx:=Ai aO) (c:=tZ (M.nC aO)) (fz:=true) (fn:=Tryz.f13) aF (J8 aO iK) aj ⟨Tryz.func13,by kernel_rfl⟩ (bC (bF 1 (by kernel_rfl) (dV (.mk (by kernel_rfl) (Rn aO iK))))) ⟨⟨[.bool],[]⟩,fun x=>x.1.1⟩ (fun x=>rfl) (fun x=>by kernel_rfl)
def Ro (aO:M.af->M.af->Option (Bool)):Cx K:={iR with mode:=bn .plain [(13, .plain)],call:=callOf D [tZ (M.nC aO)],loop:=bf []}
theorem XE (aO:M.af->M.af->Option (Bool)) (iK:(jk aO).Ok D Tryz.prog):aH (Ro aO):=ax aF _ (az (Gs aO iK) (bH))
theorem XF (aO:M.af->M.af->Option (Bool)) (iK:(jk aO).Ok D Tryz.prog):(jk (M.A8 aO)).Ok D Tryz.prog:=
 bz (cx:=Ro aO) (c:=jk (M.A8 aO)) (fz:=true) (fn:=Tryz.f56) aF (XE aO iK) aj ⟨Tryz.func56,by kernel_rfl⟩ (bC (ay (by kernel_rfl))) ⟨⟨[.bool],[]⟩,fun x=>x.1.1⟩ (fun x=>rfl) (fun x=>by kernel_rfl)
theorem LP : ∀n,(jk (M.uf n)).Ok D Tryz.prog
 |0=>jm fun _=>rfl
 |n+1=>XF (M.uf n) (LP n)
theorem Rq : (jk (M.uI)).Ok D Tryz.prog:=LP aG
def gY (m:M.af->Option (Int×Int×(List UInt8)×(List M.af))):bY K:={f:=119,sh:=⟨[.el U.Value],[]⟩,R:=Int×Int×(List UInt8)×(List M.af),run:=fun x=>m x.1.1,dflt:=default,out:=fun r=>(Sh.enc D (.agg [.int .i64, .int .i64, .str, .own 0]) (r.1,(r.2.1,(r.2.2.1,((),())))),dW.encs D [.tree U.Value] (r.2.2.2,()))}
def BR (y:(List M.af)) {R:Type} (k:Ex->List (AV K)->List (Ob K)->R):R:=match y with
 |a0=>k (Ex.exit 0) (eP.eU D ⟨[.own 1],[.dead, .tree U.Value]⟩ (((),()),((),(a0,())))) (eP.eY D ⟨[.own 1],[.dead, .tree U.Value]⟩ (((),()),((),(a0,()))))
def PQ : List (fH K ((List M.af))):=[⟨(Ex.exit 0),⟨[.own 1],[.dead, .tree U.Value]⟩,fun x=>x.2.2.1⟩]
def FO (aI:M.af->Option (Int×Int×(List UInt8)×(List M.af))):fC K:=fM D false 20 1 [3,7,8,9] [3] ⟨[.own 1, .bV U.Value, .int .i64, .int .i64],[.dead, .tree U.Value]⟩ (fun x=>M.kY aI x.1.2.1 x.1.2.2.1 aG x.1.2.2.2.1 x.2.2.1) BR
def mG (m:(List M.af)->Option ((List M.af))):bY K:={f:=93,sh:=⟨[.bV U.Value],[]⟩,R:=(List M.af),run:=fun x=>m x.1.1,dflt:=default,out:=fun r=>(Sh.enc D (.own 0) (),dW.encs D [.tree U.Value] (r,()))}
def vU (aI:M.af->Option (Int×Int×(List UInt8)×(List M.af))):Cx K:={iR with mode:=bn .plain [(119, .fresh)],Zi:=[[some U.Value]],deep:=fun c=>bT (D.cells c (K.zero c)),call:=callOf D [gY aI],loop:=bf [(3,FO aI)]}
theorem FP (aI:M.af->Option (Int×Int×(List UInt8)×(List M.af))) (gu:(gY aI).Ok D Tryz.prog):aH (vU aI):=ax aF _ (az gu (bH))
theorem NU (aI:M.af->Option (Int×Int×(List UInt8)×(List M.af))) (gu:(gY aI).Ok D Tryz.prog):dB (vU aI) (dH (dL Tryz.f93) 0) (FO aI):=
 df (cx:=vU aI) (n:=20) (n0:=1) (ins:=[3,7,8,9]) (outs:=[3]) (sh:=⟨[.own 1, .bV U.Value, .int .i64, .int .i64],[.dead, .tree U.Value]⟩) (run:=fun n x=>M.kY aI x.1.2.1 x.1.2.2.1 n x.1.2.2.2.1 x.2.2.1) (fF:=PQ) (out:=BR) aF (FP aI gu) aj (ay (by kernel_rfl)) (fun _=>rfl) (fun m x=>by kernel_rfl) (az ⟨dh,fun _ _ _=>rfl⟩ (bH)) false aG
theorem vV (aI:M.af->Option (Int×Int×(List UInt8)×(List M.af))) (gu:(gY aI).Ok D Tryz.prog):(mG (M.ik aI)).Ok D Tryz.prog:=
 bz (cx:=vU aI) (c:=mG (M.ik aI)) (fz:=false) (fn:=Tryz.f93) aF (FP aI gu) aj ⟨Tryz.func93,by kernel_rfl⟩ (bC (bF 1 (by kernel_rfl) (dV (.mk (by kernel_rfl) (NU aI gu))))) ⟨⟨[.own 0],[.tree U.Value]⟩,fun x=>x.2.1⟩ (fun x=>rfl) (fun x=>by kernel_rfl)
def LQ (aI:M.af->Option (Int×Int×(List UInt8)×(List M.af))):Cx K:={iR with mode:=bn .plain [(93, .fresh)],Zi:=[[none,none,none,some U.Value]],deep:=fun c=>bT (D.cells c (K.zero c)),call:=callOf D [mG (M.ik aI)],loop:=bf []}
theorem TM (aI:M.af->Option (Int×Int×(List UInt8)×(List M.af))) (gu:(gY aI).Ok D Tryz.prog):aH (LQ aI):=ax aF _ (az (vV aI gu) (bH))
theorem TN (aI:M.af->Option (Int×Int×(List UInt8)×(List M.af))) (gu:(gY aI).Ok D Tryz.prog):(gY (M.vM aI)).Ok D Tryz.prog:=
 bz (cx:=LQ aI) (c:=gY (M.vM aI)) (fz:=false) (fn:=Tryz.f119) aF (TM aI gu) aj ⟨Tryz.func119,by kernel_rfl⟩ (bC (ay (by kernel_rfl))) ⟨⟨[.agg [.int .i64, .int .i64, .str, .own 0]],[.tree U.Value]⟩,fun x=>(x.1.1.1,x.1.1.2.1,x.1.1.2.2.1,x.2.1)⟩ (fun x=>rfl) (fun x=>by kernel_rfl)
theorem Ik : ∀n,(gY (M.pI n)).Ok D Tryz.prog
 |0=>jm fun _=>rfl
 |n+1=>TN (M.pI n) (Ik n)
theorem Ez : (gY (M.jM)).Ok D Tryz.prog:=Ik aG
def BU (y:(Int×Int×(List UInt8)×Int×Bool×Int×Int×Bool×Bool×(List M.af)×(List (List UInt8))×(List M.ae)×(List M.af))⊕(Int×(List M.ai)×M.ah×Int×(List UInt8)×Int×Bool×Int×Int×Bool×Bool×(List (List UInt8))×(List M.ae)×(List M.af))) {R:Type} (k:Ex->List (AV K)->List (Ob K)->R):R:=match y with
 | .inl a0=>k Ex.ret (eP.eU D ⟨[.any, .any, .any, .ptr 1 0, .own 5, .int .i64],[.dead, .box [.int .i64, .str, .own 6, .own 7, .int .i64, .bool, .own 8, .int .i64, .int .i64, .bool, .bool], .dead, .dead, .dead, .arr U.Value, .arr U.str, .arr U.Type, .arr U.Value]⟩ (((),((),((),((),((),(a0.1,())))))),((),((a0.2.1,(a0.2.2.1,((),((),(a0.2.2.2.1,(a0.2.2.2.2.1,((),(a0.2.2.2.2.2.1,(a0.2.2.2.2.2.2.1,(a0.2.2.2.2.2.2.2.1,(a0.2.2.2.2.2.2.2.2.1,()))))))))))),((),((),((),(a0.2.2.2.2.2.2.2.2.2.1,(a0.2.2.2.2.2.2.2.2.2.2.1,(a0.2.2.2.2.2.2.2.2.2.2.2.1,(a0.2.2.2.2.2.2.2.2.2.2.2.2,()))))))))))) (eP.eY D ⟨[.any, .any, .any, .ptr 1 0, .own 5, .int .i64],[.dead, .box [.int .i64, .str, .own 6, .own 7, .int .i64, .bool, .own 8, .int .i64, .int .i64, .bool, .bool], .dead, .dead, .dead, .arr U.Value, .arr U.str, .arr U.Type, .arr U.Value]⟩ (((),((),((),((),((),(a0.1,())))))),((),((a0.2.1,(a0.2.2.1,((),((),(a0.2.2.2.1,(a0.2.2.2.2.1,((),(a0.2.2.2.2.2.1,(a0.2.2.2.2.2.2.1,(a0.2.2.2.2.2.2.2.1,(a0.2.2.2.2.2.2.2.2.1,()))))))))))),((),((),((),(a0.2.2.2.2.2.2.2.2.2.1,(a0.2.2.2.2.2.2.2.2.2.2.1,(a0.2.2.2.2.2.2.2.2.2.2.2.1,(a0.2.2.2.2.2.2.2.2.2.2.2.2,())))))))))))
 | .inr (a1)=>k (Ex.exit 0) (eP.eU D ⟨[.int .i64, .bV U.aU, .ptr 0 0, .ptr 1 0, .any, .any],[.el U.Stream, .box [.int .i64, .str, .own 5, .own 6, .int .i64, .bool, .own 7, .int .i64, .int .i64, .bool, .bool], .dead, .dead, .dead, .arr U.str, .arr U.Type, .arr U.Value]⟩ ((a1.1,(a1.2.1,((),((),((),((),())))))),(a1.2.2.1,((a1.2.2.2.1,(a1.2.2.2.2.1,((),((),(a1.2.2.2.2.2.1,(a1.2.2.2.2.2.2.1,((),(a1.2.2.2.2.2.2.2.1,(a1.2.2.2.2.2.2.2.2.1,(a1.2.2.2.2.2.2.2.2.2.1,(a1.2.2.2.2.2.2.2.2.2.2.1,()))))))))))),((),((),((),(a1.2.2.2.2.2.2.2.2.2.2.2.1,(a1.2.2.2.2.2.2.2.2.2.2.2.2.1,(a1.2.2.2.2.2.2.2.2.2.2.2.2.2,())))))))))) (eP.eY D ⟨[.int .i64, .bV U.aU, .ptr 0 0, .ptr 1 0, .any, .any],[.el U.Stream, .box [.int .i64, .str, .own 5, .own 6, .int .i64, .bool, .own 7, .int .i64, .int .i64, .bool, .bool], .dead, .dead, .dead, .arr U.str, .arr U.Type, .arr U.Value]⟩ ((a1.1,(a1.2.1,((),((),((),((),())))))),(a1.2.2.1,((a1.2.2.2.1,(a1.2.2.2.2.1,((),((),(a1.2.2.2.2.2.1,(a1.2.2.2.2.2.2.1,((),(a1.2.2.2.2.2.2.2.1,(a1.2.2.2.2.2.2.2.2.1,(a1.2.2.2.2.2.2.2.2.2.1,(a1.2.2.2.2.2.2.2.2.2.2.1,()))))))))))),((),((),((),(a1.2.2.2.2.2.2.2.2.2.2.2.1,(a1.2.2.2.2.2.2.2.2.2.2.2.2.1,(a1.2.2.2.2.2.2.2.2.2.2.2.2.2,()))))))))))
def PR : List (fH K ((Int×Int×(List UInt8)×Int×Bool×Int×Int×Bool×Bool×(List M.af)×(List (List UInt8))×(List M.ae)×(List M.af))⊕(Int×(List M.ai)×M.ah×Int×(List UInt8)×Int×Bool×Int×Int×Bool×Bool×(List (List UInt8))×(List M.ae)×(List M.af)))):=[⟨Ex.ret,⟨[.any, .any, .any, .ptr 1 0, .own 5, .int .i64],[.dead, .box [.int .i64, .str, .own 6, .own 7, .int .i64, .bool, .own 8, .int .i64, .int .i64, .bool, .bool], .dead, .dead, .dead, .arr U.Value, .arr U.str, .arr U.Type, .arr U.Value]⟩,fun x=> .inl (x.1.2.2.2.2.2.1,x.2.2.1.1,x.2.2.1.2.1,x.2.2.1.2.2.2.2.1,x.2.2.1.2.2.2.2.2.1,x.2.2.1.2.2.2.2.2.2.2.1,x.2.2.1.2.2.2.2.2.2.2.2.1,x.2.2.1.2.2.2.2.2.2.2.2.2.1,x.2.2.1.2.2.2.2.2.2.2.2.2.2.1,x.2.2.2.2.2.2.1,x.2.2.2.2.2.2.2.1,x.2.2.2.2.2.2.2.2.1,x.2.2.2.2.2.2.2.2.2.1)⟩,⟨(Ex.exit 0),⟨[.int .i64, .bV U.aU, .ptr 0 0, .ptr 1 0, .any, .any],[.el U.Stream, .box [.int .i64, .str, .own 5, .own 6, .int .i64, .bool, .own 7, .int .i64, .int .i64, .bool, .bool], .dead, .dead, .dead, .arr U.str, .arr U.Type, .arr U.Value]⟩,fun x=> .inr ((x.1.1,x.1.2.1,x.2.1,x.2.2.1.1,x.2.2.1.2.1,x.2.2.1.2.2.2.2.1,x.2.2.1.2.2.2.2.2.1,x.2.2.1.2.2.2.2.2.2.2.1,x.2.2.1.2.2.2.2.2.2.2.2.1,x.2.2.1.2.2.2.2.2.2.2.2.2.1,x.2.2.1.2.2.2.2.2.2.2.2.2.2.1,x.2.2.2.2.2.2.1,x.2.2.2.2.2.2.2.1,x.2.2.2.2.2.2.2.2.1))⟩]
def FQ : fC K:=fM D false 138 5 [1,2,3,6,9] [1,2,3,6,7,8] ⟨[.int .i64, .bV U.aU, .ptr 0 0, .ptr 1 0, .int .i64],[.el U.Stream, .box [.int .i64, .str, .own 5, .own 6, .int .i64, .bool, .own 7, .int .i64, .int .i64, .bool, .bool], .dead, .dead, .dead, .arr U.str, .arr U.Type, .arr U.Value]⟩ (fun x=>M.gZ x.1.1 x.1.2.1 x.2.2.1.1 x.2.2.1.2.1 x.2.2.1.2.2.2.2.1 x.2.2.1.2.2.2.2.2.1 x.2.2.1.2.2.2.2.2.2.2.1 x.2.2.1.2.2.2.2.2.2.2.2.1 x.2.2.1.2.2.2.2.2.2.2.2.2.1 x.2.2.1.2.2.2.2.2.2.2.2.2.2.1 x.2.2.2.2.2.2.1 x.2.2.2.2.2.2.2.1 x.2.2.2.2.2.2.2.2.1 aG x.1.2.2.2.2.1 x.2.1) BU
def Gt (m:M.ah->Int->Option (M.ah×(List M.af)×Int)):bY K:={f:=40,sh:=⟨[.el U.Stream, .int .i64],[]⟩,R:=M.ah×(List M.af)×Int,run:=fun x=>m x.1.1 x.1.2.1,dflt:=default,out:=fun r=>(Sh.enc D (.lD [.el U.Stream, .bV U.Value, .int .i64]) (r.1,(r.2.1,(r.2.2,()))),dW.encs D [] ())}
def Rt : Cx K:={iR with mode:=bn .plain [(81, .plain),(79, .fresh)],call:=callOf D [CQ M.vJ,rH M.jL],loop:=bf []}
theorem XG : aH (Rt):=ax aF _ (az U5 (az Eu (bH)))
theorem abz : (Gt (M.Dp)).Ok D Tryz.prog:=
 bz (cx:=Rt) (c:=Gt (M.Dp)) (fz:=true) (fn:=Tryz.f40) aF (XG) aj ⟨Tryz.func40,by kernel_rfl⟩ (bC (ay (by kernel_rfl))) ⟨⟨[.lD [.el U.Stream, .bV U.Value, .int .i64]],[]⟩,fun x=>(x.1.1.1,x.1.1.2.1,x.1.1.2.2.1)⟩ (fun x=>rfl) (fun x=>by kernel_rfl)
def BV (y:Int×(List UInt8)×Int×Bool×Int×Int×Bool×Bool×M.ah×(List M.af)×(List (List UInt8))×(List M.ae)×(List M.af)) {R:Type} (k:Ex->List (AV K)->List (Ob K)->R):R:=match y with
 |a0=>k (Ex.exit 2) (eP.eU D ⟨[.ptr 0 0, .ptr 1 0, .own 6],[.box [.int .i64, .str, .own 7, .own 8, .int .i64, .bool, .own 9, .int .i64, .int .i64, .bool, .bool], .el U.Stream, .dead, .dead, .dead, .dead, .arr U.Value, .arr U.str, .arr U.Type, .arr U.Value]⟩ (((),((),((),()))),((a0.1,(a0.2.1,((),((),(a0.2.2.1,(a0.2.2.2.1,((),(a0.2.2.2.2.1,(a0.2.2.2.2.2.1,(a0.2.2.2.2.2.2.1,(a0.2.2.2.2.2.2.2.1,()))))))))))),(a0.2.2.2.2.2.2.2.2.1,((),((),((),((),(a0.2.2.2.2.2.2.2.2.2.1,(a0.2.2.2.2.2.2.2.2.2.2.1,(a0.2.2.2.2.2.2.2.2.2.2.2.1,(a0.2.2.2.2.2.2.2.2.2.2.2.2,())))))))))))) (eP.eY D ⟨[.ptr 0 0, .ptr 1 0, .own 6],[.box [.int .i64, .str, .own 7, .own 8, .int .i64, .bool, .own 9, .int .i64, .int .i64, .bool, .bool], .el U.Stream, .dead, .dead, .dead, .dead, .arr U.Value, .arr U.str, .arr U.Type, .arr U.Value]⟩ (((),((),((),()))),((a0.1,(a0.2.1,((),((),(a0.2.2.1,(a0.2.2.2.1,((),(a0.2.2.2.2.1,(a0.2.2.2.2.2.1,(a0.2.2.2.2.2.2.1,(a0.2.2.2.2.2.2.2.1,()))))))))))),(a0.2.2.2.2.2.2.2.2.1,((),((),((),((),(a0.2.2.2.2.2.2.2.2.2.1,(a0.2.2.2.2.2.2.2.2.2.2.1,(a0.2.2.2.2.2.2.2.2.2.2.2.1,(a0.2.2.2.2.2.2.2.2.2.2.2.2,()))))))))))))
def PS : List (fH K (Int×(List UInt8)×Int×Bool×Int×Int×Bool×Bool×M.ah×(List M.af)×(List (List UInt8))×(List M.ae)×(List M.af))):=[⟨(Ex.exit 2),⟨[.ptr 0 0, .ptr 1 0, .own 6],[.box [.int .i64, .str, .own 7, .own 8, .int .i64, .bool, .own 9, .int .i64, .int .i64, .bool, .bool], .el U.Stream, .dead, .dead, .dead, .dead, .arr U.Value, .arr U.str, .arr U.Type, .arr U.Value]⟩,fun x=>(x.2.1.1,x.2.1.2.1,x.2.1.2.2.2.2.1,x.2.1.2.2.2.2.2.1,x.2.1.2.2.2.2.2.2.2.1,x.2.1.2.2.2.2.2.2.2.2.1,x.2.1.2.2.2.2.2.2.2.2.2.1,x.2.1.2.2.2.2.2.2.2.2.2.2.1,x.2.2.1,x.2.2.2.2.2.2.2.1,x.2.2.2.2.2.2.2.2.1,x.2.2.2.2.2.2.2.2.2.1,x.2.2.2.2.2.2.2.2.2.2.1)⟩]
def FT : fC K:=fM D false 138 6 [1,2,6,10,11,12] [6,10,11] ⟨[.int .i64, .bV U.aU, .ptr 0 0, .ptr 1 0, .own 6, .int .i64],[.box [.int .i64, .str, .own 7, .own 8, .int .i64, .bool, .own 9, .int .i64, .int .i64, .bool, .bool], .el U.Stream, .dead, .dead, .dead, .dead, .arr U.Value, .arr U.str, .arr U.Type, .arr U.Value]⟩ (fun x=>M.dC x.1.2.1 x.2.1.1 x.2.1.2.1 x.2.1.2.2.2.2.1 x.2.1.2.2.2.2.2.1 x.2.1.2.2.2.2.2.2.2.1 x.2.1.2.2.2.2.2.2.2.2.1 x.2.1.2.2.2.2.2.2.2.2.2.1 x.2.1.2.2.2.2.2.2.2.2.2.2.1 x.2.2.2.2.2.2.2.2.1 x.2.2.2.2.2.2.2.2.2.1 x.2.2.2.2.2.2.2.2.2.2.1 aG x.1.1 x.1.2.2.2.2.2.1 x.2.2.1 x.2.2.2.2.2.2.2.1) BV
def zL (m:M.ah->Int->(List M.ai)->Option (M.ah×(List M.af)×Int)):bY K:={f:=8,sh:=⟨[.el U.Stream, .int .i64, .bV U.aU],[]⟩,R:=M.ah×(List M.af)×Int,run:=fun x=>m x.1.1 x.1.2.1 x.1.2.2.1,dflt:=default,out:=fun r=>(Sh.enc D (.lD [.el U.Stream, .bV U.Value, .int .i64]) (r.1,(r.2.1,(r.2.2,()))),dW.encs D [] ())}
def oz : Cx K:={iR with mode:=bn .plain [(23, .plain),(34, .plain),(35, .sF),(36, .sF),(37, .sF),(39, .sF),(38, .sF),(41, .plain),(40, .sF)],call:=callOf D [DZ M.zu,qG M.EU,I4 M.Ew,Gp M.Dj,D6 M.zx,zH M.uH,Ey M.zK,Ci M.rE,Gt M.Dp],loop:=bf [(10,FQ),(17,FT)]}
theorem yw : aH (oz):=ax aF _ (az ZI (az y9 (az acL (az abv (az ZL (az Wn (az Z7 (az UG (az abz (bH))))))))))
theorem NV : dB (oz) (dH (dL Tryz.f8) 0) (FQ):=
 df (cx:=oz) (n:=138) (n0:=5) (ins:=[1,2,3,6,9]) (outs:=[1,2,3,6,7,8]) (sh:=⟨[.int .i64, .bV U.aU, .ptr 0 0, .ptr 1 0, .int .i64],[.el U.Stream, .box [.int .i64, .str, .own 5, .own 6, .int .i64, .bool, .own 7, .int .i64, .int .i64, .bool, .bool], .dead, .dead, .dead, .arr U.str, .arr U.Type, .arr U.Value]⟩) (run:=fun n x=>M.gZ x.1.1 x.1.2.1 x.2.2.1.1 x.2.2.1.2.1 x.2.2.1.2.2.2.2.1 x.2.2.1.2.2.2.2.2.1 x.2.2.1.2.2.2.2.2.2.2.1 x.2.2.1.2.2.2.2.2.2.2.2.1 x.2.2.1.2.2.2.2.2.2.2.2.2.1 x.2.2.1.2.2.2.2.2.2.2.2.2.2.1 x.2.2.2.2.2.2.1 x.2.2.2.2.2.2.2.1 x.2.2.2.2.2.2.2.2.1 n x.1.2.2.2.2.1 x.2.1) (fF:=PR) (out:=BU) aF (yw) aj (ay (by kernel_rfl)) (fun _=>rfl) (fun m x=>by kernel_rfl) (az ⟨iT,fun _ _ _=>rfl⟩ (az ⟨dh,fun _ _ _=>rfl⟩ (bH))) false aG
theorem NW : dB (oz) (dH (dL Tryz.f8) 1) (FT):=
 df (cx:=oz) (n:=138) (n0:=6) (ins:=[1,2,6,10,11,12]) (outs:=[6,10,11]) (sh:=⟨[.int .i64, .bV U.aU, .ptr 0 0, .ptr 1 0, .own 6, .int .i64],[.box [.int .i64, .str, .own 7, .own 8, .int .i64, .bool, .own 9, .int .i64, .int .i64, .bool, .bool], .el U.Stream, .dead, .dead, .dead, .dead, .arr U.Value, .arr U.str, .arr U.Type, .arr U.Value]⟩) (run:=fun n x=>M.dC x.1.2.1 x.2.1.1 x.2.1.2.1 x.2.1.2.2.2.2.1 x.2.1.2.2.2.2.2.1 x.2.1.2.2.2.2.2.2.2.1 x.2.1.2.2.2.2.2.2.2.2.1 x.2.1.2.2.2.2.2.2.2.2.2.1 x.2.1.2.2.2.2.2.2.2.2.2.2.1 x.2.2.2.2.2.2.2.2.1 x.2.2.2.2.2.2.2.2.2.1 x.2.2.2.2.2.2.2.2.2.2.1 n x.1.1 x.1.2.2.2.2.2.1 x.2.2.1 x.2.2.2.2.2.2.2.1) (fF:=PS) (out:=BV) aF (yw) aj (ay (by kernel_rfl)) (fun _=>rfl) (fun m x=>by kernel_rfl) (az ⟨dh,fun _ _ _=>rfl⟩ (bH)) false aG
theorem Wu : (zL (M.uJ)).Ok D Tryz.prog:=
 bz (cx:=oz) (c:=zL (M.uJ)) (fz:=true) (fn:=Tryz.f8) aF (yw) aj ⟨Tryz.func8,by kernel_rfl⟩ (bC (bF 2 (by kernel_rfl) (lt_succ (dV (.mk (by kernel_rfl) (NV))) (.mk (by kernel_rfl) (NW))))) ⟨⟨[.lD [.el U.Stream, .bV U.Value, .int .i64]],[]⟩,fun x=>(x.1.1.1,x.1.1.2.1,x.1.1.2.2.1)⟩ (fun x=>rfl) (fun x=>by kernel_rfl)
def zM (m:M.ah->Option (Int×(List UInt8)×Int×Bool×Int×Int×Bool×Bool×(List (List UInt8))×(List M.ae)×(List M.af))):bY K:={f:=49,sh:=⟨[.el U.Stream],[]⟩,R:=Int×(List UInt8)×Int×Bool×Int×Int×Bool×Bool×(List (List UInt8))×(List M.ae)×(List M.af),run:=fun x=>m x.1.1,dflt:=default,out:=fun r=>(Sh.enc D (.agg [.int .i64, .str, .own 0, .own 1, .int .i64, .bool, .own 2, .int .i64, .int .i64, .bool, .bool]) (r.1,(r.2.1,((),((),(r.2.2.1,(r.2.2.2.1,((),(r.2.2.2.2.1,(r.2.2.2.2.2.1,(r.2.2.2.2.2.2.1,(r.2.2.2.2.2.2.2.1,()))))))))))),dW.encs D [.arr U.str, .tree U.Type, .tree U.Value] (r.2.2.2.2.2.2.2.2.1,(r.2.2.2.2.2.2.2.2.2.1,(r.2.2.2.2.2.2.2.2.2.2,()))))}
def J9 : Cx K:={iR with mode:=bn .plain [(92, .fresh),(93, .fresh)],Zi:=[[none,none,some U.str,some U.Type,none,none,some U.Value,none,none,none,none]],deep:=fun c=>bT (D.cells c (K.zero c)),call:=callOf D [gV M.IM,mG (M.ik M.jM)],loop:=bf []}
theorem Ru : aH (J9):=ax aF _ (az ZA (az (vV M.jM Ez) (bH)))
theorem Wv : (zM (M.rf)).Ok D Tryz.prog:=
 bz (cx:=J9) (c:=zM (M.rf)) (fz:=false) (fn:=Tryz.f49) aF (Ru) aj ⟨Tryz.func49,by kernel_rfl⟩ (bC (ay (by kernel_rfl))) ⟨⟨[.agg [.int .i64, .str, .own 0, .own 1, .int .i64, .bool, .own 2, .int .i64, .int .i64, .bool, .bool]],[.arr U.str, .tree U.Type, .tree U.Value]⟩,fun x=>(x.1.1.1,x.1.1.2.1,x.1.1.2.2.2.2.1,x.1.1.2.2.2.2.2.1,x.1.1.2.2.2.2.2.2.2.1,x.1.1.2.2.2.2.2.2.2.2.1,x.1.1.2.2.2.2.2.2.2.2.2.1,x.1.1.2.2.2.2.2.2.2.2.2.2.1,x.2.1,x.2.2.1,x.2.2.2.1)⟩ (fun x=>rfl) (fun x=>by kernel_rfl)
def PT (m:Int->Option (Int×Int×(List UInt8)×(List M.af))):bY K:={f:=94,sh:=⟨[.int .i64],[]⟩,R:=Int×Int×(List UInt8)×(List M.af),run:=fun x=>m x.1.1,dflt:=default,out:=fun r=>(Sh.enc D (.agg [.int .i64, .int .i64, .str, .own 0]) (r.1,(r.2.1,(r.2.2.1,((),())))),dW.encs D [.tree U.Value] (r.2.2.2,()))}
def aat : Cx K:={iR with mode:=bn .plain [],Zi:=[[none,none,none,some U.Value]],deep:=fun c=>bT (D.cells c (K.zero c)),call:=callOf D [],loop:=bf []}
theorem acM : aH (aat):=ax aF _ (bH)
theorem agh : (PT (M.ael)).Ok D Tryz.prog:=
 bz (cx:=aat) (c:=PT (M.ael)) (fz:=false) (fn:=Tryz.f94) aF (acM) aj ⟨Tryz.func94,by kernel_rfl⟩ (bC (ay (by kernel_rfl))) ⟨⟨[.agg [.int .i64, .int .i64, .str, .own 0]],[.tree U.Value]⟩,fun x=>(x.1.1.1,x.1.1.2.1,x.1.1.2.2.1,x.2.1)⟩ (fun x=>rfl) (fun x=>by kernel_rfl)
def Ba (y:(List M.af)) {R:Type} (k:Ex->List (AV K)->List (Ob K)->R):R:=match y with
 |a0=>k (Ex.exit 0) (eP.eU D ⟨[.own 1],[.dead, .tree U.Value]⟩ (((),()),((),(a0,())))) (eP.eY D ⟨[.own 1],[.dead, .tree U.Value]⟩ (((),()),((),(a0,()))))
def NY : List (fH K ((List M.af))):=[⟨(Ex.exit 0),⟨[.own 1],[.dead, .tree U.Value]⟩,fun x=>x.2.2.1⟩]
def EC : fC K:=fM D false 21 1 [0,5,8,9] [5] ⟨[.int .i64, .own 1, .int .i64, .int .i64],[.dead, .tree U.Value]⟩ (fun x=>M.jX x.1.1 x.1.2.2.1 aG x.1.2.2.2.1 x.2.2.1) Ba
def yx (m:Int->Int->Option ((List M.af))):bY K:={f:=53,sh:=⟨[.int .i64, .int .i64],[]⟩,R:=(List M.af),run:=fun x=>m x.1.1 x.1.2.1,dflt:=default,out:=fun r=>(Sh.enc D (.own 0) (),dW.encs D [.tree U.Value] (r,()))}
def uK : Cx K:={iR with mode:=bn .plain [(94, .fresh)],Zi:=[[some U.Value]],deep:=fun c=>bT (D.cells c (K.zero c)),call:=callOf D [PT M.ael],loop:=bf [(3,EC)]}
theorem ED : aH (uK):=ax aF _ (az agh (bH))
theorem LU : dB (uK) (dH (dL Tryz.f53) 0) (EC):=
 df (cx:=uK) (n:=21) (n0:=1) (ins:=[0,5,8,9]) (outs:=[5]) (sh:=⟨[.int .i64, .own 1, .int .i64, .int .i64],[.dead, .tree U.Value]⟩) (run:=fun n x=>M.jX x.1.1 x.1.2.2.1 n x.1.2.2.2.1 x.2.2.1) (fF:=NY) (out:=Ba) aF (ED) aj (ay (by kernel_rfl)) (fun _=>rfl) (fun m x=>by kernel_rfl) (az ⟨dh,fun _ _ _=>rfl⟩ (bH)) false aG
theorem TP : (yx (M.rY)).Ok D Tryz.prog:=
 bz (cx:=uK) (c:=yx (M.rY)) (fz:=false) (fn:=Tryz.f53) aF (ED) aj ⟨Tryz.func53,by kernel_rfl⟩ (bC (bF 1 (by kernel_rfl) (dV (.mk (by kernel_rfl) (LU))))) ⟨⟨[.own 0],[.tree U.Value]⟩,fun x=>x.2.1⟩ (fun x=>rfl) (fun x=>by kernel_rfl)
def wM (m:(List M.af)->Int->(List UInt8)->Int->Bool->Int->Int->Bool->Bool->(List (List UInt8))->(List M.ae)->(List M.af)->Option (Int×Int×Int×(List UInt8)×Int×Bool×Int×Int×Bool×Bool×(List (List UInt8))×(List M.ae)×(List M.af))):bY K:={f:=52,sh:=⟨[.ptr 0 0, .bV U.Value],[.box [.int .i64, .str, .own 1, .own 2, .int .i64, .bool, .own 3, .int .i64, .int .i64, .bool, .bool], .arr U.str, .tree U.Type, .tree U.Value]⟩,R:=Int×Int×Int×(List UInt8)×Int×Bool×Int×Int×Bool×Bool×(List (List UInt8))×(List M.ae)×(List M.af),run:=fun x=>m x.1.2.1 x.2.1.1 x.2.1.2.1 x.2.1.2.2.2.2.1 x.2.1.2.2.2.2.2.1 x.2.1.2.2.2.2.2.2.2.1 x.2.1.2.2.2.2.2.2.2.2.1 x.2.1.2.2.2.2.2.2.2.2.2.1 x.2.1.2.2.2.2.2.2.2.2.2.2.1 x.2.2.1 x.2.2.2.1 x.2.2.2.2.1,dflt:=default,out:=fun r=>(Sh.enc D (.lD [.int .i64, .int .i64]) (r.1,(r.2.1,())),dW.encs D [.box [.int .i64, .str, .own 4, .own 5, .int .i64, .bool, .own 6, .int .i64, .int .i64, .bool, .bool], .dead, .dead, .dead, .arr U.str, .tree U.Type, .tree U.Value] ((r.2.2.1,(r.2.2.2.1,((),((),(r.2.2.2.2.1,(r.2.2.2.2.2.1,((),(r.2.2.2.2.2.2.1,(r.2.2.2.2.2.2.2.1,(r.2.2.2.2.2.2.2.2.1,(r.2.2.2.2.2.2.2.2.2.1,()))))))))))),((),((),((),(r.2.2.2.2.2.2.2.2.2.2.1,(r.2.2.2.2.2.2.2.2.2.2.2.1,(r.2.2.2.2.2.2.2.2.2.2.2.2,()))))))))}
def FU : Cx K:={iR with mode:=bn .plain [(86, .plain),(90, .plain),(93, .fresh)],deep:=fun c=>bT (D.cells c (K.zero c)),mv:=true,call:=callOf D [qh M.x9,CP M.vG,mG (M.ik M.jM)],loop:=bf []}
theorem NZ : aH (FU):=ax aF _ (az BF (az U3 (az (vV M.jM Ez) (bH))))
theorem Rw : (wM (M.qo)).Ok D Tryz.prog:=
 bz (cx:=FU) (c:=wM (M.qo)) (fz:=true) (fn:=Tryz.f52) aF (NZ) aj ⟨Tryz.func52,by kernel_rfl⟩ (bC (ay (by kernel_rfl))) ⟨⟨[.lD [.int .i64, .int .i64]],[.box [.int .i64, .str, .own 4, .own 5, .int .i64, .bool, .own 6, .int .i64, .int .i64, .bool, .bool], .dead, .dead, .dead, .arr U.str, .tree U.Type, .tree U.Value]⟩,fun x=>(x.1.1.1,x.1.1.2.1,x.2.1.1,x.2.1.2.1,x.2.1.2.2.2.2.1,x.2.1.2.2.2.2.2.1,x.2.1.2.2.2.2.2.2.2.1,x.2.1.2.2.2.2.2.2.2.2.1,x.2.1.2.2.2.2.2.2.2.2.2.1,x.2.1.2.2.2.2.2.2.2.2.2.2.1,x.2.2.2.2.2.1,x.2.2.2.2.2.2.1,x.2.2.2.2.2.2.2.1)⟩ (fun x=>rfl) (fun x=>by kernel_rfl)
def yz (m:Int->Int->(List UInt8)->Int->Bool->Int->Int->Bool->Bool->(List (List UInt8))->(List M.ae)->(List M.af)->Option (Int×Int×(List UInt8)×Int×Bool×Int×Int×Bool×Bool×(List M.af)×(List (List UInt8))×(List M.ae)×(List M.af))):bY K:={f:=54,sh:=⟨[.ptr 0 0, .int .i64],[.box [.int .i64, .str, .own 1, .own 2, .int .i64, .bool, .own 3, .int .i64, .int .i64, .bool, .bool], .arr U.str, .tree U.Type, .tree U.Value]⟩,R:=Int×Int×(List UInt8)×Int×Bool×Int×Int×Bool×Bool×(List M.af)×(List (List UInt8))×(List M.ae)×(List M.af),run:=fun x=>m x.1.2.1 x.2.1.1 x.2.1.2.1 x.2.1.2.2.2.2.1 x.2.1.2.2.2.2.2.1 x.2.1.2.2.2.2.2.2.2.1 x.2.1.2.2.2.2.2.2.2.2.1 x.2.1.2.2.2.2.2.2.2.2.2.1 x.2.1.2.2.2.2.2.2.2.2.2.2.1 x.2.2.1 x.2.2.2.1 x.2.2.2.2.1,dflt:=default,out:=fun r=>(Sh.enc D (.lD [.own 4, .int .i64]) ((),(r.1,())),dW.encs D [.box [.int .i64, .str, .own 5, .own 6, .int .i64, .bool, .own 7, .int .i64, .int .i64, .bool, .bool], .dead, .dead, .dead, .tree U.Value, .arr U.str, .tree U.Type, .tree U.Value] ((r.2.1,(r.2.2.1,((),((),(r.2.2.2.1,(r.2.2.2.2.1,((),(r.2.2.2.2.2.1,(r.2.2.2.2.2.2.1,(r.2.2.2.2.2.2.2.1,(r.2.2.2.2.2.2.2.2.1,()))))))))))),((),((),((),(r.2.2.2.2.2.2.2.2.2.1,(r.2.2.2.2.2.2.2.2.2.2.1,(r.2.2.2.2.2.2.2.2.2.2.2.1,(r.2.2.2.2.2.2.2.2.2.2.2.2,())))))))))}
def Il : Cx K:={iR with mode:=bn .plain [(46, .plain),(86, .plain),(93, .fresh)],Zi:=[[some U.Value],[]],cut:=true,deep:=fun c=>bT (D.cells c (K.zero c)),vws:=true,mv:=true,call:=callOf D [jw M.sW,qh M.x9,mG (M.ik M.jM)],loop:=bf []}
theorem PU : aH (Il):=ax aF _ (az oK (az BF (az (vV M.jM Ez) (bH))))
theorem TQ : (yz (M.rZ)).Ok D Tryz.prog:=
 bz (cx:=Il) (c:=yz (M.rZ)) (fz:=false) (fn:=Tryz.f54) aF (PU) aj ⟨Tryz.func54,by kernel_rfl⟩ (bC (ay (by kernel_rfl))) ⟨⟨[.lD [.own 4, .int .i64]],[.box [.int .i64, .str, .own 5, .own 6, .int .i64, .bool, .own 7, .int .i64, .int .i64, .bool, .bool], .dead, .dead, .dead, .tree U.Value, .arr U.str, .tree U.Type, .tree U.Value]⟩,fun x=>(x.1.1.2.1,x.2.1.1,x.2.1.2.1,x.2.1.2.2.2.2.1,x.2.1.2.2.2.2.2.1,x.2.1.2.2.2.2.2.2.2.1,x.2.1.2.2.2.2.2.2.2.2.1,x.2.1.2.2.2.2.2.2.2.2.2.1,x.2.1.2.2.2.2.2.2.2.2.2.2.1,x.2.2.2.2.2.1,x.2.2.2.2.2.2.1,x.2.2.2.2.2.2.2.1,x.2.2.2.2.2.2.2.2.1)⟩ (fun x=>rfl) (fun x=>by kernel_rfl)
def BX (y:Int×(List UInt8)×Int×Bool×Int×Int×Bool×Bool×Int×(List UInt8)×Int×Bool×Int×Int×Bool×Bool×(List M.af)×(List (List UInt8))×(List M.ae)×(List M.af)×(List (List UInt8))×(List M.ae)×(List M.af)) {R:Type} (k:Ex->List (AV K)->List (Ob K)->R):R:=match y with
 |a0=>k (Ex.exit 1) (eP.eU D ⟨[.ptr 0 0, .ptr 1 0, .own 9],[.box [.int .i64, .str, .own 10, .own 11, .int .i64, .bool, .own 12, .int .i64, .int .i64, .bool, .bool], .box [.int .i64, .str, .own 13, .own 14, .int .i64, .bool, .own 15, .int .i64, .int .i64, .bool, .bool], .dead, .dead, .dead, .dead, .dead, .dead, .dead, .tree U.Value, .arr U.str, .tree U.Type, .tree U.Value, .arr U.str, .tree U.Type, .tree U.Value]⟩ (((),((),((),()))),((a0.1,(a0.2.1,((),((),(a0.2.2.1,(a0.2.2.2.1,((),(a0.2.2.2.2.1,(a0.2.2.2.2.2.1,(a0.2.2.2.2.2.2.1,(a0.2.2.2.2.2.2.2.1,()))))))))))),((a0.2.2.2.2.2.2.2.2.1,(a0.2.2.2.2.2.2.2.2.2.1,((),((),(a0.2.2.2.2.2.2.2.2.2.2.1,(a0.2.2.2.2.2.2.2.2.2.2.2.1,((),(a0.2.2.2.2.2.2.2.2.2.2.2.2.1,(a0.2.2.2.2.2.2.2.2.2.2.2.2.2.1,(a0.2.2.2.2.2.2.2.2.2.2.2.2.2.2.1,(a0.2.2.2.2.2.2.2.2.2.2.2.2.2.2.2.1,()))))))))))),((),((),((),((),((),((),((),(a0.2.2.2.2.2.2.2.2.2.2.2.2.2.2.2.2.1,(a0.2.2.2.2.2.2.2.2.2.2.2.2.2.2.2.2.2.1,(a0.2.2.2.2.2.2.2.2.2.2.2.2.2.2.2.2.2.2.1,(a0.2.2.2.2.2.2.2.2.2.2.2.2.2.2.2.2.2.2.2.1,(a0.2.2.2.2.2.2.2.2.2.2.2.2.2.2.2.2.2.2.2.2.1,(a0.2.2.2.2.2.2.2.2.2.2.2.2.2.2.2.2.2.2.2.2.2.1,(a0.2.2.2.2.2.2.2.2.2.2.2.2.2.2.2.2.2.2.2.2.2.2,())))))))))))))))))) (eP.eY D ⟨[.ptr 0 0, .ptr 1 0, .own 9],[.box [.int .i64, .str, .own 10, .own 11, .int .i64, .bool, .own 12, .int .i64, .int .i64, .bool, .bool], .box [.int .i64, .str, .own 13, .own 14, .int .i64, .bool, .own 15, .int .i64, .int .i64, .bool, .bool], .dead, .dead, .dead, .dead, .dead, .dead, .dead, .tree U.Value, .arr U.str, .tree U.Type, .tree U.Value, .arr U.str, .tree U.Type, .tree U.Value]⟩ (((),((),((),()))),((a0.1,(a0.2.1,((),((),(a0.2.2.1,(a0.2.2.2.1,((),(a0.2.2.2.2.1,(a0.2.2.2.2.2.1,(a0.2.2.2.2.2.2.1,(a0.2.2.2.2.2.2.2.1,()))))))))))),((a0.2.2.2.2.2.2.2.2.1,(a0.2.2.2.2.2.2.2.2.2.1,((),((),(a0.2.2.2.2.2.2.2.2.2.2.1,(a0.2.2.2.2.2.2.2.2.2.2.2.1,((),(a0.2.2.2.2.2.2.2.2.2.2.2.2.1,(a0.2.2.2.2.2.2.2.2.2.2.2.2.2.1,(a0.2.2.2.2.2.2.2.2.2.2.2.2.2.2.1,(a0.2.2.2.2.2.2.2.2.2.2.2.2.2.2.2.1,()))))))))))),((),((),((),((),((),((),((),(a0.2.2.2.2.2.2.2.2.2.2.2.2.2.2.2.2.1,(a0.2.2.2.2.2.2.2.2.2.2.2.2.2.2.2.2.2.1,(a0.2.2.2.2.2.2.2.2.2.2.2.2.2.2.2.2.2.2.1,(a0.2.2.2.2.2.2.2.2.2.2.2.2.2.2.2.2.2.2.2.1,(a0.2.2.2.2.2.2.2.2.2.2.2.2.2.2.2.2.2.2.2.2.1,(a0.2.2.2.2.2.2.2.2.2.2.2.2.2.2.2.2.2.2.2.2.2.1,(a0.2.2.2.2.2.2.2.2.2.2.2.2.2.2.2.2.2.2.2.2.2.2,()))))))))))))))))))
def PV : List (fH K (Int×(List UInt8)×Int×Bool×Int×Int×Bool×Bool×Int×(List UInt8)×Int×Bool×Int×Int×Bool×Bool×(List M.af)×(List (List UInt8))×(List M.ae)×(List M.af)×(List (List UInt8))×(List M.ae)×(List M.af))):=[⟨(Ex.exit 1),⟨[.ptr 0 0, .ptr 1 0, .own 9],[.box [.int .i64, .str, .own 10, .own 11, .int .i64, .bool, .own 12, .int .i64, .int .i64, .bool, .bool], .box [.int .i64, .str, .own 13, .own 14, .int .i64, .bool, .own 15, .int .i64, .int .i64, .bool, .bool], .dead, .dead, .dead, .dead, .dead, .dead, .dead, .tree U.Value, .arr U.str, .tree U.Type, .tree U.Value, .arr U.str, .tree U.Type, .tree U.Value]⟩,fun x=>(x.2.1.1,x.2.1.2.1,x.2.1.2.2.2.2.1,x.2.1.2.2.2.2.2.1,x.2.1.2.2.2.2.2.2.2.1,x.2.1.2.2.2.2.2.2.2.2.1,x.2.1.2.2.2.2.2.2.2.2.2.1,x.2.1.2.2.2.2.2.2.2.2.2.2.1,x.2.2.1.1,x.2.2.1.2.1,x.2.2.1.2.2.2.2.1,x.2.2.1.2.2.2.2.2.1,x.2.2.1.2.2.2.2.2.2.2.1,x.2.2.1.2.2.2.2.2.2.2.2.1,x.2.2.1.2.2.2.2.2.2.2.2.2.1,x.2.2.1.2.2.2.2.2.2.2.2.2.2.1,x.2.2.2.2.2.2.2.2.2.2.1,x.2.2.2.2.2.2.2.2.2.2.2.1,x.2.2.2.2.2.2.2.2.2.2.2.2.1,x.2.2.2.2.2.2.2.2.2.2.2.2.2.1,x.2.2.2.2.2.2.2.2.2.2.2.2.2.2.1,x.2.2.2.2.2.2.2.2.2.2.2.2.2.2.2.1,x.2.2.2.2.2.2.2.2.2.2.2.2.2.2.2.2.1)⟩]
def FV : fC K:=fM D false 91 9 [1,6,9,10,45,46,47] [6,9,10] ⟨[.int .i64, .ptr 0 0, .ptr 1 0, .own 9, .bV U.aU, .int .i64, .int .i64],[.box [.int .i64, .str, .own 10, .own 11, .int .i64, .bool, .own 12, .int .i64, .int .i64, .bool, .bool], .box [.int .i64, .str, .own 13, .own 14, .int .i64, .bool, .own 15, .int .i64, .int .i64, .bool, .bool], .dead, .dead, .dead, .dead, .dead, .dead, .dead, .tree U.Value, .arr U.str, .tree U.Type, .tree U.Value, .arr U.str, .tree U.Type, .tree U.Value]⟩ (fun x=>M.fB x.1.2.2.2.2.1 x.1.2.2.2.2.2.1 x.2.1.1 x.2.1.2.1 x.2.1.2.2.2.2.1 x.2.1.2.2.2.2.2.1 x.2.1.2.2.2.2.2.2.2.1 x.2.1.2.2.2.2.2.2.2.2.1 x.2.1.2.2.2.2.2.2.2.2.2.1 x.2.1.2.2.2.2.2.2.2.2.2.2.1 x.2.2.2.2.2.2.2.2.2.2.2.1 x.2.2.2.2.2.2.2.2.2.2.2.2.1 x.2.2.2.2.2.2.2.2.2.2.2.2.2.1 aG x.1.1 x.1.2.2.2.2.2.2.1 x.2.2.1.1 x.2.2.1.2.1 x.2.2.1.2.2.2.2.1 x.2.2.1.2.2.2.2.2.1 x.2.2.1.2.2.2.2.2.2.2.1 x.2.2.1.2.2.2.2.2.2.2.2.1 x.2.2.1.2.2.2.2.2.2.2.2.2.1 x.2.2.1.2.2.2.2.2.2.2.2.2.2.1 x.2.2.2.2.2.2.2.2.2.2.1 x.2.2.2.2.2.2.2.2.2.2.2.2.2.2.1 x.2.2.2.2.2.2.2.2.2.2.2.2.2.2.2.1 x.2.2.2.2.2.2.2.2.2.2.2.2.2.2.2.2.1) BX
def zN (m:M.ah->Int->(List M.ai)->Option (Int×(List UInt8)×Int×Bool×Int×Int×Bool×Bool×Int×(List (List UInt8))×(List M.ae)×(List M.af)×(List M.af))):bY K:={f:=11,sh:=⟨[.el U.Stream, .int .i64, .bV U.aU],[]⟩,R:=Int×(List UInt8)×Int×Bool×Int×Int×Bool×Bool×Int×(List (List UInt8))×(List M.ae)×(List M.af)×(List M.af),run:=fun x=>m x.1.1 x.1.2.1 x.1.2.2.1,dflt:=default,out:=fun r=>(Sh.enc D (.lD [.agg [.int .i64, .str, .own 0, .own 1, .int .i64, .bool, .own 2, .int .i64, .int .i64, .bool, .bool], .own 3, .int .i64]) ((r.1,(r.2.1,((),((),(r.2.2.1,(r.2.2.2.1,((),(r.2.2.2.2.1,(r.2.2.2.2.2.1,(r.2.2.2.2.2.2.1,(r.2.2.2.2.2.2.2.1,()))))))))))),((),(r.2.2.2.2.2.2.2.2.1,()))),dW.encs D [.arr U.str, .tree U.Type, .tree U.Value, .tree U.Value] (r.2.2.2.2.2.2.2.2.2.1,(r.2.2.2.2.2.2.2.2.2.2.1,(r.2.2.2.2.2.2.2.2.2.2.2.1,(r.2.2.2.2.2.2.2.2.2.2.2.2,())))))}
def vW : Cx K:={iR with mode:=bn .plain [(45, .plain),(46, .plain),(47, .plain),(49, .fresh),(50, .aau),(51, .aau),(53, .fresh),(52, .aau),(54, .aau)],Zi:=[[none,none,some U.str,some U.Type,none,none,some U.Value,none,none,none,none],[some U.Value],[]],deep:=fun c=>bT (D.cells c (K.zero c)),call:=callOf D [Eb M.zC,jw M.sW,fO M.dm,zM M.rf,uV M.ou,tJ M.mi,yx M.rY,wM M.qo,yz M.rZ],loop:=bf [(13,FV)]}
theorem FW : aH (vW):=ax aF _ (az ZV (az oK (az qX (az Wv (az PI (az NK (az TP (az Rw (az TQ (bH))))))))))
theorem N7 : dB (vW) (dH (dL Tryz.f11) 0) (FV):=
 df (cx:=vW) (n:=91) (n0:=9) (ins:=[1,6,9,10,45,46,47]) (outs:=[6,9,10]) (sh:=⟨[.int .i64, .ptr 0 0, .ptr 1 0, .own 9, .bV U.aU, .int .i64, .int .i64],[.box [.int .i64, .str, .own 10, .own 11, .int .i64, .bool, .own 12, .int .i64, .int .i64, .bool, .bool], .box [.int .i64, .str, .own 13, .own 14, .int .i64, .bool, .own 15, .int .i64, .int .i64, .bool, .bool], .dead, .dead, .dead, .dead, .dead, .dead, .dead, .tree U.Value, .arr U.str, .tree U.Type, .tree U.Value, .arr U.str, .tree U.Type, .tree U.Value]⟩) (run:=fun n x=>M.fB x.1.2.2.2.2.1 x.1.2.2.2.2.2.1 x.2.1.1 x.2.1.2.1 x.2.1.2.2.2.2.1 x.2.1.2.2.2.2.2.1 x.2.1.2.2.2.2.2.2.2.1 x.2.1.2.2.2.2.2.2.2.2.1 x.2.1.2.2.2.2.2.2.2.2.2.1 x.2.1.2.2.2.2.2.2.2.2.2.2.1 x.2.2.2.2.2.2.2.2.2.2.2.1 x.2.2.2.2.2.2.2.2.2.2.2.2.1 x.2.2.2.2.2.2.2.2.2.2.2.2.2.1 n x.1.1 x.1.2.2.2.2.2.2.1 x.2.2.1.1 x.2.2.1.2.1 x.2.2.1.2.2.2.2.1 x.2.2.1.2.2.2.2.2.1 x.2.2.1.2.2.2.2.2.2.2.1 x.2.2.1.2.2.2.2.2.2.2.2.1 x.2.2.1.2.2.2.2.2.2.2.2.2.1 x.2.2.1.2.2.2.2.2.2.2.2.2.2.1 x.2.2.2.2.2.2.2.2.2.2.1 x.2.2.2.2.2.2.2.2.2.2.2.2.2.2.1 x.2.2.2.2.2.2.2.2.2.2.2.2.2.2.2.1 x.2.2.2.2.2.2.2.2.2.2.2.2.2.2.2.2.1) (fF:=PV) (out:=BX) aF (FW) aj (ay (by kernel_rfl)) (fun _=>rfl) (fun m x=>by kernel_rfl) (az ⟨dh,fun _ _ _=>rfl⟩ (bH)) false aG
theorem Wx : (zN (M.uM)).Ok D Tryz.prog:=
 bz (cx:=vW) (c:=zN (M.uM)) (fz:=false) (fn:=Tryz.f11) aF (FW) aj ⟨Tryz.func11,by kernel_rfl⟩ (bC (bF 1 (by kernel_rfl) (dV (.mk (by kernel_rfl) (N7))))) ⟨⟨[.lD [.agg [.int .i64, .str, .own 0, .own 1, .int .i64, .bool, .own 2, .int .i64, .int .i64, .bool, .bool], .own 3, .int .i64]],[.arr U.str, .tree U.Type, .tree U.Value, .tree U.Value]⟩,fun x=>(x.1.1.1.1,x.1.1.1.2.1,x.1.1.1.2.2.2.2.1,x.1.1.1.2.2.2.2.2.1,x.1.1.1.2.2.2.2.2.2.2.1,x.1.1.1.2.2.2.2.2.2.2.2.1,x.1.1.1.2.2.2.2.2.2.2.2.2.1,x.1.1.1.2.2.2.2.2.2.2.2.2.2.1,x.1.1.2.2.1,x.2.1,x.2.2.1,x.2.2.2.1,x.2.2.2.2.1)⟩ (fun x=>rfl) (fun x=>by kernel_rfl)
def EE (m:M.ah->M.ah->Option (Bool)):bY K:={f:=12,sh:=⟨[.el U.Stream, .el U.Stream],[]⟩,R:=Bool,run:=fun x=>m x.1.1 x.1.2.1,dflt:=default,out:=fun r=>(Sh.enc D (.bool) r,dW.encs D [] ())}
def OV : Cx K:={iR with mode:=bn .plain [(55, .plain),(13, .plain)],call:=callOf D [jq M.Qv,tZ (M.nC M.uI)],loop:=bf []}
theorem Wy : aH (OV):=ax aF _ (az acz (az (Gs M.uI Rq) (bH)))
theorem Z8 : (EE (M.wO)).Ok D Tryz.prog:=
 bz (cx:=OV) (c:=EE (M.wO)) (fz:=true) (fn:=Tryz.f12) aF (Wy) aj ⟨Tryz.func12,by kernel_rfl⟩ (bC (ay (by kernel_rfl))) ⟨⟨[.bool],[]⟩,fun x=>x.1.1⟩ (fun x=>rfl) (fun x=>by kernel_rfl)
def qp (m:M.ah->Int->(List M.ai)->Option (Bool)):bY K:={f:=3,sh:=⟨[.el U.Stream, .int .i64, .bV U.aU],[]⟩,R:=Bool,run:=fun x=>m x.1.1 x.1.2.1 x.1.2.2.1,dflt:=default,out:=fun r=>(Sh.enc D (.bool) r,dW.encs D [] ())}
def yA : Cx K:={iR with mode:=bn .plain [(6, .plain),(7, .plain),(9, .fresh),(10, .fresh),(8, .sF),(11, .fresh),(12, .plain),(13, .plain),(14, .plain),(15, .pass),(16, .pass),(17, .pass),(18, .plain),(19, .plain)],deep:=fun c=>bT (D.cells c (K.zero c)),call:=callOf D [Ep M.zI,wJ M.qi,Es M.zJ,wK M.qj,zL M.uJ,zN M.uM,EE M.wO,tZ (M.nC M.uI),wL M.qm,zD M.oP,tV M.mF,gp M.qR,zG M.qV,gq M.qU],loop:=bf []}
theorem Gu : aH (yA):=ax aF _ (az ZZ (az Q8 (az Z4 (az Q9 (az Wu (az Wx (az Z8 (az (Gs M.uI Rq) (az Rf (az Wi (az NT (az JW (az Wl (az JY (bH)))))))))))))))
theorem I5 : (qp (M.jH)).Ok D Tryz.prog:=
 bz (cx:=yA) (c:=qp (M.jH)) (fz:=true) (fn:=Tryz.f3) aF (Gu) aj ⟨Tryz.func3,by kernel_rfl⟩ (bC (ay (by kernel_rfl))) ⟨⟨[.bool],[]⟩,fun x=>x.1.1⟩ (fun x=>rfl) (fun x=>by kernel_rfl)
