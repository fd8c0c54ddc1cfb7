/-
  Part of the proof of the claim.
-/
import Derived.Test.YtefdfjaifkhphaaGreatDoorXUQM
import Derived.Test.YtefdfjaifkhphaaGreatDoorXUHdA
import Derived.Test.YtefdfjaifkhphaaGreatDoorXUHdS
import Derived.Test.YtefdfjaifkhphaaGreatDoorXUHdU
import Derived.Test.YtefdfjaifkhphaaGreatDoorXUHdR
import Derived.Test.YtefdfjaifkhphaaGreatDoorProg
set_option linter.unusedVariables false
set_option maxRecDepth 100000
open Go Go.Proofs
open Go.V
noncomputable section
def aaR : Go.TypeId->Option U:=aU [(2,U.i64),(3,U.i64),(4,U.bool),(5,U.u8),(6,U.u8),(9,U.str),(10,U.str),(11,U.str),(12,U.u64),(21,U.i32),(22,U.aaS),(24,U.TV),(25,U.KT),(27,U.Type),(28,U.EY),(30,U.Stream),(31,U.qm),(38,U.Value),(52,U.pM),(54,U.Gg),(73,U.u64),(75,U.bW),(90,U.u64),(134,U.u32),(152,U.i64),(162,U.u64),(178,U.u8),(179,U.u8),(182,U.i32),(183,U.i32)]
def afd : Go.TypeId->List (Option U):=aV [] [(22,[some U.u8]),(24,[some U.str]),(25,[some U.Type]),(27,[none,none,some U.str,some U.Type]),(28,[some U.Value]),(30,[none,none,some U.str,some U.Type,none,none,some U.Value,none,none,none,none]),(31,[some U.pM]),(38,[none,none,none,some U.Value]),(54,[some U.i64]),(75,[some U.u8,none,none])]
theorem ai : Tryz.prog.follows .mixedOrders=true:=by kernel_rfl
def iG : Cx K:={P:=Tryz.prog,D:=D,ty:=aaR,sls:=afd,mode:=aV .plain [],call:=callOf D [],loop:=aU []}
def jl (m:M.ae->Int->Option (Int×Int)):bI K:={f:=89,sh:=⟨[.el U.Type, .int .i64],[]⟩,R:=Int×Int,run:=fun x=>m x.1.1 x.1.2.1,dflt:=default,out:=fun r=>(Sh.enc D (.ik [.int .i64, .int .i64]) (r.1,(r.2,())),dK.encs D [] ())}
def EZ (m:Int->Int->Option (Int)):bI K:={f:=43,sh:=⟨[.int .i64, .int .i64],[]⟩,R:=Int,run:=fun x=>m x.1.1 x.1.2.1,dflt:=default,out:=fun r=>(Sh.enc D (.int .i64) r,dK.encs D [] ())}
def Qs : Cx K:={iG with mode:=aV .plain [],call:=callOf D [],loop:=aU []}
theorem V9 : aG (Qs):=aB aH _ (bg)
theorem Ze : (EZ (M.yE)).Ok D Tryz.prog:=
 aW (cx:=Qs) (c:=EZ (M.yE)) (fz:=true) (fn:=Tryz.f43) aH (V9) ai ⟨Tryz.func43,by kernel_rfl⟩ (aX (az (by kernel_rfl))) ⟨⟨[.int .i64],[]⟩,fun x=>x.1.1⟩ (fun x=>rfl) (fun x=>by kernel_rfl)
def Dx (y:(Int×Int)⊕(Int×Int)) {R:Type} (k:Ex->List (AV K)->List (Ob K)->R):R:=match y with
 | .inl a0=>k Ex.ret (gB.gW D ⟨[.any, .any, .int .i64, .int .i64],[.dead]⟩ (((),((),(a0.1,(a0.2,())))),((),()))) (gB.gY D ⟨[.any, .any, .int .i64, .int .i64],[.dead]⟩ (((),((),(a0.1,(a0.2,())))),((),())))
 | .inr (a1)=>k (Ex.exit 0) (gB.gW D ⟨[.int .i64, .int .i64, .any, .any],[.dead]⟩ ((a1.1,(a1.2,((),((),())))),((),()))) (gB.gY D ⟨[.int .i64, .int .i64, .any, .any],[.dead]⟩ ((a1.1,(a1.2,((),((),())))),((),())))
def RH : List (jb K ((Int×Int)⊕(Int×Int))):=[⟨Ex.ret,⟨[.any, .any, .int .i64, .int .i64],[.dead]⟩,fun x=> .inl (x.1.2.2.1,x.1.2.2.2.1)⟩,⟨(Ex.exit 0),⟨[.int .i64, .int .i64, .any, .any],[.dead]⟩,fun x=> .inr ((x.1.1,x.1.2.1))⟩]
def Hr (bf:M.ae->Int->Option (Int×Int)):gZ K:=jh D false 48 1 [1,2,6,7,8] [6,7,4,5] ⟨[.int .i64, .ptr 0 0, .int .i64, .int .i64, .int .i64],[.el U.Type]⟩ (fun x=>M.mi bf x.1.1 aP x.1.2.2.1 x.1.2.2.2.1 x.1.2.2.2.2.1 x.2.1) Dx
def zB (bf:M.ae->Int->Option (Int×Int)):Cx K:={iG with mode:=aV .plain [(89, .plain),(43, .plain)],call:=callOf D [jl bf,EZ M.yE],loop:=aU [(6,Hr bf)]}
theorem Ht (bf:M.ae->Int->Option (Int×Int)) (nO:(jl bf).Ok D Tryz.prog):aG (zB bf):=aB aH _ (aA nO (aA Ze (bg)))
theorem OZ (bf:M.ae->Int->Option (Int×Int)) (nO:(jl bf).Ok D Tryz.prog):eG (zB bf) (eQ (fG Tryz.f89) 0) (Hr bf):=
 dU (cx:=zB bf) (n:=48) (n0:=1) (ins:=[1,2,6,7,8]) (outs:=[6,7,4,5]) (sh:=⟨[.int .i64, .ptr 0 0, .int .i64, .int .i64, .int .i64],[.el U.Type]⟩) (run:=fun n x=>M.mi bf x.1.1 n x.1.2.2.1 x.1.2.2.2.1 x.1.2.2.2.2.1 x.2.1) (iW:=RH) (out:=Dx) aH (Ht bf nO) ai (az (by kernel_rfl)) (fun _=>rfl) (fun m x=>by kernel_rfl) (aA ⟨oN,fun _ _ _=>rfl⟩ (aA ⟨dV,fun _ _ _=>rfl⟩ (bg))) false aP
theorem TW (bf:M.ae->Int->Option (Int×Int)) (nO:(jl bf).Ok D Tryz.prog):(jl (M.yF bf)).Ok D Tryz.prog:=
 aW (cx:=zB bf) (c:=jl (M.yF bf)) (fz:=true) (fn:=Tryz.f89) aH (Ht bf nO) ai ⟨Tryz.func89,by kernel_rfl⟩ (aX (bV 1 (by kernel_rfl) (gI (.mk (by kernel_rfl) (OZ bf nO))))) ⟨⟨[.ik [.int .i64, .int .i64]],[]⟩,fun x=>(x.1.1.1,x.1.1.2.1)⟩ (fun x=>rfl) (fun x=>by kernel_rfl)
theorem Hu : ∀n,(jl (M.oC n)).Ok D Tryz.prog
 |0=>oO fun _=>rfl
 |n+1=>TW (M.oC n) (Hu n)
theorem XY : (jl (M.Jl)).Ok D Tryz.prog:=Hu aP
def jX (m:Int->Int->Int->Option (Bool)):bI K:={f:=36,sh:=⟨[.int .i64, .int .i64, .int .i64],[]⟩,R:=Bool,run:=fun x=>m x.1.1 x.1.2.1 x.1.2.2.1,dflt:=default,out:=fun r=>(Sh.enc D (.bool) r,dK.encs D [] ())}
def TY : Cx K:={iG with mode:=aV .plain [],call:=callOf D [],loop:=aU []}
theorem XZ : aG (TY):=aB aH _ (bg)
theorem qo : (jX (M.xW)).Ok D Tryz.prog:=
 aW (cx:=TY) (c:=jX (M.xW)) (fz:=true) (fn:=Tryz.f36) aH (XZ) ai ⟨Tryz.func36,by kernel_rfl⟩ (aX (az (by kernel_rfl))) ⟨⟨[.bool],[]⟩,fun x=>x.1.1⟩ (fun x=>rfl) (fun x=>by kernel_rfl)
def Dy (y:(Bool)⊕(Unit)) {R:Type} (k:Ex->List (AV K)->List (Ob K)->R):R:=match y with
 | .inl a0=>k Ex.ret (gB.gW D ⟨[.bool],[]⟩ ((a0,()),())) (gB.gY D ⟨[.bool],[]⟩ ((a0,()),()))
 | .inr (a1)=>k (Ex.exit 0) (gB.gW D ⟨[.any],[]⟩ (((),()),())) (gB.gY D ⟨[.any],[]⟩ (((),()),()))
def RI : List (jb K ((Bool)⊕(Unit))):=[⟨Ex.ret,⟨[.bool],[]⟩,fun x=> .inl x.1.1⟩,⟨(Ex.exit 0),⟨[.any],[]⟩,fun x=> .inr (())⟩]
def Hw : gZ K:=jh D false 69 0 [0,3] [2] ⟨[.str, .int .i64],[]⟩ (fun x=>M.oP x.1.1 aP x.1.2.1) Dy
def xX (m:(List UInt8)->Option (Bool)):bI K:={f:=123,sh:=⟨[.str],[]⟩,R:=Bool,run:=fun x=>m x.1.1,dflt:=default,out:=fun r=>(Sh.enc D (.bool) r,dK.encs D [] ())}
def zC : Cx K:={iG with mode:=aV .plain [],call:=callOf D [],loop:=aU [(4,Hw)]}
theorem Hy : aG (zC):=aB aH _ (bg)
theorem O0 : eG (zC) (eQ (fG Tryz.f123) 0) (Hw):=
 dU (cx:=zC) (n:=69) (n0:=0) (ins:=[0,3]) (outs:=[2]) (sh:=⟨[.str, .int .i64],[]⟩) (run:=fun n x=>M.oP x.1.1 n x.1.2.1) (iW:=RI) (out:=Dy) aH (Hy) ai (az (by kernel_rfl)) (fun _=>rfl) (fun m x=>by kernel_rfl) (aA ⟨oN,fun _ _ _=>rfl⟩ (aA ⟨dV,fun _ _ _=>rfl⟩ (bg))) false aP
theorem MN : (xX (M.tY)).Ok D Tryz.prog:=
 aW (cx:=zC) (c:=xX (M.tY)) (fz:=true) (fn:=Tryz.f123) aH (Hy) ai ⟨Tryz.func123,by kernel_rfl⟩ (aX (bV 1 (by kernel_rfl) (gI (.mk (by kernel_rfl) (O0))))) ⟨⟨[.bool],[]⟩,fun x=>x.1.1⟩ (fun x=>rfl) (fun x=>by kernel_rfl)
def yG (y:(Bool)⊕((List (List UInt8))×Int)) {R:Type} (k:Ex->List (AV K)->List (Ob K)->R):R:=match y with
 | .inl a0=>k Ex.ret (gB.gW D ⟨[.any, .any, .bool],[]⟩ (((),((),(a0,()))),())) (gB.gY D ⟨[.any, .any, .bool],[]⟩ (((),((),(a0,()))),()))
 | .inr (a1)=>k (Ex.exit 2) (gB.gW D ⟨[.bn U.str, .int .i64, .any],[]⟩ ((a1.1,(a1.2,((),()))),())) (gB.gY D ⟨[.bn U.str, .int .i64, .any],[]⟩ ((a1.1,(a1.2,((),()))),()))
def JE : List (jb K ((Bool)⊕((List (List UInt8))×Int))):=[⟨Ex.ret,⟨[.any, .any, .bool],[]⟩,fun x=> .inl x.1.2.2.1⟩,⟨(Ex.exit 2),⟨[.bn U.str, .int .i64, .any],[]⟩,fun x=> .inr ((x.1.1,x.1.2.1))⟩]
def Af : gZ K:=jh D false 39 0 [0,3,4] [0,3,2] ⟨[.bn U.str, .int .i64, .int .i64],[]⟩ (fun x=>M.ig x.1.1 x.1.2.1 aP x.1.2.2.1) yG
def Ag (y:(Bool)⊕(Unit)) {R:Type} (k:Ex->List (AV K)->List (Ob K)->R):R:=match y with
 | .inl a0=>k Ex.ret (gB.gW D ⟨[.bool],[]⟩ ((a0,()),())) (gB.gY D ⟨[.bool],[]⟩ ((a0,()),()))
 | .inr (a1)=>k (Ex.exit 0) (gB.gW D ⟨[.any],[]⟩ (((),()),())) (gB.gY D ⟨[.any],[]⟩ (((),()),()))
def MO : List (jb K ((Bool)⊕(Unit))):=[⟨Ex.ret,⟨[.bool],[]⟩,fun x=> .inl x.1.1⟩,⟨(Ex.exit 0),⟨[.any],[]⟩,fun x=> .inr (())⟩]
def Dz : gZ K:=jh D false 39 0 [0,3] [2] ⟨[.bn U.str, .int .i64],[]⟩ (fun x=>M.iH aP x.1.1 x.1.2.1) Ag
def yY (m:(List (List UInt8))->Option (Bool)):bI K:={f:=124,sh:=⟨[.bn U.str],[]⟩,R:=Bool,run:=fun x=>m x.1.1,dflt:=default,out:=fun r=>(Sh.enc D (.bool) r,dK.encs D [] ())}
def nP : Cx K:={iG with mode:=aV .plain [(123, .plain)],call:=callOf D [xX M.tY],loop:=aU [(9,Af),(4,Dz)]}
theorem wW : aG (nP):=aB aH _ (aA MN (bg))
theorem Hz : eG (nP) (eQ (eQ (fG Tryz.f124) 0) 0) (Af):=
 dU (cx:=nP) (n:=39) (n0:=0) (ins:=[0,3,4]) (outs:=[0,3,2]) (sh:=⟨[.bn U.str, .int .i64, .int .i64],[]⟩) (run:=fun n x=>M.ig x.1.1 x.1.2.1 n x.1.2.2.1) (iW:=JE) (out:=yG) aH (wW) ai (az (by kernel_rfl)) (fun _=>rfl) (fun m x=>by kernel_rfl) (aA ⟨oN,fun _ _ _=>rfl⟩ (aA ⟨dV,fun _ _ _=>rfl⟩ (bg))) false aP
theorem KU : eG (nP) (eQ (fG Tryz.f124) 0) (Dz):=
 dU (cx:=nP) (n:=39) (n0:=0) (ins:=[0,3]) (outs:=[2]) (sh:=⟨[.bn U.str, .int .i64],[]⟩) (run:=fun n x=>M.iH n x.1.1 x.1.2.1) (iW:=MO) (out:=Ag) aH (wW) ai (bV 1 (by kernel_rfl) (gI (.mk (by kernel_rfl) (Hz)))) (fun _=>rfl) (fun m x=>by kernel_rfl) (aA ⟨oN,fun _ _ _=>rfl⟩ (aA ⟨dV,fun _ _ _=>rfl⟩ (bg))) false aP
theorem TZ : (yY (M.tZ)).Ok D Tryz.prog:=
 aW (cx:=nP) (c:=yY (M.tZ)) (fz:=true) (fn:=Tryz.f124) aH (wW) ai ⟨Tryz.func124,by kernel_rfl⟩ (aX (bV 1 (by kernel_rfl) (gI (.mk (by kernel_rfl) (KU))))) ⟨⟨[.bool],[]⟩,fun x=>x.1.1⟩ (fun x=>rfl) (fun x=>by kernel_rfl)
def Bl (y:(Bool)⊕(Unit)) {R:Type} (k:Ex->List (AV K)->List (Ob K)->R):R:=match y with
 | .inl a0=>k Ex.ret (gB.gW D ⟨[.bool],[.dead]⟩ ((a0,()),((),()))) (gB.gY D ⟨[.bool],[.dead]⟩ ((a0,()),((),())))
 | .inr (a1)=>k (Ex.exit 0) (gB.gW D ⟨[.any],[.dead]⟩ (((),()),((),()))) (gB.gY D ⟨[.any],[.dead]⟩ (((),()),((),())))
def O1 : List (jb K ((Bool)⊕(Unit))):=[⟨Ex.ret,⟨[.bool],[.dead]⟩,fun x=> .inl x.1.1⟩,⟨(Ex.exit 0),⟨[.any],[.dead]⟩,fun x=> .inr (())⟩]
def Gh : gZ K:=jh D false 18 1 [1,3] [2] ⟨[.ptr 0 0, .int .i64],[.el U.Type]⟩ (fun x=>M.iC aP x.1.2.1 x.2.1) Bl
def Ah (m:M.ae->Option (Bool)):bI K:={f:=125,sh:=⟨[.el U.Type],[]⟩,R:=Bool,run:=fun x=>m x.1.1,dflt:=default,out:=fun r=>(Sh.enc D (.bool) r,dK.encs D [] ())}
def xY : Cx K:={iG with mode:=aV .plain [],call:=callOf D [],loop:=aU [(2,Gh)]}
theorem Gi : aG (xY):=aB aH _ (bg)
theorem MP : eG (xY) (eQ (fG Tryz.f125) 0) (Gh):=
 dU (cx:=xY) (n:=18) (n0:=1) (ins:=[1,3]) (outs:=[2]) (sh:=⟨[.ptr 0 0, .int .i64],[.el U.Type]⟩) (run:=fun n x=>M.iC n x.1.2.1 x.2.1) (iW:=O1) (out:=Bl) aH (Gi) ai (az (by kernel_rfl)) (fun _=>rfl) (fun m x=>by kernel_rfl) (aA ⟨oN,fun _ _ _=>rfl⟩ (aA ⟨dV,fun _ _ _=>rfl⟩ (bg))) false aP
theorem We : (Ah (M.qp)).Ok D Tryz.prog:=
 aW (cx:=xY) (c:=Ah (M.qp)) (fz:=true) (fn:=Tryz.f125) aH (Gi) ai ⟨Tryz.func125,by kernel_rfl⟩ (aX (bV 1 (by kernel_rfl) (gI (.mk (by kernel_rfl) (MP))))) ⟨⟨[.bool],[]⟩,fun x=>x.1.1⟩ (fun x=>rfl) (fun x=>by kernel_rfl)
def jm (m:M.ae->Int->Int->Option (Bool)):bI K:={f:=71,sh:=⟨[.el U.Type, .int .i64, .int .i64],[]⟩,R:=Bool,run:=fun x=>m x.1.1 x.1.2.1 x.1.2.2.1,dflt:=default,out:=fun r=>(Sh.enc D (.bool) r,dK.encs D [] ())}
def Gj (y:(Bool)⊕(Unit)) {R:Type} (k:Ex->List (AV K)->List (Ob K)->R):R:=match y with
 | .inl a0=>k Ex.ret (gB.gW D ⟨[.bool],[.dead]⟩ ((a0,()),((),()))) (gB.gY D ⟨[.bool],[.dead]⟩ ((a0,()),((),())))
 | .inr (a1)=>k (Ex.exit 0) (gB.gW D ⟨[.any],[.dead]⟩ (((),()),((),()))) (gB.gY D ⟨[.any],[.dead]⟩ (((),()),((),())))
def Ua : List (jb K ((Bool)⊕(Unit))):=[⟨Ex.ret,⟨[.bool],[.dead]⟩,fun x=> .inl x.1.1⟩,⟨(Ex.exit 0),⟨[.any],[.dead]⟩,fun x=> .inr (())⟩]
def JO (bC:M.ae->Int->Int->Option (Bool)):gZ K:=jh D false 28 1 [1,2,3,7] [6] ⟨[.int .i64, .int .i64, .ptr 0 0, .int .i64],[.el U.Type]⟩ (fun x=>M.jY bC x.1.1 x.1.2.1 aP x.1.2.2.2.1 x.2.1) Gj
def Bo (bC:M.ae->Int->Int->Option (Bool)):Cx K:={iG with mode:=aV .plain [(36, .plain),(71, .plain)],call:=callOf D [jX M.xW,jm bC],loop:=aU [(4,JO bC)]}
theorem JP (bC:M.ae->Int->Int->Option (Bool)) (pO:(jm bC).Ok D Tryz.prog):aG (Bo bC):=aB aH _ (aA qo (aA pO (bg)))
theorem RJ (bC:M.ae->Int->Int->Option (Bool)) (pO:(jm bC).Ok D Tryz.prog):eG (Bo bC) (eQ (fG Tryz.f71) 0) (JO bC):=
 dU (cx:=Bo bC) (n:=28) (n0:=1) (ins:=[1,2,3,7]) (outs:=[6]) (sh:=⟨[.int .i64, .int .i64, .ptr 0 0, .int .i64],[.el U.Type]⟩) (run:=fun n x=>M.jY bC x.1.1 x.1.2.1 n x.1.2.2.2.1 x.2.1) (iW:=Ua) (out:=Gj) aH (JP bC pO) ai (az (by kernel_rfl)) (fun _=>rfl) (fun m x=>by kernel_rfl) (aA ⟨oN,fun _ _ _=>rfl⟩ (aA ⟨dV,fun _ _ _=>rfl⟩ (bg))) false aP
theorem Wh (bC:M.ae->Int->Int->Option (Bool)) (pO:(jm bC).Ok D Tryz.prog):(jm (M.Ai bC)).Ok D Tryz.prog:=
 aW (cx:=Bo bC) (c:=jm (M.Ai bC)) (fz:=true) (fn:=Tryz.f71) aH (JP bC pO) ai ⟨Tryz.func71,by kernel_rfl⟩ (aX (bV 1 (by kernel_rfl) (gI (.mk (by kernel_rfl) (RJ bC pO))))) ⟨⟨[.bool],[]⟩,fun x=>x.1.1⟩ (fun x=>rfl) (fun x=>by kernel_rfl)
theorem JQ : ∀n,(jm (M.kV n)).Ok D Tryz.prog
 |0=>oO fun _=>rfl
 |n+1=>Wh (M.kV n) (JQ n)
theorem Qu : (jm (M.rU)).Ok D Tryz.prog:=JQ aP
def Aj (m:M.ae->Option (Bool)):bI K:={f:=107,sh:=⟨[.el U.Type],[]⟩,R:=Bool,run:=fun x=>m x.1.1,dflt:=default,out:=fun r=>(Sh.enc D (.bool) r,dK.encs D [] ())}
def JR : Cx K:={iG with mode:=aV .plain [(36, .plain),(123, .plain),(124, .plain),(125, .plain),(71, .plain)],call:=callOf D [jX M.xW,xX M.tY,yY M.tZ,Ah M.qp,jm M.rU],loop:=aU []}
theorem RN : aG (JR):=aB aH _ (aA qo (aA MN (aA TZ (aA We (aA Qu (bg))))))
theorem Wi : (Aj (M.wX)).Ok D Tryz.prog:=
 aW (cx:=JR) (c:=Aj (M.wX)) (fz:=true) (fn:=Tryz.f107) aH (RN) ai ⟨Tryz.func107,by kernel_rfl⟩ (aX (az (by kernel_rfl))) ⟨⟨[.bool],[]⟩,fun x=>x.1.1⟩ (fun x=>rfl) (fun x=>by kernel_rfl)
def iI (m:M.ae->Option (Bool)):bI K:={f:=90,sh:=⟨[.el U.Type],[]⟩,R:=Bool,run:=fun x=>m x.1.1,dflt:=default,out:=fun r=>(Sh.enc D (.bool) r,dK.encs D [] ())}
def Bq (y:(Bool)⊕(Unit)) {R:Type} (k:Ex->List (AV K)->List (Ob K)->R):R:=match y with
 | .inl a0=>k Ex.ret (gB.gW D ⟨[.bool],[.dead]⟩ ((a0,()),((),()))) (gB.gY D ⟨[.bool],[.dead]⟩ ((a0,()),((),())))
 | .inr (a1)=>k (Ex.exit 0) (gB.gW D ⟨[.any],[.dead]⟩ (((),()),((),()))) (gB.gY D ⟨[.any],[.dead]⟩ (((),()),((),())))
def O3 : List (jb K ((Bool)⊕(Unit))):=[⟨Ex.ret,⟨[.bool],[.dead]⟩,fun x=> .inl x.1.1⟩,⟨(Ex.exit 0),⟨[.any],[.dead]⟩,fun x=> .inr (())⟩]
def Gl (aY:M.ae->Option (Bool)):gZ K:=jh D false 21 1 [1,3] [2] ⟨[.ptr 0 0, .int .i64],[.el U.Type]⟩ (fun x=>M.iD aY aP x.1.2.1 x.2.1) Bq
def xZ (aY:M.ae->Option (Bool)):Cx K:={iG with mode:=aV .plain [(107, .plain),(90, .plain)],call:=callOf D [Aj M.wX,iI aY],loop:=aU [(4,Gl aY)]}
theorem Gm (aY:M.ae->Option (Bool)) (lW:(iI aY).Ok D Tryz.prog):aG (xZ aY):=aB aH _ (aA Wi (aA lW (bg)))
theorem MQ (aY:M.ae->Option (Bool)) (lW:(iI aY).Ok D Tryz.prog):eG (xZ aY) (eQ (fG Tryz.f90) 0) (Gl aY):=
 dU (cx:=xZ aY) (n:=21) (n0:=1) (ins:=[1,3]) (outs:=[2]) (sh:=⟨[.ptr 0 0, .int .i64],[.el U.Type]⟩) (run:=fun n x=>M.iD aY n x.1.2.1 x.2.1) (iW:=O3) (out:=Bq) aH (Gm aY lW) ai (az (by kernel_rfl)) (fun _=>rfl) (fun m x=>by kernel_rfl) (aA ⟨oN,fun _ _ _=>rfl⟩ (aA ⟨dV,fun _ _ _=>rfl⟩ (bg))) false aP
theorem RP (aY:M.ae->Option (Bool)) (lW:(iI aY).Ok D Tryz.prog):(iI (M.uU aY)).Ok D Tryz.prog:=
 aW (cx:=xZ aY) (c:=iI (M.uU aY)) (fz:=true) (fn:=Tryz.f90) aH (Gm aY lW) ai ⟨Tryz.func90,by kernel_rfl⟩ (aX (bV 1 (by kernel_rfl) (gI (.mk (by kernel_rfl) (MQ aY lW))))) ⟨⟨[.bool],[]⟩,fun x=>x.1.1⟩ (fun x=>rfl) (fun x=>by kernel_rfl)
theorem Gn : ∀n,(iI (M.jo n)).Ok D Tryz.prog
 |0=>oO fun _=>rfl
 |n+1=>RP (M.jo n) (Gn n)
theorem Wj : (iI (M.E5)).Ok D Tryz.prog:=Gn aP
def oQ (m:M.ae->Int->Option (Int)):bI K:={f:=95,sh:=⟨[.el U.Type, .int .i64],[]⟩,R:=Int,run:=fun x=>m x.1.1 x.1.2.1,dflt:=default,out:=fun r=>(Sh.enc D (.int .i64) r,dK.encs D [] ())}
def JS (y:Int) {R:Type} (k:Ex->List (AV K)->List (Ob K)->R):R:=match y with
 |a0=>k (Ex.exit 0) (gB.gW D ⟨[.int .i64],[]⟩ ((a0,()),())) (gB.gY D ⟨[.int .i64],[]⟩ ((a0,()),()))
def X0 : List (jb K (Int)):=[⟨(Ex.exit 0),⟨[.int .i64],[]⟩,fun x=>x.1.1⟩]
def Qv (di:M.ae->Int->Option (Int)):gZ K:=jh D false 26 0 [1,5,11,12,13] [5] ⟨[.int .i64, .int .i64, .bn U.Type, .int .i64, .int .i64],[]⟩ (fun x=>M.uf di x.1.1 x.1.2.2.1 x.1.2.2.2.1 aP x.1.2.1 x.1.2.2.2.2.1) JS
def Jm (di:M.ae->Int->Option (Int)):Cx K:={iG with mode:=aV .plain [(95, .plain)],call:=callOf D [oQ di],loop:=aU [(5,Qv di)]}
theorem Qw (di:M.ae->Int->Option (Int)) (ug:(oQ di).Ok D Tryz.prog):aG (Jm di):=aB aH _ (aA ug (bg))
theorem Wl (di:M.ae->Int->Option (Int)) (ug:(oQ di).Ok D Tryz.prog):eG (Jm di) (eQ (fG Tryz.f95) 0) (Qv di):=
 dU (cx:=Jm di) (n:=26) (n0:=0) (ins:=[1,5,11,12,13]) (outs:=[5]) (sh:=⟨[.int .i64, .int .i64, .bn U.Type, .int .i64, .int .i64],[]⟩) (run:=fun n x=>M.uf di x.1.1 x.1.2.2.1 x.1.2.2.2.1 n x.1.2.1 x.1.2.2.2.2.1) (iW:=X0) (out:=JS) aH (Qw di ug) ai (az (by kernel_rfl)) (fun _=>rfl) (fun m x=>by kernel_rfl) (aA ⟨dV,fun _ _ _=>rfl⟩ (bg)) false aP
theorem Zf (di:M.ae->Int->Option (Int)) (ug:(oQ di).Ok D Tryz.prog):(oQ (M.HY di)).Ok D Tryz.prog:=
 aW (cx:=Jm di) (c:=oQ (M.HY di)) (fz:=true) (fn:=Tryz.f95) aH (Qw di ug) ai ⟨Tryz.func95,by kernel_rfl⟩ (aX (bV 1 (by kernel_rfl) (gI (.mk (by kernel_rfl) (Wl di ug))))) ⟨⟨[.int .i64],[]⟩,fun x=>x.1.1⟩ (fun x=>rfl) (fun x=>by kernel_rfl)
theorem Qx : ∀n,(oQ (M.yH n)).Ok D Tryz.prog
 |0=>oO fun _=>rfl
 |n+1=>Zf (M.yH n) (Qx n)
theorem acJ : (oQ (M.X3)).Ok D Tryz.prog:=Qx aP
def mr (m:M.ae->Option (Int)):bI K:={f:=96,sh:=⟨[.el U.Type],[]⟩,R:=Int,run:=fun x=>m x.1.1,dflt:=default,out:=fun r=>(Sh.enc D (.int .i64) r,dK.encs D [] ())}
def H5 (y:Int) {R:Type} (k:Ex->List (AV K)->List (Ob K)->R):R:=match y with
 |a0=>k (Ex.exit 0) (gB.gW D ⟨[.int .i64],[]⟩ ((a0,()),())) (gB.gY D ⟨[.int .i64],[]⟩ ((a0,()),()))
def Wn : List (jb K (Int)):=[⟨(Ex.exit 0),⟨[.int .i64],[]⟩,fun x=>x.1.1⟩]
def MR (bQ:M.ae->Option (Int)):gZ K:=jh D false 19 0 [3,7,8,9] [3] ⟨[.int .i64, .bn U.Type, .int .i64, .int .i64],[]⟩ (fun x=>M.qw bQ x.1.2.1 x.1.2.2.1 aP x.1.1 x.1.2.2.2.1) H5
def E8 (bQ:M.ae->Option (Int)):Cx K:={iG with mode:=aV .plain [(96, .plain)],call:=callOf D [mr bQ],loop:=aU [(3,MR bQ)]}
theorem MS (bQ:M.ae->Option (Int)) (qQ:(mr bQ).Ok D Tryz.prog):aG (E8 bQ):=aB aH _ (aA qQ (bg))
theorem Ub (bQ:M.ae->Option (Int)) (qQ:(mr bQ).Ok D Tryz.prog):eG (E8 bQ) (eQ (fG Tryz.f96) 0) (MR bQ):=
 dU (cx:=E8 bQ) (n:=19) (n0:=0) (ins:=[3,7,8,9]) (outs:=[3]) (sh:=⟨[.int .i64, .bn U.Type, .int .i64, .int .i64],[]⟩) (run:=fun n x=>M.qw bQ x.1.2.1 x.1.2.2.1 n x.1.1 x.1.2.2.2.1) (iW:=Wn) (out:=H5) aH (MS bQ qQ) ai (az (by kernel_rfl)) (fun _=>rfl) (fun m x=>by kernel_rfl) (aA ⟨dV,fun _ _ _=>rfl⟩ (bg)) false aP
theorem X4 (bQ:M.ae->Option (Int)) (qQ:(mr bQ).Ok D Tryz.prog):(mr (M.DC bQ)).Ok D Tryz.prog:=
 aW (cx:=E8 bQ) (c:=mr (M.DC bQ)) (fz:=true) (fn:=Tryz.f96) aH (MS bQ qQ) ai ⟨Tryz.func96,by kernel_rfl⟩ (aX (bV 1 (by kernel_rfl) (gI (.mk (by kernel_rfl) (Ub bQ qQ))))) ⟨⟨[.int .i64],[]⟩,fun x=>x.1.1⟩ (fun x=>rfl) (fun x=>by kernel_rfl)
theorem MV : ∀n,(mr (M.uh n)).Ok D Tryz.prog
 |0=>oO fun _=>rfl
 |n+1=>X4 (M.uh n) (MV n)
theorem aaT : (mr (M.TB)).Ok D Tryz.prog:=MV aP
def dS (m:M.ae->Option (Bool)):bI K:={f:=97,sh:=⟨[.el U.Type],[]⟩,R:=Bool,run:=fun x=>m x.1.1,dflt:=default,out:=fun r=>(Sh.enc D (.bool) r,dK.encs D [] ())}
def wY (m:M.ae->Option (Bool)):bI K:={f:=114,sh:=⟨[.el U.Type],[]⟩,R:=Bool,run:=fun x=>m x.1.1,dflt:=default,out:=fun r=>(Sh.enc D (.bool) r,dK.encs D [] ())}
def Gp (aC:M.ae->Option (Bool)):Cx K:={iG with mode:=aV .plain [(97, .plain)],call:=callOf D [dS aC],loop:=aU []}
theorem MW (aC:M.ae->Option (Bool)) (cZ:(dS aC).Ok D Tryz.prog):aG (Gp aC):=aB aH _ (aA cZ (bg))
theorem RQ (aC:M.ae->Option (Bool)) (cZ:(dS aC).Ok D Tryz.prog):(wY (M.qR aC)).Ok D Tryz.prog:=
 aW (cx:=Gp aC) (c:=wY (M.qR aC)) (fz:=true) (fn:=Tryz.f114) aH (MW aC cZ) ai ⟨Tryz.func114,by kernel_rfl⟩ (aX (az (by kernel_rfl))) ⟨⟨[.bool],[]⟩,fun x=>x.1.1⟩ (fun x=>rfl) (fun x=>by kernel_rfl)
def lJ (y:(Int)⊕(Unit)) {R:Type} (k:Ex->List (AV K)->List (Ob K)->R):R:=match y with
 | .inl a0=>k Ex.ret (gB.gW D ⟨[.int .i64],[]⟩ ((a0,()),())) (gB.gY D ⟨[.int .i64],[]⟩ ((a0,()),()))
 | .inr (a1)=>k (Ex.exit 0) (gB.gW D ⟨[.any],[]⟩ (((),()),())) (gB.gY D ⟨[.any],[]⟩ (((),()),()))
def uV : List (jb K ((Int)⊕(Unit))):=[⟨Ex.ret,⟨[.int .i64],[]⟩,fun x=> .inl x.1.1⟩,⟨(Ex.exit 0),⟨[.any],[]⟩,fun x=> .inr (())⟩]
def nG (aC:M.ae->Option (Bool)):gZ K:=jh D false 19 0 [0,1,7,8] [4] ⟨[.bn U.Type, .fn 114 [], .int .i64, .int .i64],[]⟩ (fun x=>M.dB aC x.1.1 x.1.2.2.1 aP x.1.2.2.2.1) lJ
def jd (m:(List M.ae)->Option (Int)):bI K:={f:=120,sh:=⟨[.bn U.Type, .fn 114 []],[]⟩,R:=Int,run:=fun x=>m x.1.1,dflt:=default,out:=fun r=>(Sh.enc D (.int .i64) r,dK.encs D [] ())}
def gz (aC:M.ae->Option (Bool)):Cx K:={iG with mode:=aV .plain [(114, .plain)],call:=callOf D [wY (M.qR aC)],loop:=aU [(2,nG aC)]}
theorem nH (aC:M.ae->Option (Bool)) (cZ:(dS aC).Ok D Tryz.prog):aG (gz aC):=aB aH _ (aA (RQ aC cZ) (bg))
theorem uP (aC:M.ae->Option (Bool)) (cZ:(dS aC).Ok D Tryz.prog):eG (gz aC) (eQ (fG Tryz.f120) 0) (nG aC):=
 dU (cx:=gz aC) (n:=19) (n0:=0) (ins:=[0,1,7,8]) (outs:=[4]) (sh:=⟨[.bn U.Type, .fn 114 [], .int .i64, .int .i64],[]⟩) (run:=fun n x=>M.dB aC x.1.1 x.1.2.2.1 n x.1.2.2.2.1) (iW:=uV) (out:=lJ) aH (nH aC cZ) ai (az (by kernel_rfl)) (fun _=>rfl) (fun m x=>by kernel_rfl) (aA ⟨oN,fun _ _ _=>rfl⟩ (aA ⟨dV,fun _ _ _=>rfl⟩ (bg))) false aP
theorem yI (aC:M.ae->Option (Bool)) (cZ:(dS aC).Ok D Tryz.prog):(jd (M.fM aC)).Ok D Tryz.prog:=
 aW (cx:=gz aC) (c:=jd (M.fM aC)) (fz:=true) (fn:=Tryz.f120) aH (nH aC cZ) ai ⟨Tryz.func120,by kernel_rfl⟩ (aX (bV 1 (by kernel_rfl) (gI (.mk (by kernel_rfl) (uP aC cZ))))) ⟨⟨[.int .i64],[]⟩,fun x=>x.1.1⟩ (fun x=>rfl) (fun x=>by kernel_rfl)
def iw (m:(List M.ae)->Option (Bool)):bI K:={f:=99,sh:=⟨[.bn U.Type, .fn 114 []],[]⟩,R:=Bool,run:=fun x=>m x.1.1,dflt:=default,out:=fun r=>(Sh.enc D (.bool) r,dK.encs D [] ())}
def mD (aC:M.ae->Option (Bool)):Cx K:={iG with mode:=aV .plain [(120, .plain)],call:=callOf D [jd (M.fM aC)],loop:=aU []}
theorem sO (aC:M.ae->Option (Bool)) (cZ:(dS aC).Ok D Tryz.prog):aG (mD aC):=aB aH _ (aA (yI aC cZ) (bg))
theorem uX (aC:M.ae->Option (Bool)) (cZ:(dS aC).Ok D Tryz.prog):(iw (M.dC aC)).Ok D Tryz.prog:=
 aW (cx:=mD aC) (c:=iw (M.dC aC)) (fz:=true) (fn:=Tryz.f99) aH (sO aC cZ) ai ⟨Tryz.func99,by kernel_rfl⟩ (aX (az (by kernel_rfl))) ⟨⟨[.bool],[]⟩,fun x=>x.1.1⟩ (fun x=>rfl) (fun x=>by kernel_rfl)
def jU (m:Int->Int->Int->Option (Bool)):bI K:={f:=27,sh:=⟨[.int .i64, .int .i64, .int .i64],[]⟩,R:=Bool,run:=fun x=>m x.1.1 x.1.2.1 x.1.2.2.1,dflt:=default,out:=fun r=>(Sh.enc D (.bool) r,dK.encs D [] ())}
def Qy : Cx K:={iG with mode:=aV .plain [],call:=callOf D [],loop:=aU []}
theorem Wp : aG (Qy):=aB aH _ (bg)
theorem qx : (jU (M.uY)).Ok D Tryz.prog:=
 aW (cx:=Qy) (c:=jU (M.uY)) (fz:=true) (fn:=Tryz.f27) aH (Wp) ai ⟨Tryz.func27,by kernel_rfl⟩ (aX (az (by kernel_rfl))) ⟨⟨[.bool],[]⟩,fun x=>x.1.1⟩ (fun x=>rfl) (fun x=>by kernel_rfl)
def mF (m:(List (List UInt8))->Option (Int)):bI K:={f:=103,sh:=⟨[.bn U.str],[]⟩,R:=Int,run:=fun x=>m x.1.1,dflt:=default,out:=fun r=>(Sh.enc D (.int .i64) r,dK.encs D [] ())}
def DD : Cx K:={iG with mode:=aV .plain [],call:=callOf D [],loop:=aU []}
theorem KW : aG (DD):=aB aH _ (bg)
theorem wZ : (mF (M.rV)).Ok D Tryz.prog:=
 aW (cx:=DD) (c:=mF (M.rV)) (fz:=true) (fn:=Tryz.f103) aH (KW) ai ⟨Tryz.func103,by kernel_rfl⟩ (aX (az (by kernel_rfl))) ⟨⟨[.int .i64],[]⟩,fun x=>x.1.1⟩ (fun x=>rfl) (fun x=>by kernel_rfl)
def Gq (y:(Bool)⊕((List UInt8))) {R:Type} (k:Ex->List (AV K)->List (Ob K)->R):R:=match y with
 | .inl a0=>k Ex.ret (gB.gW D ⟨[.any, .bool],[]⟩ (((),(a0,())),())) (gB.gY D ⟨[.any, .bool],[]⟩ (((),(a0,())),()))
 | .inr (a1)=>k (Ex.exit 0) (gB.gW D ⟨[.str, .any],[]⟩ ((a1,((),())),())) (gB.gY D ⟨[.str, .any],[]⟩ ((a1,((),())),()))
def Uc : List (jb K ((Bool)⊕((List UInt8)))):=[⟨Ex.ret,⟨[.any, .bool],[]⟩,fun x=> .inl x.1.2.1⟩,⟨(Ex.exit 0),⟨[.str, .any],[]⟩,fun x=> .inr (x.1.1)⟩]
def JU : gZ K:=jh D false 75 0 [0,7,8] [0,2] ⟨[.str, .int .i64, .int .i64],[]⟩ (fun x=>M.oD x.1.1 x.1.2.1 aP x.1.2.2.1) Gq
def zD (m:(List UInt8)->Option (Bool)):bI K:={f:=116,sh:=⟨[.str],[]⟩,R:=Bool,run:=fun x=>m x.1.1,dflt:=default,out:=fun r=>(Sh.enc D (.bool) r,dK.encs D [] ())}
def Bv : Cx K:={iG with mode:=aV .plain [],call:=callOf D [],loop:=aU [(2,JU)]}
theorem JV : aG (Bv):=aB aH _ (bg)
theorem RS : eG (Bv) (eQ (fG Tryz.f116) 0) (JU):=
 dU (cx:=Bv) (n:=75) (n0:=0) (ins:=[0,7,8]) (outs:=[0,2]) (sh:=⟨[.str, .int .i64, .int .i64],[]⟩) (run:=fun n x=>M.oD x.1.1 x.1.2.1 n x.1.2.2.1) (iW:=Uc) (out:=Gq) aH (JV) ai (az (by kernel_rfl)) (fun _=>rfl) (fun m x=>by kernel_rfl) (aA ⟨oN,fun _ _ _=>rfl⟩ (aA ⟨dV,fun _ _ _=>rfl⟩ (bg))) false aP
theorem Qz : (zD (M.yJ)).Ok D Tryz.prog:=
 aW (cx:=Bv) (c:=zD (M.yJ)) (fz:=true) (fn:=Tryz.f116) aH (JV) ai ⟨Tryz.func116,by kernel_rfl⟩ (aX (bV 1 (by kernel_rfl) (gI (.mk (by kernel_rfl) (RS))))) ⟨⟨[.bool],[]⟩,fun x=>x.1.1⟩ (fun x=>rfl) (fun x=>by kernel_rfl)
def uZ (m:(List UInt8)->Option (Bool)):bI K:={f:=129,sh:=⟨[.str],[]⟩,R:=Bool,run:=fun x=>m x.1.1,dflt:=default,out:=fun r=>(Sh.enc D (.bool) r,dK.encs D [] ())}
def DF : Cx K:={iG with mode:=aV .plain [(116, .plain)],call:=callOf D [zD M.yJ],loop:=aU []}
theorem KX : aG (DF):=aB aH _ (aA Qz (bg))
theorem O4 : (uZ (M.pR)).Ok D Tryz.prog:=
 aW (cx:=DF) (c:=uZ (M.pR)) (fz:=true) (fn:=Tryz.f129) aH (KX) ai ⟨Tryz.func129,by kernel_rfl⟩ (aX (az (by kernel_rfl))) ⟨⟨[.bool],[]⟩,fun x=>x.1.1⟩ (fun x=>rfl) (fun x=>by kernel_rfl)
def jD (y:(Int)⊕(Unit)) {R:Type} (k:Ex->List (AV K)->List (Ob K)->R):R:=match y with
 | .inl a0=>k Ex.ret (gB.gW D ⟨[.int .i64],[]⟩ ((a0,()),())) (gB.gY D ⟨[.int .i64],[]⟩ ((a0,()),()))
 | .inr (a1)=>k (Ex.exit 0) (gB.gW D ⟨[.any],[]⟩ (((),()),())) (gB.gY D ⟨[.any],[]⟩ (((),()),()))
def rE : List (jb K ((Int)⊕(Unit))):=[⟨Ex.ret,⟨[.int .i64],[]⟩,fun x=> .inl x.1.1⟩,⟨(Ex.exit 0),⟨[.any],[]⟩,fun x=> .inr (())⟩]
def jZ : gZ K:=jh D false 19 0 [0,1,7,8] [4] ⟨[.bn U.str, .fn 129 [], .int .i64, .int .i64],[]⟩ (fun x=>M.bT x.1.1 x.1.2.2.1 aP x.1.2.2.2.1) jD
def gX (m:(List (List UInt8))->Option (Int)):bI K:={f:=136,sh:=⟨[.bn U.str, .fn 129 []],[]⟩,R:=Int,run:=fun x=>m x.1.1,dflt:=default,out:=fun r=>(Sh.enc D (.int .i64) r,dK.encs D [] ())}
def fC : Cx K:={iG with mode:=aV .plain [(129, .plain)],call:=callOf D [uZ M.pR],loop:=aU [(2,jZ)]}
theorem ku : aG (fC):=aB aH _ (aA O4 (bg))
theorem qU : eG (fC) (eQ (fG Tryz.f136) 0) (jZ):=
 dU (cx:=fC) (n:=19) (n0:=0) (ins:=[0,1,7,8]) (outs:=[4]) (sh:=⟨[.bn U.str, .fn 129 [], .int .i64, .int .i64],[]⟩) (run:=fun n x=>M.bT x.1.1 x.1.2.2.1 n x.1.2.2.2.1) (iW:=rE) (out:=jD) aH (ku) ai (az (by kernel_rfl)) (fun _=>rfl) (fun m x=>by kernel_rfl) (aA ⟨oN,fun _ _ _=>rfl⟩ (aA ⟨dV,fun _ _ _=>rfl⟩ (bg))) false aP
theorem uQ : (gX (M.ed)).Ok D Tryz.prog:=
 aW (cx:=fC) (c:=gX (M.ed)) (fz:=true) (fn:=Tryz.f136) aH (ku) ai ⟨Tryz.func136,by kernel_rfl⟩ (aX (bV 1 (by kernel_rfl) (gI (.mk (by kernel_rfl) (qU))))) ⟨⟨[.int .i64],[]⟩,fun x=>x.1.1⟩ (fun x=>rfl) (fun x=>by kernel_rfl)
def gp (m:(List (List UInt8))->Option (Bool)):bI K:={f:=128,sh:=⟨[.bn U.str, .fn 129 []],[]⟩,R:=Bool,run:=fun x=>m x.1.1,dflt:=default,out:=fun r=>(Sh.enc D (.bool) r,dK.encs D [] ())}
def jQ : Cx K:={iG with mode:=aV .plain [(136, .plain)],call:=callOf D [gX M.ed],loop:=aU []}
theorem qy : aG (jQ):=aB aH _ (aA uQ (bg))
theorem rF : (gp (M.dw)).Ok D Tryz.prog:=
 aW (cx:=jQ) (c:=gp (M.dw)) (fz:=true) (fn:=Tryz.f128) aH (qy) ai ⟨Tryz.func128,by kernel_rfl⟩ (aX (az (by kernel_rfl))) ⟨⟨[.bool],[]⟩,fun x=>x.1.1⟩ (fun x=>rfl) (fun x=>by kernel_rfl)
def Ak (m:(List (List UInt8))->Option (Bool)):bI K:={f:=115,sh:=⟨[.bn U.str],[]⟩,R:=Bool,run:=fun x=>m x.1.1,dflt:=default,out:=fun r=>(Sh.enc D (.bool) r,dK.encs D [] ())}
def JW : Cx K:={iG with mode:=aV .plain [(103, .plain),(27, .plain),(127, .plain),(128, .plain)],call:=callOf D [mF M.rV,jU M.uY,Aa M.qj,gp M.dw],loop:=aU []}
theorem RU : aG (JW):=aB aH _ (aA wZ (aA qx (aA V6 (aA rF (bg)))))
theorem Wq : (Ak (M.xe)).Ok D Tryz.prog:=
 aW (cx:=JW) (c:=Ak (M.xe)) (fz:=true) (fn:=Tryz.f115) aH (RU) ai ⟨Tryz.func115,by kernel_rfl⟩ (aX (az (by kernel_rfl))) ⟨⟨[.bool],[]⟩,fun x=>x.1.1⟩ (fun x=>rfl) (fun x=>by kernel_rfl)
def pI (m:(List M.ae)->Option (Int)):bI K:={f:=118,sh:=⟨[.bn U.Type],[]⟩,R:=Int,run:=fun x=>m x.1.1,dflt:=default,out:=fun r=>(Sh.enc D (.int .i64) r,dK.encs D [] ())}
def H6 : Cx K:={iG with mode:=aV .plain [],call:=callOf D [],loop:=aU []}
theorem O5 : aG (H6):=aB aH _ (bg)
theorem Am : (pI (M.yK)).Ok D Tryz.prog:=
 aW (cx:=H6) (c:=pI (M.yK)) (fz:=true) (fn:=Tryz.f118) aH (O5) ai ⟨Tryz.func118,by kernel_rfl⟩ (aX (az (by kernel_rfl))) ⟨⟨[.int .i64],[]⟩,fun x=>x.1.1⟩ (fun x=>rfl) (fun x=>by kernel_rfl)
def ve (m:M.ae->Option (Bool)):bI K:={f:=78,sh:=⟨[.el U.Type],[]⟩,R:=Bool,run:=fun x=>m x.1.1,dflt:=default,out:=fun r=>(Sh.enc D (.bool) r,dK.encs D [] ())}
def QA : Cx K:={iG with mode:=aV .plain [],call:=callOf D [],loop:=aU []}
theorem Ws : aG (QA):=aB aH _ (bg)
theorem H7 : (ve (M.H8)).Ok D Tryz.prog:=
 aW (cx:=QA) (c:=ve (M.H8)) (fz:=true) (fn:=Tryz.f78) aH (Ws) ai ⟨Tryz.func78,by kernel_rfl⟩ (aX (az (by kernel_rfl))) ⟨⟨[.bool],[]⟩,fun x=>x.1.1⟩ (fun x=>rfl) (fun x=>by kernel_rfl)
def kz (y:(Int)⊕(Unit)) {R:Type} (k:Ex->List (AV K)->List (Ob K)->R):R:=match y with
 | .inl a0=>k Ex.ret (gB.gW D ⟨[.int .i64],[]⟩ ((a0,()),())) (gB.gY D ⟨[.int .i64],[]⟩ ((a0,()),()))
 | .inr (a1)=>k (Ex.exit 0) (gB.gW D ⟨[.any],[]⟩ (((),()),())) (gB.gY D ⟨[.any],[]⟩ (((),()),()))
def sQ : List (jb K ((Int)⊕(Unit))):=[⟨Ex.ret,⟨[.int .i64],[]⟩,fun x=> .inl x.1.1⟩,⟨(Ex.exit 0),⟨[.any],[]⟩,fun x=> .inr (())⟩]
def lK : gZ K:=jh D false 19 0 [0,1,7,8] [4] ⟨[.bn U.Type, .fn 78 [], .int .i64, .int .i64],[]⟩ (fun x=>M.bY x.1.1 x.1.2.2.1 aP x.1.2.2.2.1) kz
def iJ (m:(List M.ae)->Option (Int)):bI K:={f:=120,sh:=⟨[.bn U.Type, .fn 78 []],[]⟩,R:=Int,run:=fun x=>m x.1.1,dflt:=default,out:=fun r=>(Sh.enc D (.int .i64) r,dK.encs D [] ())}
def fH : Cx K:={iG with mode:=aV .plain [(78, .plain)],call:=callOf D [ve M.H8],loop:=aU [(2,lK)]}
theorem lL : aG (fH):=aB aH _ (aA H7 (bg))
theorem rW : eG (fH) (eQ (fG Tryz.f120) 0) (lK):=
 dU (cx:=fH) (n:=19) (n0:=0) (ins:=[0,1,7,8]) (outs:=[4]) (sh:=⟨[.bn U.Type, .fn 78 [], .int .i64, .int .i64],[]⟩) (run:=fun n x=>M.bY x.1.1 x.1.2.2.1 n x.1.2.2.2.1) (iW:=sQ) (out:=kz) aH (lL) ai (az (by kernel_rfl)) (fun _=>rfl) (fun m x=>by kernel_rfl) (aA ⟨oN,fun _ _ _=>rfl⟩ (aA ⟨dV,fun _ _ _=>rfl⟩ (bg))) false aP
theorem wO : (iJ (M.eU)).Ok D Tryz.prog:=
 aW (cx:=fH) (c:=iJ (M.eU)) (fz:=true) (fn:=Tryz.f120) aH (lL) ai ⟨Tryz.func120,by kernel_rfl⟩ (aX (bV 1 (by kernel_rfl) (gI (.mk (by kernel_rfl) (rW))))) ⟨⟨[.int .i64],[]⟩,fun x=>x.1.1⟩ (fun x=>rfl) (fun x=>by kernel_rfl)
def gJ (m:(List M.ae)->Option (Bool)):bI K:={f:=99,sh:=⟨[.bn U.Type, .fn 78 []],[]⟩,R:=Bool,run:=fun x=>m x.1.1,dflt:=default,out:=fun r=>(Sh.enc D (.bool) r,dK.encs D [] ())}
def kW : Cx K:={iG with mode:=aV .plain [(120, .plain)],call:=callOf D [iJ M.eU],loop:=aU []}
theorem rG : aG (kW):=aB aH _ (aA wO (bg))
theorem sS : (gJ (M.dF)).Ok D Tryz.prog:=
 aW (cx:=kW) (c:=gJ (M.dF)) (fz:=true) (fn:=Tryz.f99) aH (rG) ai ⟨Tryz.func99,by kernel_rfl⟩ (aX (az (by kernel_rfl))) ⟨⟨[.bool],[]⟩,fun x=>x.1.1⟩ (fun x=>rfl) (fun x=>by kernel_rfl)
def Fa (m:M.ae->Int->Option (Bool)):bI K:={f:=117,sh:=⟨[.el U.Type, .int .i64],[]⟩,R:=Bool,run:=fun x=>m x.1.1 x.1.2.1,dflt:=default,out:=fun r=>(Sh.enc D (.bool) r,dK.encs D [] ())}
def QB : Cx K:={iG with mode:=aV .plain [(118, .plain),(99, .plain)],call:=callOf D [pI M.yK,gJ M.dF],loop:=aU []}
theorem Wu : aG (QB):=aB aH _ (aA Am (aA sS (bg)))
theorem Zg : (Fa (M.vg)).Ok D Tryz.prog:=
 aW (cx:=QB) (c:=Fa (M.vg)) (fz:=true) (fn:=Tryz.f117) aH (Wu) ai ⟨Tryz.func117,by kernel_rfl⟩ (aX (az (by kernel_rfl))) ⟨⟨[.bool],[]⟩,fun x=>x.1.1⟩ (fun x=>rfl) (fun x=>by kernel_rfl)
def nI (y:(Int)⊕(Unit)) {R:Type} (k:Ex->List (AV K)->List (Ob K)->R):R:=match y with
 | .inl a0=>k Ex.ret (gB.gW D ⟨[.int .i64],[]⟩ ((a0,()),())) (gB.gY D ⟨[.int .i64],[]⟩ ((a0,()),()))
 | .inr (a1)=>k (Ex.exit 0) (gB.gW D ⟨[.any],[]⟩ (((),()),())) (gB.gY D ⟨[.any],[]⟩ (((),()),()))
def xg : List (jb K ((Int)⊕(Unit))):=[⟨Ex.ret,⟨[.int .i64],[]⟩,fun x=> .inl x.1.1⟩,⟨(Ex.exit 0),⟨[.any],[]⟩,fun x=> .inr (())⟩]
def oG : gZ K:=jh D false 19 0 [0,1,7,8] [4] ⟨[.bn U.i64, .int .i64, .int .i64, .int .i64],[]⟩ (fun x=>M.dI x.1.1 x.1.2.1 x.1.2.2.1 aP x.1.2.2.2.1) nI
def jL (m:(List Int)->Int->Option (Int)):bI K:={f:=119,sh:=⟨[.bn U.i64, .int .i64],[]⟩,R:=Int,run:=fun x=>m x.1.1 x.1.2.1,dflt:=default,out:=fun r=>(Sh.enc D (.int .i64) r,dK.encs D [] ())}
def iq : Cx K:={iG with mode:=aV .plain [],call:=callOf D [],loop:=aU [(2,oG)]}
theorem oH : aG (iq):=aB aH _ (bg)
theorem wP : eG (iq) (eQ (fG Tryz.f119) 0) (oG):=
 dU (cx:=iq) (n:=19) (n0:=0) (ins:=[0,1,7,8]) (outs:=[4]) (sh:=⟨[.bn U.i64, .int .i64, .int .i64, .int .i64],[]⟩) (run:=fun n x=>M.dI x.1.1 x.1.2.1 x.1.2.2.1 n x.1.2.2.2.1) (iW:=xg) (out:=nI) aH (oH) ai (az (by kernel_rfl)) (fun _=>rfl) (fun m x=>by kernel_rfl) (aA ⟨oN,fun _ _ _=>rfl⟩ (aA ⟨dV,fun _ _ _=>rfl⟩ (bg))) false aP
theorem zF : (jL (M.gK)).Ok D Tryz.prog:=
 aW (cx:=iq) (c:=jL (M.gK)) (fz:=true) (fn:=Tryz.f119) aH (oH) ai ⟨Tryz.func119,by kernel_rfl⟩ (aX (bV 1 (by kernel_rfl) (gI (.mk (by kernel_rfl) (wP))))) ⟨⟨[.int .i64],[]⟩,fun x=>x.1.1⟩ (fun x=>rfl) (fun x=>by kernel_rfl)
def iY (m:(List Int)->Int->Option (Bool)):bI K:={f:=98,sh:=⟨[.bn U.i64, .int .i64],[]⟩,R:=Bool,run:=fun x=>m x.1.1 x.1.2.1,dflt:=default,out:=fun r=>(Sh.enc D (.bool) r,dK.encs D [] ())}
def nR : Cx K:={iG with mode:=aV .plain [(119, .plain)],call:=callOf D [jL M.gK],loop:=aU []}
theorem vk : aG (nR):=aB aH _ (aA zF (bg))
theorem xh : (iY (M.dW)).Ok D Tryz.prog:=
 aW (cx:=nR) (c:=iY (M.dW)) (fz:=true) (fn:=Tryz.f98) aH (vk) ai ⟨Tryz.func98,by kernel_rfl⟩ (aX (az (by kernel_rfl))) ⟨⟨[.bool],[]⟩,fun x=>x.1.1⟩ (fun x=>rfl) (fun x=>by kernel_rfl)
def dQ (m:M.ae->(List Int)->Option (Bool)):bI K:={f:=79,sh:=⟨[.el U.Type, .bn U.i64],[]⟩,R:=Bool,run:=fun x=>m x.1.1 x.1.2.1,dflt:=default,out:=fun r=>(Sh.enc D (.bool) r,dK.encs D [] ())}
def xk (m:M.ae->(List Int)->Option (Bool)):bI K:={f:=100,sh:=⟨[.el U.Type, .rp U.Gg 0],[]⟩,R:=Bool,run:=fun x=>m x.1.1 x.1.2.1,dflt:=default,out:=fun r=>(Sh.enc D (.bool) r,dK.encs D [] ())}
def Gs (aF:M.ae->(List Int)->Option (Bool)):Cx K:={iG with mode:=aV .plain [(79, .plain)],call:=callOf D [dQ aF],loop:=aU []}
theorem MX (aF:M.ae->(List Int)->Option (Bool)) (df:(dQ aF).Ok D Tryz.prog):aG (Gs aF):=aB aH _ (aA df (bg))
theorem RV (aF:M.ae->(List Int)->Option (Bool)) (df:(dQ aF).Ok D Tryz.prog):(xk (M.qV aF)).Ok D Tryz.prog:=
 aW (cx:=Gs aF) (c:=xk (M.qV aF)) (fz:=true) (fn:=Tryz.f100) aH (MX aF df) ai ⟨Tryz.func100,by kernel_rfl⟩ (aX (az (by kernel_rfl))) ⟨⟨[.bool],[]⟩,fun x=>x.1.1⟩ (fun x=>rfl) (fun x=>by kernel_rfl)
def kC (y:(Int)⊕(Unit)) {R:Type} (k:Ex->List (AV K)->List (Ob K)->R):R:=match y with
 | .inl a0=>k Ex.ret (gB.gW D ⟨[.int .i64],[]⟩ ((a0,()),())) (gB.gY D ⟨[.int .i64],[]⟩ ((a0,()),()))
 | .inr (a1)=>k (Ex.exit 0) (gB.gW D ⟨[.any],[]⟩ (((),()),())) (gB.gY D ⟨[.any],[]⟩ (((),()),()))
def sU : List (jb K ((Int)⊕(Unit))):=[⟨Ex.ret,⟨[.int .i64],[]⟩,fun x=> .inl x.1.1⟩,⟨(Ex.exit 0),⟨[.any],[]⟩,fun x=> .inr (())⟩]
def lM (aF:M.ae->(List Int)->Option (Bool)):gZ K:=jh D false 19 0 [0,1,7,8] [4] ⟨[.bn U.Type, .fn 100 [.rp U.Gg 0], .int .i64, .int .i64],[]⟩ (fun x=>M.bZ aF x.1.1 x.1.2.1.1 x.1.2.2.1 aP x.1.2.2.2.1) kC
def iK (m:(List M.ae)->(List Int)->Option (Int)):bI K:={f:=120,sh:=⟨[.bn U.Type, .fn 100 [.rp U.Gg 0]],[]⟩,R:=Int,run:=fun x=>m x.1.1 x.1.2.1.1,dflt:=default,out:=fun r=>(Sh.enc D (.int .i64) r,dK.encs D [] ())}
def fJ (aF:M.ae->(List Int)->Option (Bool)):Cx K:={iG with mode:=aV .plain [(100, .plain)],call:=callOf D [xk (M.qV aF)],loop:=aU [(2,lM aF)]}
theorem lN (aF:M.ae->(List Int)->Option (Bool)) (df:(dQ aF).Ok D Tryz.prog):aG (fJ aF):=aB aH _ (aA (RV aF df) (bg))
theorem rX (aF:M.ae->(List Int)->Option (Bool)) (df:(dQ aF).Ok D Tryz.prog):eG (fJ aF) (eQ (fG Tryz.f120) 0) (lM aF):=
 dU (cx:=fJ aF) (n:=19) (n0:=0) (ins:=[0,1,7,8]) (outs:=[4]) (sh:=⟨[.bn U.Type, .fn 100 [.rp U.Gg 0], .int .i64, .int .i64],[]⟩) (run:=fun n x=>M.bZ aF x.1.1 x.1.2.1.1 x.1.2.2.1 n x.1.2.2.2.1) (iW:=sU) (out:=kC) aH (lN aF df) ai (az (by kernel_rfl)) (fun _=>rfl) (fun m x=>by kernel_rfl) (aA ⟨oN,fun _ _ _=>rfl⟩ (aA ⟨dV,fun _ _ _=>rfl⟩ (bg))) false aP
theorem wQ (aF:M.ae->(List Int)->Option (Bool)) (df:(dQ aF).Ok D Tryz.prog):(iK (M.eX aF)).Ok D Tryz.prog:=
 aW (cx:=fJ aF) (c:=iK (M.eX aF)) (fz:=true) (fn:=Tryz.f120) aH (lN aF df) ai ⟨Tryz.func120,by kernel_rfl⟩ (aX (bV 1 (by kernel_rfl) (gI (.mk (by kernel_rfl) (rX aF df))))) ⟨⟨[.int .i64],[]⟩,fun x=>x.1.1⟩ (fun x=>rfl) (fun x=>by kernel_rfl)
def gQ (m:(List M.ae)->(List Int)->Option (Bool)):bI K:={f:=99,sh:=⟨[.bn U.Type, .fn 100 [.rp U.Gg 0]],[]⟩,R:=Bool,run:=fun x=>m x.1.1 x.1.2.1.1,dflt:=default,out:=fun r=>(Sh.enc D (.bool) r,dK.encs D [] ())}
def kX (aF:M.ae->(List Int)->Option (Bool)):Cx K:={iG with mode:=aV .plain [(120, .plain)],call:=callOf D [iK (M.eX aF)],loop:=aU []}
theorem rH (aF:M.ae->(List Int)->Option (Bool)) (df:(dQ aF).Ok D Tryz.prog):aG (kX aF):=aB aH _ (aA (wQ aF df) (bg))
theorem sV (aF:M.ae->(List Int)->Option (Bool)) (df:(dQ aF).Ok D Tryz.prog):(gQ (M.dG aF)).Ok D Tryz.prog:=
 aW (cx:=kX aF) (c:=gQ (M.dG aF)) (fz:=true) (fn:=Tryz.f99) aH (rH aF df) ai ⟨Tryz.func99,by kernel_rfl⟩ (aX (az (by kernel_rfl))) ⟨⟨[.bool],[]⟩,fun x=>x.1.1⟩ (fun x=>rfl) (fun x=>by kernel_rfl)
def MZ (aF:M.ae->(List Int)->Option (Bool)):Cx K:={iG with mode:=aV .plain [(98, .plain),(99, .plain)],call:=callOf D [iY M.dW,gQ (M.dG aF)],loop:=aU []}
theorem Ud (aF:M.ae->(List Int)->Option (Bool)) (df:(dQ aF).Ok D Tryz.prog):aG (MZ aF):=aB aH _ (aA xh (aA (sV aF df) (bg)))
theorem Ue (aF:M.ae->(List Int)->Option (Bool)) (df:(dQ aF).Ok D Tryz.prog):(dQ (M.yL aF)).Ok D Tryz.prog:=
 aW (cx:=MZ aF) (c:=dQ (M.yL aF)) (fz:=true) (fn:=Tryz.f79) aH (Ud aF df) ai ⟨Tryz.func79,by kernel_rfl⟩ (aX (az (by kernel_rfl))) ⟨⟨[.bool],[]⟩,fun x=>x.1.1⟩ (fun x=>rfl) (fun x=>by kernel_rfl)
theorem H9 : ∀n,(dQ (M.kD n)).Ok D Tryz.prog
 |0=>oO fun _=>rfl
 |n+1=>Ue (M.kD n) (H9 n)
theorem Na : (dQ (M.pU)).Ok D Tryz.prog:=H9 aP
def Nb (aC:M.ae->Option (Bool)):Cx K:={iG with mode:=aV .plain [(99, .plain),(27, .plain),(115, .plain),(116, .plain),(117, .plain),(118, .plain),(103, .plain),(79, .plain)],call:=callOf D [iw (M.dC aC),jU M.uY,Ak M.xe,zD M.yJ,Fa M.vg,pI M.yK,mF M.rV,dQ M.pU],loop:=aU []}
theorem Uf (aC:M.ae->Option (Bool)) (cZ:(dS aC).Ok D Tryz.prog):aG (Nb aC):=aB aH _ (aA (uX aC cZ) (aA qx (aA Wq (aA Qz (aA Zg (aA Am (aA wZ (aA Na (bg)))))))))
theorem Ug (aC:M.ae->Option (Bool)) (cZ:(dS aC).Ok D Tryz.prog):(dS (M.ui aC)).Ok D Tryz.prog:=
 aW (cx:=Nb aC) (c:=dS (M.ui aC)) (fz:=true) (fn:=Tryz.f97) aH (Uf aC cZ) ai ⟨Tryz.func97,by kernel_rfl⟩ (aX (az (by kernel_rfl))) ⟨⟨[.bool],[]⟩,fun x=>x.1.1⟩ (fun x=>rfl) (fun x=>by kernel_rfl)
theorem Ia : ∀n,(dS (M.mG n)).Ok D Tryz.prog
 |0=>oO fun _=>rfl
 |n+1=>Ug (M.mG n) (Ia n)
theorem X5 : (dS (M.Jn)).Ok D Tryz.prog:=Ia aP
def Bz (m:M.ae->Option (Bool)):bI K:={f:=70,sh:=⟨[.el U.Type],[]⟩,R:=Bool,run:=fun x=>m x.1.1,dflt:=default,out:=fun r=>(Sh.enc D (.bool) r,dK.encs D [] ())}
def Uh : Cx K:={iG with mode:=aV .plain [(89, .plain),(90, .plain)],call:=callOf D [jl M.Jl,iI M.E5],loop:=aU []}
theorem X6 : aG (Uh):=aB aH _ (aA XY (aA Wj (bg)))
theorem Ui : (Bz (M.BA)).Ok D Tryz.prog:=
 aW (cx:=Uh) (c:=Bz (M.BA)) (fz:=true) (fn:=Tryz.f70) aH (X6) ai ⟨Tryz.func70,by kernel_rfl⟩ (aX (az (by kernel_rfl))) ⟨⟨[.bool],[]⟩,fun x=>x.1.1⟩ (fun x=>rfl) (fun x=>by kernel_rfl)
def fO (m:M.ae->Option (Int×(List UInt8)×(List (List UInt8))×(List M.ae))):bI K:={f:=62,sh:=⟨[.el U.Type],[]⟩,R:=Int×(List UInt8)×(List (List UInt8))×(List M.ae),run:=fun x=>m x.1.1,dflt:=default,out:=fun r=>(Sh.enc D (.agg [.int .i64, .str, .own 0, .own 1]) (r.1,(r.2.1,((),((),())))),dK.encs D [.arr U.str, .tree U.Type] (r.2.2.1,(r.2.2.2,())))}
def Ap (y:(List M.ae)) {R:Type} (k:Ex->List (AV K)->List (Ob K)->R):R:=match y with
 |a0=>k (Ex.exit 0) (gB.gW D ⟨[.own 1],[.dead, .tree U.Type]⟩ (((),()),((),(a0,())))) (gB.gY D ⟨[.own 1],[.dead, .tree U.Type]⟩ (((),()),((),(a0,()))))
def Nc : List (jb K ((List M.ae))):=[⟨(Ex.exit 0),⟨[.own 1],[.dead, .tree U.Type]⟩,fun x=>x.2.2.1⟩]
def DI (aK:M.ae->Option (Int×(List UInt8)×(List (List UInt8))×(List M.ae))):gZ K:=jh D false 20 1 [3,7,8,9] [3] ⟨[.own 1, .bn U.Type, .int .i64, .int .i64],[.dead, .tree U.Type]⟩ (fun x=>M.kS aK x.1.2.1 x.1.2.2.1 aP x.1.2.2.2.1 x.2.2.1) Ap
def yZ (m:(List M.ae)->Option ((List M.ae))):bI K:={f:=85,sh:=⟨[.bn U.Type],[]⟩,R:=(List M.ae),run:=fun x=>m x.1.1,dflt:=default,out:=fun r=>(Sh.enc D (.own 0) (),dK.encs D [.tree U.Type] (r,()))}
def vz (aK:M.ae->Option (Int×(List UInt8)×(List (List UInt8))×(List M.ae))):Cx K:={iG with mode:=aV .plain [(62, .fresh)],KY:=[[some U.Type]],deep:=fun c=>dO (D.cells c (K.zero c)),call:=callOf D [fO aK],loop:=aU [(3,DI aK)]}
theorem DJ (aK:M.ae->Option (Int×(List UInt8)×(List (List UInt8))×(List M.ae))) (fV:(fO aK).Ok D Tryz.prog):aG (vz aK):=aB aH _ (aA fV (bg))
theorem KZ (aK:M.ae->Option (Int×(List UInt8)×(List (List UInt8))×(List M.ae))) (fV:(fO aK).Ok D Tryz.prog):eG (vz aK) (eQ (fG Tryz.f85) 0) (DI aK):=
 dU (cx:=vz aK) (n:=20) (n0:=1) (ins:=[3,7,8,9]) (outs:=[3]) (sh:=⟨[.own 1, .bn U.Type, .int .i64, .int .i64],[.dead, .tree U.Type]⟩) (run:=fun n x=>M.kS aK x.1.2.1 x.1.2.2.1 n x.1.2.2.2.1 x.2.2.1) (iW:=Nc) (out:=Ap) aH (DJ aK fV) ai (az (by kernel_rfl)) (fun _=>rfl) (fun m x=>by kernel_rfl) (aA ⟨dV,fun _ _ _=>rfl⟩ (bg)) false aP
theorem Uj (aK:M.ae->Option (Int×(List UInt8)×(List (List UInt8))×(List M.ae))) (fV:(fO aK).Ok D Tryz.prog):(yZ (M.tX aK)).Ok D Tryz.prog:=
 aW (cx:=vz aK) (c:=yZ (M.tX aK)) (fz:=false) (fn:=Tryz.f85) aH (DJ aK fV) ai ⟨Tryz.func85,by kernel_rfl⟩ (aX (bV 1 (by kernel_rfl) (gI (.mk (by kernel_rfl) (KZ aK fV))))) ⟨⟨[.own 0],[.tree U.Type]⟩,fun x=>x.2.1⟩ (fun x=>rfl) (fun x=>by kernel_rfl)
def JX (aK:M.ae->Option (Int×(List UInt8)×(List (List UInt8))×(List M.ae))):Cx K:={iG with mode:=aV .plain [(84, .fresh),(85, .fresh)],KY:=[[none,none,some U.str,some U.Type]],deep:=fun c=>dO (D.cells c (K.zero c)),call:=callOf D [jc M.dA,yZ (M.tX aK)],loop:=aU []}
theorem RX (aK:M.ae->Option (Int×(List UInt8)×(List (List UInt8))×(List M.ae))) (fV:(fO aK).Ok D Tryz.prog):aG (JX aK):=aB aH _ (aA yC (aA (Uj aK fV) (bg)))
theorem RY (aK:M.ae->Option (Int×(List UInt8)×(List (List UInt8))×(List M.ae))) (fV:(fO aK).Ok D Tryz.prog):(fO (M.uS aK)).Ok D Tryz.prog:=
 aW (cx:=JX aK) (c:=fO (M.uS aK)) (fz:=false) (fn:=Tryz.f62) aH (RX aK fV) ai ⟨Tryz.func62,by kernel_rfl⟩ (aX (az (by kernel_rfl))) ⟨⟨[.agg [.int .i64, .str, .own 0, .own 1]],[.arr U.str, .tree U.Type]⟩,fun x=>(x.1.1.1,x.1.1.2.1,x.2.1,x.2.2.1)⟩ (fun x=>rfl) (fun x=>by kernel_rfl)
theorem Gt : ∀n,(fO (M.mf n)).Ok D Tryz.prog
 |0=>oO fun _=>rfl
 |n+1=>RY (M.mf n) (Gt n)
theorem Wv : (fO (M.ES)).Ok D Tryz.prog:=Gt aP
def ni (m:M.ae->Option (Bool)):bI K:={f:=46,sh:=⟨[.el U.Type],[]⟩,R:=Bool,run:=fun x=>m x.1.1,dflt:=default,out:=fun r=>(Sh.enc D (.bool) r,dK.encs D [] ())}
def Nh : Cx K:={iG with mode:=aV .plain [(70, .plain),(71, .plain)],call:=callOf D [Bz M.BA,jm M.rU],loop:=aU []}
theorem Uk : aG (Nh):=aB aH _ (aA Ui (aA Qu (bg)))
theorem vC : (ni (M.jE)).Ok D Tryz.prog:=
 aW (cx:=Nh) (c:=ni (M.jE)) (fz:=true) (fn:=Tryz.f46) aH (Uk) ai ⟨Tryz.func46,by kernel_rfl⟩ (aX (az (by kernel_rfl))) ⟨⟨[.bool],[]⟩,fun x=>x.1.1⟩ (fun x=>rfl) (fun x=>by kernel_rfl)
def Fb (m:M.ae->Option (Bool)):bI K:={f:=91,sh:=⟨[.el U.Type],[]⟩,R:=Bool,run:=fun x=>m x.1.1,dflt:=default,out:=fun r=>(Sh.enc D (.bool) r,dK.encs D [] ())}
def QC : Cx K:={iG with mode:=aV .plain [(70, .plain)],call:=callOf D [Bz M.BA],loop:=aU []}
theorem Wx : aG (QC):=aB aH _ (aA Ui (bg))
theorem Zh : (Fb (M.DK)).Ok D Tryz.prog:=
 aW (cx:=QC) (c:=Fb (M.DK)) (fz:=true) (fn:=Tryz.f91) aH (Wx) ai ⟨Tryz.func91,by kernel_rfl⟩ (aX (az (by kernel_rfl))) ⟨⟨[.bool],[]⟩,fun x=>x.1.1⟩ (fun x=>rfl) (fun x=>by kernel_rfl)
def dE (m:M.af->M.ae->Option (Bool)):bI K:={f:=92,sh:=⟨[.el U.Value, .el U.Type],[]⟩,R:=Bool,run:=fun x=>m x.1.1 x.1.2.1,dflt:=default,out:=fun r=>(Sh.enc D (.bool) r,dK.encs D [] ())}
def CB (m:(List M.af)->M.ae->Option (Bool)):bI K:={f:=113,sh:=⟨[.bn U.Value, .el U.Type],[]⟩,R:=Bool,run:=fun x=>m x.1.1 x.1.2.1,dflt:=default,out:=fun r=>(Sh.enc D (.bool) r,dK.encs D [] ())}
def Nj (aj:M.af->M.ae->Option (Bool)):Cx K:={iG with mode:=aV .plain [(92, .plain)],call:=callOf D [dE aj],loop:=aU []}
theorem Ul (aj:M.af->M.ae->Option (Bool)) (bD:(dE aj).Ok D Tryz.prog):aG (Nj aj):=aB aH _ (aA bD (bg))
theorem X7 (aj:M.af->M.ae->Option (Bool)) (bD:(dE aj).Ok D Tryz.prog):(CB (M.xm aj)).Ok D Tryz.prog:=
 aW (cx:=Nj aj) (c:=CB (M.xm aj)) (fz:=true) (fn:=Tryz.f113) aH (Ul aj bD) ai ⟨Tryz.func113,by kernel_rfl⟩ (aX (az (by kernel_rfl))) ⟨⟨[.bool],[]⟩,fun x=>x.1.1⟩ (fun x=>rfl) (fun x=>by kernel_rfl)
def BB (y:(Bool)⊕(Unit)) {R:Type} (k:Ex->List (AV K)->List (Ob K)->R):R:=match y with
 | .inl a0=>k Ex.ret (gB.gW D ⟨[.bool],[.dead]⟩ ((a0,()),((),()))) (gB.gY D ⟨[.bool],[.dead]⟩ ((a0,()),((),())))
 | .inr (a1)=>k (Ex.exit 0) (gB.gW D ⟨[.any],[.dead]⟩ (((),()),((),()))) (gB.gY D ⟨[.any],[.dead]⟩ (((),()),((),())))
def O6 : List (jb K ((Bool)⊕(Unit))):=[⟨Ex.ret,⟨[.bool],[.dead]⟩,fun x=> .inl x.1.1⟩,⟨(Ex.exit 0),⟨[.any],[.dead]⟩,fun x=> .inr (())⟩]
def Gu (aj:M.af->M.ae->Option (Bool)):gZ K:=jh D false 25 1 [0,5,7] [6] ⟨[.bn U.Value, .ptr 0 0, .int .i64],[.el U.Type]⟩ (fun x=>M.iE aj x.1.1 aP x.1.2.2.1 x.2.1) BB
def Aq (m:(List M.af)->Int->M.ae->Option (Bool)):bI K:={f:=108,sh:=⟨[.bn U.Value, .int .i64, .el U.Type],[]⟩,R:=Bool,run:=fun x=>m x.1.1 x.1.2.1 x.1.2.2.1,dflt:=default,out:=fun r=>(Sh.enc D (.bool) r,dK.encs D [] ())}
def yc (aj:M.af->M.ae->Option (Bool)):Cx K:={iG with mode:=aV .plain [(92, .plain)],call:=callOf D [dE aj],loop:=aU [(4,Gu aj)]}
theorem Gv (aj:M.af->M.ae->Option (Bool)) (bD:(dE aj).Ok D Tryz.prog):aG (yc aj):=aB aH _ (aA bD (bg))
theorem Nk (aj:M.af->M.ae->Option (Bool)) (bD:(dE aj).Ok D Tryz.prog):eG (yc aj) (eQ (fG Tryz.f108) 0) (Gu aj):=
 dU (cx:=yc aj) (n:=25) (n0:=1) (ins:=[0,5,7]) (outs:=[6]) (sh:=⟨[.bn U.Value, .ptr 0 0, .int .i64],[.el U.Type]⟩) (run:=fun n x=>M.iE aj x.1.1 n x.1.2.2.1 x.2.1) (iW:=O6) (out:=BB) aH (Gv aj bD) ai (az (by kernel_rfl)) (fun _=>rfl) (fun m x=>by kernel_rfl) (aA ⟨oN,fun _ _ _=>rfl⟩ (aA ⟨dV,fun _ _ _=>rfl⟩ (bg))) false aP
theorem Wy (aj:M.af->M.ae->Option (Bool)) (bD:(dE aj).Ok D Tryz.prog):(Aq (M.sW aj)).Ok D Tryz.prog:=
 aW (cx:=yc aj) (c:=Aq (M.sW aj)) (fz:=true) (fn:=Tryz.f108) aH (Gv aj bD) ai ⟨Tryz.func108,by kernel_rfl⟩ (aX (bV 1 (by kernel_rfl) (gI (.mk (by kernel_rfl) (Nk aj bD))))) ⟨⟨[.bool],[]⟩,fun x=>x.1.1⟩ (fun x=>rfl) (fun x=>by kernel_rfl)
def zG (m:Int->Option (Bool)):bI K:={f:=109,sh:=⟨[.int .i64],[]⟩,R:=Bool,run:=fun x=>m x.1.1,dflt:=default,out:=fun r=>(Sh.enc D (.bool) r,dK.encs D [] ())}
def QD : Cx K:={iG with mode:=aV .plain [(36, .plain)],call:=callOf D [jX M.xW],loop:=aU []}
theorem WA : aG (QD):=aB aH _ (aA qo (bg))
theorem QE : (zG (M.jR)).Ok D Tryz.prog:=
 aW (cx:=QD) (c:=zG (M.jR)) (fz:=true) (fn:=Tryz.f109) aH (WA) ai ⟨Tryz.func109,by kernel_rfl⟩ (aX (az (by kernel_rfl))) ⟨⟨[.bool],[]⟩,fun x=>x.1.1⟩ (fun x=>rfl) (fun x=>by kernel_rfl)
def BC (y:(List UInt8)×Int×Int) {R:Type} (k:Ex->List (AV K)->List (Ob K)->R):R:=match y with
 |a0=>k (Ex.exit 1) (gB.gW D ⟨[.str, .int .i64, .int .i64],[]⟩ ((a0.1,(a0.2.1,(a0.2.2,()))),())) (gB.gY D ⟨[.str, .int .i64, .int .i64],[]⟩ ((a0.1,(a0.2.1,(a0.2.2,()))),()))
def O7 : List (jb K ((List UInt8)×Int×Int)):=[⟨(Ex.exit 1),⟨[.str, .int .i64, .int .i64],[]⟩,fun x=>(x.1.1,x.1.2.1,x.1.2.2.1)⟩]
def Gw : gZ K:=jh D false 66 0 [0,4,5,6] [0,4,5] ⟨[.str, .int .i64, .int .i64, .int .i64],[]⟩ (fun x=>M.kE x.1.1 x.1.2.1 aP x.1.2.2.1 x.1.2.2.2.1) BC
def CE (m:Int->Option ((List UInt8))):bI K:={f:=137,sh:=⟨[.int .i64],[]⟩,R:=(List UInt8),run:=fun x=>m x.1.1,dflt:=default,out:=fun r=>(Sh.enc D (.str) r,dK.encs D [] ())}
def Nl : Cx K:={iG with mode:=aV .plain [],call:=callOf D [],loop:=aU []}
theorem Um : aG (Nl):=aB aH _ (bg)
theorem X8 : (CE (M.qW)).Ok D Tryz.prog:=
 aW (cx:=Nl) (c:=CE (M.qW)) (fz:=true) (fn:=Tryz.f137) aH (Um) ai ⟨Tryz.func137,by kernel_rfl⟩ (aX (az (by kernel_rfl))) ⟨⟨[.str],[]⟩,fun x=>x.1.1⟩ (fun x=>rfl) (fun x=>by kernel_rfl)
def Ar (m:(List UInt8)->Option (Int×Int)):bI K:={f:=132,sh:=⟨[.str],[]⟩,R:=Int×Int,run:=fun x=>m x.1.1,dflt:=default,out:=fun r=>(Sh.enc D (.ik [.int .i64, .int .i64]) (r.1,(r.2,())),dK.encs D [] ())}
def yf : Cx K:={iG with mode:=aV .plain [(109, .plain),(137, .plain)],call:=callOf D [zG M.jR,CE M.qW],loop:=aU [(13,Gw)]}
theorem Gx : aG (yf):=aB aH _ (aA QE (aA X8 (bg)))
theorem Np : eG (yf) (eQ (fG Tryz.f132) 0) (Gw):=
 dU (cx:=yf) (n:=66) (n0:=0) (ins:=[0,4,5,6]) (outs:=[0,4,5]) (sh:=⟨[.str, .int .i64, .int .i64, .int .i64],[]⟩) (run:=fun n x=>M.kE x.1.1 x.1.2.1 n x.1.2.2.1 x.1.2.2.2.1) (iW:=O7) (out:=BC) aH (Gx) ai (az (by kernel_rfl)) (fun _=>rfl) (fun m x=>by kernel_rfl) (aA ⟨dV,fun _ _ _=>rfl⟩ (bg)) false aP
theorem WB : (Ar (M.xn)).Ok D Tryz.prog:=
 aW (cx:=yf) (c:=Ar (M.xn)) (fz:=true) (fn:=Tryz.f132) aH (Gx) ai ⟨Tryz.func132,by kernel_rfl⟩ (aX (bV 1 (by kernel_rfl) (gI (.mk (by kernel_rfl) (Np))))) ⟨⟨[.ik [.int .i64, .int .i64]],[]⟩,fun x=>(x.1.1.1,x.1.1.2.1)⟩ (fun x=>rfl) (fun x=>by kernel_rfl)
def Au (y:(Bool×(List Int))⊕((List Int))) {R:Type} (k:Ex->List (AV K)->List (Ob K)->R):R:=match y with
 | .inl a0=>k Ex.ret (gB.gW D ⟨[.any, .own 2, .bool],[.dead, .dead, .arr U.i64]⟩ (((),((),(a0.1,()))),((),((),(a0.2,()))))) (gB.gY D ⟨[.any, .own 2, .bool],[.dead, .dead, .arr U.i64]⟩ (((),((),(a0.1,()))),((),((),(a0.2,())))))
 | .inr (a1)=>k (Ex.exit 0) (gB.gW D ⟨[.own 1, .any, .any],[.dead, .arr U.i64]⟩ (((),((),((),()))),((),(a1,())))) (gB.gY D ⟨[.own 1, .any, .any],[.dead, .arr U.i64]⟩ (((),((),((),()))),((),(a1,()))))
def Nq : List (jb K ((Bool×(List Int))⊕((List Int)))):=[⟨Ex.ret,⟨[.any, .own 2, .bool],[.dead, .dead, .arr U.i64]⟩,fun x=> .inl (x.1.2.2.1,x.2.2.2.1)⟩,⟨(Ex.exit 0),⟨[.own 1, .any, .any],[.dead, .arr U.i64]⟩,fun x=> .inr (x.2.2.1)⟩]
def DL : gZ K:=jh D false 26 1 [0,4] [4,2,3] ⟨[.str, .own 1],[.dead, .arr U.i64]⟩ (fun x=>M.kY aP x.1.1 x.2.2.1) Au
def y7 (m:(List UInt8)->Option ((List Int)×Bool)):bI K:={f:=126,sh:=⟨[.str],[]⟩,R:=(List Int)×Bool,run:=fun x=>m x.1.1,dflt:=default,out:=fun r=>(Sh.enc D (.ik [.bn U.i64, .bool]) (r.1,(r.2,())),dK.encs D [] ())}
def vF : Cx K:={iG with mode:=aV .plain [(132, .plain)],call:=callOf D [Ar M.xn],loop:=aU [(2,DL)]}
theorem DN : aG (vF):=aB aH _ (aA WB (bg))
theorem La : eG (vF) (eQ (fG Tryz.f126) 0) (DL):=
 dU (cx:=vF) (n:=26) (n0:=1) (ins:=[0,4]) (outs:=[4,2,3]) (sh:=⟨[.str, .own 1],[.dead, .arr U.i64]⟩) (run:=fun n x=>M.kY n x.1.1 x.2.2.1) (iW:=Nq) (out:=Au) aH (DN) ai (az (by kernel_rfl)) (fun _=>rfl) (fun m x=>by kernel_rfl) (aA ⟨oN,fun _ _ _=>rfl⟩ (aA ⟨dV,fun _ _ _=>rfl⟩ (bg))) false aP
theorem Un : (y7 (M.uj)).Ok D Tryz.prog:=
 aW (cx:=vF) (c:=y7 (M.uj)) (fz:=true) (fn:=Tryz.f126) aH (DN) ai ⟨Tryz.func126,by kernel_rfl⟩ (aX (bV 1 (by kernel_rfl) (gI (.mk (by kernel_rfl) (La))))) ⟨⟨[.ik [.bn U.i64, .bool]],[]⟩,fun x=>(x.1.1.1,x.1.1.2.1)⟩ (fun x=>rfl) (fun x=>by kernel_rfl)
def Fe (m:(List UInt8)->Option (Bool)):bI K:={f:=110,sh:=⟨[.str],[]⟩,R:=Bool,run:=fun x=>m x.1.1,dflt:=default,out:=fun r=>(Sh.enc D (.bool) r,dK.encs D [] ())}
def QF : Cx K:={iG with mode:=aV .plain [(126, .oU)],call:=callOf D [y7 M.uj],loop:=aU []}
theorem WC : aG (QF):=aB aH _ (aA Un (bg))
theorem Zi : (Fe (M.DR)).Ok D Tryz.prog:=
 aW (cx:=QF) (c:=Fe (M.DR)) (fz:=true) (fn:=Tryz.f110) aH (WC) ai ⟨Tryz.func110,by kernel_rfl⟩ (aX (az (by kernel_rfl))) ⟨⟨[.bool],[]⟩,fun x=>x.1.1⟩ (fun x=>rfl) (fun x=>by kernel_rfl)
def Gy (y:(Bool)⊕(Unit)) {R:Type} (k:Ex->List (AV K)->List (Ob K)->R):R:=match y with
 | .inl a0=>k Ex.ret (gB.gW D ⟨[.bool],[]⟩ ((a0,()),())) (gB.gY D ⟨[.bool],[]⟩ ((a0,()),()))
 | .inr (a1)=>k (Ex.exit 0) (gB.gW D ⟨[.any],[]⟩ (((),()),())) (gB.gY D ⟨[.any],[]⟩ (((),()),()))
def Uo : List (jb K ((Bool)⊕(Unit))):=[⟨Ex.ret,⟨[.bool],[]⟩,fun x=> .inl x.1.1⟩,⟨(Ex.exit 0),⟨[.any],[]⟩,fun x=> .inr (())⟩]
def JY (aj:M.af->M.ae->Option (Bool)):gZ K:=jh D false 27 0 [0,1,5] [4] ⟨[.bn U.Value, .bn U.Type, .int .i64],[]⟩ (fun x=>M.kF aj x.1.1 x.1.2.1 aP x.1.2.2.1) Gy
def Ff (m:(List M.af)->(List M.ae)->Option (Bool)):bI K:={f:=111,sh:=⟨[.bn U.Value, .bn U.Type],[]⟩,R:=Bool,run:=fun x=>m x.1.1 x.1.2.1,dflt:=default,out:=fun r=>(Sh.enc D (.bool) r,dK.encs D [] ())}
def BD (aj:M.af->M.ae->Option (Bool)):Cx K:={iG with mode:=aV .plain [(92, .plain)],call:=callOf D [dE aj],loop:=aU [(4,JY aj)]}
theorem JZ (aj:M.af->M.ae->Option (Bool)) (bD:(dE aj).Ok D Tryz.prog):aG (BD aj):=aB aH _ (aA bD (bg))
theorem RZ (aj:M.af->M.ae->Option (Bool)) (bD:(dE aj).Ok D Tryz.prog):eG (BD aj) (eQ (fG Tryz.f111) 0) (JY aj):=
 dU (cx:=BD aj) (n:=27) (n0:=0) (ins:=[0,1,5]) (outs:=[4]) (sh:=⟨[.bn U.Value, .bn U.Type, .int .i64],[]⟩) (run:=fun n x=>M.kF aj x.1.1 x.1.2.1 n x.1.2.2.1) (iW:=Uo) (out:=Gy) aH (JZ aj bD) ai (az (by kernel_rfl)) (fun _=>rfl) (fun m x=>by kernel_rfl) (aA ⟨oN,fun _ _ _=>rfl⟩ (aA ⟨dV,fun _ _ _=>rfl⟩ (bg))) false aP
theorem Zj (aj:M.af->M.ae->Option (Bool)) (bD:(dE aj).Ok D Tryz.prog):(Ff (M.DT aj)).Ok D Tryz.prog:=
 aW (cx:=BD aj) (c:=Ff (M.DT aj)) (fz:=true) (fn:=Tryz.f111) aH (JZ aj bD) ai ⟨Tryz.func111,by kernel_rfl⟩ (aX (bV 1 (by kernel_rfl) (gI (.mk (by kernel_rfl) (RZ aj bD))))) ⟨⟨[.bool],[]⟩,fun x=>x.1.1⟩ (fun x=>rfl) (fun x=>by kernel_rfl)
def Aw (m:Int->Option (Int×Int×Bool)):bI K:={f:=112,sh:=⟨[.int .i64],[]⟩,R:=Int×Int×Bool,run:=fun x=>m x.1.1,dflt:=default,out:=fun r=>(Sh.enc D (.ik [.int .i64, .int .i64, .bool]) (r.1,(r.2.1,(r.2.2,()))),dK.encs D [] ())}
def J3 : Cx K:={iG with mode:=aV .plain [],call:=callOf D [],loop:=aU []}
theorem Si : aG (J3):=aB aH _ (bg)
theorem WE : (Aw (M.Az)).Ok D Tryz.prog:=
 aW (cx:=J3) (c:=Aw (M.Az)) (fz:=true) (fn:=Tryz.f112) aH (Si) ai ⟨Tryz.func112,by kernel_rfl⟩ (aX (az (by kernel_rfl))) ⟨⟨[.ik [.int .i64, .int .i64, .bool]],[]⟩,fun x=>(x.1.1.1,x.1.1.2.1,x.1.1.2.2.1)⟩ (fun x=>rfl) (fun x=>by kernel_rfl)
def Nr (aj:M.af->M.ae->Option (Bool)):Cx K:={iG with mode:=aV .plain [(108, .plain),(109, .plain),(110, .plain),(111, .plain),(112, .plain),(36, .plain),(113, .plain)],call:=callOf D [jX M.xW,CB (M.xm aj),Aq (M.sW aj),zG M.jR,Fe M.DR,Ff (M.DT aj),Aw M.Az],loop:=aU []}
theorem Ur (aj:M.af->M.ae->Option (Bool)) (bD:(dE aj).Ok D Tryz.prog):aG (Nr aj):=aB aH _ (aA qo (aA (X7 aj bD) (aA (Wy aj bD) (aA QE (aA Zi (aA (Zj aj bD) (aA WE (bg))))))))
theorem Us (aj:M.af->M.ae->Option (Bool)) (bD:(dE aj).Ok D Tryz.prog):(dE (M.mJ aj)).Ok D Tryz.prog:=
 aW (cx:=Nr aj) (c:=dE (M.mJ aj)) (fz:=true) (fn:=Tryz.f92) aH (Ur aj bD) ai ⟨Tryz.func92,by kernel_rfl⟩ (aX (az (by kernel_rfl))) ⟨⟨[.bool],[]⟩,fun x=>x.1.1⟩ (fun x=>rfl) (fun x=>by kernel_rfl)
theorem Ib : ∀n,(dE (M.qA n)).Ok D Tryz.prog
 |0=>oO fun _=>rfl
 |n+1=>Us (M.qA n) (Ib n)
theorem X9 : (dE (M.Jo)).Ok D Tryz.prog:=Ib aP
def Lc (m:M.af->M.ae->Option (Bool)):bI K:={f:=72,sh:=⟨[.el U.Value, .el U.Type],[]⟩,R:=Bool,run:=fun x=>m x.1.1 x.1.2.1,dflt:=default,out:=fun r=>(Sh.enc D (.bool) r,dK.encs D [] ())}
def Xm : Cx K:={iG with mode:=aV .plain [(91, .plain),(92, .plain)],call:=callOf D [Fb M.DK,dE M.Jo],loop:=aU []}
theorem Zk : aG (Xm):=aB aH _ (aA Zh (aA X9 (bg)))
theorem acK : (Lc (M.O8)).Ok D Tryz.prog:=
 aW (cx:=Xm) (c:=Lc (M.O8)) (fz:=true) (fn:=Tryz.f72) aH (Zk) ai ⟨Tryz.func72,by kernel_rfl⟩ (aX (az (by kernel_rfl))) ⟨⟨[.bool],[]⟩,fun x=>x.1.1⟩ (fun x=>rfl) (fun x=>by kernel_rfl)
def DU (y:(Bool)⊕(Unit)) {R:Type} (k:Ex->List (AV K)->List (Ob K)->R):R:=match y with
 | .inl a0=>k Ex.ret (gB.gW D ⟨[.bool],[.dead]⟩ ((a0,()),((),()))) (gB.gY D ⟨[.bool],[.dead]⟩ ((a0,()),((),())))
 | .inr (a1)=>k (Ex.exit 0) (gB.gW D ⟨[.any],[.dead]⟩ (((),()),((),()))) (gB.gY D ⟨[.any],[.dead]⟩ (((),()),((),())))
def Sj : List (jb K ((Bool)⊕(Unit))):=[⟨Ex.ret,⟨[.bool],[.dead]⟩,fun x=> .inl x.1.1⟩,⟨(Ex.exit 0),⟨[.any],[.dead]⟩,fun x=> .inr (())⟩]
def Ic : gZ K:=jh D false 25 1 [0,4,7] [6] ⟨[.bn U.Value, .ptr 0 0, .int .i64],[.el U.Type]⟩ (fun x=>M.jq x.1.1 aP x.1.2.2.1 x.2.1) DU
def CG (m:(List M.af)->M.ae->Int->Option (Bool)):bI K:={f:=47,sh:=⟨[.bn U.Value, .el U.Type, .int .i64],[]⟩,R:=Bool,run:=fun x=>m x.1.1 x.1.2.1 x.1.2.2.1,dflt:=default,out:=fun r=>(Sh.enc D (.bool) r,dK.encs D [] ())}
def zH : Cx K:={iG with mode:=aV .plain [(72, .plain)],call:=callOf D [Lc M.O8],loop:=aU [(4,Ic)]}
theorem Ie : aG (zH):=aB aH _ (aA acK (bg))
theorem O9 : eG (zH) (eQ (fG Tryz.f47) 0) (Ic):=
 dU (cx:=zH) (n:=25) (n0:=1) (ins:=[0,4,7]) (outs:=[6]) (sh:=⟨[.bn U.Value, .ptr 0 0, .int .i64],[.el U.Type]⟩) (run:=fun n x=>M.jq x.1.1 n x.1.2.2.1 x.2.1) (iW:=Sj) (out:=DU) aH (Ie) ai (az (by kernel_rfl)) (fun _=>rfl) (fun m x=>by kernel_rfl) (aA ⟨oN,fun _ _ _=>rfl⟩ (aA ⟨dV,fun _ _ _=>rfl⟩ (bg))) false aP
theorem Ya : (CG (M.zU)).Ok D Tryz.prog:=
 aW (cx:=zH) (c:=CG (M.zU)) (fz:=true) (fn:=Tryz.f47) aH (Ie) ai ⟨Tryz.func47,by kernel_rfl⟩ (aX (bV 1 (by kernel_rfl) (gI (.mk (by kernel_rfl) (O9))))) ⟨⟨[.bool],[]⟩,fun x=>x.1.1⟩ (fun x=>rfl) (fun x=>by kernel_rfl)
def nS (m:M.ah->Option (Bool)):bI K:={f:=10,sh:=⟨[.el U.Stream],[]⟩,R:=Bool,run:=fun x=>m x.1.1,dflt:=default,out:=fun r=>(Sh.enc D (.bool) r,dK.encs D [] ())}
def J4 : Cx K:={iG with mode:=aV .plain [(46, .plain),(36, .plain),(47, .plain)],call:=callOf D [ni M.jE,jX M.xW,CG M.zU],loop:=aU []}
theorem Sl : aG (J4):=aB aH _ (aA vC (aA qo (aA Ya (bg))))
theorem yg : (nS (M.je)).Ok D Tryz.prog:=
 aW (cx:=J4) (c:=nS (M.je)) (fz:=true) (fn:=Tryz.f10) aH (Sl) ai ⟨Tryz.func10,by kernel_rfl⟩ (aX (az (by kernel_rfl))) ⟨⟨[.bool],[]⟩,fun x=>x.1.1⟩ (fun x=>rfl) (fun x=>by kernel_rfl)
def gq (m:M.ae->Option (M.ae)):bI K:={f:=51,sh:=⟨[.el U.Type],[]⟩,R:=M.ae,run:=fun x=>m x.1.1,dflt:=default,out:=fun r=>(Sh.enc D (.el U.Type) r,dK.encs D [] ())}
def Gz (y:Int×(List UInt8)×Int×(List UInt8)×(List (List UInt8))×(List M.ae)×(List (List UInt8))×(List M.ae)) {R:Type} (k:Ex->List (AV K)->List (Ob K)->R):R:=match y with
 |a0=>k (Ex.exit 0) (gB.gW D ⟨[.ptr 1 0, .ptr 2 0],[.dead, .box [.int .i64, .str, .own 7, .own 8], .box [.int .i64, .str, .own 9, .own 10], .dead, .dead, .dead, .dead, .arr U.str, .arr U.Type, .arr U.str, .arr U.Type]⟩ (((),((),())),((),((a0.1,(a0.2.1,((),((),())))),((a0.2.2.1,(a0.2.2.2.1,((),((),())))),((),((),((),((),(a0.2.2.2.2.1,(a0.2.2.2.2.2.1,(a0.2.2.2.2.2.2.1,(a0.2.2.2.2.2.2.2,()))))))))))))) (gB.gY D ⟨[.ptr 1 0, .ptr 2 0],[.dead, .box [.int .i64, .str, .own 7, .own 8], .box [.int .i64, .str, .own 9, .own 10], .dead, .dead, .dead, .dead, .arr U.str, .arr U.Type, .arr U.str, .arr U.Type]⟩ (((),((),())),((),((a0.1,(a0.2.1,((),((),())))),((a0.2.2.1,(a0.2.2.2.1,((),((),())))),((),((),((),((),(a0.2.2.2.2.1,(a0.2.2.2.2.2.1,(a0.2.2.2.2.2.2.1,(a0.2.2.2.2.2.2.2,())))))))))))))
def Ut : List (jb K (Int×(List UInt8)×Int×(List UInt8)×(List (List UInt8))×(List M.ae)×(List (List UInt8))×(List M.ae))):=[⟨(Ex.exit 0),⟨[.ptr 1 0, .ptr 2 0],[.dead, .box [.int .i64, .str, .own 7, .own 8], .box [.int .i64, .str, .own 9, .own 10], .dead, .dead, .dead, .dead, .arr U.str, .arr U.Type, .arr U.str, .arr U.Type]⟩,fun x=>(x.2.2.1.1,x.2.2.1.2.1,x.2.2.2.1.1,x.2.2.2.1.2.1,x.2.2.2.2.2.2.2.2.1,x.2.2.2.2.2.2.2.2.2.1,x.2.2.2.2.2.2.2.2.2.2.1,x.2.2.2.2.2.2.2.2.2.2.2.1)⟩]
def J5 (bH:M.ae->Option (M.ae)):gZ K:=jh D false 33 7 [1,2,3,4] [2,3] ⟨[.ptr 0 0, .ptr 1 0, .ptr 2 0, .int .i64],[.el U.Type, .box [.int .i64, .str, .own 7, .own 8], .box [.int .i64, .str, .own 9, .own 10], .dead, .dead, .dead, .dead, .arr U.str, .arr U.Type, .arr U.str, .arr U.Type]⟩ (fun x=>M.oz bH x.2.2.1.1 x.2.2.1.2.1 x.2.2.2.1.1 x.2.2.2.1.2.1 x.2.2.2.2.2.2.2.2.1 x.2.2.2.2.2.2.2.2.2.1 x.2.2.2.2.2.2.2.2.2.2.1 aP x.1.2.2.2.1 x.2.1 x.2.2.2.2.2.2.2.2.2.2.2.1) Gz
def BF (bH:M.ae->Option (M.ae)):Cx K:={iG with mode:=aV .plain [(51, .oU)],call:=callOf D [gq bH],loop:=aU [(3,J5 bH)]}
theorem J6 (bH:M.ae->Option (M.ae)) (pV:(gq bH).Ok D Tryz.prog):aG (BF bH):=aB aH _ (aA pV (bg))
theorem Sm (bH:M.ae->Option (M.ae)) (pV:(gq bH).Ok D Tryz.prog):eG (BF bH) (eQ (fG Tryz.f51) 0) (J5 bH):=
 dU (cx:=BF bH) (n:=33) (n0:=7) (ins:=[1,2,3,4]) (outs:=[2,3]) (sh:=⟨[.ptr 0 0, .ptr 1 0, .ptr 2 0, .int .i64],[.el U.Type, .box [.int .i64, .str, .own 7, .own 8], .box [.int .i64, .str, .own 9, .own 10], .dead, .dead, .dead, .dead, .arr U.str, .arr U.Type, .arr U.str, .arr U.Type]⟩) (run:=fun n x=>M.oz bH x.2.2.1.1 x.2.2.1.2.1 x.2.2.2.1.1 x.2.2.2.1.2.1 x.2.2.2.2.2.2.2.2.1 x.2.2.2.2.2.2.2.2.2.1 x.2.2.2.2.2.2.2.2.2.2.1 n x.1.2.2.2.1 x.2.1 x.2.2.2.2.2.2.2.2.2.2.2.1) (iW:=Ut) (out:=Gz) aH (J6 bH pV) ai (az (by kernel_rfl)) (fun _=>rfl) (fun m x=>by kernel_rfl) (aA ⟨dV,fun _ _ _=>rfl⟩ (bg)) false aP
theorem WG (bH:M.ae->Option (M.ae)) (pV:(gq bH).Ok D Tryz.prog):(gq (M.Ad bH)).Ok D Tryz.prog:=
 aW (cx:=BF bH) (c:=gq (M.Ad bH)) (fz:=true) (fn:=Tryz.f51) aH (J6 bH pV) ai ⟨Tryz.func51,by kernel_rfl⟩ (aX (bV 1 (by kernel_rfl) (gI (.mk (by kernel_rfl) (Sm bH pV))))) ⟨⟨[.el U.Type],[]⟩,fun x=>x.1.1⟩ (fun x=>rfl) (fun x=>by kernel_rfl)
theorem J7 : ∀n,(gq (M.ql n)).Ok D Tryz.prog
 |0=>oO fun _=>rfl
 |n+1=>WG (M.ql n) (J7 n)
theorem yM : (gq (M.nN)).Ok D Tryz.prog:=J7 aP
def iL (m:M.af->Option (M.af)):bI K:={f:=87,sh:=⟨[.el U.Value],[]⟩,R:=M.af,run:=fun x=>m x.1.1,dflt:=default,out:=fun r=>(Sh.enc D (.el U.Value) r,dK.encs D [] ())}
def BG (y:Int×Int×(List UInt8)×Int×Int×(List UInt8)×(List M.af)×(List M.af)) {R:Type} (k:Ex->List (AV K)->List (Ob K)->R):R:=match y with
 |a0=>k (Ex.exit 0) (gB.gW D ⟨[.ptr 1 0, .ptr 2 0],[.dead, .box [.int .i64, .int .i64, .str, .own 5], .box [.int .i64, .int .i64, .str, .own 6], .dead, .dead, .arr U.Value, .arr U.Value]⟩ (((),((),())),((),((a0.1,(a0.2.1,(a0.2.2.1,((),())))),((a0.2.2.2.1,(a0.2.2.2.2.1,(a0.2.2.2.2.2.1,((),())))),((),((),(a0.2.2.2.2.2.2.1,(a0.2.2.2.2.2.2.2,()))))))))) (gB.gY D ⟨[.ptr 1 0, .ptr 2 0],[.dead, .box [.int .i64, .int .i64, .str, .own 5], .box [.int .i64, .int .i64, .str, .own 6], .dead, .dead, .arr U.Value, .arr U.Value]⟩ (((),((),())),((),((a0.1,(a0.2.1,(a0.2.2.1,((),())))),((a0.2.2.2.1,(a0.2.2.2.2.1,(a0.2.2.2.2.2.1,((),())))),((),((),(a0.2.2.2.2.2.2.1,(a0.2.2.2.2.2.2.2,())))))))))
def Pg : List (jb K (Int×Int×(List UInt8)×Int×Int×(List UInt8)×(List M.af)×(List M.af))):=[⟨(Ex.exit 0),⟨[.ptr 1 0, .ptr 2 0],[.dead, .box [.int .i64, .int .i64, .str, .own 5], .box [.int .i64, .int .i64, .str, .own 6], .dead, .dead, .arr U.Value, .arr U.Value]⟩,fun x=>(x.2.2.1.1,x.2.2.1.2.1,x.2.2.1.2.2.1,x.2.2.2.1.1,x.2.2.2.1.2.1,x.2.2.2.1.2.2.1,x.2.2.2.2.2.2.1,x.2.2.2.2.2.2.2.1)⟩]
def GG (aZ:M.af->Option (M.af)):gZ K:=jh D false 31 5 [1,2,3,4] [2,3] ⟨[.ptr 0 0, .ptr 1 0, .ptr 2 0, .int .i64],[.el U.Value, .box [.int .i64, .int .i64, .str, .own 5], .box [.int .i64, .int .i64, .str, .own 6], .dead, .dead, .arr U.Value, .arr U.Value]⟩ (fun x=>M.jk aZ x.2.2.1.1 x.2.2.1.2.1 x.2.2.1.2.2.1 x.2.2.2.1.1 x.2.2.2.1.2.1 x.2.2.2.1.2.2.1 x.2.2.2.2.2.2.1 aP x.1.2.2.2.1 x.2.1 x.2.2.2.2.2.2.2.1) BG
def yh (aZ:M.af->Option (M.af)):Cx K:={iG with mode:=aV .plain [(87, .oU)],call:=callOf D [iL aZ],loop:=aU [(3,GG aZ)]}
theorem GH (aZ:M.af->Option (M.af)) (lX:(iL aZ).Ok D Tryz.prog):aG (yh aZ):=aB aH _ (aA lX (bg))
theorem Ns (aZ:M.af->Option (M.af)) (lX:(iL aZ).Ok D Tryz.prog):eG (yh aZ) (eQ (fG Tryz.f87) 0) (GG aZ):=
 dU (cx:=yh aZ) (n:=31) (n0:=5) (ins:=[1,2,3,4]) (outs:=[2,3]) (sh:=⟨[.ptr 0 0, .ptr 1 0, .ptr 2 0, .int .i64],[.el U.Value, .box [.int .i64, .int .i64, .str, .own 5], .box [.int .i64, .int .i64, .str, .own 6], .dead, .dead, .arr U.Value, .arr U.Value]⟩) (run:=fun n x=>M.jk aZ x.2.2.1.1 x.2.2.1.2.1 x.2.2.1.2.2.1 x.2.2.2.1.1 x.2.2.2.1.2.1 x.2.2.2.1.2.2.1 x.2.2.2.2.2.2.1 n x.1.2.2.2.1 x.2.1 x.2.2.2.2.2.2.2.1) (iW:=Pg) (out:=BG) aH (GH aZ lX) ai (az (by kernel_rfl)) (fun _=>rfl) (fun m x=>by kernel_rfl) (aA ⟨dV,fun _ _ _=>rfl⟩ (bg)) false aP
theorem Sr (aZ:M.af->Option (M.af)) (lX:(iL aZ).Ok D Tryz.prog):(iL (M.uT aZ)).Ok D Tryz.prog:=
 aW (cx:=yh aZ) (c:=iL (M.uT aZ)) (fz:=true) (fn:=Tryz.f87) aH (GH aZ lX) ai ⟨Tryz.func87,by kernel_rfl⟩ (aX (bV 1 (by kernel_rfl) (gI (.mk (by kernel_rfl) (Ns aZ lX))))) ⟨⟨[.el U.Value],[]⟩,fun x=>x.1.1⟩ (fun x=>rfl) (fun x=>by kernel_rfl)
theorem GI : ∀n,(iL (M.jT n)).Ok D Tryz.prog
 |0=>oO fun _=>rfl
 |n+1=>Sr (M.jT n) (GI n)
theorem WH : (iL (M.ET)).Ok D Tryz.prog:=GI aP
def ai7 (m:M.ah->Option (M.ah×Int)):bI K:={f:=39,sh:=⟨[.el U.Stream],[]⟩,R:=M.ah×Int,run:=fun x=>m x.1.1,dflt:=default,out:=fun r=>(Sh.enc D (.ik [.el U.Stream, .int .i64]) (r.1,(r.2,())),dK.encs D [] ())}
def aki : Cx K:={iG with mode:=aV .plain [],call:=callOf D [],loop:=aU []}
theorem akN : aG (aki):=aB aH _ (bg)
theorem ak6 : (ai7 (M.aiv)).Ok D Tryz.prog:=
 aW (cx:=aki) (c:=ai7 (M.aiv)) (fz:=true) (fn:=Tryz.f39) aH (akN) ai ⟨Tryz.func39,by kernel_rfl⟩ (aX (az (by kernel_rfl))) ⟨⟨[.ik [.el U.Stream, .int .i64]],[]⟩,fun x=>(x.1.1.1,x.1.1.2.1)⟩ (fun x=>rfl) (fun x=>by kernel_rfl)
def Fg (m:M.ae->Option (Bool)):bI K:={f:=77,sh:=⟨[.el U.Type],[]⟩,R:=Bool,run:=fun x=>m x.1.1,dflt:=default,out:=fun r=>(Sh.enc D (.bool) r,dK.encs D [] ())}
def QG : Cx K:={iG with mode:=aV .plain [(95, .plain),(96, .plain),(97, .plain)],call:=callOf D [oQ M.X3,mr M.TB,dS M.Jn],loop:=aU []}
theorem WI : aG (QG):=aB aH _ (aA acJ (aA aaT (aA X5 (bg))))
theorem Zl : (Fg (M.DV)).Ok D Tryz.prog:=
 aW (cx:=QG) (c:=Fg (M.DV)) (fz:=true) (fn:=Tryz.f77) aH (WI) ai ⟨Tryz.func77,by kernel_rfl⟩ (aX (az (by kernel_rfl))) ⟨⟨[.bool],[]⟩,fun x=>x.1.1⟩ (fun x=>rfl) (fun x=>by kernel_rfl)
def xq (m:M.ae->Option (Bool)):bI K:={f:=55,sh:=⟨[.el U.Type],[]⟩,R:=Bool,run:=fun x=>m x.1.1,dflt:=default,out:=fun r=>(Sh.enc D (.bool) r,dK.encs D [] ())}
def GK : Cx K:={iG with mode:=aV .plain [(77, .plain),(78, .plain),(79, .plain)],call:=callOf D [Fg M.DV,ve M.H8,dQ M.pU],loop:=aU []}
theorem Nu : aG (GK):=aB aH _ (aA Zl (aA H7 (aA Na (bg))))
theorem Su : (xq (M.qX)).Ok D Tryz.prog:=
 aW (cx:=GK) (c:=xq (M.qX)) (fz:=true) (fn:=Tryz.f55) aH (Nu) ai ⟨Tryz.func55,by kernel_rfl⟩ (aX (az (by kernel_rfl))) ⟨⟨[.bool],[]⟩,fun x=>x.1.1⟩ (fun x=>rfl) (fun x=>by kernel_rfl)
def nU (m:(List M.af)->Option (Int)):bI K:={f:=56,sh:=⟨[.bn U.Value],[]⟩,R:=Int,run:=fun x=>m x.1.1,dflt:=default,out:=fun r=>(Sh.enc D (.int .i64) r,dK.encs D [] ())}
def GL : Cx K:={iG with mode:=aV .plain [],call:=callOf D [],loop:=aU []}
theorem Nv : aG (GL):=aB aH _ (bg)
theorem y8 : (nU (M.vG)).Ok D Tryz.prog:=
 aW (cx:=GL) (c:=nU (M.vG)) (fz:=true) (fn:=Tryz.f56) aH (Nv) ai ⟨Tryz.func56,by kernel_rfl⟩ (aX (az (by kernel_rfl))) ⟨⟨[.int .i64],[]⟩,fun x=>x.1.1⟩ (fun x=>rfl) (fun x=>by kernel_rfl)
def AA (m:Int->Option (Int×Int×Bool)):bI K:={f:=101,sh:=⟨[.int .i64],[]⟩,R:=Int×Int×Bool,run:=fun x=>m x.1.1,dflt:=default,out:=fun r=>(Sh.enc D (.ik [.int .i64, .int .i64, .bool]) (r.1,(r.2.1,(r.2.2,()))),dK.encs D [] ())}
def J8 : Cx K:={iG with mode:=aV .plain [],call:=callOf D [],loop:=aU []}
theorem Sv : aG (J8):=aB aH _ (bg)
theorem WJ : (AA (M.xu)).Ok D Tryz.prog:=
 aW (cx:=J8) (c:=AA (M.xu)) (fz:=true) (fn:=Tryz.f101) aH (Sv) ai ⟨Tryz.func101,by kernel_rfl⟩ (aX (az (by kernel_rfl))) ⟨⟨[.ik [.int .i64, .int .i64, .bool]],[]⟩,fun x=>(x.1.1.1,x.1.1.2.1,x.1.1.2.2.1)⟩ (fun x=>rfl) (fun x=>by kernel_rfl)
def Fh (m:Int->Option (Bool)):bI K:={f:=102,sh:=⟨[.int .i64],[]⟩,R:=Bool,run:=fun x=>m x.1.1,dflt:=default,out:=fun r=>(Sh.enc D (.bool) r,dK.encs D [] ())}
def QH : Cx K:={iG with mode:=aV .plain [(27, .plain)],call:=callOf D [jU M.uY],loop:=aU []}
theorem WL : aG (QH):=aB aH _ (aA qx (bg))
theorem Zm : (Fh (M.Nw)).Ok D Tryz.prog:=
 aW (cx:=QH) (c:=Fh (M.Nw)) (fz:=true) (fn:=Tryz.f102) aH (WL) ai ⟨Tryz.func102,by kernel_rfl⟩ (aX (az (by kernel_rfl))) ⟨⟨[.bool],[]⟩,fun x=>x.1.1⟩ (fun x=>rfl) (fun x=>by kernel_rfl)
def Ig (m:M.af->M.ae->Option (Bool)):bI K:={f:=81,sh:=⟨[.el U.Value, .el U.Type],[]⟩,R:=Bool,run:=fun x=>m x.1.1 x.1.2.1,dflt:=default,out:=fun r=>(Sh.enc D (.bool) r,dK.encs D [] ())}
def Uu : Cx K:={iG with mode:=aV .plain [(101, .plain),(102, .plain),(103, .plain),(27, .plain)],call:=callOf D [jU M.uY,AA M.xu,Fh M.Nw,mF M.rV],loop:=aU []}
theorem Yb : aG (Uu):=aB aH _ (aA qx (aA WJ (aA Zm (aA wZ (bg)))))
theorem aaU : (Ig (M.Jp)).Ok D Tryz.prog:=
 aW (cx:=Uu) (c:=Ig (M.Jp)) (fz:=true) (fn:=Tryz.f81) aH (Yb) ai ⟨Tryz.func81,by kernel_rfl⟩ (aX (az (by kernel_rfl))) ⟨⟨[.bool],[]⟩,fun x=>x.1.1⟩ (fun x=>rfl) (fun x=>by kernel_rfl)
def Fj (m:(List UInt8)->Option (Bool)):bI K:={f:=82,sh:=⟨[.str],[]⟩,R:=Bool,run:=fun x=>m x.1.1,dflt:=default,out:=fun r=>(Sh.enc D (.bool) r,dK.encs D [] ())}
def QI : Cx K:={iG with mode:=aV .plain [(104, .plain)],call:=callOf D [jJ M.dJ],loop:=aU []}
theorem WM : aG (QI):=aB aH _ (aA zy (bg))
theorem Zn : (Fj (M.DW)).Ok D Tryz.prog:=
 aW (cx:=QI) (c:=Fj (M.DW)) (fz:=true) (fn:=Tryz.f82) aH (WM) ai ⟨Tryz.func82,by kernel_rfl⟩ (aX (az (by kernel_rfl))) ⟨⟨[.bool],[]⟩,fun x=>x.1.1⟩ (fun x=>rfl) (fun x=>by kernel_rfl)
def AB (m:M.ae->Int->Option (M.ae×Bool)):bI K:={f:=106,sh:=⟨[.el U.Type, .int .i64],[]⟩,R:=M.ae×Bool,run:=fun x=>m x.1.1 x.1.2.1,dflt:=default,out:=fun r=>(Sh.enc D (.ik [.el U.Type, .bool]) (r.1,(r.2,())),dK.encs D [] ())}
def J9 : Cx K:={iG with mode:=aV .plain [(118, .plain),(27, .plain)],call:=callOf D [pI M.yK,jU M.uY],loop:=aU []}
theorem Sz : aG (J9):=aB aH _ (aA Am (aA qx (bg)))
theorem WN : (AB (M.qB)).Ok D Tryz.prog:=
 aW (cx:=J9) (c:=AB (M.qB)) (fz:=true) (fn:=Tryz.f106) aH (Sz) ai ⟨Tryz.func106,by kernel_rfl⟩ (aX (az (by kernel_rfl))) ⟨⟨[.ik [.el U.Type, .bool]],[]⟩,fun x=>(x.1.1.1,x.1.1.2.1)⟩ (fun x=>rfl) (fun x=>by kernel_rfl)
def AL (m:M.af->M.ae->Option ((List M.ae)×Bool)):bI K:={f:=83,sh:=⟨[.el U.Value, .el U.Type],[]⟩,R:=(List M.ae)×Bool,run:=fun x=>m x.1.1 x.1.2.1,dflt:=default,out:=fun r=>(Sh.enc D (.ik [.bn U.Type, .bool]) (r.1,(r.2,())),dK.encs D [] ())}
def Ko : Cx K:={iG with mode:=aV .plain [(105, .oU),(106, .oU),(78, .plain)],call:=callOf D [jS M.dP,AB M.qB,ve M.H8],loop:=aU []}
theorem SA : aG (Ko):=aB aH _ (aA Ac (aA WN (aA H7 (bg))))
theorem WO : (AL (M.xw)).Ok D Tryz.prog:=
 aW (cx:=Ko) (c:=AL (M.xw)) (fz:=true) (fn:=Tryz.f83) aH (SA) ai ⟨Tryz.func83,by kernel_rfl⟩ (aX (az (by kernel_rfl))) ⟨⟨[.ik [.bn U.Type, .bool]],[]⟩,fun x=>(x.1.1.1,x.1.1.2.1)⟩ (fun x=>rfl) (fun x=>by kernel_rfl)
def oV (m:M.af->M.ae->Option (Bool)):bI K:={f:=59,sh:=⟨[.el U.Value, .el U.Type],[]⟩,R:=Bool,run:=fun x=>m x.1.1 x.1.2.1,dflt:=default,out:=fun r=>(Sh.enc D (.bool) r,dK.encs D [] ())}
def Kq (y:(Bool)⊕(Unit)) {R:Type} (k:Ex->List (AV K)->List (Ob K)->R):R:=match y with
 | .inl a0=>k Ex.ret (gB.gW D ⟨[.bool],[]⟩ ((a0,()),())) (gB.gY D ⟨[.bool],[]⟩ ((a0,()),()))
 | .inr (a1)=>k (Ex.exit 0) (gB.gW D ⟨[.any],[]⟩ (((),()),())) (gB.gY D ⟨[.any],[]⟩ (((),()),()))
def Yc : List (jb K ((Bool)⊕(Unit))):=[⟨Ex.ret,⟨[.bool],[]⟩,fun x=> .inl x.1.1⟩,⟨(Ex.exit 0),⟨[.any],[]⟩,fun x=> .inr (())⟩]
def QJ (cu:M.af->M.ae->Option (Bool)):gZ K:=jh D false 68 0 [5,53,54,55] [4] ⟨[.bn U.Type, .bn U.Value, .int .i64, .int .i64],[]⟩ (fun x=>M.pW cu x.1.1 x.1.2.1 x.1.2.2.1 aP x.1.2.2.2.1) Kq
def Jq (cu:M.af->M.ae->Option (Bool)):Cx K:={iG with mode:=aV .plain [(81, .plain),(82, .plain),(83, .oU),(59, .plain)],call:=callOf D [Ig M.Jp,Fj M.DW,AL M.xw,oV cu],loop:=aU [(7,QJ cu)]}
theorem QK (cu:M.af->M.ae->Option (Bool)) (uk:(oV cu).Ok D Tryz.prog):aG (Jq cu):=aB aH _ (aA aaU (aA Zn (aA WO (aA uk (bg)))))
theorem WQ (cu:M.af->M.ae->Option (Bool)) (uk:(oV cu).Ok D Tryz.prog):eG (Jq cu) (eQ (fG Tryz.f59) 0) (QJ cu):=
 dU (cx:=Jq cu) (n:=68) (n0:=0) (ins:=[5,53,54,55]) (outs:=[4]) (sh:=⟨[.bn U.Type, .bn U.Value, .int .i64, .int .i64],[]⟩) (run:=fun n x=>M.pW cu x.1.1 x.1.2.1 x.1.2.2.1 n x.1.2.2.2.1) (iW:=Yc) (out:=Kq) aH (QK cu uk) ai (az (by kernel_rfl)) (fun _=>rfl) (fun m x=>by kernel_rfl) (aA ⟨oN,fun _ _ _=>rfl⟩ (aA ⟨dV,fun _ _ _=>rfl⟩ (bg))) false aP
theorem Zo (cu:M.af->M.ae->Option (Bool)) (uk:(oV cu).Ok D Tryz.prog):(oV (M.Ih cu)).Ok D Tryz.prog:=
 aW (cx:=Jq cu) (c:=oV (M.Ih cu)) (fz:=true) (fn:=Tryz.f59) aH (QK cu uk) ai ⟨Tryz.func59,by kernel_rfl⟩ (aX (bV 1 (by kernel_rfl) (gI (.mk (by kernel_rfl) (WQ cu uk))))) ⟨⟨[.bool],[]⟩,fun x=>x.1.1⟩ (fun x=>rfl) (fun x=>by kernel_rfl)
theorem QL : ∀n,(oV (M.rY n)).Ok D Tryz.prog
 |0=>oO fun _=>rfl
 |n+1=>Zo (M.rY n) (QL n)
theorem acL : (oV (M.Yd)).Ok D Tryz.prog:=QL aP
def vH (m:M.af->M.ah->Option (Bool)):bI K:={f:=58,sh:=⟨[.el U.Value, .rp U.Stream 0],[]⟩,R:=Bool,run:=fun x=>m x.1.1 x.1.2.1,dflt:=default,out:=fun r=>(Sh.enc D (.bool) r,dK.encs D [] ())}
def DX : Cx K:={iG with mode:=aV .plain [(59, .plain)],call:=callOf D [oV M.Yd],loop:=aU []}
theorem Ld : aG (DX):=aB aH _ (aA acL (bg))
theorem Ph : (vH (M.pX)).Ok D Tryz.prog:=
 aW (cx:=DX) (c:=vH (M.pX)) (fz:=true) (fn:=Tryz.f58) aH (Ld) ai ⟨Tryz.func58,by kernel_rfl⟩ (aX (az (by kernel_rfl))) ⟨⟨[.bool],[]⟩,fun x=>x.1.1⟩ (fun x=>rfl) (fun x=>by kernel_rfl)
def kG (y:(Int)⊕(Unit)) {R:Type} (k:Ex->List (AV K)->List (Ob K)->R):R:=match y with
 | .inl a0=>k Ex.ret (gB.gW D ⟨[.int .i64],[]⟩ ((a0,()),())) (gB.gY D ⟨[.int .i64],[]⟩ ((a0,()),()))
 | .inr (a1)=>k (Ex.exit 0) (gB.gW D ⟨[.any],[]⟩ (((),()),())) (gB.gY D ⟨[.any],[]⟩ (((),()),()))
def sZ : List (jb K ((Int)⊕(Unit))):=[⟨Ex.ret,⟨[.int .i64],[]⟩,fun x=> .inl x.1.1⟩,⟨(Ex.exit 0),⟨[.any],[]⟩,fun x=> .inr (())⟩]
def lQ : gZ K:=jh D false 19 0 [0,1,7,8] [4] ⟨[.bn U.Value, .fn 58 [.rp U.Stream 0], .int .i64, .int .i64],[]⟩ (fun x=>M.cO x.1.1 x.1.2.1.1 x.1.2.2.1 aP x.1.2.2.2.1) kG
def iM (m:(List M.af)->M.ah->Option (Int)):bI K:={f:=80,sh:=⟨[.bn U.Value, .fn 58 [.rp U.Stream 0]],[]⟩,R:=Int,run:=fun x=>m x.1.1 x.1.2.1.1,dflt:=default,out:=fun r=>(Sh.enc D (.int .i64) r,dK.encs D [] ())}
def fK : Cx K:={iG with mode:=aV .plain [(58, .plain)],call:=callOf D [vH M.pX],loop:=aU [(2,lQ)]}
theorem lS : aG (fK):=aB aH _ (aA Ph (bg))
theorem rZ : eG (fK) (eQ (fG Tryz.f80) 0) (lQ):=
 dU (cx:=fK) (n:=19) (n0:=0) (ins:=[0,1,7,8]) (outs:=[4]) (sh:=⟨[.bn U.Value, .fn 58 [.rp U.Stream 0], .int .i64, .int .i64],[]⟩) (run:=fun n x=>M.cO x.1.1 x.1.2.1.1 x.1.2.2.1 n x.1.2.2.2.1) (iW:=sZ) (out:=kG) aH (lS) ai (az (by kernel_rfl)) (fun _=>rfl) (fun m x=>by kernel_rfl) (aA ⟨oN,fun _ _ _=>rfl⟩ (aA ⟨dV,fun _ _ _=>rfl⟩ (bg))) false aP
theorem wR : (iM (M.eY)).Ok D Tryz.prog:=
 aW (cx:=fK) (c:=iM (M.eY)) (fz:=true) (fn:=Tryz.f80) aH (lS) ai ⟨Tryz.func80,by kernel_rfl⟩ (aX (bV 1 (by kernel_rfl) (gI (.mk (by kernel_rfl) (rZ))))) ⟨⟨[.int .i64],[]⟩,fun x=>x.1.1⟩ (fun x=>rfl) (fun x=>by kernel_rfl)
def gU (m:(List M.af)->M.ah->Option (Bool)):bI K:={f:=57,sh:=⟨[.bn U.Value, .fn 58 [.rp U.Stream 0]],[]⟩,R:=Bool,run:=fun x=>m x.1.1 x.1.2.1.1,dflt:=default,out:=fun r=>(Sh.enc D (.bool) r,dK.encs D [] ())}
def kZ : Cx K:={iG with mode:=aV .plain [(80, .plain)],call:=callOf D [iM M.eY],loop:=aU []}
theorem rJ : aG (kZ):=aB aH _ (aA wR (bg))
theorem tq : (gU (M.dH)).Ok D Tryz.prog:=
 aW (cx:=kZ) (c:=gU (M.dH)) (fz:=true) (fn:=Tryz.f57) aH (rJ) ai ⟨Tryz.func57,by kernel_rfl⟩ (aX (az (by kernel_rfl))) ⟨⟨[.bool],[]⟩,fun x=>x.1.1⟩ (fun x=>rfl) (fun x=>by kernel_rfl)
def zI (m:M.ah->Option (Int)):bI K:={f:=60,sh:=⟨[.el U.Stream],[]⟩,R:=Int,run:=fun x=>m x.1.1,dflt:=default,out:=fun r=>(Sh.enc D (.int .i64) r,dK.encs D [] ())}
def QM : Cx K:={iG with mode:=aV .plain [],call:=callOf D [],loop:=aU []}
theorem WR : aG (QM):=aB aH _ (bg)
theorem QN : (zI (M.vI)).Ok D Tryz.prog:=
 aW (cx:=QM) (c:=zI (M.vI)) (fz:=true) (fn:=Tryz.f60) aH (WR) ai ⟨Tryz.func60,by kernel_rfl⟩ (aX (az (by kernel_rfl))) ⟨⟨[.int .i64],[]⟩,fun x=>x.1.1⟩ (fun x=>rfl) (fun x=>by kernel_rfl)
def nV (m:M.ah->Option (Bool)):bI K:={f:=26,sh:=⟨[.el U.Stream],[]⟩,R:=Bool,run:=fun x=>m x.1.1,dflt:=default,out:=fun r=>(Sh.enc D (.bool) r,dK.encs D [] ())}
def Kr : Cx K:={iG with mode:=aV .plain [(55, .plain),(27, .plain),(56, .plain),(57, .plain),(60, .plain)],call:=callOf D [xq M.qX,jU M.uY,nU M.vG,gU M.dH,zI M.vI],loop:=aU []}
theorem SB : aG (Kr):=aB aH _ (aA Su (aA qx (aA y8 (aA tq (aA QN (bg))))))
theorem yj : (nV (M.jM)).Ok D Tryz.prog:=
 aW (cx:=Kr) (c:=nV (M.jM)) (fz:=true) (fn:=Tryz.f26) aH (SB) ai ⟨Tryz.func26,by kernel_rfl⟩ (aX (az (by kernel_rfl))) ⟨⟨[.bool],[]⟩,fun x=>x.1.1⟩ (fun x=>rfl) (fun x=>by kernel_rfl)
def ag3 (m:Int->(List UInt8)->Int->Bool->Int->Int->Bool->Bool->(List (List UInt8))->(List M.ae)->(List M.af)->Option (Int×Int×(List UInt8)×Int×Bool×Int×Int×Bool×Bool×(List (List UInt8))×(List M.ae)×(List M.af))):bI K:={f:=32,sh:=⟨[.ptr 0 0],[.box [.int .i64, .str, .own 1, .own 2, .int .i64, .bool, .own 3, .int .i64, .int .i64, .bool, .bool], .arr U.str, .tree U.Type, .tree U.Value]⟩,R:=Int×Int×(List UInt8)×Int×Bool×Int×Int×Bool×Bool×(List (List UInt8))×(List M.ae)×(List M.af),run:=fun x=>m x.2.1.1 x.2.1.2.1 x.2.1.2.2.2.2.1 x.2.1.2.2.2.2.2.1 x.2.1.2.2.2.2.2.2.2.1 x.2.1.2.2.2.2.2.2.2.2.1 x.2.1.2.2.2.2.2.2.2.2.2.1 x.2.1.2.2.2.2.2.2.2.2.2.2.1 x.2.2.1 x.2.2.2.1 x.2.2.2.2.1,dflt:=default,out:=fun r=>(Sh.enc D (.int .i64) r.1,dK.encs D [.box [.int .i64, .str, .own 4, .own 5, .int .i64, .bool, .own 6, .int .i64, .int .i64, .bool, .bool], .dead, .dead, .dead, .arr U.str, .tree U.Type, .tree U.Value] ((r.2.1,(r.2.2.1,((),((),(r.2.2.2.1,(r.2.2.2.2.1,((),(r.2.2.2.2.2.1,(r.2.2.2.2.2.2.1,(r.2.2.2.2.2.2.2.1,(r.2.2.2.2.2.2.2.2.1,()))))))))))),((),((),((),(r.2.2.2.2.2.2.2.2.2.1,(r.2.2.2.2.2.2.2.2.2.2.1,(r.2.2.2.2.2.2.2.2.2.2.2,()))))))))}
def aiV : Cx K:={iG with mode:=aV .plain [],deep:=fun c=>dO (D.cells c (K.zero c)),mv:=true,call:=callOf D [],loop:=aU []}
theorem ajS : aG (aiV):=aB aH _ (bg)
theorem aj9 : (ag3 (M.ae5)).Ok D Tryz.prog:=
 aW (cx:=aiV) (c:=ag3 (M.ae5)) (fz:=true) (fn:=Tryz.f32) aH (ajS) ai ⟨Tryz.func32,by kernel_rfl⟩ (aX (az (by kernel_rfl))) ⟨⟨[.int .i64],[.box [.int .i64, .str, .own 4, .own 5, .int .i64, .bool, .own 6, .int .i64, .int .i64, .bool, .bool], .dead, .dead, .dead, .arr U.str, .tree U.Type, .tree U.Value]⟩,fun x=>(x.1.1,x.2.1.1,x.2.1.2.1,x.2.1.2.2.2.2.1,x.2.1.2.2.2.2.2.1,x.2.1.2.2.2.2.2.2.2.1,x.2.1.2.2.2.2.2.2.2.2.1,x.2.1.2.2.2.2.2.2.2.2.2.1,x.2.1.2.2.2.2.2.2.2.2.2.2.1,x.2.2.2.2.2.1,x.2.2.2.2.2.2.1,x.2.2.2.2.2.2.2.1)⟩ (fun x=>rfl) (fun x=>by kernel_rfl)
def ajy (m:M.ah->Option (M.ah×Int)):bI K:={f:=38,sh:=⟨[.el U.Stream],[]⟩,R:=M.ah×Int,run:=fun x=>m x.1.1,dflt:=default,out:=fun r=>(Sh.enc D (.ik [.el U.Stream, .int .i64]) (r.1,(r.2,())),dK.encs D [] ())}
def akw : Cx K:={iG with mode:=aV .plain [],call:=callOf D [],loop:=aU []}
theorem akX : aG (akw):=aB aH _ (bg)
theorem ali : (ajy (M.ai5)).Ok D Tryz.prog:=
 aW (cx:=akw) (c:=ajy (M.ai5)) (fz:=true) (fn:=Tryz.f38) aH (akX) ai ⟨Tryz.func38,by kernel_rfl⟩ (aX (az (by kernel_rfl))) ⟨⟨[.ik [.el U.Stream, .int .i64]],[]⟩,fun x=>(x.1.1.1,x.1.1.2.1)⟩ (fun x=>rfl) (fun x=>by kernel_rfl)
def ahS (m:Int->(List UInt8)->Int->Bool->Int->Int->Bool->Bool->(List (List UInt8))->(List M.ae)->(List M.af)->Option (Int×Int×(List UInt8)×Int×Bool×Int×Int×Bool×Bool×(List (List UInt8))×(List M.ae)×(List M.af))):bI K:={f:=31,sh:=⟨[.ptr 0 0],[.box [.int .i64, .str, .own 1, .own 2, .int .i64, .bool, .own 3, .int .i64, .int .i64, .bool, .bool], .arr U.str, .tree U.Type, .tree U.Value]⟩,R:=Int×Int×(List UInt8)×Int×Bool×Int×Int×Bool×Bool×(List (List UInt8))×(List M.ae)×(List M.af),run:=fun x=>m x.2.1.1 x.2.1.2.1 x.2.1.2.2.2.2.1 x.2.1.2.2.2.2.2.1 x.2.1.2.2.2.2.2.2.2.1 x.2.1.2.2.2.2.2.2.2.2.1 x.2.1.2.2.2.2.2.2.2.2.2.1 x.2.1.2.2.2.2.2.2.2.2.2.2.1 x.2.2.1 x.2.2.2.1 x.2.2.2.2.1,dflt:=default,out:=fun r=>(Sh.enc D (.int .i64) r.1,dK.encs D [.box [.int .i64, .str, .own 4, .own 5, .int .i64, .bool, .own 6, .int .i64, .int .i64, .bool, .bool], .dead, .dead, .dead, .arr U.str, .tree U.Type, .tree U.Value] ((r.2.1,(r.2.2.1,((),((),(r.2.2.2.1,(r.2.2.2.2.1,((),(r.2.2.2.2.2.1,(r.2.2.2.2.2.2.1,(r.2.2.2.2.2.2.2.1,(r.2.2.2.2.2.2.2.2.1,()))))))))))),((),((),((),(r.2.2.2.2.2.2.2.2.2.1,(r.2.2.2.2.2.2.2.2.2.2.1,(r.2.2.2.2.2.2.2.2.2.2.2,()))))))))}
def ai8 : Cx K:={iG with mode:=aV .plain [],deep:=fun c=>dO (D.cells c (K.zero c)),mv:=true,call:=callOf D [],loop:=aU []}
theorem ajV : aG (ai8):=aB aH _ (bg)
theorem akl : (ahS (M.afB)).Ok D Tryz.prog:=
 aW (cx:=ai8) (c:=ahS (M.afB)) (fz:=true) (fn:=Tryz.f31) aH (ajV) ai ⟨Tryz.func31,by kernel_rfl⟩ (aX (az (by kernel_rfl))) ⟨⟨[.int .i64],[.box [.int .i64, .str, .own 4, .own 5, .int .i64, .bool, .own 6, .int .i64, .int .i64, .bool, .bool], .dead, .dead, .dead, .arr U.str, .tree U.Type, .tree U.Value]⟩,fun x=>(x.1.1,x.2.1.1,x.2.1.2.1,x.2.1.2.2.2.2.1,x.2.1.2.2.2.2.2.1,x.2.1.2.2.2.2.2.2.2.1,x.2.1.2.2.2.2.2.2.2.2.1,x.2.1.2.2.2.2.2.2.2.2.2.1,x.2.1.2.2.2.2.2.2.2.2.2.2.1,x.2.2.2.2.2.1,x.2.2.2.2.2.2.1,x.2.2.2.2.2.2.2.1)⟩ (fun x=>rfl) (fun x=>by kernel_rfl)
def ny (m:M.ah->Option (Int)):bI K:={f:=66,sh:=⟨[.el U.Stream],[]⟩,R:=Int,run:=fun x=>m x.1.1,dflt:=default,out:=fun r=>(Sh.enc D (.int .i64) r,dK.encs D [] ())}
def Ny : Cx K:={iG with mode:=aV .plain [],call:=callOf D [],loop:=aU []}
theorem Uw : aG (Ny):=aB aH _ (bg)
theorem vJ : (ny (M.iT)).Ok D Tryz.prog:=
 aW (cx:=Ny) (c:=ny (M.iT)) (fz:=true) (fn:=Tryz.f66) aH (Uw) ai ⟨Tryz.func66,by kernel_rfl⟩ (aX (az (by kernel_rfl))) ⟨⟨[.int .i64],[]⟩,fun x=>x.1.1⟩ (fun x=>rfl) (fun x=>by kernel_rfl)
def jr (m:Int->Int->Option (Int)):bI K:={f:=67,sh:=⟨[.int .i64, .int .i64],[]⟩,R:=Int,run:=fun x=>m x.1.1 x.1.2.1,dflt:=default,out:=fun r=>(Sh.enc D (.int .i64) r,dK.encs D [] ())}
def QO : Cx K:={iG with mode:=aV .plain [],call:=callOf D [],loop:=aU []}
theorem WS : aG (QO):=aB aH _ (bg)
theorem oI : (jr (M.gG)).Ok D Tryz.prog:=
 aW (cx:=QO) (c:=jr (M.gG)) (fz:=true) (fn:=Tryz.f67) aH (WS) ai ⟨Tryz.func67,by kernel_rfl⟩ (aX (az (by kernel_rfl))) ⟨⟨[.int .i64],[]⟩,fun x=>x.1.1⟩ (fun x=>rfl) (fun x=>by kernel_rfl)
def aiX (y:(List M.af)) {R:Type} (k:Ex->List (AV K)->List (Ob K)->R):R:=match y with
 |a0=>k (Ex.exit 0) (gB.gW D ⟨[.own 1],[.dead, .arr U.Value]⟩ (((),()),((),(a0,())))) (gB.gY D ⟨[.own 1],[.dead, .arr U.Value]⟩ (((),()),((),(a0,()))))
def akm : List (jb K ((List M.af))):=[⟨(Ex.exit 0),⟨[.own 1],[.dead, .arr U.Value]⟩,fun x=>x.2.2.1⟩]
def ajm : gZ K:=jh D false 21 1 [0,1,5,6] [5] ⟨[.int .i64, .int .i64, .own 1, .int .i64],[.dead, .arr U.Value]⟩ (fun x=>M.ae1 x.1.1 x.1.2.1 aP x.1.2.2.2.1 x.2.2.1) aiX
def aiw (m:Int->Int->Option ((List M.af))):bI K:={f:=41,sh:=⟨[.int .i64, .int .i64],[]⟩,R:=(List M.af),run:=fun x=>m x.1.1 x.1.2.1,dflt:=default,out:=fun r=>(Sh.enc D (.bn U.Value) r,dK.encs D [] ())}
def ah4 : Cx K:={iG with mode:=aV .plain [],call:=callOf D [],loop:=aU [(3,ajm)]}
theorem ajn : aG (ah4):=aB aH _ (bg)
theorem aka : eG (ah4) (eQ (fG Tryz.f41) 0) (ajm):=
 dU (cx:=ah4) (n:=21) (n0:=1) (ins:=[0,1,5,6]) (outs:=[5]) (sh:=⟨[.int .i64, .int .i64, .own 1, .int .i64],[.dead, .arr U.Value]⟩) (run:=fun n x=>M.ae1 x.1.1 x.1.2.1 n x.1.2.2.2.1 x.2.2.1) (iW:=akm) (out:=aiX) aH (ajn) ai (az (by kernel_rfl)) (fun _=>rfl) (fun m x=>by kernel_rfl) (aA ⟨dV,fun _ _ _=>rfl⟩ (bg)) false aP
theorem akO : (aiw (M.ag5)).Ok D Tryz.prog:=
 aW (cx:=ah4) (c:=aiw (M.ag5)) (fz:=true) (fn:=Tryz.f41) aH (ajn) ai ⟨Tryz.func41,by kernel_rfl⟩ (aX (bV 1 (by kernel_rfl) (gI (.mk (by kernel_rfl) (aka))))) ⟨⟨[.bn U.Value],[]⟩,fun x=>x.1.1⟩ (fun x=>rfl) (fun x=>by kernel_rfl)
def ahW (m:M.dZ->Option (Bool)):bI K:={f:=29,sh:=⟨[.el U.pM],[]⟩,R:=Bool,run:=fun x=>m x.1.1,dflt:=default,out:=fun r=>(Sh.enc D (.bool) r,dK.encs D [] ())}
def aja : Cx K:={iG with mode:=aV .plain [(27, .plain)],call:=callOf D [jU M.uY],loop:=aU []}
theorem ajW : aG (aja):=aB aH _ (aA qx (bg))
theorem akn : (ahW (M.agK)).Ok D Tryz.prog:=
 aW (cx:=aja) (c:=ahW (M.agK)) (fz:=true) (fn:=Tryz.f29) aH (ajW) ai ⟨Tryz.func29,by kernel_rfl⟩ (aX (az (by kernel_rfl))) ⟨⟨[.bool],[]⟩,fun x=>x.1.1⟩ (fun x=>rfl) (fun x=>by kernel_rfl)
def adq (y:(Int)⊕(Unit)) {R:Type} (k:Ex->List (AV K)->List (Ob K)->R):R:=match y with
 | .inl a0=>k Ex.ret (gB.gW D ⟨[.int .i64],[]⟩ ((a0,()),())) (gB.gY D ⟨[.int .i64],[]⟩ ((a0,()),()))
 | .inr (a1)=>k (Ex.exit 0) (gB.gW D ⟨[.any],[]⟩ (((),()),())) (gB.gY D ⟨[.any],[]⟩ (((),()),()))
def af8 : List (jb K ((Int)⊕(Unit))):=[⟨Ex.ret,⟨[.int .i64],[]⟩,fun x=> .inl x.1.1⟩,⟨(Ex.exit 0),⟨[.any],[]⟩,fun x=> .inr (())⟩]
def adt : gZ K:=jh D false 19 0 [0,1,7,8] [4] ⟨[.bn U.pM, .fn 29 [], .int .i64, .int .i64],[]⟩ (fun x=>M.aaM x.1.1 x.1.2.2.1 aP x.1.2.2.2.1) adq
def acO (m:(List M.dZ)->Option (Int)):bI K:={f:=61,sh:=⟨[.bn U.pM, .fn 29 []],[]⟩,R:=Int,run:=fun x=>m x.1.1,dflt:=default,out:=fun r=>(Sh.enc D (.int .i64) r,dK.encs D [] ())}
def ab1 : Cx K:={iG with mode:=aV .plain [(29, .plain)],call:=callOf D [ahW M.agK],loop:=aU [(2,adt)]}
theorem adH : aG (ab1):=aB aH _ (aA akn (bg))
theorem afW : eG (ab1) (eQ (fG Tryz.f61) 0) (adt):=
 dU (cx:=ab1) (n:=19) (n0:=0) (ins:=[0,1,7,8]) (outs:=[4]) (sh:=⟨[.bn U.pM, .fn 29 [], .int .i64, .int .i64],[]⟩) (run:=fun n x=>M.aaM x.1.1 x.1.2.2.1 n x.1.2.2.2.1) (iW:=af8) (out:=adq) aH (adH) ai (az (by kernel_rfl)) (fun _=>rfl) (fun m x=>by kernel_rfl) (aA ⟨oN,fun _ _ _=>rfl⟩ (aA ⟨dV,fun _ _ _=>rfl⟩ (bg))) false aP
theorem agR : (acO (M.abU)).Ok D Tryz.prog:=
 aW (cx:=ab1) (c:=acO (M.abU)) (fz:=true) (fn:=Tryz.f61) aH (adH) ai ⟨Tryz.func61,by kernel_rfl⟩ (aX (bV 1 (by kernel_rfl) (gI (.mk (by kernel_rfl) (afW))))) ⟨⟨[.int .i64],[]⟩,fun x=>x.1.1⟩ (fun x=>rfl) (fun x=>by kernel_rfl)
def acN (m:(List M.dZ)->Option (Bool)):bI K:={f:=28,sh:=⟨[.bn U.pM, .fn 29 []],[]⟩,R:=Bool,run:=fun x=>m x.1.1,dflt:=default,out:=fun r=>(Sh.enc D (.bool) r,dK.encs D [] ())}
def ads : Cx K:={iG with mode:=aV .plain [(61, .plain)],call:=callOf D [acO M.abU],loop:=aU []}
theorem afS : aG (ads):=aB aH _ (aA agR (bg))
theorem agD : (acN (M.aaX)).Ok D Tryz.prog:=
 aW (cx:=ads) (c:=acN (M.aaX)) (fz:=true) (fn:=Tryz.f28) aH (afS) ai ⟨Tryz.func28,by kernel_rfl⟩ (aX (az (by kernel_rfl))) ⟨⟨[.bool],[]⟩,fun x=>x.1.1⟩ (fun x=>rfl) (fun x=>by kernel_rfl)
def AO (y:(List M.af)) {R:Type} (k:Ex->List (AV K)->List (Ob K)->R):R:=match y with
 |a0=>k (Ex.exit 0) (gB.gW D ⟨[.own 1],[.dead, .arr U.Value]⟩ (((),()),((),(a0,())))) (gB.gY D ⟨[.own 1],[.dead, .arr U.Value]⟩ (((),()),((),(a0,()))))
def Nz : List (jb K ((List M.af))):=[⟨(Ex.exit 0),⟨[.own 1],[.dead, .arr U.Value]⟩,fun x=>x.2.2.1⟩]
def DY : gZ K:=jh D false 21 1 [0,3,4] [3] ⟨[.bn U.Value, .own 1, .int .i64],[.dead, .arr U.Value]⟩ (fun x=>M.kU x.1.1 aP x.1.2.2.1 x.2.2.1) AO
def fA (m:(List M.af)->Option ((List M.af))):bI K:={f:=65,sh:=⟨[.bn U.Value],[]⟩,R:=(List M.af),run:=fun x=>m x.1.1,dflt:=default,out:=fun r=>(Sh.enc D (.own 0) (),dK.encs D [.arr U.Value] (r,()))}
def vK : Cx K:={iG with mode:=aV .plain [(87, .oU)],KY:=[[some U.Value]],call:=callOf D [iL M.ET],loop:=aU [(3,DY)]}
theorem DZ : aG (vK):=aB aH _ (aA WH (bg))
theorem Le : eG (vK) (eQ (fG Tryz.f65) 0) (DY):=
 dU (cx:=vK) (n:=21) (n0:=1) (ins:=[0,3,4]) (outs:=[3]) (sh:=⟨[.bn U.Value, .own 1, .int .i64],[.dead, .arr U.Value]⟩) (run:=fun n x=>M.kU x.1.1 n x.1.2.2.1 x.2.2.1) (iW:=Nz) (out:=AO) aH (DZ) ai (az (by kernel_rfl)) (fun _=>rfl) (fun m x=>by kernel_rfl) (aA ⟨dV,fun _ _ _=>rfl⟩ (bg)) false aP
theorem iO : (fA (M.bP)).Ok D Tryz.prog:=
 aW (cx:=vK) (c:=fA (M.bP)) (fz:=false) (fn:=Tryz.f65) aH (DZ) ai ⟨Tryz.func65,by kernel_rfl⟩ (aX (bV 1 (by kernel_rfl) (gI (.mk (by kernel_rfl) (Le))))) ⟨⟨[.own 0],[.arr U.Value]⟩,fun x=>x.2.1⟩ (fun x=>rfl) (fun x=>by kernel_rfl)
def Fp (m:M.ah->Option (M.ah)):bI K:={f:=37,sh:=⟨[.el U.Stream],[]⟩,R:=M.ah,run:=fun x=>m x.1.1,dflt:=default,out:=fun r=>(Sh.enc D (.el U.Stream) r,dK.encs D [] ())}
def QP : Cx K:={iG with mode:=aV .plain [(51, .oU),(65, .fresh)],call:=callOf D [gq M.nN,fA M.bP],loop:=aU []}
theorem WT : aG (QP):=aB aH _ (aA yM (aA iO (bg)))
theorem Zp : (Fp (M.Du)).Ok D Tryz.prog:=
 aW (cx:=QP) (c:=Fp (M.Du)) (fz:=true) (fn:=Tryz.f37) aH (WT) ai ⟨Tryz.func37,by kernel_rfl⟩ (aX (az (by kernel_rfl))) ⟨⟨[.el U.Stream],[]⟩,fun x=>x.1.1⟩ (fun x=>rfl) (fun x=>by kernel_rfl)
def ajb (m:M.ah->(List M.af)->Option (M.ah×Int×Int)):bI K:={f:=40,sh:=⟨[.el U.Stream, .bn U.Value],[]⟩,R:=M.ah×Int×Int,run:=fun x=>m x.1.1 x.1.2.1,dflt:=default,out:=fun r=>(Sh.enc D (.ik [.el U.Stream, .int .i64, .int .i64]) (r.1,(r.2.1,(r.2.2,()))),dK.encs D [] ())}
def akj : Cx K:={iG with mode:=aV .plain [(66, .plain),(67, .plain),(65, .fresh)],call:=callOf D [ny M.iT,jr M.gG,fA M.bP],loop:=aU []}
theorem akP : aG (akj):=aB aH _ (aA vJ (aA oI (aA iO (bg))))
theorem ak7 : (ajb (M.ait)).Ok D Tryz.prog:=
 aW (cx:=akj) (c:=ajb (M.ait)) (fz:=true) (fn:=Tryz.f40) aH (akP) ai ⟨Tryz.func40,by kernel_rfl⟩ (aX (az (by kernel_rfl))) ⟨⟨[.ik [.el U.Stream, .int .i64, .int .i64]],[]⟩,fun x=>(x.1.1.1,x.1.1.2.1,x.1.1.2.2.1)⟩ (fun x=>rfl) (fun x=>by kernel_rfl)
def fZ (m:M.af->Option (Int×Int×(List UInt8)×(List M.af))):bI K:={f:=86,sh:=⟨[.el U.Value],[]⟩,R:=Int×Int×(List UInt8)×(List M.af),run:=fun x=>m x.1.1,dflt:=default,out:=fun r=>(Sh.enc D (.agg [.int .i64, .int .i64, .str, .own 0]) (r.1,(r.2.1,(r.2.2.1,((),())))),dK.encs D [.tree U.Value] (r.2.2.2,()))}
def zn (y:(List M.af)) {R:Type} (k:Ex->List (AV K)->List (Ob K)->R):R:=match y with
 |a0=>k (Ex.exit 0) (gB.gW D ⟨[.own 1],[.dead, .tree U.Value]⟩ (((),()),((),(a0,())))) (gB.gY D ⟨[.own 1],[.dead, .tree U.Value]⟩ (((),()),((),(a0,()))))
def Lh : List (jb K ((List M.af))):=[⟨(Ex.exit 0),⟨[.own 1],[.dead, .tree U.Value]⟩,fun x=>x.2.2.1⟩]
def BH (aI:M.af->Option (Int×Int×(List UInt8)×(List M.af))):gZ K:=jh D false 20 1 [3,7,8,9] [3] ⟨[.own 1, .bn U.Value, .int .i64, .int .i64],[.dead, .tree U.Value]⟩ (fun x=>M.jK aI x.1.2.1 x.1.2.2.1 aP x.1.2.2.2.1 x.2.2.1) zn
def nX (m:(List M.af)->Option ((List M.af))):bI K:={f:=63,sh:=⟨[.bn U.Value],[]⟩,R:=(List M.af),run:=fun x=>m x.1.1,dflt:=default,out:=fun r=>(Sh.enc D (.own 0) (),dK.encs D [.tree U.Value] (r,()))}
def sK (aI:M.af->Option (Int×Int×(List UInt8)×(List M.af))):Cx K:={iG with mode:=aV .plain [(86, .fresh)],KY:=[[some U.Value]],deep:=fun c=>dO (D.cells c (K.zero c)),call:=callOf D [fZ aI],loop:=aU [(3,BH aI)]}
theorem BI (aI:M.af->Option (Int×Int×(List UInt8)×(List M.af))) (fD:(fZ aI).Ok D Tryz.prog):aG (sK aI):=aB aH _ (aA fD (bg))
theorem JF (aI:M.af->Option (Int×Int×(List UInt8)×(List M.af))) (fD:(fZ aI).Ok D Tryz.prog):eG (sK aI) (eQ (fG Tryz.f63) 0) (BH aI):=
 dU (cx:=sK aI) (n:=20) (n0:=1) (ins:=[3,7,8,9]) (outs:=[3]) (sh:=⟨[.own 1, .bn U.Value, .int .i64, .int .i64],[.dead, .tree U.Value]⟩) (run:=fun n x=>M.jK aI x.1.2.1 x.1.2.2.1 n x.1.2.2.2.1 x.2.2.1) (iW:=Lh) (out:=zn) aH (BI aI fD) ai (az (by kernel_rfl)) (fun _=>rfl) (fun m x=>by kernel_rfl) (aA ⟨dV,fun _ _ _=>rfl⟩ (bg)) false aP
theorem y9 (aI:M.af->Option (Int×Int×(List UInt8)×(List M.af))) (fD:(fZ aI).Ok D Tryz.prog):(nX (M.iF aI)).Ok D Tryz.prog:=
 aW (cx:=sK aI) (c:=nX (M.iF aI)) (fz:=false) (fn:=Tryz.f63) aH (BI aI fD) ai ⟨Tryz.func63,by kernel_rfl⟩ (aX (bV 1 (by kernel_rfl) (gI (.mk (by kernel_rfl) (JF aI fD))))) ⟨⟨[.own 0],[.tree U.Value]⟩,fun x=>x.2.1⟩ (fun x=>rfl) (fun x=>by kernel_rfl)
def Ii (aI:M.af->Option (Int×Int×(List UInt8)×(List M.af))):Cx K:={iG with mode:=aV .plain [(63, .fresh)],KY:=[[none,none,none,some U.Value]],deep:=fun c=>dO (D.cells c (K.zero c)),call:=callOf D [nX (M.iF aI)],loop:=aU []}
theorem Pj (aI:M.af->Option (Int×Int×(List UInt8)×(List M.af))) (fD:(fZ aI).Ok D Tryz.prog):aG (Ii aI):=aB aH _ (aA (y9 aI fD) (bg))
theorem Pm (aI:M.af->Option (Int×Int×(List UInt8)×(List M.af))) (fD:(fZ aI).Ok D Tryz.prog):(fZ (M.rP aI)).Ok D Tryz.prog:=
 aW (cx:=Ii aI) (c:=fZ (M.rP aI)) (fz:=false) (fn:=Tryz.f86) aH (Pj aI fD) ai ⟨Tryz.func86,by kernel_rfl⟩ (aX (az (by kernel_rfl))) ⟨⟨[.agg [.int .i64, .int .i64, .str, .own 0]],[.tree U.Value]⟩,fun x=>(x.1.1.1,x.1.1.2.1,x.1.1.2.2.1,x.2.1)⟩ (fun x=>rfl) (fun x=>by kernel_rfl)
theorem D5 : ∀n,(fZ (M.ng n)).Ok D Tryz.prog
 |0=>oO fun _=>rfl
 |n+1=>Pm (M.ng n) (D5 n)
theorem Ij : (fZ (M.mg)).Ok D Tryz.prog:=D5 aP
def ai1 (y:(Int×Int×(List UInt8)×Int×Bool×Int×Int×Bool×Bool×(List M.af)×(List (List UInt8))×(List M.ae)×(List M.af))⊕(Int×(List M.dZ)×M.ah×Int×(List UInt8)×Int×Bool×Int×Int×Bool×Bool×(List (List UInt8))×(List M.ae)×(List M.af))) {R:Type} (k:Ex->List (AV K)->List (Ob K)->R):R:=match y with
 | .inl a0=>k Ex.ret (gB.gW D ⟨[.any, .any, .any, .ptr 1 0, .own 5, .int .i64],[.dead, .box [.int .i64, .str, .own 6, .own 7, .int .i64, .bool, .own 8, .int .i64, .int .i64, .bool, .bool], .dead, .dead, .dead, .arr U.Value, .arr U.str, .arr U.Type, .arr U.Value]⟩ (((),((),((),((),((),(a0.1,())))))),((),((a0.2.1,(a0.2.2.1,((),((),(a0.2.2.2.1,(a0.2.2.2.2.1,((),(a0.2.2.2.2.2.1,(a0.2.2.2.2.2.2.1,(a0.2.2.2.2.2.2.2.1,(a0.2.2.2.2.2.2.2.2.1,()))))))))))),((),((),((),(a0.2.2.2.2.2.2.2.2.2.1,(a0.2.2.2.2.2.2.2.2.2.2.1,(a0.2.2.2.2.2.2.2.2.2.2.2.1,(a0.2.2.2.2.2.2.2.2.2.2.2.2,()))))))))))) (gB.gY D ⟨[.any, .any, .any, .ptr 1 0, .own 5, .int .i64],[.dead, .box [.int .i64, .str, .own 6, .own 7, .int .i64, .bool, .own 8, .int .i64, .int .i64, .bool, .bool], .dead, .dead, .dead, .arr U.Value, .arr U.str, .arr U.Type, .arr U.Value]⟩ (((),((),((),((),((),(a0.1,())))))),((),((a0.2.1,(a0.2.2.1,((),((),(a0.2.2.2.1,(a0.2.2.2.2.1,((),(a0.2.2.2.2.2.1,(a0.2.2.2.2.2.2.1,(a0.2.2.2.2.2.2.2.1,(a0.2.2.2.2.2.2.2.2.1,()))))))))))),((),((),((),(a0.2.2.2.2.2.2.2.2.2.1,(a0.2.2.2.2.2.2.2.2.2.2.1,(a0.2.2.2.2.2.2.2.2.2.2.2.1,(a0.2.2.2.2.2.2.2.2.2.2.2.2,())))))))))))
 | .inr (a1)=>k (Ex.exit 0) (gB.gW D ⟨[.int .i64, .bn U.pM, .ptr 0 0, .ptr 1 0, .any, .any],[.el U.Stream, .box [.int .i64, .str, .own 5, .own 6, .int .i64, .bool, .own 7, .int .i64, .int .i64, .bool, .bool], .dead, .dead, .dead, .arr U.str, .arr U.Type, .arr U.Value]⟩ ((a1.1,(a1.2.1,((),((),((),((),())))))),(a1.2.2.1,((a1.2.2.2.1,(a1.2.2.2.2.1,((),((),(a1.2.2.2.2.2.1,(a1.2.2.2.2.2.2.1,((),(a1.2.2.2.2.2.2.2.1,(a1.2.2.2.2.2.2.2.2.1,(a1.2.2.2.2.2.2.2.2.2.1,(a1.2.2.2.2.2.2.2.2.2.2.1,()))))))))))),((),((),((),(a1.2.2.2.2.2.2.2.2.2.2.2.1,(a1.2.2.2.2.2.2.2.2.2.2.2.2.1,(a1.2.2.2.2.2.2.2.2.2.2.2.2.2,())))))))))) (gB.gY D ⟨[.int .i64, .bn U.pM, .ptr 0 0, .ptr 1 0, .any, .any],[.el U.Stream, .box [.int .i64, .str, .own 5, .own 6, .int .i64, .bool, .own 7, .int .i64, .int .i64, .bool, .bool], .dead, .dead, .dead, .arr U.str, .arr U.Type, .arr U.Value]⟩ ((a1.1,(a1.2.1,((),((),((),((),())))))),(a1.2.2.1,((a1.2.2.2.1,(a1.2.2.2.2.1,((),((),(a1.2.2.2.2.2.1,(a1.2.2.2.2.2.2.1,((),(a1.2.2.2.2.2.2.2.1,(a1.2.2.2.2.2.2.2.2.1,(a1.2.2.2.2.2.2.2.2.2.1,(a1.2.2.2.2.2.2.2.2.2.2.1,()))))))))))),((),((),((),(a1.2.2.2.2.2.2.2.2.2.2.2.1,(a1.2.2.2.2.2.2.2.2.2.2.2.2.1,(a1.2.2.2.2.2.2.2.2.2.2.2.2.2,()))))))))))
def ako : List (jb K ((Int×Int×(List UInt8)×Int×Bool×Int×Int×Bool×Bool×(List M.af)×(List (List UInt8))×(List M.ae)×(List M.af))⊕(Int×(List M.dZ)×M.ah×Int×(List UInt8)×Int×Bool×Int×Int×Bool×Bool×(List (List UInt8))×(List M.ae)×(List M.af)))):=[⟨Ex.ret,⟨[.any, .any, .any, .ptr 1 0, .own 5, .int .i64],[.dead, .box [.int .i64, .str, .own 6, .own 7, .int .i64, .bool, .own 8, .int .i64, .int .i64, .bool, .bool], .dead, .dead, .dead, .arr U.Value, .arr U.str, .arr U.Type, .arr U.Value]⟩,fun x=> .inl (x.1.2.2.2.2.2.1,x.2.2.1.1,x.2.2.1.2.1,x.2.2.1.2.2.2.2.1,x.2.2.1.2.2.2.2.2.1,x.2.2.1.2.2.2.2.2.2.2.1,x.2.2.1.2.2.2.2.2.2.2.2.1,x.2.2.1.2.2.2.2.2.2.2.2.2.1,x.2.2.1.2.2.2.2.2.2.2.2.2.2.1,x.2.2.2.2.2.2.1,x.2.2.2.2.2.2.2.1,x.2.2.2.2.2.2.2.2.1,x.2.2.2.2.2.2.2.2.2.1)⟩,⟨(Ex.exit 0),⟨[.int .i64, .bn U.pM, .ptr 0 0, .ptr 1 0, .any, .any],[.el U.Stream, .box [.int .i64, .str, .own 5, .own 6, .int .i64, .bool, .own 7, .int .i64, .int .i64, .bool, .bool], .dead, .dead, .dead, .arr U.str, .arr U.Type, .arr U.Value]⟩,fun x=> .inr ((x.1.1,x.1.2.1,x.2.1,x.2.2.1.1,x.2.2.1.2.1,x.2.2.1.2.2.2.2.1,x.2.2.1.2.2.2.2.2.1,x.2.2.1.2.2.2.2.2.2.2.1,x.2.2.1.2.2.2.2.2.2.2.2.1,x.2.2.1.2.2.2.2.2.2.2.2.2.1,x.2.2.1.2.2.2.2.2.2.2.2.2.2.1,x.2.2.2.2.2.2.1,x.2.2.2.2.2.2.2.1,x.2.2.2.2.2.2.2.2.1))⟩]
def ajo : gZ K:=jh D false 138 5 [1,2,3,6,9] [1,2,3,6,7,8] ⟨[.int .i64, .bn U.pM, .ptr 0 0, .ptr 1 0, .int .i64],[.el U.Stream, .box [.int .i64, .str, .own 5, .own 6, .int .i64, .bool, .own 7, .int .i64, .int .i64, .bool, .bool], .dead, .dead, .dead, .arr U.str, .arr U.Type, .arr U.Value]⟩ (fun x=>M.acR x.1.1 x.1.2.1 x.2.2.1.1 x.2.2.1.2.1 x.2.2.1.2.2.2.2.1 x.2.2.1.2.2.2.2.2.1 x.2.2.1.2.2.2.2.2.2.2.1 x.2.2.1.2.2.2.2.2.2.2.2.1 x.2.2.1.2.2.2.2.2.2.2.2.2.1 x.2.2.1.2.2.2.2.2.2.2.2.2.2.1 x.2.2.2.2.2.2.1 x.2.2.2.2.2.2.2.1 x.2.2.2.2.2.2.2.2.1 aP x.1.2.2.2.2.1 x.2.1) ai1
def CJ (m:M.ah->Int->Option (M.ah×(List M.af)×Int)):bI K:={f:=42,sh:=⟨[.el U.Stream, .int .i64],[]⟩,R:=M.ah×(List M.af)×Int,run:=fun x=>m x.1.1 x.1.2.1,dflt:=default,out:=fun r=>(Sh.enc D (.ik [.el U.Stream, .bn U.Value, .int .i64]) (r.1,(r.2.1,(r.2.2,()))),dK.encs D [] ())}
def NC : Cx K:={iG with mode:=aV .plain [(67, .plain),(65, .fresh)],call:=callOf D [jr M.gG,fA M.bP],loop:=aU []}
theorem Ux : aG (NC):=aB aH _ (aA oI (aA iO (bg)))
theorem Ye : (CJ (M.Dw)).Ok D Tryz.prog:=
 aW (cx:=NC) (c:=CJ (M.Dw)) (fz:=true) (fn:=Tryz.f42) aH (Ux) ai ⟨Tryz.func42,by kernel_rfl⟩ (aX (az (by kernel_rfl))) ⟨⟨[.ik [.el U.Stream, .bn U.Value, .int .i64]],[]⟩,fun x=>(x.1.1.1,x.1.1.2.1,x.1.1.2.2.1)⟩ (fun x=>rfl) (fun x=>by kernel_rfl)
def ai2 (y:Int×(List UInt8)×Int×Bool×Int×Int×Bool×Bool×M.ah×(List M.af)×(List (List UInt8))×(List M.ae)×(List M.af)) {R:Type} (k:Ex->List (AV K)->List (Ob K)->R):R:=match y with
 |a0=>k (Ex.exit 2) (gB.gW D ⟨[.ptr 0 0, .ptr 1 0, .own 6],[.box [.int .i64, .str, .own 7, .own 8, .int .i64, .bool, .own 9, .int .i64, .int .i64, .bool, .bool], .el U.Stream, .dead, .dead, .dead, .dead, .arr U.Value, .arr U.str, .arr U.Type, .arr U.Value]⟩ (((),((),((),()))),((a0.1,(a0.2.1,((),((),(a0.2.2.1,(a0.2.2.2.1,((),(a0.2.2.2.2.1,(a0.2.2.2.2.2.1,(a0.2.2.2.2.2.2.1,(a0.2.2.2.2.2.2.2.1,()))))))))))),(a0.2.2.2.2.2.2.2.2.1,((),((),((),((),(a0.2.2.2.2.2.2.2.2.2.1,(a0.2.2.2.2.2.2.2.2.2.2.1,(a0.2.2.2.2.2.2.2.2.2.2.2.1,(a0.2.2.2.2.2.2.2.2.2.2.2.2,())))))))))))) (gB.gY D ⟨[.ptr 0 0, .ptr 1 0, .own 6],[.box [.int .i64, .str, .own 7, .own 8, .int .i64, .bool, .own 9, .int .i64, .int .i64, .bool, .bool], .el U.Stream, .dead, .dead, .dead, .dead, .arr U.Value, .arr U.str, .arr U.Type, .arr U.Value]⟩ (((),((),((),()))),((a0.1,(a0.2.1,((),((),(a0.2.2.1,(a0.2.2.2.1,((),(a0.2.2.2.2.1,(a0.2.2.2.2.2.1,(a0.2.2.2.2.2.2.1,(a0.2.2.2.2.2.2.2.1,()))))))))))),(a0.2.2.2.2.2.2.2.2.1,((),((),((),((),(a0.2.2.2.2.2.2.2.2.2.1,(a0.2.2.2.2.2.2.2.2.2.2.1,(a0.2.2.2.2.2.2.2.2.2.2.2.1,(a0.2.2.2.2.2.2.2.2.2.2.2.2,()))))))))))))
def akp : List (jb K (Int×(List UInt8)×Int×Bool×Int×Int×Bool×Bool×M.ah×(List M.af)×(List (List UInt8))×(List M.ae)×(List M.af))):=[⟨(Ex.exit 2),⟨[.ptr 0 0, .ptr 1 0, .own 6],[.box [.int .i64, .str, .own 7, .own 8, .int .i64, .bool, .own 9, .int .i64, .int .i64, .bool, .bool], .el U.Stream, .dead, .dead, .dead, .dead, .arr U.Value, .arr U.str, .arr U.Type, .arr U.Value]⟩,fun x=>(x.2.1.1,x.2.1.2.1,x.2.1.2.2.2.2.1,x.2.1.2.2.2.2.2.1,x.2.1.2.2.2.2.2.2.2.1,x.2.1.2.2.2.2.2.2.2.2.1,x.2.1.2.2.2.2.2.2.2.2.2.1,x.2.1.2.2.2.2.2.2.2.2.2.2.1,x.2.2.1,x.2.2.2.2.2.2.2.1,x.2.2.2.2.2.2.2.2.1,x.2.2.2.2.2.2.2.2.2.1,x.2.2.2.2.2.2.2.2.2.2.1)⟩]
def ajp : gZ K:=jh D false 138 6 [1,2,6,10,11,12] [6,10,11] ⟨[.int .i64, .bn U.pM, .ptr 0 0, .ptr 1 0, .own 6, .int .i64],[.box [.int .i64, .str, .own 7, .own 8, .int .i64, .bool, .own 9, .int .i64, .int .i64, .bool, .bool], .el U.Stream, .dead, .dead, .dead, .dead, .arr U.Value, .arr U.str, .arr U.Type, .arr U.Value]⟩ (fun x=>M.aa5 x.1.2.1 x.2.1.1 x.2.1.2.1 x.2.1.2.2.2.2.1 x.2.1.2.2.2.2.2.1 x.2.1.2.2.2.2.2.2.2.1 x.2.1.2.2.2.2.2.2.2.2.1 x.2.1.2.2.2.2.2.2.2.2.2.1 x.2.1.2.2.2.2.2.2.2.2.2.2.1 x.2.2.2.2.2.2.2.2.1 x.2.2.2.2.2.2.2.2.2.1 x.2.2.2.2.2.2.2.2.2.2.1 aP x.1.1 x.1.2.2.2.2.2.1 x.2.2.1 x.2.2.2.2.2.2.2.1) ai2
def aix (m:M.ah->Int->(List M.dZ)->Option (M.ah×(List M.af)×Int)):bI K:={f:=8,sh:=⟨[.el U.Stream, .int .i64, .bn U.pM],[]⟩,R:=M.ah×(List M.af)×Int,run:=fun x=>m x.1.1 x.1.2.1 x.1.2.2.1,dflt:=default,out:=fun r=>(Sh.enc D (.ik [.el U.Stream, .bn U.Value, .int .i64]) (r.1,(r.2.1,(r.2.2,()))),dK.encs D [] ())}
def afC : Cx K:={iG with mode:=aV .plain [(10, .plain),(36, .plain),(37, .oU),(38, .oU),(39, .oU),(41, .oU),(40, .oU),(43, .plain),(42, .oU)],call:=callOf D [nS M.je,jX M.xW,Fp M.Du,ajy M.ai5,ai7 M.aiv,aiw M.ag5,ajb M.ait,EZ M.yE,CJ M.Dw],loop:=aU [(10,ajo),(17,ajp)]}
theorem aih : aG (afC):=aB aH _ (aA yg (aA qo (aA Zp (aA ali (aA ak6 (aA akO (aA ak7 (aA Ze (aA Ye (bg))))))))))
theorem akb : eG (afC) (eQ (fG Tryz.f8) 0) (ajo):=
 dU (cx:=afC) (n:=138) (n0:=5) (ins:=[1,2,3,6,9]) (outs:=[1,2,3,6,7,8]) (sh:=⟨[.int .i64, .bn U.pM, .ptr 0 0, .ptr 1 0, .int .i64],[.el U.Stream, .box [.int .i64, .str, .own 5, .own 6, .int .i64, .bool, .own 7, .int .i64, .int .i64, .bool, .bool], .dead, .dead, .dead, .arr U.str, .arr U.Type, .arr U.Value]⟩) (run:=fun n x=>M.acR x.1.1 x.1.2.1 x.2.2.1.1 x.2.2.1.2.1 x.2.2.1.2.2.2.2.1 x.2.2.1.2.2.2.2.2.1 x.2.2.1.2.2.2.2.2.2.2.1 x.2.2.1.2.2.2.2.2.2.2.2.1 x.2.2.1.2.2.2.2.2.2.2.2.2.1 x.2.2.1.2.2.2.2.2.2.2.2.2.2.1 x.2.2.2.2.2.2.1 x.2.2.2.2.2.2.2.1 x.2.2.2.2.2.2.2.2.1 n x.1.2.2.2.2.1 x.2.1) (iW:=ako) (out:=ai1) aH (aih) ai (az (by kernel_rfl)) (fun _=>rfl) (fun m x=>by kernel_rfl) (aA ⟨oN,fun _ _ _=>rfl⟩ (aA ⟨dV,fun _ _ _=>rfl⟩ (bg))) false aP
theorem akc : eG (afC) (eQ (fG Tryz.f8) 1) (ajp):=
 dU (cx:=afC) (n:=138) (n0:=6) (ins:=[1,2,6,10,11,12]) (outs:=[6,10,11]) (sh:=⟨[.int .i64, .bn U.pM, .ptr 0 0, .ptr 1 0, .own 6, .int .i64],[.box [.int .i64, .str, .own 7, .own 8, .int .i64, .bool, .own 9, .int .i64, .int .i64, .bool, .bool], .el U.Stream, .dead, .dead, .dead, .dead, .arr U.Value, .arr U.str, .arr U.Type, .arr U.Value]⟩) (run:=fun n x=>M.aa5 x.1.2.1 x.2.1.1 x.2.1.2.1 x.2.1.2.2.2.2.1 x.2.1.2.2.2.2.2.1 x.2.1.2.2.2.2.2.2.2.1 x.2.1.2.2.2.2.2.2.2.2.1 x.2.1.2.2.2.2.2.2.2.2.2.1 x.2.1.2.2.2.2.2.2.2.2.2.2.1 x.2.2.2.2.2.2.2.2.1 x.2.2.2.2.2.2.2.2.2.1 x.2.2.2.2.2.2.2.2.2.2.1 n x.1.1 x.1.2.2.2.2.2.1 x.2.2.1 x.2.2.2.2.2.2.2.1) (iW:=akp) (out:=ai2) aH (aih) ai (az (by kernel_rfl)) (fun _=>rfl) (fun m x=>by kernel_rfl) (aA ⟨dV,fun _ _ _=>rfl⟩ (bg)) false aP
theorem akQ : (aix (M.ag6)).Ok D Tryz.prog:=
 aW (cx:=afC) (c:=aix (M.ag6)) (fz:=true) (fn:=Tryz.f8) aH (aih) ai ⟨Tryz.func8,by kernel_rfl⟩ (aX (bV 2 (by kernel_rfl) (lt_succ (gI (.mk (by kernel_rfl) (akb))) (.mk (by kernel_rfl) (akc))))) ⟨⟨[.ik [.el U.Stream, .bn U.Value, .int .i64]],[]⟩,fun x=>(x.1.1.1,x.1.1.2.1,x.1.1.2.2.1)⟩ (fun x=>rfl) (fun x=>by kernel_rfl)
def xx (m:M.ah->Option (Int×(List UInt8)×Int×Bool×Int×Int×Bool×Bool×(List (List UInt8))×(List M.ae)×(List M.af))):bI K:={f:=30,sh:=⟨[.el U.Stream],[]⟩,R:=Int×(List UInt8)×Int×Bool×Int×Int×Bool×Bool×(List (List UInt8))×(List M.ae)×(List M.af),run:=fun x=>m x.1.1,dflt:=default,out:=fun r=>(Sh.enc D (.agg [.int .i64, .str, .own 0, .own 1, .int .i64, .bool, .own 2, .int .i64, .int .i64, .bool, .bool]) (r.1,(r.2.1,((),((),(r.2.2.1,(r.2.2.2.1,((),(r.2.2.2.2.1,(r.2.2.2.2.2.1,(r.2.2.2.2.2.2.1,(r.2.2.2.2.2.2.2.1,()))))))))))),dK.encs D [.arr U.str, .tree U.Type, .tree U.Value] (r.2.2.2.2.2.2.2.2.1,(r.2.2.2.2.2.2.2.2.2.1,(r.2.2.2.2.2.2.2.2.2.2,()))))}
def GM : Cx K:={iG with mode:=aV .plain [(62, .fresh),(63, .fresh)],KY:=[[none,none,some U.str,some U.Type,none,none,some U.Value,none,none,none,none]],deep:=fun c=>dO (D.cells c (K.zero c)),call:=callOf D [fO M.ES,nX (M.iF M.mg)],loop:=aU []}
theorem ND : aG (GM):=aB aH _ (aA Wv (aA (y9 M.mg Ij) (bg)))
theorem SC : (xx (M.qN)).Ok D Tryz.prog:=
 aW (cx:=GM) (c:=xx (M.qN)) (fz:=false) (fn:=Tryz.f30) aH (ND) ai ⟨Tryz.func30,by kernel_rfl⟩ (aX (az (by kernel_rfl))) ⟨⟨[.agg [.int .i64, .str, .own 0, .own 1, .int .i64, .bool, .own 2, .int .i64, .int .i64, .bool, .bool]],[.arr U.str, .tree U.Type, .tree U.Value]⟩,fun x=>(x.1.1.1,x.1.1.2.1,x.1.1.2.2.2.2.1,x.1.1.2.2.2.2.2.1,x.1.1.2.2.2.2.2.2.2.1,x.1.1.2.2.2.2.2.2.2.2.1,x.1.1.2.2.2.2.2.2.2.2.2.1,x.1.1.2.2.2.2.2.2.2.2.2.2.1,x.2.1,x.2.2.1,x.2.2.2.1)⟩ (fun x=>rfl) (fun x=>by kernel_rfl)
def akq (m:Int->Option (Int×Int×(List UInt8)×(List M.af))):bI K:={f:=64,sh:=⟨[.int .i64],[]⟩,R:=Int×Int×(List UInt8)×(List M.af),run:=fun x=>m x.1.1,dflt:=default,out:=fun r=>(Sh.enc D (.agg [.int .i64, .int .i64, .str, .own 0]) (r.1,(r.2.1,(r.2.2.1,((),())))),dK.encs D [.tree U.Value] (r.2.2.2,()))}
def alc : Cx K:={iG with mode:=aV .plain [],KY:=[[none,none,none,some U.Value]],deep:=fun c=>dO (D.cells c (K.zero c)),call:=callOf D [],loop:=aU []}
theorem alo : aG (alc):=aB aH _ (bg)
theorem alL : (akq (M.alC)).Ok D Tryz.prog:=
 aW (cx:=alc) (c:=akq (M.alC)) (fz:=false) (fn:=Tryz.f64) aH (alo) ai ⟨Tryz.func64,by kernel_rfl⟩ (aX (az (by kernel_rfl))) ⟨⟨[.agg [.int .i64, .int .i64, .str, .own 0]],[.tree U.Value]⟩,fun x=>(x.1.1.1,x.1.1.2.1,x.1.1.2.2.1,x.2.1)⟩ (fun x=>rfl) (fun x=>by kernel_rfl)
def aiF (y:(List M.af)) {R:Type} (k:Ex->List (AV K)->List (Ob K)->R):R:=match y with
 |a0=>k (Ex.exit 0) (gB.gW D ⟨[.own 1],[.dead, .tree U.Value]⟩ (((),()),((),(a0,())))) (gB.gY D ⟨[.own 1],[.dead, .tree U.Value]⟩ (((),()),((),(a0,()))))
def akd : List (jb K ((List M.af))):=[⟨(Ex.exit 0),⟨[.own 1],[.dead, .tree U.Value]⟩,fun x=>x.2.2.1⟩]
def aje : gZ K:=jh D false 21 1 [0,5,8,9] [5] ⟨[.int .i64, .own 1, .int .i64, .int .i64],[.dead, .tree U.Value]⟩ (fun x=>M.aez x.1.1 x.1.2.2.1 aP x.1.2.2.2.1 x.2.2.1) aiF
def aii (m:Int->Int->Option ((List M.af))):bI K:={f:=34,sh:=⟨[.int .i64, .int .i64],[]⟩,R:=(List M.af),run:=fun x=>m x.1.1 x.1.2.1,dflt:=default,out:=fun r=>(Sh.enc D (.own 0) (),dK.encs D [.tree U.Value] (r,()))}
def ahc : Cx K:={iG with mode:=aV .plain [(64, .fresh)],KY:=[[some U.Value]],deep:=fun c=>dO (D.cells c (K.zero c)),call:=callOf D [akq M.alC],loop:=aU [(3,aje)]}
theorem ajf : aG (ahc):=aB aH _ (aA alL (bg))
theorem ajX : eG (ahc) (eQ (fG Tryz.f34) 0) (aje):=
 dU (cx:=ahc) (n:=21) (n0:=1) (ins:=[0,5,8,9]) (outs:=[5]) (sh:=⟨[.int .i64, .own 1, .int .i64, .int .i64],[.dead, .tree U.Value]⟩) (run:=fun n x=>M.aez x.1.1 x.1.2.2.1 n x.1.2.2.2.1 x.2.2.1) (iW:=akd) (out:=aiF) aH (ajf) ai (az (by kernel_rfl)) (fun _=>rfl) (fun m x=>by kernel_rfl) (aA ⟨dV,fun _ _ _=>rfl⟩ (bg)) false aP
theorem akG : (aii (M.agP)).Ok D Tryz.prog:=
 aW (cx:=ahc) (c:=aii (M.agP)) (fz:=false) (fn:=Tryz.f34) aH (ajf) ai ⟨Tryz.func34,by kernel_rfl⟩ (aX (bV 1 (by kernel_rfl) (gI (.mk (by kernel_rfl) (ajX))))) ⟨⟨[.own 0],[.tree U.Value]⟩,fun x=>x.2.1⟩ (fun x=>rfl) (fun x=>by kernel_rfl)
def aib (m:(List M.af)->Int->(List UInt8)->Int->Bool->Int->Int->Bool->Bool->(List (List UInt8))->(List M.ae)->(List M.af)->Option (Int×Int×Int×(List UInt8)×Int×Bool×Int×Int×Bool×Bool×(List (List UInt8))×(List M.ae)×(List M.af))):bI K:={f:=33,sh:=⟨[.ptr 0 0, .bn U.Value],[.box [.int .i64, .str, .own 1, .own 2, .int .i64, .bool, .own 3, .int .i64, .int .i64, .bool, .bool], .arr U.str, .tree U.Type, .tree U.Value]⟩,R:=Int×Int×Int×(List UInt8)×Int×Bool×Int×Int×Bool×Bool×(List (List UInt8))×(List M.ae)×(List M.af),run:=fun x=>m x.1.2.1 x.2.1.1 x.2.1.2.1 x.2.1.2.2.2.2.1 x.2.1.2.2.2.2.2.1 x.2.1.2.2.2.2.2.2.2.1 x.2.1.2.2.2.2.2.2.2.2.1 x.2.1.2.2.2.2.2.2.2.2.2.1 x.2.1.2.2.2.2.2.2.2.2.2.2.1 x.2.2.1 x.2.2.2.1 x.2.2.2.2.1,dflt:=default,out:=fun r=>(Sh.enc D (.ik [.int .i64, .int .i64]) (r.1,(r.2.1,())),dK.encs D [.box [.int .i64, .str, .own 4, .own 5, .int .i64, .bool, .own 6, .int .i64, .int .i64, .bool, .bool], .dead, .dead, .dead, .arr U.str, .tree U.Type, .tree U.Value] ((r.2.2.1,(r.2.2.2.1,((),((),(r.2.2.2.2.1,(r.2.2.2.2.2.1,((),(r.2.2.2.2.2.2.1,(r.2.2.2.2.2.2.2.1,(r.2.2.2.2.2.2.2.2.1,(r.2.2.2.2.2.2.2.2.2.1,()))))))))))),((),((),((),(r.2.2.2.2.2.2.2.2.2.2.1,(r.2.2.2.2.2.2.2.2.2.2.2.1,(r.2.2.2.2.2.2.2.2.2.2.2.2,()))))))))}
def ajq : Cx K:={iG with mode:=aV .plain [(56, .plain),(60, .plain),(63, .fresh)],deep:=fun c=>dO (D.cells c (K.zero c)),mv:=true,call:=callOf D [nU M.vG,zI M.vI,nX (M.iF M.mg)],loop:=aU []}
theorem ake : aG (ajq):=aB aH _ (aA y8 (aA QN (aA (y9 M.mg Ij) (bg))))
theorem akx : (aib (M.afR)).Ok D Tryz.prog:=
 aW (cx:=ajq) (c:=aib (M.afR)) (fz:=true) (fn:=Tryz.f33) aH (ake) ai ⟨Tryz.func33,by kernel_rfl⟩ (aX (az (by kernel_rfl))) ⟨⟨[.ik [.int .i64, .int .i64]],[.box [.int .i64, .str, .own 4, .own 5, .int .i64, .bool, .own 6, .int .i64, .int .i64, .bool, .bool], .dead, .dead, .dead, .arr U.str, .tree U.Type, .tree U.Value]⟩,fun x=>(x.1.1.1,x.1.1.2.1,x.2.1.1,x.2.1.2.1,x.2.1.2.2.2.2.1,x.2.1.2.2.2.2.2.1,x.2.1.2.2.2.2.2.2.2.1,x.2.1.2.2.2.2.2.2.2.2.1,x.2.1.2.2.2.2.2.2.2.2.2.1,x.2.1.2.2.2.2.2.2.2.2.2.2.1,x.2.2.2.2.2.1,x.2.2.2.2.2.2.1,x.2.2.2.2.2.2.2.1)⟩ (fun x=>rfl) (fun x=>by kernel_rfl)
def vM (m:Int->Int->(List UInt8)->Int->Bool->Int->Int->Bool->Bool->(List (List UInt8))->(List M.ae)->(List M.af)->Option (Int×Int×(List UInt8)×Int×Bool×Int×Int×Bool×Bool×(List M.af)×(List (List UInt8))×(List M.ae)×(List M.af))):bI K:={f:=35,sh:=⟨[.ptr 0 0, .int .i64],[.box [.int .i64, .str, .own 1, .own 2, .int .i64, .bool, .own 3, .int .i64, .int .i64, .bool, .bool], .arr U.str, .tree U.Type, .tree U.Value]⟩,R:=Int×Int×(List UInt8)×Int×Bool×Int×Int×Bool×Bool×(List M.af)×(List (List UInt8))×(List M.ae)×(List M.af),run:=fun x=>m x.1.2.1 x.2.1.1 x.2.1.2.1 x.2.1.2.2.2.2.1 x.2.1.2.2.2.2.2.1 x.2.1.2.2.2.2.2.2.2.1 x.2.1.2.2.2.2.2.2.2.2.1 x.2.1.2.2.2.2.2.2.2.2.2.1 x.2.1.2.2.2.2.2.2.2.2.2.2.1 x.2.2.1 x.2.2.2.1 x.2.2.2.2.1,dflt:=default,out:=fun r=>(Sh.enc D (.ik [.own 4, .int .i64]) ((),(r.1,())),dK.encs D [.box [.int .i64, .str, .own 5, .own 6, .int .i64, .bool, .own 7, .int .i64, .int .i64, .bool, .bool], .dead, .dead, .dead, .tree U.Value, .arr U.str, .tree U.Type, .tree U.Value] ((r.2.1,(r.2.2.1,((),((),(r.2.2.2.1,(r.2.2.2.2.1,((),(r.2.2.2.2.2.1,(r.2.2.2.2.2.2.1,(r.2.2.2.2.2.2.2.1,(r.2.2.2.2.2.2.2.2.1,()))))))))))),((),((),((),(r.2.2.2.2.2.2.2.2.2.1,(r.2.2.2.2.2.2.2.2.2.2.1,(r.2.2.2.2.2.2.2.2.2.2.2.1,(r.2.2.2.2.2.2.2.2.2.2.2.2,())))))))))}
def D6 : Cx K:={iG with mode:=aV .plain [(27, .plain),(56, .plain),(63, .fresh)],KY:=[[some U.Value],[]],cut:=true,deep:=fun c=>dO (D.cells c (K.zero c)),vws:=true,mv:=true,call:=callOf D [jU M.uY,nU M.vG,nX (M.iF M.mg)],loop:=aU []}
theorem Lj : aG (D6):=aB aH _ (aA qx (aA y8 (aA (y9 M.mg Ij) (bg))))
theorem Pn : (vM (M.rQ)).Ok D Tryz.prog:=
 aW (cx:=D6) (c:=vM (M.rQ)) (fz:=false) (fn:=Tryz.f35) aH (Lj) ai ⟨Tryz.func35,by kernel_rfl⟩ (aX (az (by kernel_rfl))) ⟨⟨[.ik [.own 4, .int .i64]],[.box [.int .i64, .str, .own 5, .own 6, .int .i64, .bool, .own 7, .int .i64, .int .i64, .bool, .bool], .dead, .dead, .dead, .tree U.Value, .arr U.str, .tree U.Type, .tree U.Value]⟩,fun x=>(x.1.1.2.1,x.2.1.1,x.2.1.2.1,x.2.1.2.2.2.2.1,x.2.1.2.2.2.2.2.1,x.2.1.2.2.2.2.2.2.2.1,x.2.1.2.2.2.2.2.2.2.2.1,x.2.1.2.2.2.2.2.2.2.2.2.1,x.2.1.2.2.2.2.2.2.2.2.2.2.1,x.2.2.2.2.2.1,x.2.2.2.2.2.2.1,x.2.2.2.2.2.2.2.1,x.2.2.2.2.2.2.2.2.1)⟩ (fun x=>rfl) (fun x=>by kernel_rfl)
def ai3 (y:Int×(List UInt8)×Int×Bool×Int×Int×Bool×Bool×Int×(List UInt8)×Int×Bool×Int×Int×Bool×Bool×(List M.af)×(List (List UInt8))×(List M.ae)×(List M.af)×(List (List UInt8))×(List M.ae)×(List M.af)) {R:Type} (k:Ex->List (AV K)->List (Ob K)->R):R:=match y with
 |a0=>k (Ex.exit 1) (gB.gW D ⟨[.ptr 0 0, .ptr 1 0, .own 9],[.box [.int .i64, .str, .own 10, .own 11, .int .i64, .bool, .own 12, .int .i64, .int .i64, .bool, .bool], .box [.int .i64, .str, .own 13, .own 14, .int .i64, .bool, .own 15, .int .i64, .int .i64, .bool, .bool], .dead, .dead, .dead, .dead, .dead, .dead, .dead, .tree U.Value, .arr U.str, .tree U.Type, .tree U.Value, .arr U.str, .tree U.Type, .tree U.Value]⟩ (((),((),((),()))),((a0.1,(a0.2.1,((),((),(a0.2.2.1,(a0.2.2.2.1,((),(a0.2.2.2.2.1,(a0.2.2.2.2.2.1,(a0.2.2.2.2.2.2.1,(a0.2.2.2.2.2.2.2.1,()))))))))))),((a0.2.2.2.2.2.2.2.2.1,(a0.2.2.2.2.2.2.2.2.2.1,((),((),(a0.2.2.2.2.2.2.2.2.2.2.1,(a0.2.2.2.2.2.2.2.2.2.2.2.1,((),(a0.2.2.2.2.2.2.2.2.2.2.2.2.1,(a0.2.2.2.2.2.2.2.2.2.2.2.2.2.1,(a0.2.2.2.2.2.2.2.2.2.2.2.2.2.2.1,(a0.2.2.2.2.2.2.2.2.2.2.2.2.2.2.2.1,()))))))))))),((),((),((),((),((),((),((),(a0.2.2.2.2.2.2.2.2.2.2.2.2.2.2.2.2.1,(a0.2.2.2.2.2.2.2.2.2.2.2.2.2.2.2.2.2.1,(a0.2.2.2.2.2.2.2.2.2.2.2.2.2.2.2.2.2.2.1,(a0.2.2.2.2.2.2.2.2.2.2.2.2.2.2.2.2.2.2.2.1,(a0.2.2.2.2.2.2.2.2.2.2.2.2.2.2.2.2.2.2.2.2.1,(a0.2.2.2.2.2.2.2.2.2.2.2.2.2.2.2.2.2.2.2.2.2.1,(a0.2.2.2.2.2.2.2.2.2.2.2.2.2.2.2.2.2.2.2.2.2.2,())))))))))))))))))) (gB.gY D ⟨[.ptr 0 0, .ptr 1 0, .own 9],[.box [.int .i64, .str, .own 10, .own 11, .int .i64, .bool, .own 12, .int .i64, .int .i64, .bool, .bool], .box [.int .i64, .str, .own 13, .own 14, .int .i64, .bool, .own 15, .int .i64, .int .i64, .bool, .bool], .dead, .dead, .dead, .dead, .dead, .dead, .dead, .tree U.Value, .arr U.str, .tree U.Type, .tree U.Value, .arr U.str, .tree U.Type, .tree U.Value]⟩ (((),((),((),()))),((a0.1,(a0.2.1,((),((),(a0.2.2.1,(a0.2.2.2.1,((),(a0.2.2.2.2.1,(a0.2.2.2.2.2.1,(a0.2.2.2.2.2.2.1,(a0.2.2.2.2.2.2.2.1,()))))))))))),((a0.2.2.2.2.2.2.2.2.1,(a0.2.2.2.2.2.2.2.2.2.1,((),((),(a0.2.2.2.2.2.2.2.2.2.2.1,(a0.2.2.2.2.2.2.2.2.2.2.2.1,((),(a0.2.2.2.2.2.2.2.2.2.2.2.2.1,(a0.2.2.2.2.2.2.2.2.2.2.2.2.2.1,(a0.2.2.2.2.2.2.2.2.2.2.2.2.2.2.1,(a0.2.2.2.2.2.2.2.2.2.2.2.2.2.2.2.1,()))))))))))),((),((),((),((),((),((),((),(a0.2.2.2.2.2.2.2.2.2.2.2.2.2.2.2.2.1,(a0.2.2.2.2.2.2.2.2.2.2.2.2.2.2.2.2.2.1,(a0.2.2.2.2.2.2.2.2.2.2.2.2.2.2.2.2.2.2.1,(a0.2.2.2.2.2.2.2.2.2.2.2.2.2.2.2.2.2.2.2.1,(a0.2.2.2.2.2.2.2.2.2.2.2.2.2.2.2.2.2.2.2.2.1,(a0.2.2.2.2.2.2.2.2.2.2.2.2.2.2.2.2.2.2.2.2.2.1,(a0.2.2.2.2.2.2.2.2.2.2.2.2.2.2.2.2.2.2.2.2.2.2,()))))))))))))))))))
def akr : List (jb K (Int×(List UInt8)×Int×Bool×Int×Int×Bool×Bool×Int×(List UInt8)×Int×Bool×Int×Int×Bool×Bool×(List M.af)×(List (List UInt8))×(List M.ae)×(List M.af)×(List (List UInt8))×(List M.ae)×(List M.af))):=[⟨(Ex.exit 1),⟨[.ptr 0 0, .ptr 1 0, .own 9],[.box [.int .i64, .str, .own 10, .own 11, .int .i64, .bool, .own 12, .int .i64, .int .i64, .bool, .bool], .box [.int .i64, .str, .own 13, .own 14, .int .i64, .bool, .own 15, .int .i64, .int .i64, .bool, .bool], .dead, .dead, .dead, .dead, .dead, .dead, .dead, .tree U.Value, .arr U.str, .tree U.Type, .tree U.Value, .arr U.str, .tree U.Type, .tree U.Value]⟩,fun x=>(x.2.1.1,x.2.1.2.1,x.2.1.2.2.2.2.1,x.2.1.2.2.2.2.2.1,x.2.1.2.2.2.2.2.2.2.1,x.2.1.2.2.2.2.2.2.2.2.1,x.2.1.2.2.2.2.2.2.2.2.2.1,x.2.1.2.2.2.2.2.2.2.2.2.2.1,x.2.2.1.1,x.2.2.1.2.1,x.2.2.1.2.2.2.2.1,x.2.2.1.2.2.2.2.2.1,x.2.2.1.2.2.2.2.2.2.2.1,x.2.2.1.2.2.2.2.2.2.2.2.1,x.2.2.1.2.2.2.2.2.2.2.2.2.1,x.2.2.1.2.2.2.2.2.2.2.2.2.2.1,x.2.2.2.2.2.2.2.2.2.2.1,x.2.2.2.2.2.2.2.2.2.2.2.1,x.2.2.2.2.2.2.2.2.2.2.2.2.1,x.2.2.2.2.2.2.2.2.2.2.2.2.2.1,x.2.2.2.2.2.2.2.2.2.2.2.2.2.2.1,x.2.2.2.2.2.2.2.2.2.2.2.2.2.2.2.1,x.2.2.2.2.2.2.2.2.2.2.2.2.2.2.2.2.1)⟩]
def ajr : gZ K:=jh D false 91 9 [1,6,9,10,45,46,47] [6,9,10] ⟨[.int .i64, .ptr 0 0, .ptr 1 0, .own 9, .bn U.pM, .int .i64, .int .i64],[.box [.int .i64, .str, .own 10, .own 11, .int .i64, .bool, .own 12, .int .i64, .int .i64, .bool, .bool], .box [.int .i64, .str, .own 13, .own 14, .int .i64, .bool, .own 15, .int .i64, .int .i64, .bool, .bool], .dead, .dead, .dead, .dead, .dead, .dead, .dead, .tree U.Value, .arr U.str, .tree U.Type, .tree U.Value, .arr U.str, .tree U.Type, .tree U.Value]⟩ (fun x=>M.acg x.1.2.2.2.2.1 x.1.2.2.2.2.2.1 x.2.1.1 x.2.1.2.1 x.2.1.2.2.2.2.1 x.2.1.2.2.2.2.2.1 x.2.1.2.2.2.2.2.2.2.1 x.2.1.2.2.2.2.2.2.2.2.1 x.2.1.2.2.2.2.2.2.2.2.2.1 x.2.1.2.2.2.2.2.2.2.2.2.2.1 x.2.2.2.2.2.2.2.2.2.2.2.1 x.2.2.2.2.2.2.2.2.2.2.2.2.1 x.2.2.2.2.2.2.2.2.2.2.2.2.2.1 aP x.1.1 x.1.2.2.2.2.2.2.1 x.2.2.1.1 x.2.2.1.2.1 x.2.2.1.2.2.2.2.1 x.2.2.1.2.2.2.2.2.1 x.2.2.1.2.2.2.2.2.2.2.1 x.2.2.1.2.2.2.2.2.2.2.2.1 x.2.2.1.2.2.2.2.2.2.2.2.2.1 x.2.2.1.2.2.2.2.2.2.2.2.2.2.1 x.2.2.2.2.2.2.2.2.2.2.1 x.2.2.2.2.2.2.2.2.2.2.2.2.2.2.1 x.2.2.2.2.2.2.2.2.2.2.2.2.2.2.2.1 x.2.2.2.2.2.2.2.2.2.2.2.2.2.2.2.2.1) ai3
def aiy (m:M.ah->Int->(List M.dZ)->Option (Int×(List UInt8)×Int×Bool×Int×Int×Bool×Bool×Int×(List (List UInt8))×(List M.ae)×(List M.af)×(List M.af))):bI K:={f:=7,sh:=⟨[.el U.Stream, .int .i64, .bn U.pM],[]⟩,R:=Int×(List UInt8)×Int×Bool×Int×Int×Bool×Bool×Int×(List (List UInt8))×(List M.ae)×(List M.af)×(List M.af),run:=fun x=>m x.1.1 x.1.2.1 x.1.2.2.1,dflt:=default,out:=fun r=>(Sh.enc D (.ik [.agg [.int .i64, .str, .own 0, .own 1, .int .i64, .bool, .own 2, .int .i64, .int .i64, .bool, .bool], .own 3, .int .i64]) ((r.1,(r.2.1,((),((),(r.2.2.1,(r.2.2.2.1,((),(r.2.2.2.2.1,(r.2.2.2.2.2.1,(r.2.2.2.2.2.2.1,(r.2.2.2.2.2.2.2.1,()))))))))))),((),(r.2.2.2.2.2.2.2.2.1,()))),dK.encs D [.arr U.str, .tree U.Type, .tree U.Value, .tree U.Value] (r.2.2.2.2.2.2.2.2.2.1,(r.2.2.2.2.2.2.2.2.2.2.1,(r.2.2.2.2.2.2.2.2.2.2.2.1,(r.2.2.2.2.2.2.2.2.2.2.2.2,())))))}
def aia : Cx K:={iG with mode:=aV .plain [(26, .plain),(27, .plain),(28, .plain),(30, .fresh),(31, .fF),(32, .fF),(34, .fresh),(33, .fF),(35, .fF)],KY:=[[none,none,some U.str,some U.Type,none,none,some U.Value,none,none,none,none],[some U.Value],[]],deep:=fun c=>dO (D.cells c (K.zero c)),call:=callOf D [nV M.jM,jU M.uY,acN M.aaX,xx M.qN,ahS M.afB,ag3 M.ae5,aii M.agP,aib M.afR,vM M.rQ],loop:=aU [(13,ajr)]}
theorem ajt : aG (aia):=aB aH _ (aA yj (aA qx (aA agD (aA SC (aA akl (aA aj9 (aA akG (aA akx (aA Pn (bg))))))))))
theorem akf : eG (aia) (eQ (fG Tryz.f7) 0) (ajr):=
 dU (cx:=aia) (n:=91) (n0:=9) (ins:=[1,6,9,10,45,46,47]) (outs:=[6,9,10]) (sh:=⟨[.int .i64, .ptr 0 0, .ptr 1 0, .own 9, .bn U.pM, .int .i64, .int .i64],[.box [.int .i64, .str, .own 10, .own 11, .int .i64, .bool, .own 12, .int .i64, .int .i64, .bool, .bool], .box [.int .i64, .str, .own 13, .own 14, .int .i64, .bool, .own 15, .int .i64, .int .i64, .bool, .bool], .dead, .dead, .dead, .dead, .dead, .dead, .dead, .tree U.Value, .arr U.str, .tree U.Type, .tree U.Value, .arr U.str, .tree U.Type, .tree U.Value]⟩) (run:=fun n x=>M.acg x.1.2.2.2.2.1 x.1.2.2.2.2.2.1 x.2.1.1 x.2.1.2.1 x.2.1.2.2.2.2.1 x.2.1.2.2.2.2.2.1 x.2.1.2.2.2.2.2.2.2.1 x.2.1.2.2.2.2.2.2.2.2.1 x.2.1.2.2.2.2.2.2.2.2.2.1 x.2.1.2.2.2.2.2.2.2.2.2.2.1 x.2.2.2.2.2.2.2.2.2.2.2.1 x.2.2.2.2.2.2.2.2.2.2.2.2.1 x.2.2.2.2.2.2.2.2.2.2.2.2.2.1 n x.1.1 x.1.2.2.2.2.2.2.1 x.2.2.1.1 x.2.2.1.2.1 x.2.2.1.2.2.2.2.1 x.2.2.1.2.2.2.2.2.1 x.2.2.1.2.2.2.2.2.2.2.1 x.2.2.1.2.2.2.2.2.2.2.2.1 x.2.2.1.2.2.2.2.2.2.2.2.2.1 x.2.2.1.2.2.2.2.2.2.2.2.2.2.1 x.2.2.2.2.2.2.2.2.2.2.1 x.2.2.2.2.2.2.2.2.2.2.2.2.2.2.1 x.2.2.2.2.2.2.2.2.2.2.2.2.2.2.2.1 x.2.2.2.2.2.2.2.2.2.2.2.2.2.2.2.2.1) (iW:=akr) (out:=ai3) aH (ajt) ai (az (by kernel_rfl)) (fun _=>rfl) (fun m x=>by kernel_rfl) (aA ⟨dV,fun _ _ _=>rfl⟩ (bg)) false aP
theorem akR : (aiy (M.ahb)).Ok D Tryz.prog:=
 aW (cx:=aia) (c:=aiy (M.ahb)) (fz:=false) (fn:=Tryz.f7) aH (ajt) ai ⟨Tryz.func7,by kernel_rfl⟩ (aX (bV 1 (by kernel_rfl) (gI (.mk (by kernel_rfl) (akf))))) ⟨⟨[.ik [.agg [.int .i64, .str, .own 0, .own 1, .int .i64, .bool, .own 2, .int .i64, .int .i64, .bool, .bool], .own 3, .int .i64]],[.arr U.str, .tree U.Type, .tree U.Value, .tree U.Value]⟩,fun x=>(x.1.1.1.1,x.1.1.1.2.1,x.1.1.1.2.2.2.2.1,x.1.1.1.2.2.2.2.2.1,x.1.1.1.2.2.2.2.2.2.2.1,x.1.1.1.2.2.2.2.2.2.2.2.1,x.1.1.1.2.2.2.2.2.2.2.2.2.1,x.1.1.1.2.2.2.2.2.2.2.2.2.2.1,x.1.1.2.2.1,x.2.1,x.2.2.1,x.2.2.2.1,x.2.2.2.2.1)⟩ (fun x=>rfl) (fun x=>by kernel_rfl)
def Ik (m:(List UInt8)->(List UInt8)->Option (Bool)):bI K:={f:=5,sh:=⟨[.bn U.u8, .bn U.u8],[]⟩,R:=Bool,run:=fun x=>m x.1.1 x.1.2.1,dflt:=default,out:=fun r=>(Sh.enc D (.bool) r,dK.encs D [] ())}
def Uy : Cx K:={iG with mode:=aV .plain [],call:=callOf D [],loop:=aU []}
theorem Yf : aG (Uy):=aB aH _ (bg)
theorem aaV : (Ik (M.NF)).Ok D Tryz.prog:=
 aW (cx:=Uy) (c:=Ik (M.NF)) (fz:=true) (fn:=Tryz.f5) aH (Yf) ai ⟨Tryz.func5,by kernel_rfl⟩ (aX (az (by kernel_rfl))) ⟨⟨[.bool],[]⟩,fun x=>x.1.1⟩ (fun x=>rfl) (fun x=>by kernel_rfl)
def CO (m:(List UInt8)->Option ((List UInt8)×Int×Int)):bI K:={f:=19,sh:=⟨[.bn U.u8],[]⟩,R:=(List UInt8)×Int×Int,run:=fun x=>m x.1.1,dflt:=default,out:=fun r=>(Sh.enc D (.ptr 0 0) (),dK.encs D [.box [.bn U.u8, .int .i64, .int .u64]] ((r.1,(r.2.1,(r.2.2,()))),()))}
def NG : Cx K:={iG with mode:=aV .plain [],call:=callOf D [],loop:=aU []}
theorem Uz : aG (NG):=aB aH _ (bg)
theorem Yg : (CO (M.Po)).Ok D Tryz.prog:=
 aW (cx:=NG) (c:=CO (M.Po)) (fz:=true) (fn:=Tryz.f19) aH (Uz) ai ⟨Tryz.func19,by kernel_rfl⟩ (aX (az (by kernel_rfl))) ⟨⟨[.ptr 0 0],[.box [.bn U.u8, .int .i64, .int .u64]]⟩,fun x=>(x.2.1.1,x.2.1.2.1,x.2.1.2.2.1)⟩ (fun x=>rfl) (fun x=>by kernel_rfl)
def vN (m:M.ak->Option (Int×M.ak)):bI K:={f:=52,sh:=⟨[.ptr 0 0],[.el U.bW]⟩,R:=Int×M.ak,run:=fun x=>m x.2.1,dflt:=default,out:=fun r=>(Sh.enc D (.int .i64) r.1,dK.encs D [.el U.bW] (r.2,()))}
def D7 : Cx K:={iG with mode:=aV .plain [],call:=callOf D [],loop:=aU []}
theorem Ll : aG (D7):=aB aH _ (bg)
theorem Pq : (vN (M.kH)).Ok D Tryz.prog:=
 aW (cx:=D7) (c:=vN (M.kH)) (fz:=true) (fn:=Tryz.f52) aH (Ll) ai ⟨Tryz.func52,by kernel_rfl⟩ (aX (az (by kernel_rfl))) ⟨⟨[.int .i64],[.el U.bW]⟩,fun x=>(x.1.1,x.2.1)⟩ (fun x=>rfl) (fun x=>by kernel_rfl)
def dh (m:Int->M.ak->Option (Int×M.ak)):bI K:={f:=21,sh:=⟨[.ptr 0 0, .int .i64],[.el U.bW]⟩,R:=Int×M.ak,run:=fun x=>m x.1.2.1 x.2.1,dflt:=default,out:=fun r=>(Sh.enc D (.int .i64) r.1,dK.encs D [.el U.bW] (r.2,()))}
def D8 : Cx K:={iG with mode:=aV .plain [(52, .fF)],call:=callOf D [vN M.kH],loop:=aU []}
theorem Lm : aG (D8):=aB aH _ (aA Pq (bg))
theorem dR : (dh (M.aJ)).Ok D Tryz.prog:=
 aW (cx:=D8) (c:=dh (M.aJ)) (fz:=true) (fn:=Tryz.f21) aH (Lm) ai ⟨Tryz.func21,by kernel_rfl⟩ (aX (az (by kernel_rfl))) ⟨⟨[.int .i64],[.el U.bW]⟩,fun x=>(x.1.1,x.2.1)⟩ (fun x=>rfl) (fun x=>by kernel_rfl)
def jf (m:Int->M.ak->Option (Bool×M.ak)):bI K:={f:=22,sh:=⟨[.ptr 0 0, .int .i64],[.el U.bW]⟩,R:=Bool×M.ak,run:=fun x=>m x.1.2.1 x.2.1,dflt:=default,out:=fun r=>(Sh.enc D (.bool) r.1,dK.encs D [.el U.bW] (r.2,()))}
def GN : Cx K:={iG with mode:=aV .plain [(21, .fF)],call:=callOf D [dh M.aJ],loop:=aU []}
theorem NH : aG (GN):=aB aH _ (aA dR (bg))
theorem pJ : (jf (M.dY)).Ok D Tryz.prog:=
 aW (cx:=GN) (c:=jf (M.dY)) (fz:=true) (fn:=Tryz.f22) aH (NH) ai ⟨Tryz.func22,by kernel_rfl⟩ (aX (az (by kernel_rfl))) ⟨⟨[.bool],[.el U.bW]⟩,fun x=>(x.1.1,x.2.1)⟩ (fun x=>rfl) (fun x=>by kernel_rfl)
def mM (m:(List (List UInt8))->M.ak->Option ((List UInt8)×M.ak)):bI K:={f:=75,sh:=⟨[.ptr 0 0, .bn U.str],[.el U.bW]⟩,R:=(List UInt8)×M.ak,run:=fun x=>m x.1.2.1 x.2.1,dflt:=default,out:=fun r=>(Sh.enc D (.str) r.1,dK.encs D [.el U.bW] (r.2,()))}
def D9 : Cx K:={iG with mode:=aV .plain [(21, .fF)],call:=callOf D [dh M.aJ],loop:=aU []}
theorem Lp : aG (D9):=aB aH _ (aA dR (bg))
theorem xy : (mM (M.fE)).Ok D Tryz.prog:=
 aW (cx:=D9) (c:=mM (M.fE)) (fz:=true) (fn:=Tryz.f75) aH (Lp) ai ⟨Tryz.func75,by kernel_rfl⟩ (aX (az (by kernel_rfl))) ⟨⟨[.str],[.el U.bW]⟩,fun x=>(x.1.1,x.2.1)⟩ (fun x=>rfl) (fun x=>by kernel_rfl)
def fP (m:(List Int)->M.ak->Option (Int×M.ak)):bI K:={f:=25,sh:=⟨[.ptr 0 0, .bn U.i64],[.el U.bW]⟩,R:=Int×M.ak,run:=fun x=>m x.1.2.1 x.2.1,dflt:=default,out:=fun r=>(Sh.enc D (.int .i64) r.1,dK.encs D [.el U.bW] (r.2,()))}
def BJ : Cx K:={iG with mode:=aV .plain [(21, .fF)],call:=callOf D [dh M.aJ],loop:=aU []}
theorem JG : aG (BJ):=aB aH _ (aA dR (bg))
theorem jF : (fP (M.bU)).Ok D Tryz.prog:=
 aW (cx:=BJ) (c:=fP (M.bU)) (fz:=true) (fn:=Tryz.f25) aH (JG) ai ⟨Tryz.func25,by kernel_rfl⟩ (aX (az (by kernel_rfl))) ⟨⟨[.int .i64],[.el U.bW]⟩,fun x=>(x.1.1,x.2.1)⟩ (fun x=>rfl) (fun x=>by kernel_rfl)
def eF (m:Int->Bool->Bool->M.ak->Option (Int×(List UInt8)×M.ak×(List (List UInt8))×(List M.ae))):bI K:={f:=74,sh:=⟨[.ptr 0 0, .int .i64, .bool, .bool],[.el U.bW]⟩,R:=Int×(List UInt8)×M.ak×(List (List UInt8))×(List M.ae),run:=fun x=>m x.1.2.1 x.1.2.2.1 x.1.2.2.2.1 x.2.1,dflt:=default,out:=fun r=>(Sh.enc D (.agg [.int .i64, .str, .own 1, .own 2]) (r.1,(r.2.1,((),((),())))),dK.encs D [.el U.bW, .arr U.str, .tree U.Type] (r.2.2.1,(r.2.2.2.1,(r.2.2.2.2,()))))}
def yl (m:Int->Bool->Bool->M.ak->Option (Int×(List UInt8)×M.ak×(List (List UInt8))×(List M.ae))):bI K:={f:=76,sh:=⟨[.ptr 0 0, .int .i64, .bool, .bool],[.el U.bW]⟩,R:=Int×(List UInt8)×M.ak×(List (List UInt8))×(List M.ae),run:=fun x=>m x.1.2.1 x.1.2.2.1 x.1.2.2.2.1 x.2.1,dflt:=default,out:=fun r=>(Sh.enc D (.agg [.int .i64, .str, .own 1, .own 2]) (r.1,(r.2.1,((),((),())))),dK.encs D [.el U.bW, .arr U.str, .tree U.Type] (r.2.2.1,(r.2.2.2.1,(r.2.2.2.2,()))))}
def NI (ax:Int->Bool->Bool->M.ak->Option (Int×(List UInt8)×M.ak×(List (List UInt8))×(List M.ae))):Cx K:={iG with mode:=aV .plain [(22, .fF),(74, .fF)],KY:=[[none,none,some U.str,some U.Type]],deep:=fun c=>dO (D.cells c (K.zero c)),call:=callOf D [jf M.dY,eF ax],loop:=aU []}
theorem UA (ax:Int->Bool->Bool->M.ak->Option (Int×(List UInt8)×M.ak×(List (List UInt8))×(List M.ae))) (dD:(eF ax).Ok D Tryz.prog):aG (NI ax):=aB aH _ (aA pJ (aA dD (bg)))
theorem NJ (ax:Int->Bool->Bool->M.ak->Option (Int×(List UInt8)×M.ak×(List (List UInt8))×(List M.ae))) (dD:(eF ax).Ok D Tryz.prog):(yl (M.nY ax)).Ok D Tryz.prog:=
 aW (cx:=NI ax) (c:=yl (M.nY ax)) (fz:=false) (fn:=Tryz.f76) aH (UA ax dD) ai ⟨Tryz.func76,by kernel_rfl⟩ (aX (az (by kernel_rfl))) ⟨⟨[.agg [.int .i64, .str, .own 1, .own 2]],[.el U.bW, .arr U.str, .tree U.Type]⟩,fun x=>(x.1.1.1,x.1.1.2.1,x.2.1,x.2.2.1,x.2.2.2.1)⟩ (fun x=>rfl) (fun x=>by kernel_rfl)
def AP (y:(List (List UInt8))) {R:Type} (k:Ex->List (AV K)->List (Ob K)->R):R:=match y with
 |a0=>k (Ex.exit 0) (gB.gW D ⟨[.own 2],[.dead, .dead, .arr U.str]⟩ (((),()),((),((),(a0,()))))) (gB.gY D ⟨[.own 2],[.dead, .dead, .arr U.str]⟩ (((),()),((),((),(a0,())))))
def NK : List (jb K ((List (List UInt8)))):=[⟨(Ex.exit 0),⟨[.own 2],[.dead, .dead, .arr U.str]⟩,fun x=>x.2.2.2.1⟩]
def Ea : gZ K:=jh D false 29 2 [1,5,6,7,8] [7] ⟨[.int .i64, .own 2, .int .i64, .own 3, .int .i64],[.dead, .dead, .arr U.str, .arr U.str]⟩ (fun x=>M.lg x.1.1 x.1.2.2.1 x.2.2.2.1 aP x.1.2.2.2.2.1 x.2.2.2.2.1) AP
def zf (m:Int->M.ak->Option (M.ak×(List (List UInt8)))):bI K:={f:=94,sh:=⟨[.ptr 0 0, .int .i64],[.el U.bW]⟩,R:=M.ak×(List (List UInt8)),run:=fun x=>m x.1.2.1 x.2.1,dflt:=default,out:=fun r=>(Sh.enc D (.own 1) (),dK.encs D [.el U.bW, .arr U.str] (r.1,(r.2,())))}
def vO : Cx K:={iG with mode:=aV .plain [(21, .fF)],KY:=[[some U.str]],deep:=fun c=>dO (D.cells c (K.zero c)),call:=callOf D [dh M.aJ],loop:=aU [(5,Ea)]}
theorem Eb : aG (vO):=aB aH _ (aA dR (bg))
theorem Lr : eG (vO) (eQ (fG Tryz.f94) 0) (Ea):=
 dU (cx:=vO) (n:=29) (n0:=2) (ins:=[1,5,6,7,8]) (outs:=[7]) (sh:=⟨[.int .i64, .own 2, .int .i64, .own 3, .int .i64],[.dead, .dead, .arr U.str, .arr U.str]⟩) (run:=fun n x=>M.lg x.1.1 x.1.2.2.1 x.2.2.2.1 n x.1.2.2.2.2.1 x.2.2.2.2.1) (iW:=NK) (out:=AP) aH (Eb) ai (az (by kernel_rfl)) (fun _=>rfl) (fun m x=>by kernel_rfl) (aA ⟨dV,fun _ _ _=>rfl⟩ (bg)) false aP
theorem UB : (zf (M.kJ)).Ok D Tryz.prog:=
 aW (cx:=vO) (c:=zf (M.kJ)) (fz:=false) (fn:=Tryz.f94) aH (Eb) ai ⟨Tryz.func94,by kernel_rfl⟩ (aX (bV 1 (by kernel_rfl) (gI (.mk (by kernel_rfl) (Lr))))) ⟨⟨[.own 1],[.el U.bW, .arr U.str]⟩,fun x=>(x.2.1,x.2.2.1)⟩ (fun x=>rfl) (fun x=>by kernel_rfl)
def Ec (y:(List UInt8)×Int×Int×Int×(List UInt8)×Int×(List UInt8)×(List (List UInt8))×(List M.ae)×(List (List UInt8))×(List M.ae)) {R:Type} (k:Ex->List (AV K)->List (Ob K)->R):R:=match y with
 |a0=>k (Ex.exit 1) (gB.gW D ⟨[.ptr 1 0, .ptr 2 0],[.box [.bn U.u8, .int .i64, .int .u64], .box [.int .i64, .str, .own 7, .own 8], .box [.int .i64, .str, .own 9, .own 10], .dead, .dead, .dead, .dead, .arr U.str, .tree U.Type, .arr U.str, .tree U.Type]⟩ (((),((),())),((a0.1,(a0.2.1,(a0.2.2.1,()))),((a0.2.2.2.1,(a0.2.2.2.2.1,((),((),())))),((a0.2.2.2.2.2.1,(a0.2.2.2.2.2.2.1,((),((),())))),((),((),((),((),(a0.2.2.2.2.2.2.2.1,(a0.2.2.2.2.2.2.2.2.1,(a0.2.2.2.2.2.2.2.2.2.1,(a0.2.2.2.2.2.2.2.2.2.2,()))))))))))))) (gB.gY D ⟨[.ptr 1 0, .ptr 2 0],[.box [.bn U.u8, .int .i64, .int .u64], .box [.int .i64, .str, .own 7, .own 8], .box [.int .i64, .str, .own 9, .own 10], .dead, .dead, .dead, .dead, .arr U.str, .tree U.Type, .arr U.str, .tree U.Type]⟩ (((),((),())),((a0.1,(a0.2.1,(a0.2.2.1,()))),((a0.2.2.2.1,(a0.2.2.2.2.1,((),((),())))),((a0.2.2.2.2.2.1,(a0.2.2.2.2.2.2.1,((),((),())))),((),((),((),((),(a0.2.2.2.2.2.2.2.1,(a0.2.2.2.2.2.2.2.2.1,(a0.2.2.2.2.2.2.2.2.2.1,(a0.2.2.2.2.2.2.2.2.2.2,())))))))))))))
def SE : List (jb K ((List UInt8)×Int×Int×Int×(List UInt8)×Int×(List UInt8)×(List (List UInt8))×(List M.ae)×(List (List UInt8))×(List M.ae))):=[⟨(Ex.exit 1),⟨[.ptr 1 0, .ptr 2 0],[.box [.bn U.u8, .int .i64, .int .u64], .box [.int .i64, .str, .own 7, .own 8], .box [.int .i64, .str, .own 9, .own 10], .dead, .dead, .dead, .dead, .arr U.str, .tree U.Type, .arr U.str, .tree U.Type]⟩,fun x=>(x.2.1.1,x.2.1.2.1,x.2.1.2.2.1,x.2.2.1.1,x.2.2.1.2.1,x.2.2.2.1.1,x.2.2.2.1.2.1,x.2.2.2.2.2.2.2.2.1,x.2.2.2.2.2.2.2.2.2.1,x.2.2.2.2.2.2.2.2.2.2.1,x.2.2.2.2.2.2.2.2.2.2.2.1)⟩]
def Il (ax:Int->Bool->Bool->M.ak->Option (Int×(List UInt8)×M.ak×(List (List UInt8))×(List M.ae))):gZ K:=jh D false 181 7 [0,1,2,3,8,13,14] [8,13] ⟨[.ptr 0 0, .int .i64, .bool, .bool, .ptr 1 0, .ptr 2 0, .int .i64],[.el U.bW, .box [.int .i64, .str, .own 7, .own 8], .box [.int .i64, .str, .own 9, .own 10], .dead, .dead, .dead, .dead, .arr U.str, .tree U.Type, .arr U.str, .tree U.Type]⟩ (fun x=>M.oW ax x.1.2.1 x.1.2.2.1 x.1.2.2.2.1 x.2.2.1.1 x.2.2.1.2.1 x.2.2.2.1.1 x.2.2.2.1.2.1 x.2.2.2.2.2.2.2.2.1 x.2.2.2.2.2.2.2.2.2.1 x.2.2.2.2.2.2.2.2.2.2.1 aP x.1.2.2.2.2.2.2.1 x.2.1 x.2.2.2.2.2.2.2.2.2.2.2.1) Ec
def Ed (y:(List UInt8)×Int×Int×Int×(List UInt8)×Int×(List UInt8)×(List (List UInt8))×(List M.ae)×(List (List UInt8))×(List M.ae)) {R:Type} (k:Ex->List (AV K)->List (Ob K)->R):R:=match y with
 |a0=>k (Ex.exit 3) (gB.gW D ⟨[.ptr 1 0, .ptr 2 0],[.box [.bn U.u8, .int .i64, .int .u64], .box [.int .i64, .str, .own 7, .own 8], .box [.int .i64, .str, .own 9, .own 10], .dead, .dead, .dead, .dead, .arr U.str, .tree U.Type, .arr U.str, .tree U.Type]⟩ (((),((),())),((a0.1,(a0.2.1,(a0.2.2.1,()))),((a0.2.2.2.1,(a0.2.2.2.2.1,((),((),())))),((a0.2.2.2.2.2.1,(a0.2.2.2.2.2.2.1,((),((),())))),((),((),((),((),(a0.2.2.2.2.2.2.2.1,(a0.2.2.2.2.2.2.2.2.1,(a0.2.2.2.2.2.2.2.2.2.1,(a0.2.2.2.2.2.2.2.2.2.2,()))))))))))))) (gB.gY D ⟨[.ptr 1 0, .ptr 2 0],[.box [.bn U.u8, .int .i64, .int .u64], .box [.int .i64, .str, .own 7, .own 8], .box [.int .i64, .str, .own 9, .own 10], .dead, .dead, .dead, .dead, .arr U.str, .tree U.Type, .arr U.str, .tree U.Type]⟩ (((),((),())),((a0.1,(a0.2.1,(a0.2.2.1,()))),((a0.2.2.2.1,(a0.2.2.2.2.1,((),((),())))),((a0.2.2.2.2.2.1,(a0.2.2.2.2.2.2.1,((),((),())))),((),((),((),((),(a0.2.2.2.2.2.2.2.1,(a0.2.2.2.2.2.2.2.2.1,(a0.2.2.2.2.2.2.2.2.2.1,(a0.2.2.2.2.2.2.2.2.2.2,())))))))))))))
def SG : List (jb K ((List UInt8)×Int×Int×Int×(List UInt8)×Int×(List UInt8)×(List (List UInt8))×(List M.ae)×(List (List UInt8))×(List M.ae))):=[⟨(Ex.exit 3),⟨[.ptr 1 0, .ptr 2 0],[.box [.bn U.u8, .int .i64, .int .u64], .box [.int .i64, .str, .own 7, .own 8], .box [.int .i64, .str, .own 9, .own 10], .dead, .dead, .dead, .dead, .arr U.str, .tree U.Type, .arr U.str, .tree U.Type]⟩,fun x=>(x.2.1.1,x.2.1.2.1,x.2.1.2.2.1,x.2.2.1.1,x.2.2.1.2.1,x.2.2.2.1.1,x.2.2.2.1.2.1,x.2.2.2.2.2.2.2.2.1,x.2.2.2.2.2.2.2.2.2.1,x.2.2.2.2.2.2.2.2.2.2.1,x.2.2.2.2.2.2.2.2.2.2.2.1)⟩]
def Io (ax:Int->Bool->Bool->M.ak->Option (Int×(List UInt8)×M.ak×(List (List UInt8))×(List M.ae))):gZ K:=jh D false 181 7 [0,1,2,3,8,15,16] [8,15] ⟨[.ptr 0 0, .int .i64, .bool, .bool, .ptr 1 0, .ptr 2 0, .int .i64],[.el U.bW, .box [.int .i64, .str, .own 7, .own 8], .box [.int .i64, .str, .own 9, .own 10], .dead, .dead, .dead, .dead, .arr U.str, .tree U.Type, .arr U.str, .tree U.Type]⟩ (fun x=>M.oZ ax x.1.2.1 x.1.2.2.1 x.1.2.2.2.1 x.2.2.1.1 x.2.2.1.2.1 x.2.2.2.1.1 x.2.2.2.1.2.1 x.2.2.2.2.2.2.2.2.1 x.2.2.2.2.2.2.2.2.2.1 x.2.2.2.2.2.2.2.2.2.2.1 aP x.1.2.2.2.2.2.2.1 x.2.1 x.2.2.2.2.2.2.2.2.2.2.2.1) Ed
def Ee (y:(List UInt8)×Int×Int×Int×(List UInt8)×Int×(List UInt8)×(List (List UInt8))×(List M.ae)×(List (List UInt8))×(List M.ae)) {R:Type} (k:Ex->List (AV K)->List (Ob K)->R):R:=match y with
 |a0=>k (Ex.exit 5) (gB.gW D ⟨[.ptr 1 0, .ptr 2 0],[.box [.bn U.u8, .int .i64, .int .u64], .box [.int .i64, .str, .own 7, .own 8], .box [.int .i64, .str, .own 9, .own 10], .dead, .dead, .dead, .dead, .arr U.str, .tree U.Type, .arr U.str, .tree U.Type]⟩ (((),((),())),((a0.1,(a0.2.1,(a0.2.2.1,()))),((a0.2.2.2.1,(a0.2.2.2.2.1,((),((),())))),((a0.2.2.2.2.2.1,(a0.2.2.2.2.2.2.1,((),((),())))),((),((),((),((),(a0.2.2.2.2.2.2.2.1,(a0.2.2.2.2.2.2.2.2.1,(a0.2.2.2.2.2.2.2.2.2.1,(a0.2.2.2.2.2.2.2.2.2.2,()))))))))))))) (gB.gY D ⟨[.ptr 1 0, .ptr 2 0],[.box [.bn U.u8, .int .i64, .int .u64], .box [.int .i64, .str, .own 7, .own 8], .box [.int .i64, .str, .own 9, .own 10], .dead, .dead, .dead, .dead, .arr U.str, .tree U.Type, .arr U.str, .tree U.Type]⟩ (((),((),())),((a0.1,(a0.2.1,(a0.2.2.1,()))),((a0.2.2.2.1,(a0.2.2.2.2.1,((),((),())))),((a0.2.2.2.2.2.1,(a0.2.2.2.2.2.2.1,((),((),())))),((),((),((),((),(a0.2.2.2.2.2.2.2.1,(a0.2.2.2.2.2.2.2.2.1,(a0.2.2.2.2.2.2.2.2.2.1,(a0.2.2.2.2.2.2.2.2.2.2,())))))))))))))
def SH : List (jb K ((List UInt8)×Int×Int×Int×(List UInt8)×Int×(List UInt8)×(List (List UInt8))×(List M.ae)×(List (List UInt8))×(List M.ae))):=[⟨(Ex.exit 5),⟨[.ptr 1 0, .ptr 2 0],[.box [.bn U.u8, .int .i64, .int .u64], .box [.int .i64, .str, .own 7, .own 8], .box [.int .i64, .str, .own 9, .own 10], .dead, .dead, .dead, .dead, .arr U.str, .tree U.Type, .arr U.str, .tree U.Type]⟩,fun x=>(x.2.1.1,x.2.1.2.1,x.2.1.2.2.1,x.2.2.1.1,x.2.2.1.2.1,x.2.2.2.1.1,x.2.2.2.1.2.1,x.2.2.2.2.2.2.2.2.1,x.2.2.2.2.2.2.2.2.2.1,x.2.2.2.2.2.2.2.2.2.2.1,x.2.2.2.2.2.2.2.2.2.2.2.1)⟩]
def Ip (ax:Int->Bool->Bool->M.ak->Option (Int×(List UInt8)×M.ak×(List (List UInt8))×(List M.ae))):gZ K:=jh D false 181 7 [0,1,2,3,8,17,18] [8,17] ⟨[.ptr 0 0, .int .i64, .bool, .bool, .ptr 1 0, .ptr 2 0, .int .i64],[.el U.bW, .box [.int .i64, .str, .own 7, .own 8], .box [.int .i64, .str, .own 9, .own 10], .dead, .dead, .dead, .dead, .arr U.str, .tree U.Type, .arr U.str, .tree U.Type]⟩ (fun x=>M.pg ax x.1.2.1 x.1.2.2.1 x.1.2.2.2.1 x.2.2.1.1 x.2.2.1.2.1 x.2.2.2.1.1 x.2.2.2.1.2.1 x.2.2.2.2.2.2.2.2.1 x.2.2.2.2.2.2.2.2.2.1 x.2.2.2.2.2.2.2.2.2.2.1 aP x.1.2.2.2.2.2.2.1 x.2.1 x.2.2.2.2.2.2.2.2.2.2.2.1) Ee
def mO (ax:Int->Bool->Bool->M.ak->Option (Int×(List UInt8)×M.ak×(List (List UInt8))×(List M.ae))):Cx K:={iG with mode:=aV .plain [(21, .fF),(22, .fF),(75, .fF),(25, .fF),(74, .fF),(76, .fF),(94, .fF)],KY:=[[none,none,some U.str,some U.Type]],deep:=fun c=>dO (D.cells c (K.zero c)),call:=callOf D [dh M.aJ,jf M.dY,mM M.fE,fP M.bU,eF ax,yl (M.nY ax),zf M.kJ],loop:=aU [(24,Il ax),(32,Io ax),(40,Ip ax)]}
theorem vP (ax:Int->Bool->Bool->M.ak->Option (Int×(List UInt8)×M.ak×(List (List UInt8))×(List M.ae))) (dD:(eF ax).Ok D Tryz.prog):aG (mO ax):=aB aH _ (aA dR (aA pJ (aA xy (aA jF (aA dD (aA (NJ ax dD) (aA UB (bg))))))))
theorem Pv (ax:Int->Bool->Bool->M.ak->Option (Int×(List UInt8)×M.ak×(List (List UInt8))×(List M.ae))) (dD:(eF ax).Ok D Tryz.prog):eG (mO ax) (eQ (fG Tryz.f74) 0) (Il ax):=
 dU (cx:=mO ax) (n:=181) (n0:=7) (ins:=[0,1,2,3,8,13,14]) (outs:=[8,13]) (sh:=⟨[.ptr 0 0, .int .i64, .bool, .bool, .ptr 1 0, .ptr 2 0, .int .i64],[.el U.bW, .box [.int .i64, .str, .own 7, .own 8], .box [.int .i64, .str, .own 9, .own 10], .dead, .dead, .dead, .dead, .arr U.str, .tree U.Type, .arr U.str, .tree U.Type]⟩) (run:=fun n x=>M.oW ax x.1.2.1 x.1.2.2.1 x.1.2.2.2.1 x.2.2.1.1 x.2.2.1.2.1 x.2.2.2.1.1 x.2.2.2.1.2.1 x.2.2.2.2.2.2.2.2.1 x.2.2.2.2.2.2.2.2.2.1 x.2.2.2.2.2.2.2.2.2.2.1 n x.1.2.2.2.2.2.2.1 x.2.1 x.2.2.2.2.2.2.2.2.2.2.2.1) (iW:=SE) (out:=Ec) aH (vP ax dD) ai (az (by kernel_rfl)) (fun _=>rfl) (fun m x=>by kernel_rfl) (aA ⟨dV,fun _ _ _=>rfl⟩ (bg)) false aP
theorem Px (ax:Int->Bool->Bool->M.ak->Option (Int×(List UInt8)×M.ak×(List (List UInt8))×(List M.ae))) (dD:(eF ax).Ok D Tryz.prog):eG (mO ax) (eQ (fG Tryz.f74) 1) (Io ax):=
 dU (cx:=mO ax) (n:=181) (n0:=7) (ins:=[0,1,2,3,8,15,16]) (outs:=[8,15]) (sh:=⟨[.ptr 0 0, .int .i64, .bool, .bool, .ptr 1 0, .ptr 2 0, .int .i64],[.el U.bW, .box [.int .i64, .str, .own 7, .own 8], .box [.int .i64, .str, .own 9, .own 10], .dead, .dead, .dead, .dead, .arr U.str, .tree U.Type, .arr U.str, .tree U.Type]⟩) (run:=fun n x=>M.oZ ax x.1.2.1 x.1.2.2.1 x.1.2.2.2.1 x.2.2.1.1 x.2.2.1.2.1 x.2.2.2.1.1 x.2.2.2.1.2.1 x.2.2.2.2.2.2.2.2.1 x.2.2.2.2.2.2.2.2.2.1 x.2.2.2.2.2.2.2.2.2.2.1 n x.1.2.2.2.2.2.2.1 x.2.1 x.2.2.2.2.2.2.2.2.2.2.2.1) (iW:=SG) (out:=Ed) aH (vP ax dD) ai (az (by kernel_rfl)) (fun _=>rfl) (fun m x=>by kernel_rfl) (aA ⟨dV,fun _ _ _=>rfl⟩ (bg)) false aP
theorem Py (ax:Int->Bool->Bool->M.ak->Option (Int×(List UInt8)×M.ak×(List (List UInt8))×(List M.ae))) (dD:(eF ax).Ok D Tryz.prog):eG (mO ax) (eQ (fG Tryz.f74) 2) (Ip ax):=
 dU (cx:=mO ax) (n:=181) (n0:=7) (ins:=[0,1,2,3,8,17,18]) (outs:=[8,17]) (sh:=⟨[.ptr 0 0, .int .i64, .bool, .bool, .ptr 1 0, .ptr 2 0, .int .i64],[.el U.bW, .box [.int .i64, .str, .own 7, .own 8], .box [.int .i64, .str, .own 9, .own 10], .dead, .dead, .dead, .dead, .arr U.str, .tree U.Type, .arr U.str, .tree U.Type]⟩) (run:=fun n x=>M.pg ax x.1.2.1 x.1.2.2.1 x.1.2.2.2.1 x.2.2.1.1 x.2.2.1.2.1 x.2.2.2.1.1 x.2.2.2.1.2.1 x.2.2.2.2.2.2.2.2.1 x.2.2.2.2.2.2.2.2.2.1 x.2.2.2.2.2.2.2.2.2.2.1 n x.1.2.2.2.2.2.2.1 x.2.1 x.2.2.2.2.2.2.2.2.2.2.2.1) (iW:=SH) (out:=Ee) aH (vP ax dD) ai (az (by kernel_rfl)) (fun _=>rfl) (fun m x=>by kernel_rfl) (aA ⟨dV,fun _ _ _=>rfl⟩ (bg)) false aP
theorem UC (ax:Int->Bool->Bool->M.ak->Option (Int×(List UInt8)×M.ak×(List (List UInt8))×(List M.ae))) (dD:(eF ax).Ok D Tryz.prog):(eF (M.yN ax)).Ok D Tryz.prog:=
 aW (cx:=mO ax) (c:=eF (M.yN ax)) (fz:=false) (fn:=Tryz.f74) aH (vP ax dD) ai ⟨Tryz.func74,by kernel_rfl⟩ (aX (bV 3 (by kernel_rfl) (lt_succ (lt_succ (gI (.mk (by kernel_rfl) (Pv ax dD))) (.mk (by kernel_rfl) (Px ax dD))) (.mk (by kernel_rfl) (Py ax dD))))) ⟨⟨[.agg [.int .i64, .str, .own 1, .own 2]],[.el U.bW, .arr U.str, .tree U.Type]⟩,fun x=>(x.1.1.1,x.1.1.2.1,x.2.1,x.2.2.1,x.2.2.2.1)⟩ (fun x=>rfl) (fun x=>by kernel_rfl)
theorem Iq : ∀n,(eF (M.um n)).Ok D Tryz.prog
 |0=>oO fun _=>rfl
 |n+1=>UC (M.um n) (Iq n)
theorem NL : (eF (M.qY)).Ok D Tryz.prog:=Iq aP
def GR (y:Int×(List UInt8)×Int×(List UInt8)×(List (List UInt8))×(List M.ae)×(List (List UInt8))×(List M.ae)) {R:Type} (k:Ex->List (AV K)->List (Ob K)->R):R:=match y with
 |a0=>k (Ex.exit 1) (gB.gW D ⟨[.ptr 0 0, .ptr 1 0],[.box [.int .i64, .str, .own 6, .own 7], .box [.int .i64, .str, .own 8, .own 9], .dead, .dead, .dead, .dead, .arr U.str, .tree U.Type, .arr U.str, .tree U.Type]⟩ (((),((),())),((a0.1,(a0.2.1,((),((),())))),((a0.2.2.1,(a0.2.2.2.1,((),((),())))),((),((),((),((),(a0.2.2.2.2.1,(a0.2.2.2.2.2.1,(a0.2.2.2.2.2.2.1,(a0.2.2.2.2.2.2.2,())))))))))))) (gB.gY D ⟨[.ptr 0 0, .ptr 1 0],[.box [.int .i64, .str, .own 6, .own 7], .box [.int .i64, .str, .own 8, .own 9], .dead, .dead, .dead, .dead, .arr U.str, .tree U.Type, .arr U.str, .tree U.Type]⟩ (((),((),())),((a0.1,(a0.2.1,((),((),())))),((a0.2.2.1,(a0.2.2.2.1,((),((),())))),((),((),((),((),(a0.2.2.2.2.1,(a0.2.2.2.2.2.1,(a0.2.2.2.2.2.2.1,(a0.2.2.2.2.2.2.2,()))))))))))))
def UD : List (jb K (Int×(List UInt8)×Int×(List UInt8)×(List (List UInt8))×(List M.ae)×(List (List UInt8))×(List M.ae))):=[⟨(Ex.exit 1),⟨[.ptr 0 0, .ptr 1 0],[.box [.int .i64, .str, .own 6, .own 7], .box [.int .i64, .str, .own 8, .own 9], .dead, .dead, .dead, .dead, .arr U.str, .tree U.Type, .arr U.str, .tree U.Type]⟩,fun x=>(x.2.1.1,x.2.1.2.1,x.2.2.1.1,x.2.2.1.2.1,x.2.2.2.2.2.2.2.1,x.2.2.2.2.2.2.2.2.1,x.2.2.2.2.2.2.2.2.2.1,x.2.2.2.2.2.2.2.2.2.2.1)⟩]
def Kt : gZ K:=jh D false 67 6 [2,3,4] [2,3] ⟨[.ptr 0 0, .ptr 1 0, .int .i64],[.box [.int .i64, .str, .own 6, .own 7], .box [.int .i64, .str, .own 8, .own 9], .dead, .dead, .dead, .dead, .arr U.str, .tree U.Type, .arr U.str, .tree U.Type]⟩ (fun x=>M.qC x.2.1.1 x.2.1.2.1 x.2.2.2.2.2.2.2.1 x.2.2.2.2.2.2.2.2.1 aP x.1.2.2.1 x.2.2.1.1 x.2.2.1.2.1 x.2.2.2.2.2.2.2.2.2.1 x.2.2.2.2.2.2.2.2.2.2.1) GR
def Fq (m:M.ak->Option (Int×(List UInt8)×M.ak×(List (List UInt8))×(List M.ae))):bI K:={f:=54,sh:=⟨[.ptr 0 0],[.el U.bW]⟩,R:=Int×(List UInt8)×M.ak×(List (List UInt8))×(List M.ae),run:=fun x=>m x.2.1,dflt:=default,out:=fun r=>(Sh.enc D (.agg [.int .i64, .str, .own 1, .own 2]) (r.1,(r.2.1,((),((),())))),dK.encs D [.el U.bW, .arr U.str, .tree U.Type] (r.2.2.1,(r.2.2.2.1,(r.2.2.2.2,()))))}
def BK : Cx K:={iG with mode:=aV .plain [(21, .fF),(74, .fF),(75, .fF),(76, .fF)],KY:=[[none,none,some U.str,some U.Type]],deep:=fun c=>dO (D.cells c (K.zero c)),call:=callOf D [dh M.aJ,eF M.qY,mM M.fE,yl (M.nY M.qY)],loop:=aU [(15,Kt)]}
theorem Ku : aG (BK):=aB aH _ (aA dR (aA NL (aA xy (aA (NJ M.qY NL) (bg)))))
theorem SI : eG (BK) (eQ (fG Tryz.f54) 0) (Kt):=
 dU (cx:=BK) (n:=67) (n0:=6) (ins:=[2,3,4]) (outs:=[2,3]) (sh:=⟨[.ptr 0 0, .ptr 1 0, .int .i64],[.box [.int .i64, .str, .own 6, .own 7], .box [.int .i64, .str, .own 8, .own 9], .dead, .dead, .dead, .dead, .arr U.str, .tree U.Type, .arr U.str, .tree U.Type]⟩) (run:=fun n x=>M.qC x.2.1.1 x.2.1.2.1 x.2.2.2.2.2.2.2.1 x.2.2.2.2.2.2.2.2.1 n x.1.2.2.1 x.2.2.1.1 x.2.2.1.2.1 x.2.2.2.2.2.2.2.2.2.1 x.2.2.2.2.2.2.2.2.2.2.1) (iW:=UD) (out:=GR) aH (Ku) ai (az (by kernel_rfl)) (fun _=>rfl) (fun m x=>by kernel_rfl) (aA ⟨dV,fun _ _ _=>rfl⟩ (bg)) false aP
theorem Zq : (Fq (M.Ef)).Ok D Tryz.prog:=
 aW (cx:=BK) (c:=Fq (M.Ef)) (fz:=false) (fn:=Tryz.f54) aH (Ku) ai ⟨Tryz.func54,by kernel_rfl⟩ (aX (bV 1 (by kernel_rfl) (gI (.mk (by kernel_rfl) (SI))))) ⟨⟨[.agg [.int .i64, .str, .own 1, .own 2]],[.el U.bW, .arr U.str, .tree U.Type]⟩,fun x=>(x.1.1.1,x.1.1.2.1,x.2.1,x.2.2.1,x.2.2.2.1)⟩ (fun x=>rfl) (fun x=>by kernel_rfl)
def ajw (y:(Bool)⊕(Unit)) {R:Type} (k:Ex->List (AV K)->List (Ob K)->R):R:=match y with
 | .inl a0=>k Ex.ret (gB.gW D ⟨[.bool],[]⟩ ((a0,()),())) (gB.gY D ⟨[.bool],[]⟩ ((a0,()),()))
 | .inr (a1)=>k (Ex.exit 0) (gB.gW D ⟨[.any],[]⟩ (((),()),())) (gB.gY D ⟨[.any],[]⟩ (((),()),()))
def akH : List (jb K ((Bool)⊕(Unit))):=[⟨Ex.ret,⟨[.bool],[]⟩,fun x=> .inl x.1.1⟩,⟨(Ex.exit 0),⟨[.any],[]⟩,fun x=> .inr (())⟩]
def ajN : gZ K:=jh D false 26 0 [0,1,5] [4] ⟨[.bn U.str, .bn U.str, .int .i64],[]⟩ (fun x=>M.afE x.1.1 x.1.2.1 aP x.1.2.2.1) ajw
def ajg (m:(List (List UInt8))->(List (List UInt8))->Option (Bool)):bI K:={f:=88,sh:=⟨[.bn U.str, .bn U.str],[]⟩,R:=Bool,run:=fun x=>m x.1.1 x.1.2.1,dflt:=default,out:=fun r=>(Sh.enc D (.bool) r,dK.encs D [] ())}
def aiE : Cx K:={iG with mode:=aV .plain [],call:=callOf D [],loop:=aU [(4,ajN)]}
theorem ajP : aG (aiE):=aB aH _ (bg)
theorem aky : eG (aiE) (eQ (fG Tryz.f88) 0) (ajN):=
 dU (cx:=aiE) (n:=26) (n0:=0) (ins:=[0,1,5]) (outs:=[4]) (sh:=⟨[.bn U.str, .bn U.str, .int .i64],[]⟩) (run:=fun n x=>M.afE x.1.1 x.1.2.1 n x.1.2.2.1) (iW:=akH) (out:=ajw) aH (ajP) ai (az (by kernel_rfl)) (fun _=>rfl) (fun m x=>by kernel_rfl) (aA ⟨oN,fun _ _ _=>rfl⟩ (aA ⟨dV,fun _ _ _=>rfl⟩ (bg))) false aP
theorem ak8 : (ajg (M.aiz)).Ok D Tryz.prog:=
 aW (cx:=aiE) (c:=ajg (M.aiz)) (fz:=true) (fn:=Tryz.f88) aH (ajP) ai ⟨Tryz.func88,by kernel_rfl⟩ (aX (bV 1 (by kernel_rfl) (gI (.mk (by kernel_rfl) (aky))))) ⟨⟨[.bool],[]⟩,fun x=>x.1.1⟩ (fun x=>rfl) (fun x=>by kernel_rfl)
def aeZ (m:M.ae->M.ae->Int->Option (Bool)):bI K:={f:=68,sh:=⟨[.el U.Type, .el U.Type, .int .i64],[]⟩,R:=Bool,run:=fun x=>m x.1.1 x.1.2.1 x.1.2.2.1,dflt:=default,out:=fun r=>(Sh.enc D (.bool) r,dK.encs D [] ())}
def ajz (y:(Bool)⊕(Unit)) {R:Type} (k:Ex->List (AV K)->List (Ob K)->R):R:=match y with
 | .inl a0=>k Ex.ret (gB.gW D ⟨[.bool],[.dead, .dead]⟩ ((a0,()),((),((),())))) (gB.gY D ⟨[.bool],[.dead, .dead]⟩ ((a0,()),((),((),()))))
 | .inr (a1)=>k (Ex.exit 0) (gB.gW D ⟨[.any],[.dead, .dead]⟩ (((),()),((),((),())))) (gB.gY D ⟨[.any],[.dead, .dead]⟩ (((),()),((),((),()))))
def akS : List (jb K ((Bool)⊕(Unit))):=[⟨Ex.ret,⟨[.bool],[.dead, .dead]⟩,fun x=> .inl x.1.1⟩,⟨(Ex.exit 0),⟨[.any],[.dead, .dead]⟩,fun x=> .inr (())⟩]
def ajY (aaL:M.ae->M.ae->Int->Option (Bool)):gZ K:=jh D false 62 2 [2,3,4,7] [6] ⟨[.int .i64, .ptr 0 0, .ptr 1 0, .int .i64],[.el U.Type, .el U.Type]⟩ (fun x=>M.ae0 aaL x.1.1 aP x.1.2.2.2.1 x.2.1 x.2.2.1) ajz
def ai4 (aaL:M.ae->M.ae->Int->Option (Bool)):Cx K:={iG with mode:=aV .plain [(88, .plain),(68, .plain)],call:=callOf D [ajg M.aiz,aeZ aaL],loop:=aU [(4,ajY aaL)]}
theorem ajZ (aaL:M.ae->M.ae->Int->Option (Bool)) (afT:(aeZ aaL).Ok D Tryz.prog):aG (ai4 aaL):=aB aH _ (aA ak8 (aA afT (bg)))
theorem akI (aaL:M.ae->M.ae->Int->Option (Bool)) (afT:(aeZ aaL).Ok D Tryz.prog):eG (ai4 aaL) (eQ (fG Tryz.f68) 0) (ajY aaL):=
 dU (cx:=ai4 aaL) (n:=62) (n0:=2) (ins:=[2,3,4,7]) (outs:=[6]) (sh:=⟨[.int .i64, .ptr 0 0, .ptr 1 0, .int .i64],[.el U.Type, .el U.Type]⟩) (run:=fun n x=>M.ae0 aaL x.1.1 n x.1.2.2.2.1 x.2.1 x.2.2.1) (iW:=akS) (out:=ajz) aH (ajZ aaL afT) ai (az (by kernel_rfl)) (fun _=>rfl) (fun m x=>by kernel_rfl) (aA ⟨oN,fun _ _ _=>rfl⟩ (aA ⟨dV,fun _ _ _=>rfl⟩ (bg))) false aP
theorem akY (aaL:M.ae->M.ae->Int->Option (Bool)) (afT:(aeZ aaL).Ok D Tryz.prog):(aeZ (M.aiI aaL)).Ok D Tryz.prog:=
 aW (cx:=ai4 aaL) (c:=aeZ (M.aiI aaL)) (fz:=true) (fn:=Tryz.f68) aH (ajZ aaL afT) ai ⟨Tryz.func68,by kernel_rfl⟩ (aX (bV 1 (by kernel_rfl) (gI (.mk (by kernel_rfl) (akI aaL afT))))) ⟨⟨[.bool],[]⟩,fun x=>x.1.1⟩ (fun x=>rfl) (fun x=>by kernel_rfl)
theorem aj0 : ∀n,(aeZ (M.ae2 n)).Ok D Tryz.prog
 |0=>oO fun _=>rfl
 |n+1=>akY (M.ae2 n) (aj0 n)
theorem alj : (aeZ (M.aj7)).Ok D Tryz.prog:=aj0 aP
def ajh (m:M.ae->M.ae->Option (Bool)):bI K:={f:=44,sh:=⟨[.el U.Type, .el U.Type],[]⟩,R:=Bool,run:=fun x=>m x.1.1 x.1.2.1,dflt:=default,out:=fun r=>(Sh.enc D (.bool) r,dK.encs D [] ())}
def akk : Cx K:={iG with mode:=aV .plain [(68, .plain)],call:=callOf D [aeZ M.aj7],loop:=aU []}
theorem akT : aG (akk):=aB aH _ (aA alj (bg))
theorem ak9 : (ajh (M.aiB)).Ok D Tryz.prog:=
 aW (cx:=akk) (c:=ajh (M.aiB)) (fz:=true) (fn:=Tryz.f44) aH (akT) ai ⟨Tryz.func44,by kernel_rfl⟩ (aX (az (by kernel_rfl))) ⟨⟨[.bool],[]⟩,fun x=>x.1.1⟩ (fun x=>rfl) (fun x=>by kernel_rfl)
def vS (m:M.ae->Int->Option (Int×(List UInt8)×Int×Bool×Int×Int×Bool×Bool×Int×(List (List UInt8))×(List M.ae)×(List M.af))):bI K:={f:=20,sh:=⟨[.el U.Type, .int .i64],[]⟩,R:=Int×(List UInt8)×Int×Bool×Int×Int×Bool×Bool×Int×(List (List UInt8))×(List M.ae)×(List M.af),run:=fun x=>m x.1.1 x.1.2.1,dflt:=default,out:=fun r=>(Sh.enc D (.ik [.agg [.int .i64, .str, .own 0, .own 1, .int .i64, .bool, .own 2, .int .i64, .int .i64, .bool, .bool], .int .i64]) ((r.1,(r.2.1,((),((),(r.2.2.1,(r.2.2.2.1,((),(r.2.2.2.2.1,(r.2.2.2.2.2.1,(r.2.2.2.2.2.2.1,(r.2.2.2.2.2.2.2.1,()))))))))))),(r.2.2.2.2.2.2.2.2.1,())),dK.encs D [.arr U.str, .arr U.Type, .arr U.Value] (r.2.2.2.2.2.2.2.2.2.1,(r.2.2.2.2.2.2.2.2.2.2.1,(r.2.2.2.2.2.2.2.2.2.2.2,()))))}
def Eg : Cx K:={iG with mode:=aV .plain [(46, .plain),(36, .plain),(51, .oU)],KY:=[[none,none,some U.str,some U.Type,none,none,some U.Value,none,none,none,none],[]],call:=callOf D [ni M.jE,jX M.xW,gq M.nN],loop:=aU []}
theorem Ls : aG (Eg):=aB aH _ (aA vC (aA qo (aA yM (bg))))
theorem Pz : (vS (M.yt)).Ok D Tryz.prog:=
 aW (cx:=Eg) (c:=vS (M.yt)) (fz:=false) (fn:=Tryz.f20) aH (Ls) ai ⟨Tryz.func20,by kernel_rfl⟩ (aX (az (by kernel_rfl))) ⟨⟨[.ik [.agg [.int .i64, .str, .own 0, .own 1, .int .i64, .bool, .own 2, .int .i64, .int .i64, .bool, .bool], .int .i64]],[.arr U.str, .arr U.Type, .arr U.Value]⟩,fun x=>(x.1.1.1.1,x.1.1.1.2.1,x.1.1.1.2.2.2.2.1,x.1.1.1.2.2.2.2.2.1,x.1.1.1.2.2.2.2.2.2.2.1,x.1.1.1.2.2.2.2.2.2.2.2.1,x.1.1.1.2.2.2.2.2.2.2.2.2.1,x.1.1.1.2.2.2.2.2.2.2.2.2.2.1,x.1.1.2.1,x.2.1,x.2.2.1,x.2.2.2.1)⟩ (fun x=>rfl) (fun x=>by kernel_rfl)
def vT (m:M.ae->Int->Option (Int×(List UInt8)×(List (List UInt8))×(List M.ae)×Int×Bool×Int×Int×Bool×Bool×Int×(List M.af))):bI K:={f:=20,sh:=⟨[.el U.Type, .int .i64],[]⟩,R:=Int×(List UInt8)×(List (List UInt8))×(List M.ae)×Int×Bool×Int×Int×Bool×Bool×Int×(List M.af),run:=fun x=>m x.1.1 x.1.2.1,dflt:=default,out:=fun r=>(Sh.enc D (.ik [.agg [.int .i64, .str, .bn U.str, .bn U.Type, .int .i64, .bool, .own 0, .int .i64, .int .i64, .bool, .bool], .int .i64]) ((r.1,(r.2.1,(r.2.2.1,(r.2.2.2.1,(r.2.2.2.2.1,(r.2.2.2.2.2.1,((),(r.2.2.2.2.2.2.1,(r.2.2.2.2.2.2.2.1,(r.2.2.2.2.2.2.2.2.1,(r.2.2.2.2.2.2.2.2.2.1,()))))))))))),(r.2.2.2.2.2.2.2.2.2.2.1,())),dK.encs D [.arr U.Value] (r.2.2.2.2.2.2.2.2.2.2.2,()))}
def Eh : Cx K:={iG with mode:=aV .plain [(46, .plain),(36, .plain),(51, .oU)],KY:=[[none,none,some U.str,some U.Type,none,none,some U.Value,none,none,none,none],[]],call:=callOf D [ni M.jE,jX M.xW,gq M.nN],loop:=aU []}
theorem Lt : aG (Eh):=aB aH _ (aA vC (aA qo (aA yM (bg))))
theorem PD : (vT (M.nz)).Ok D Tryz.prog:=
 aW (cx:=Eh) (c:=vT (M.nz)) (fz:=false) (fn:=Tryz.f20) aH (Lt) ai ⟨Tryz.func20,by kernel_rfl⟩ (aX (az (by kernel_rfl))) ⟨⟨[.ik [.agg [.int .i64, .str, .bn U.str, .bn U.Type, .int .i64, .bool, .own 0, .int .i64, .int .i64, .bool, .bool], .int .i64]],[.arr U.Value]⟩,fun x=>(x.1.1.1.1,x.1.1.1.2.1,x.1.1.1.2.2.1,x.1.1.1.2.2.2.1,x.1.1.1.2.2.2.2.1,x.1.1.1.2.2.2.2.2.1,x.1.1.1.2.2.2.2.2.2.2.1,x.1.1.1.2.2.2.2.2.2.2.2.1,x.1.1.1.2.2.2.2.2.2.2.2.2.1,x.1.1.1.2.2.2.2.2.2.2.2.2.2.1,x.1.1.2.1,x.2.1)⟩ (fun x=>rfl) (fun x=>by kernel_rfl)
def vU (m:M.ae->Option (Int×(List UInt8)×Int×Bool×Int×Int×Bool×Bool×Int×(List (List UInt8))×(List M.ae)×(List M.af))):bI K:={f:=23,sh:=⟨[.el U.Type],[]⟩,R:=Int×(List UInt8)×Int×Bool×Int×Int×Bool×Bool×Int×(List (List UInt8))×(List M.ae)×(List M.af),run:=fun x=>m x.1.1,dflt:=default,out:=fun r=>(Sh.enc D (.ik [.agg [.int .i64, .str, .own 0, .own 1, .int .i64, .bool, .own 2, .int .i64, .int .i64, .bool, .bool], .int .i64]) ((r.1,(r.2.1,((),((),(r.2.2.1,(r.2.2.2.1,((),(r.2.2.2.2.1,(r.2.2.2.2.2.1,(r.2.2.2.2.2.2.1,(r.2.2.2.2.2.2.2.1,()))))))))))),(r.2.2.2.2.2.2.2.2.1,())),dK.encs D [.arr U.str, .arr U.Type, .arr U.Value] (r.2.2.2.2.2.2.2.2.2.1,(r.2.2.2.2.2.2.2.2.2.2.1,(r.2.2.2.2.2.2.2.2.2.2.2,()))))}
def Ei : Cx K:={iG with mode:=aV .plain [(46, .plain),(51, .oU)],KY:=[[none,none,some U.str,some U.Type,none,none,some U.Value,none,none,none,none],[]],call:=callOf D [ni M.jE,gq M.nN],loop:=aU []}
theorem Lu : aG (Ei):=aB aH _ (aA vC (aA yM (bg)))
theorem PE : (vU (M.CP)).Ok D Tryz.prog:=
 aW (cx:=Ei) (c:=vU (M.CP)) (fz:=false) (fn:=Tryz.f23) aH (Lu) ai ⟨Tryz.func23,by kernel_rfl⟩ (aX (az (by kernel_rfl))) ⟨⟨[.ik [.agg [.int .i64, .str, .own 0, .own 1, .int .i64, .bool, .own 2, .int .i64, .int .i64, .bool, .bool], .int .i64]],[.arr U.str, .arr U.Type, .arr U.Value]⟩,fun x=>(x.1.1.1.1,x.1.1.1.2.1,x.1.1.1.2.2.2.2.1,x.1.1.1.2.2.2.2.2.1,x.1.1.1.2.2.2.2.2.2.2.1,x.1.1.1.2.2.2.2.2.2.2.2.1,x.1.1.1.2.2.2.2.2.2.2.2.2.1,x.1.1.1.2.2.2.2.2.2.2.2.2.2.1,x.1.1.2.1,x.2.1,x.2.2.1,x.2.2.2.1)⟩ (fun x=>rfl) (fun x=>by kernel_rfl)
def vV (m:M.ae->Option (Int×(List UInt8)×(List (List UInt8))×(List M.ae)×Int×Bool×Int×Int×Bool×Bool×Int×(List M.af))):bI K:={f:=23,sh:=⟨[.el U.Type],[]⟩,R:=Int×(List UInt8)×(List (List UInt8))×(List M.ae)×Int×Bool×Int×Int×Bool×Bool×Int×(List M.af),run:=fun x=>m x.1.1,dflt:=default,out:=fun r=>(Sh.enc D (.ik [.agg [.int .i64, .str, .bn U.str, .bn U.Type, .int .i64, .bool, .own 0, .int .i64, .int .i64, .bool, .bool], .int .i64]) ((r.1,(r.2.1,(r.2.2.1,(r.2.2.2.1,(r.2.2.2.2.1,(r.2.2.2.2.2.1,((),(r.2.2.2.2.2.2.1,(r.2.2.2.2.2.2.2.1,(r.2.2.2.2.2.2.2.2.1,(r.2.2.2.2.2.2.2.2.2.1,()))))))))))),(r.2.2.2.2.2.2.2.2.2.2.1,())),dK.encs D [.arr U.Value] (r.2.2.2.2.2.2.2.2.2.2.2,()))}
def Ej : Cx K:={iG with mode:=aV .plain [(46, .plain),(51, .oU)],KY:=[[none,none,some U.str,some U.Type,none,none,some U.Value,none,none,none,none],[]],call:=callOf D [ni M.jE,gq M.nN],loop:=aU []}
theorem LC : aG (Ej):=aB aH _ (aA vC (aA yM (bg)))
theorem PG : (vV (M.nC)).Ok D Tryz.prog:=
 aW (cx:=Ej) (c:=vV (M.nC)) (fz:=false) (fn:=Tryz.f23) aH (LC) ai ⟨Tryz.func23,by kernel_rfl⟩ (aX (az (by kernel_rfl))) ⟨⟨[.ik [.agg [.int .i64, .str, .bn U.str, .bn U.Type, .int .i64, .bool, .own 0, .int .i64, .int .i64, .bool, .bool], .int .i64]],[.arr U.Value]⟩,fun x=>(x.1.1.1.1,x.1.1.1.2.1,x.1.1.1.2.2.1,x.1.1.1.2.2.2.1,x.1.1.1.2.2.2.2.1,x.1.1.1.2.2.2.2.2.1,x.1.1.1.2.2.2.2.2.2.2.1,x.1.1.1.2.2.2.2.2.2.2.2.1,x.1.1.1.2.2.2.2.2.2.2.2.2.1,x.1.1.1.2.2.2.2.2.2.2.2.2.2.1,x.1.1.2.1,x.2.1)⟩ (fun x=>rfl) (fun x=>by kernel_rfl)
def zg (m:Int->(List UInt8)->(List (List UInt8))->(List M.ae)->Int->Bool->Int->Int->Bool->Bool->(List M.af)->Option (Int×(List UInt8)×Int×Bool×Int×Int×Bool×Bool×Int×(List M.af)×(List (List UInt8))×(List M.ae)×(List M.af))):bI K:={f:=38,sh:=⟨[.agg [.int .i64, .str, .bn U.str, .bn U.Type, .int .i64, .bool, .own 0, .int .i64, .int .i64, .bool, .bool]],[.arr U.Value]⟩,R:=Int×(List UInt8)×Int×Bool×Int×Int×Bool×Bool×Int×(List M.af)×(List (List UInt8))×(List M.ae)×(List M.af),run:=fun x=>m x.1.1.1 x.1.1.2.1 x.1.1.2.2.1 x.1.1.2.2.2.1 x.1.1.2.2.2.2.1 x.1.1.2.2.2.2.2.1 x.1.1.2.2.2.2.2.2.2.1 x.1.1.2.2.2.2.2.2.2.2.1 x.1.1.2.2.2.2.2.2.2.2.2.1 x.1.1.2.2.2.2.2.2.2.2.2.2.1 x.2.1,dflt:=default,out:=fun r=>(Sh.enc D (.ik [.agg [.int .i64, .str, .own 1, .own 2, .int .i64, .bool, .own 3, .int .i64, .int .i64, .bool, .bool], .int .i64]) ((r.1,(r.2.1,((),((),(r.2.2.1,(r.2.2.2.1,((),(r.2.2.2.2.1,(r.2.2.2.2.2.1,(r.2.2.2.2.2.2.1,(r.2.2.2.2.2.2.2.1,()))))))))))),(r.2.2.2.2.2.2.2.2.1,())),dK.encs D [.arr U.Value, .arr U.str, .arr U.Type, .arr U.Value] (r.2.2.2.2.2.2.2.2.2.1,(r.2.2.2.2.2.2.2.2.2.2.1,(r.2.2.2.2.2.2.2.2.2.2.2.1,(r.2.2.2.2.2.2.2.2.2.2.2.2,())))))}
def Ir : Cx K:={iG with mode:=aV .plain [],KY:=[[none,none,some U.str,some U.Type,none,none,some U.Value,none,none,none,none],[]],call:=callOf D [],loop:=aU []}
theorem PH : aG (Ir):=aB aH _ (bg)
theorem UE : (zg (M.uo)).Ok D Tryz.prog:=
 aW (cx:=Ir) (c:=zg (M.uo)) (fz:=false) (fn:=Tryz.f38) aH (PH) ai ⟨Tryz.func38,by kernel_rfl⟩ (aX (az (by kernel_rfl))) ⟨⟨[.ik [.agg [.int .i64, .str, .own 1, .own 2, .int .i64, .bool, .own 3, .int .i64, .int .i64, .bool, .bool], .int .i64]],[.arr U.Value, .arr U.str, .arr U.Type, .arr U.Value]⟩,fun x=>(x.1.1.1.1,x.1.1.1.2.1,x.1.1.1.2.2.2.2.1,x.1.1.1.2.2.2.2.2.1,x.1.1.1.2.2.2.2.2.2.2.1,x.1.1.1.2.2.2.2.2.2.2.2.1,x.1.1.1.2.2.2.2.2.2.2.2.2.1,x.1.1.1.2.2.2.2.2.2.2.2.2.2.1,x.1.1.2.1,x.2.1,x.2.2.1,x.2.2.2.1,x.2.2.2.2.1)⟩ (fun x=>rfl) (fun x=>by kernel_rfl)
def zh (m:Int->(List UInt8)->(List (List UInt8))->(List M.ae)->Int->Bool->Int->Int->Bool->Bool->(List M.af)->Option (Int×(List UInt8)×(List (List UInt8))×(List M.ae)×Int×Bool×Int×Int×Bool×Bool×Int×(List M.af))):bI K:={f:=38,sh:=⟨[.agg [.int .i64, .str, .bn U.str, .bn U.Type, .int .i64, .bool, .own 0, .int .i64, .int .i64, .bool, .bool]],[.arr U.Value]⟩,R:=Int×(List UInt8)×(List (List UInt8))×(List M.ae)×Int×Bool×Int×Int×Bool×Bool×Int×(List M.af),run:=fun x=>m x.1.1.1 x.1.1.2.1 x.1.1.2.2.1 x.1.1.2.2.2.1 x.1.1.2.2.2.2.1 x.1.1.2.2.2.2.2.1 x.1.1.2.2.2.2.2.2.2.1 x.1.1.2.2.2.2.2.2.2.2.1 x.1.1.2.2.2.2.2.2.2.2.2.1 x.1.1.2.2.2.2.2.2.2.2.2.2.1 x.2.1,dflt:=default,out:=fun r=>(Sh.enc D (.ik [.agg [.int .i64, .str, .bn U.str, .bn U.Type, .int .i64, .bool, .own 0, .int .i64, .int .i64, .bool, .bool], .int .i64]) ((r.1,(r.2.1,(r.2.2.1,(r.2.2.2.1,(r.2.2.2.2.1,(r.2.2.2.2.2.1,((),(r.2.2.2.2.2.2.1,(r.2.2.2.2.2.2.2.1,(r.2.2.2.2.2.2.2.2.1,(r.2.2.2.2.2.2.2.2.2.1,()))))))))))),(r.2.2.2.2.2.2.2.2.2.2.1,())),dK.encs D [.arr U.Value] (r.2.2.2.2.2.2.2.2.2.2.2,()))}
def Iu : Cx K:={iG with mode:=aV .plain [],KY:=[[none,none,some U.str,some U.Type,none,none,some U.Value,none,none,none,none],[]],call:=callOf D [],loop:=aU []}
theorem PI : aG (Iu):=aB aH _ (bg)
theorem UF : (zh (M.uu)).Ok D Tryz.prog:=
 aW (cx:=Iu) (c:=zh (M.uu)) (fz:=false) (fn:=Tryz.f38) aH (PI) ai ⟨Tryz.func38,by kernel_rfl⟩ (aX (az (by kernel_rfl))) ⟨⟨[.ik [.agg [.int .i64, .str, .bn U.str, .bn U.Type, .int .i64, .bool, .own 0, .int .i64, .int .i64, .bool, .bool], .int .i64]],[.arr U.Value]⟩,fun x=>(x.1.1.1.1,x.1.1.1.2.1,x.1.1.1.2.2.1,x.1.1.1.2.2.2.1,x.1.1.1.2.2.2.2.1,x.1.1.1.2.2.2.2.2.1,x.1.1.1.2.2.2.2.2.2.2.1,x.1.1.1.2.2.2.2.2.2.2.2.1,x.1.1.1.2.2.2.2.2.2.2.2.2.1,x.1.1.1.2.2.2.2.2.2.2.2.2.2.1,x.1.1.2.1,x.2.1)⟩ (fun x=>rfl) (fun x=>by kernel_rfl)
def xA (m:Int->(List UInt8)->(List (List UInt8))->(List M.ae)->Int->Bool->Int->Int->Bool->Bool->(List M.af)->Option (Int×(List UInt8)×Int×Bool×Int×Int×Bool×Bool×Int×(List M.af)×(List (List UInt8))×(List M.ae)×(List M.af))):bI K:={f:=39,sh:=⟨[.agg [.int .i64, .str, .bn U.str, .bn U.Type, .int .i64, .bool, .own 0, .int .i64, .int .i64, .bool, .bool]],[.arr U.Value]⟩,R:=Int×(List UInt8)×Int×Bool×Int×Int×Bool×Bool×Int×(List M.af)×(List (List UInt8))×(List M.ae)×(List M.af),run:=fun x=>m x.1.1.1 x.1.1.2.1 x.1.1.2.2.1 x.1.1.2.2.2.1 x.1.1.2.2.2.2.1 x.1.1.2.2.2.2.2.1 x.1.1.2.2.2.2.2.2.2.1 x.1.1.2.2.2.2.2.2.2.2.1 x.1.1.2.2.2.2.2.2.2.2.2.1 x.1.1.2.2.2.2.2.2.2.2.2.2.1 x.2.1,dflt:=default,out:=fun r=>(Sh.enc D (.ik [.agg [.int .i64, .str, .own 1, .own 2, .int .i64, .bool, .own 3, .int .i64, .int .i64, .bool, .bool], .int .i64]) ((r.1,(r.2.1,((),((),(r.2.2.1,(r.2.2.2.1,((),(r.2.2.2.2.1,(r.2.2.2.2.2.1,(r.2.2.2.2.2.2.1,(r.2.2.2.2.2.2.2.1,()))))))))))),(r.2.2.2.2.2.2.2.2.1,())),dK.encs D [.arr U.Value, .arr U.str, .arr U.Type, .arr U.Value] (r.2.2.2.2.2.2.2.2.2.1,(r.2.2.2.2.2.2.2.2.2.2.1,(r.2.2.2.2.2.2.2.2.2.2.2.1,(r.2.2.2.2.2.2.2.2.2.2.2.2,())))))}
def GU : Cx K:={iG with mode:=aV .plain [],KY:=[[none,none,some U.str,some U.Type,none,none,some U.Value,none,none,none,none],[]],call:=callOf D [],loop:=aU []}
theorem NM : aG (GU):=aB aH _ (bg)
theorem SK : (xA (M.qZ)).Ok D Tryz.prog:=
 aW (cx:=GU) (c:=xA (M.qZ)) (fz:=false) (fn:=Tryz.f39) aH (NM) ai ⟨Tryz.func39,by kernel_rfl⟩ (aX (az (by kernel_rfl))) ⟨⟨[.ik [.agg [.int .i64, .str, .own 1, .own 2, .int .i64, .bool, .own 3, .int .i64, .int .i64, .bool, .bool], .int .i64]],[.arr U.Value, .arr U.str, .arr U.Type, .arr U.Value]⟩,fun x=>(x.1.1.1.1,x.1.1.1.2.1,x.1.1.1.2.2.2.2.1,x.1.1.1.2.2.2.2.2.1,x.1.1.1.2.2.2.2.2.2.2.1,x.1.1.1.2.2.2.2.2.2.2.2.1,x.1.1.1.2.2.2.2.2.2.2.2.2.1,x.1.1.1.2.2.2.2.2.2.2.2.2.2.1,x.1.1.2.1,x.2.1,x.2.2.1,x.2.2.2.1,x.2.2.2.2.1)⟩ (fun x=>rfl) (fun x=>by kernel_rfl)
def xB (m:Int->(List UInt8)->(List (List UInt8))->(List M.ae)->Int->Bool->Int->Int->Bool->Bool->(List M.af)->Option (Int×(List UInt8)×(List (List UInt8))×(List M.ae)×Int×Bool×Int×Int×Bool×Bool×Int×(List M.af)×(List M.af))):bI K:={f:=39,sh:=⟨[.agg [.int .i64, .str, .bn U.str, .bn U.Type, .int .i64, .bool, .own 0, .int .i64, .int .i64, .bool, .bool]],[.arr U.Value]⟩,R:=Int×(List UInt8)×(List (List UInt8))×(List M.ae)×Int×Bool×Int×Int×Bool×Bool×Int×(List M.af)×(List M.af),run:=fun x=>m x.1.1.1 x.1.1.2.1 x.1.1.2.2.1 x.1.1.2.2.2.1 x.1.1.2.2.2.2.1 x.1.1.2.2.2.2.2.1 x.1.1.2.2.2.2.2.2.2.1 x.1.1.2.2.2.2.2.2.2.2.1 x.1.1.2.2.2.2.2.2.2.2.2.1 x.1.1.2.2.2.2.2.2.2.2.2.2.1 x.2.1,dflt:=default,out:=fun r=>(Sh.enc D (.ik [.agg [.int .i64, .str, .bn U.str, .bn U.Type, .int .i64, .bool, .own 1, .int .i64, .int .i64, .bool, .bool], .int .i64]) ((r.1,(r.2.1,(r.2.2.1,(r.2.2.2.1,(r.2.2.2.2.1,(r.2.2.2.2.2.1,((),(r.2.2.2.2.2.2.1,(r.2.2.2.2.2.2.2.1,(r.2.2.2.2.2.2.2.2.1,(r.2.2.2.2.2.2.2.2.2.1,()))))))))))),(r.2.2.2.2.2.2.2.2.2.2.1,())),dK.encs D [.arr U.Value, .arr U.Value] (r.2.2.2.2.2.2.2.2.2.2.2.1,(r.2.2.2.2.2.2.2.2.2.2.2.2,())))}
def GV : Cx K:={iG with mode:=aV .plain [],KY:=[[none,none,some U.str,some U.Type,none,none,some U.Value,none,none,none,none],[]],call:=callOf D [],loop:=aU []}
theorem NP : aG (GV):=aB aH _ (bg)
theorem SL : (xB (M.rf)).Ok D Tryz.prog:=
 aW (cx:=GV) (c:=xB (M.rf)) (fz:=false) (fn:=Tryz.f39) aH (NP) ai ⟨Tryz.func39,by kernel_rfl⟩ (aX (az (by kernel_rfl))) ⟨⟨[.ik [.agg [.int .i64, .str, .bn U.str, .bn U.Type, .int .i64, .bool, .own 1, .int .i64, .int .i64, .bool, .bool], .int .i64]],[.arr U.Value, .arr U.Value]⟩,fun x=>(x.1.1.1.1,x.1.1.1.2.1,x.1.1.1.2.2.1,x.1.1.1.2.2.2.1,x.1.1.1.2.2.2.2.1,x.1.1.1.2.2.2.2.2.1,x.1.1.1.2.2.2.2.2.2.2.1,x.1.1.1.2.2.2.2.2.2.2.2.1,x.1.1.1.2.2.2.2.2.2.2.2.2.1,x.1.1.1.2.2.2.2.2.2.2.2.2.2.1,x.1.1.2.1,x.2.1,x.2.2.1)⟩ (fun x=>rfl) (fun x=>by kernel_rfl)
def zi (m:M.ah->Int->Option (Int×(List UInt8)×Int×Bool×Int×Int×Bool×Bool×Int×(List (List UInt8))×(List M.ae)×(List M.af)×(List M.af))):bI K:={f:=42,sh:=⟨[.el U.Stream, .int .i64],[]⟩,R:=Int×(List UInt8)×Int×Bool×Int×Int×Bool×Bool×Int×(List (List UInt8))×(List M.ae)×(List M.af)×(List M.af),run:=fun x=>m x.1.1 x.1.2.1,dflt:=default,out:=fun r=>(Sh.enc D (.ik [.agg [.int .i64, .str, .own 0, .own 1, .int .i64, .bool, .own 2, .int .i64, .int .i64, .bool, .bool], .own 3, .int .i64]) ((r.1,(r.2.1,((),((),(r.2.2.1,(r.2.2.2.1,((),(r.2.2.2.2.1,(r.2.2.2.2.2.1,(r.2.2.2.2.2.2.1,(r.2.2.2.2.2.2.2.1,()))))))))))),((),(r.2.2.2.2.2.2.2.2.1,()))),dK.encs D [.arr U.str, .arr U.Type, .arr U.Value, .arr U.Value] (r.2.2.2.2.2.2.2.2.2.1,(r.2.2.2.2.2.2.2.2.2.2.1,(r.2.2.2.2.2.2.2.2.2.2.2.1,(r.2.2.2.2.2.2.2.2.2.2.2.2,())))))}
def Iw : Cx K:={iG with mode:=aV .plain [(67, .plain),(65, .fresh)],KY:=[[none,none,some U.str,some U.Type,none,none,some U.Value,none,none,none,none],[some U.Value],[]],vws:=true,call:=callOf D [jr M.gG,fA M.bP],loop:=aU []}
theorem PK : aG (Iw):=aB aH _ (aA oI (aA iO (bg)))
theorem UG : (zi (M.Iy)).Ok D Tryz.prog:=
 aW (cx:=Iw) (c:=zi (M.Iy)) (fz:=false) (fn:=Tryz.f42) aH (PK) ai ⟨Tryz.func42,by kernel_rfl⟩ (aX (az (by kernel_rfl))) ⟨⟨[.ik [.agg [.int .i64, .str, .own 0, .own 1, .int .i64, .bool, .own 2, .int .i64, .int .i64, .bool, .bool], .own 3, .int .i64]],[.arr U.str, .arr U.Type, .arr U.Value, .arr U.Value]⟩,fun x=>(x.1.1.1.1,x.1.1.1.2.1,x.1.1.1.2.2.2.2.1,x.1.1.1.2.2.2.2.2.1,x.1.1.1.2.2.2.2.2.2.2.1,x.1.1.1.2.2.2.2.2.2.2.2.1,x.1.1.1.2.2.2.2.2.2.2.2.2.1,x.1.1.1.2.2.2.2.2.2.2.2.2.2.1,x.1.1.2.2.1,x.2.1,x.2.2.1,x.2.2.2.1,x.2.2.2.2.1)⟩ (fun x=>rfl) (fun x=>by kernel_rfl)
def zk (m:M.ah->Int->Option (Int×(List UInt8)×(List (List UInt8))×(List M.ae)×Int×Bool×Int×Int×Bool×Bool×Int×(List M.af)×(List M.af))):bI K:={f:=42,sh:=⟨[.el U.Stream, .int .i64],[]⟩,R:=Int×(List UInt8)×(List (List UInt8))×(List M.ae)×Int×Bool×Int×Int×Bool×Bool×Int×(List M.af)×(List M.af),run:=fun x=>m x.1.1 x.1.2.1,dflt:=default,out:=fun r=>(Sh.enc D (.ik [.agg [.int .i64, .str, .bn U.str, .bn U.Type, .int .i64, .bool, .own 0, .int .i64, .int .i64, .bool, .bool], .own 1, .int .i64]) ((r.1,(r.2.1,(r.2.2.1,(r.2.2.2.1,(r.2.2.2.2.1,(r.2.2.2.2.2.1,((),(r.2.2.2.2.2.2.1,(r.2.2.2.2.2.2.2.1,(r.2.2.2.2.2.2.2.2.1,(r.2.2.2.2.2.2.2.2.2.1,()))))))))))),((),(r.2.2.2.2.2.2.2.2.2.2.1,()))),dK.encs D [.arr U.Value, .arr U.Value] (r.2.2.2.2.2.2.2.2.2.2.2.1,(r.2.2.2.2.2.2.2.2.2.2.2.2,())))}
def Iz : Cx K:={iG with mode:=aV .plain [(67, .plain),(65, .fresh)],KY:=[[none,none,some U.str,some U.Type,none,none,some U.Value,none,none,none,none],[some U.Value],[]],vws:=true,call:=callOf D [jr M.gG,fA M.bP],loop:=aU []}
theorem PL : aG (Iz):=aB aH _ (aA oI (aA iO (bg)))
theorem UH : (zk (M.uw)).Ok D Tryz.prog:=
 aW (cx:=Iz) (c:=zk (M.uw)) (fz:=false) (fn:=Tryz.f42) aH (PL) ai ⟨Tryz.func42,by kernel_rfl⟩ (aX (az (by kernel_rfl))) ⟨⟨[.ik [.agg [.int .i64, .str, .bn U.str, .bn U.Type, .int .i64, .bool, .own 0, .int .i64, .int .i64, .bool, .bool], .own 1, .int .i64]],[.arr U.Value, .arr U.Value]⟩,fun x=>(x.1.1.1.1,x.1.1.1.2.1,x.1.1.1.2.2.1,x.1.1.1.2.2.2.1,x.1.1.1.2.2.2.2.1,x.1.1.1.2.2.2.2.2.1,x.1.1.1.2.2.2.2.2.2.2.1,x.1.1.1.2.2.2.2.2.2.2.2.1,x.1.1.1.2.2.2.2.2.2.2.2.2.1,x.1.1.1.2.2.2.2.2.2.2.2.2.2.1,x.1.1.2.2.1,x.2.1,x.2.2.1)⟩ (fun x=>rfl) (fun x=>by kernel_rfl)
def vW (m:Int->(List UInt8)->(List (List UInt8))->(List M.ae)->Int->Bool->Int->Int->Bool->Bool->Int->(List M.af)->Option (Int×(List UInt8)×Int×Bool×Int×Int×Bool×Bool×Int×(List M.af)×(List (List UInt8))×(List M.ae)×(List M.af)×(List M.af))):bI K:={f:=42,sh:=⟨[.agg [.int .i64, .str, .bn U.str, .bn U.Type, .int .i64, .bool, .own 0, .int .i64, .int .i64, .bool, .bool], .int .i64],[.arr U.Value]⟩,R:=Int×(List UInt8)×Int×Bool×Int×Int×Bool×Bool×Int×(List M.af)×(List (List UInt8))×(List M.ae)×(List M.af)×(List M.af),run:=fun x=>m x.1.1.1 x.1.1.2.1 x.1.1.2.2.1 x.1.1.2.2.2.1 x.1.1.2.2.2.2.1 x.1.1.2.2.2.2.2.1 x.1.1.2.2.2.2.2.2.2.1 x.1.1.2.2.2.2.2.2.2.2.1 x.1.1.2.2.2.2.2.2.2.2.2.1 x.1.1.2.2.2.2.2.2.2.2.2.2.1 x.1.2.1 x.2.1,dflt:=default,out:=fun r=>(Sh.enc D (.ik [.agg [.int .i64, .str, .own 1, .own 2, .int .i64, .bool, .own 3, .int .i64, .int .i64, .bool, .bool], .own 4, .int .i64]) ((r.1,(r.2.1,((),((),(r.2.2.1,(r.2.2.2.1,((),(r.2.2.2.2.1,(r.2.2.2.2.2.1,(r.2.2.2.2.2.2.1,(r.2.2.2.2.2.2.2.1,()))))))))))),((),(r.2.2.2.2.2.2.2.2.1,()))),dK.encs D [.arr U.Value, .arr U.str, .arr U.Type, .arr U.Value, .arr U.Value] (r.2.2.2.2.2.2.2.2.2.1,(r.2.2.2.2.2.2.2.2.2.2.1,(r.2.2.2.2.2.2.2.2.2.2.2.1,(r.2.2.2.2.2.2.2.2.2.2.2.2.1,(r.2.2.2.2.2.2.2.2.2.2.2.2.2,()))))))}
def Em : Cx K:={iG with mode:=aV .plain [(67, .plain),(65, .fresh)],KY:=[[none,none,some U.str,some U.Type,none,none,some U.Value,none,none,none,none],[some U.Value],[]],vws:=true,call:=callOf D [jr M.gG,fA M.bP],loop:=aU []}
theorem LD : aG (Em):=aB aH _ (aA oI (aA iO (bg)))
theorem PM : (vW (M.pY)).Ok D Tryz.prog:=
 aW (cx:=Em) (c:=vW (M.pY)) (fz:=false) (fn:=Tryz.f42) aH (LD) ai ⟨Tryz.func42,by kernel_rfl⟩ (aX (az (by kernel_rfl))) ⟨⟨[.ik [.agg [.int .i64, .str, .own 1, .own 2, .int .i64, .bool, .own 3, .int .i64, .int .i64, .bool, .bool], .own 4, .int .i64]],[.arr U.Value, .arr U.str, .arr U.Type, .arr U.Value, .arr U.Value]⟩,fun x=>(x.1.1.1.1,x.1.1.1.2.1,x.1.1.1.2.2.2.2.1,x.1.1.1.2.2.2.2.2.1,x.1.1.1.2.2.2.2.2.2.2.1,x.1.1.1.2.2.2.2.2.2.2.2.1,x.1.1.1.2.2.2.2.2.2.2.2.2.1,x.1.1.1.2.2.2.2.2.2.2.2.2.2.1,x.1.1.2.2.1,x.2.1,x.2.2.1,x.2.2.2.1,x.2.2.2.2.1,x.2.2.2.2.2.1)⟩ (fun x=>rfl) (fun x=>by kernel_rfl)
def GX (m:Int->(List UInt8)->(List (List UInt8))->(List M.ae)->Int->Bool->Int->Int->Bool->Bool->Int->(List M.af)->Option (M.ah×(List M.af)×Int×(List M.af))):bI K:={f:=42,sh:=⟨[.agg [.int .i64, .str, .bn U.str, .bn U.Type, .int .i64, .bool, .own 0, .int .i64, .int .i64, .bool, .bool], .int .i64],[.arr U.Value]⟩,R:=M.ah×(List M.af)×Int×(List M.af),run:=fun x=>m x.1.1.1 x.1.1.2.1 x.1.1.2.2.1 x.1.1.2.2.2.1 x.1.1.2.2.2.2.1 x.1.1.2.2.2.2.2.1 x.1.1.2.2.2.2.2.2.2.1 x.1.1.2.2.2.2.2.2.2.2.1 x.1.1.2.2.2.2.2.2.2.2.2.1 x.1.1.2.2.2.2.2.2.2.2.2.2.1 x.1.2.1 x.2.1,dflt:=default,out:=fun r=>(Sh.enc D (.ik [.el U.Stream, .bn U.Value, .int .i64]) (r.1,(r.2.1,(r.2.2.1,()))),dK.encs D [.arr U.Value] (r.2.2.2,()))}
theorem UI : (GX M.QQ).Ok D Tryz.prog:=oO fun _=>rfl
def Fv (m:M.ae->M.ak->Option (M.af×M.ak)):bI K:={f:=93,sh:=⟨[.ptr 0 0, .el U.Type],[.el U.bW]⟩,R:=M.af×M.ak,run:=fun x=>m x.1.2.1 x.2.1,dflt:=default,out:=fun r=>(Sh.enc D (.el U.Value) r.1,dK.encs D [.el U.bW] (r.2,()))}
def QR : Cx K:={iG with mode:=aV .plain [(75, .fF),(21, .fF)],call:=callOf D [mM M.fE,dh M.aJ],loop:=aU []}
theorem WU : aG (QR):=aB aH _ (aA xy (aA dR (bg)))
theorem Zr : (Fv (M.En)).Ok D Tryz.prog:=
 aW (cx:=QR) (c:=Fv (M.En)) (fz:=true) (fn:=Tryz.f93) aH (WU) ai ⟨Tryz.func93,by kernel_rfl⟩ (aX (az (by kernel_rfl))) ⟨⟨[.el U.Value],[.el U.bW]⟩,fun x=>(x.1.1,x.2.1)⟩ (fun x=>rfl) (fun x=>by kernel_rfl)
def Eo (y:(List UInt8)×Int×Int×(List M.af)) {R:Type} (k:Ex->List (AV K)->List (Ob K)->R):R:=match y with
 |a0=>k (Ex.exit 0) (gB.gW D ⟨[.own 3],[.box [.bn U.u8, .int .i64, .int .u64], .dead, .dead, .arr U.Value]⟩ (((),()),((a0.1,(a0.2.1,(a0.2.2.1,()))),((),((),(a0.2.2.2,())))))) (gB.gY D ⟨[.own 3],[.box [.bn U.u8, .int .i64, .int .u64], .dead, .dead, .arr U.Value]⟩ (((),()),((a0.1,(a0.2.1,(a0.2.2.1,()))),((),((),(a0.2.2.2,()))))))
def SN : List (jb K ((List UInt8)×Int×Int×(List M.af))):=[⟨(Ex.exit 0),⟨[.own 3],[.box [.bn U.u8, .int .i64, .int .u64], .dead, .dead, .arr U.Value]⟩,fun x=>(x.2.1.1,x.2.1.2.1,x.2.1.2.2.1,x.2.2.2.2.1)⟩]
def IA : gZ K:=jh D false 21 3 [0,3,5,6] [5] ⟨[.ptr 0 0, .ptr 1 0, .own 3, .int .i64],[.el U.bW, .el U.Type, .dead, .arr U.Value]⟩ (fun x=>M.pq aP x.1.2.2.2.1 x.2.1 x.2.2.1 x.2.2.2.2.1) Eo
def su (m:M.ae->M.ak->Option ((List M.af)×M.ak)):bI K:={f:=73,sh:=⟨[.ptr 0 0, .el U.Type],[.el U.bW]⟩,R:=(List M.af)×M.ak,run:=fun x=>m x.1.2.1 x.2.1,dflt:=default,out:=fun r=>(Sh.enc D (.bn U.Value) r.1,dK.encs D [.el U.bW] (r.2,()))}
def zJ : Cx K:={iG with mode:=aV .plain [(21, .fF),(93, .fF)],call:=callOf D [dh M.aJ,Fv M.En],loop:=aU [(3,IA)]}
theorem IB : aG (zJ):=aB aH _ (aA dR (aA Zr (bg)))
theorem PN : eG (zJ) (eQ (fG Tryz.f73) 0) (IA):=
 dU (cx:=zJ) (n:=21) (n0:=3) (ins:=[0,3,5,6]) (outs:=[5]) (sh:=⟨[.ptr 0 0, .ptr 1 0, .own 3, .int .i64],[.el U.bW, .el U.Type, .dead, .arr U.Value]⟩) (run:=fun n x=>M.pq n x.1.2.2.2.1 x.2.1 x.2.2.1 x.2.2.2.2.1) (iW:=SN) (out:=Eo) aH (IB) ai (az (by kernel_rfl)) (fun _=>rfl) (fun m x=>by kernel_rfl) (aA ⟨dV,fun _ _ _=>rfl⟩ (bg)) false aP
theorem Fz : (su (M.rq)).Ok D Tryz.prog:=
 aW (cx:=zJ) (c:=su (M.rq)) (fz:=true) (fn:=Tryz.f73) aH (IB) ai ⟨Tryz.func73,by kernel_rfl⟩ (aX (bV 1 (by kernel_rfl) (gI (.mk (by kernel_rfl) (PN))))) ⟨⟨[.bn U.Value],[.el U.bW]⟩,fun x=>(x.1.1,x.2.1)⟩ (fun x=>rfl) (fun x=>by kernel_rfl)
def xC (m:M.ah->(List M.af)->Option (Int×(List UInt8)×Int×Bool×Int×Int×Bool×Bool×Int×Int×(List (List UInt8))×(List M.ae)×(List M.af))):bI K:={f:=40,sh:=⟨[.el U.Stream, .bn U.Value],[]⟩,R:=Int×(List UInt8)×Int×Bool×Int×Int×Bool×Bool×Int×Int×(List (List UInt8))×(List M.ae)×(List M.af),run:=fun x=>m x.1.1 x.1.2.1,dflt:=default,out:=fun r=>(Sh.enc D (.ik [.agg [.int .i64, .str, .own 0, .own 1, .int .i64, .bool, .own 2, .int .i64, .int .i64, .bool, .bool], .int .i64, .int .i64]) ((r.1,(r.2.1,((),((),(r.2.2.1,(r.2.2.2.1,((),(r.2.2.2.2.1,(r.2.2.2.2.2.1,(r.2.2.2.2.2.2.1,(r.2.2.2.2.2.2.2.1,()))))))))))),(r.2.2.2.2.2.2.2.2.1,(r.2.2.2.2.2.2.2.2.2.1,()))),dK.encs D [.arr U.str, .arr U.Type, .arr U.Value] (r.2.2.2.2.2.2.2.2.2.2.1,(r.2.2.2.2.2.2.2.2.2.2.2.1,(r.2.2.2.2.2.2.2.2.2.2.2.2,()))))}
def GY : Cx K:={iG with mode:=aV .plain [(66, .plain),(67, .plain),(65, .fresh)],KY:=[[none,none,some U.str,some U.Type,none,none,some U.Value,none,none,none,none],[],[]],call:=callOf D [ny M.iT,jr M.gG,fA M.bP],loop:=aU []}
theorem NQ : aG (GY):=aB aH _ (aA vJ (aA oI (aA iO (bg))))
theorem SQ : (xC (M.FB)).Ok D Tryz.prog:=
 aW (cx:=GY) (c:=xC (M.FB)) (fz:=false) (fn:=Tryz.f40) aH (NQ) ai ⟨Tryz.func40,by kernel_rfl⟩ (aX (az (by kernel_rfl))) ⟨⟨[.ik [.agg [.int .i64, .str, .own 0, .own 1, .int .i64, .bool, .own 2, .int .i64, .int .i64, .bool, .bool], .int .i64, .int .i64]],[.arr U.str, .arr U.Type, .arr U.Value]⟩,fun x=>(x.1.1.1.1,x.1.1.1.2.1,x.1.1.1.2.2.2.2.1,x.1.1.1.2.2.2.2.2.1,x.1.1.1.2.2.2.2.2.2.2.1,x.1.1.1.2.2.2.2.2.2.2.2.1,x.1.1.1.2.2.2.2.2.2.2.2.2.1,x.1.1.1.2.2.2.2.2.2.2.2.2.2.1,x.1.1.2.1,x.1.1.2.2.1,x.2.1,x.2.2.1,x.2.2.2.1)⟩ (fun x=>rfl) (fun x=>by kernel_rfl)
def xE (m:M.ah->(List M.af)->Option (Int×(List UInt8)×(List (List UInt8))×(List M.ae)×Int×Bool×Int×Int×Bool×Bool×Int×Int×(List M.af))):bI K:={f:=40,sh:=⟨[.el U.Stream, .bn U.Value],[]⟩,R:=Int×(List UInt8)×(List (List UInt8))×(List M.ae)×Int×Bool×Int×Int×Bool×Bool×Int×Int×(List M.af),run:=fun x=>m x.1.1 x.1.2.1,dflt:=default,out:=fun r=>(Sh.enc D (.ik [.agg [.int .i64, .str, .bn U.str, .bn U.Type, .int .i64, .bool, .own 0, .int .i64, .int .i64, .bool, .bool], .int .i64, .int .i64]) ((r.1,(r.2.1,(r.2.2.1,(r.2.2.2.1,(r.2.2.2.2.1,(r.2.2.2.2.2.1,((),(r.2.2.2.2.2.2.1,(r.2.2.2.2.2.2.2.1,(r.2.2.2.2.2.2.2.2.1,(r.2.2.2.2.2.2.2.2.2.1,()))))))))))),(r.2.2.2.2.2.2.2.2.2.2.1,(r.2.2.2.2.2.2.2.2.2.2.2.1,()))),dK.encs D [.arr U.Value] (r.2.2.2.2.2.2.2.2.2.2.2.2,()))}
def GZ : Cx K:={iG with mode:=aV .plain [(66, .plain),(67, .plain),(65, .fresh)],KY:=[[none,none,some U.str,some U.Type,none,none,some U.Value,none,none,none,none],[],[]],call:=callOf D [ny M.iT,jr M.gG,fA M.bP],loop:=aU []}
theorem NR : aG (GZ):=aB aH _ (aA vJ (aA oI (aA iO (bg))))
theorem SS : (xE (M.ru)).Ok D Tryz.prog:=
 aW (cx:=GZ) (c:=xE (M.ru)) (fz:=false) (fn:=Tryz.f40) aH (NR) ai ⟨Tryz.func40,by kernel_rfl⟩ (aX (az (by kernel_rfl))) ⟨⟨[.ik [.agg [.int .i64, .str, .bn U.str, .bn U.Type, .int .i64, .bool, .own 0, .int .i64, .int .i64, .bool, .bool], .int .i64, .int .i64]],[.arr U.Value]⟩,fun x=>(x.1.1.1.1,x.1.1.1.2.1,x.1.1.1.2.2.1,x.1.1.1.2.2.2.1,x.1.1.1.2.2.2.2.1,x.1.1.1.2.2.2.2.2.1,x.1.1.1.2.2.2.2.2.2.2.1,x.1.1.1.2.2.2.2.2.2.2.2.1,x.1.1.1.2.2.2.2.2.2.2.2.2.1,x.1.1.1.2.2.2.2.2.2.2.2.2.2.1,x.1.1.2.1,x.1.1.2.2.1,x.2.1)⟩ (fun x=>rfl) (fun x=>by kernel_rfl)
def tu (m:Int->(List UInt8)->(List (List UInt8))->(List M.ae)->Int->Bool->Int->Int->Bool->Bool->(List M.af)->(List M.af)->Option (Int×(List UInt8)×Int×Bool×Int×Int×Bool×Bool×Int×Int×(List M.af)×(List (List UInt8))×(List M.ae)×(List M.af))):bI K:={f:=40,sh:=⟨[.agg [.int .i64, .str, .bn U.str, .bn U.Type, .int .i64, .bool, .own 0, .int .i64, .int .i64, .bool, .bool], .bn U.Value],[.arr U.Value]⟩,R:=Int×(List UInt8)×Int×Bool×Int×Int×Bool×Bool×Int×Int×(List M.af)×(List (List UInt8))×(List M.ae)×(List M.af),run:=fun x=>m x.1.1.1 x.1.1.2.1 x.1.1.2.2.1 x.1.1.2.2.2.1 x.1.1.2.2.2.2.1 x.1.1.2.2.2.2.2.1 x.1.1.2.2.2.2.2.2.2.1 x.1.1.2.2.2.2.2.2.2.2.1 x.1.1.2.2.2.2.2.2.2.2.2.1 x.1.1.2.2.2.2.2.2.2.2.2.2.1 x.1.2.1 x.2.1,dflt:=default,out:=fun r=>(Sh.enc D (.ik [.agg [.int .i64, .str, .own 1, .own 2, .int .i64, .bool, .own 3, .int .i64, .int .i64, .bool, .bool], .int .i64, .int .i64]) ((r.1,(r.2.1,((),((),(r.2.2.1,(r.2.2.2.1,((),(r.2.2.2.2.1,(r.2.2.2.2.2.1,(r.2.2.2.2.2.2.1,(r.2.2.2.2.2.2.2.1,()))))))))))),(r.2.2.2.2.2.2.2.2.1,(r.2.2.2.2.2.2.2.2.2.1,()))),dK.encs D [.arr U.Value, .arr U.str, .arr U.Type, .arr U.Value] (r.2.2.2.2.2.2.2.2.2.2.1,(r.2.2.2.2.2.2.2.2.2.2.2.1,(r.2.2.2.2.2.2.2.2.2.2.2.2.1,(r.2.2.2.2.2.2.2.2.2.2.2.2.2,())))))}
def BL : Cx K:={iG with mode:=aV .plain [(66, .plain),(67, .plain),(65, .fresh)],KY:=[[none,none,some U.str,some U.Type,none,none,some U.Value,none,none,none,none],[],[]],call:=callOf D [ny M.iT,jr M.gG,fA M.bP],loop:=aU []}
theorem JH : aG (BL):=aB aH _ (aA vJ (aA oI (aA iO (bg))))
theorem NS : (tu (M.nZ)).Ok D Tryz.prog:=
 aW (cx:=BL) (c:=tu (M.nZ)) (fz:=false) (fn:=Tryz.f40) aH (JH) ai ⟨Tryz.func40,by kernel_rfl⟩ (aX (az (by kernel_rfl))) ⟨⟨[.ik [.agg [.int .i64, .str, .own 1, .own 2, .int .i64, .bool, .own 3, .int .i64, .int .i64, .bool, .bool], .int .i64, .int .i64]],[.arr U.Value, .arr U.str, .arr U.Type, .arr U.Value]⟩,fun x=>(x.1.1.1.1,x.1.1.1.2.1,x.1.1.1.2.2.2.2.1,x.1.1.1.2.2.2.2.2.1,x.1.1.1.2.2.2.2.2.2.2.1,x.1.1.1.2.2.2.2.2.2.2.2.1,x.1.1.1.2.2.2.2.2.2.2.2.2.1,x.1.1.1.2.2.2.2.2.2.2.2.2.2.1,x.1.1.2.1,x.1.1.2.2.1,x.2.1,x.2.2.1,x.2.2.2.1,x.2.2.2.2.1)⟩ (fun x=>rfl) (fun x=>by kernel_rfl)
def tC (m:Int->(List UInt8)->(List (List UInt8))->(List M.ae)->Int->Bool->Int->Int->Bool->Bool->(List M.af)->(List M.af)->Option (Int×(List UInt8)×(List (List UInt8))×(List M.ae)×Int×Bool×Int×Int×Bool×Bool×Int×Int×(List M.af)×(List M.af))):bI K:={f:=40,sh:=⟨[.agg [.int .i64, .str, .bn U.str, .bn U.Type, .int .i64, .bool, .own 0, .int .i64, .int .i64, .bool, .bool], .bn U.Value],[.arr U.Value]⟩,R:=Int×(List UInt8)×(List (List UInt8))×(List M.ae)×Int×Bool×Int×Int×Bool×Bool×Int×Int×(List M.af)×(List M.af),run:=fun x=>m x.1.1.1 x.1.1.2.1 x.1.1.2.2.1 x.1.1.2.2.2.1 x.1.1.2.2.2.2.1 x.1.1.2.2.2.2.2.1 x.1.1.2.2.2.2.2.2.2.1 x.1.1.2.2.2.2.2.2.2.2.1 x.1.1.2.2.2.2.2.2.2.2.2.1 x.1.1.2.2.2.2.2.2.2.2.2.2.1 x.1.2.1 x.2.1,dflt:=default,out:=fun r=>(Sh.enc D (.ik [.agg [.int .i64, .str, .bn U.str, .bn U.Type, .int .i64, .bool, .own 1, .int .i64, .int .i64, .bool, .bool], .int .i64, .int .i64]) ((r.1,(r.2.1,(r.2.2.1,(r.2.2.2.1,(r.2.2.2.2.1,(r.2.2.2.2.2.1,((),(r.2.2.2.2.2.2.1,(r.2.2.2.2.2.2.2.1,(r.2.2.2.2.2.2.2.2.1,(r.2.2.2.2.2.2.2.2.2.1,()))))))))))),(r.2.2.2.2.2.2.2.2.2.2.1,(r.2.2.2.2.2.2.2.2.2.2.2.1,()))),dK.encs D [.OX U.Value, .arr U.Value] (r.2.2.2.2.2.2.2.2.2.2.2.2.1,(r.2.2.2.2.2.2.2.2.2.2.2.2.2,())))}
def BM : Cx K:={iG with mode:=aV .plain [(66, .plain),(67, .plain),(65, .fresh)],KY:=[[none,none,some U.str,some U.Type,none,none,some U.Value,none,none,none,none],[],[]],call:=callOf D [ny M.iT,jr M.gG,fA M.bP],loop:=aU []}
theorem JI : aG (BM):=aB aH _ (aA vJ (aA oI (aA iO (bg))))
theorem NT : (tC (M.AQ)).Ok D Tryz.prog:=
 aW (cx:=BM) (c:=tC (M.AQ)) (fz:=false) (fn:=Tryz.f40) aH (JI) ai ⟨Tryz.func40,by kernel_rfl⟩ (aX (az (by kernel_rfl))) ⟨⟨[.ik [.agg [.int .i64, .str, .bn U.str, .bn U.Type, .int .i64, .bool, .own 1, .int .i64, .int .i64, .bool, .bool], .int .i64, .int .i64]],[.OX U.Value, .arr U.Value]⟩,fun x=>(x.1.1.1.1,x.1.1.1.2.1,x.1.1.1.2.2.1,x.1.1.1.2.2.2.1,x.1.1.1.2.2.2.2.1,x.1.1.1.2.2.2.2.2.1,x.1.1.1.2.2.2.2.2.2.2.1,x.1.1.1.2.2.2.2.2.2.2.2.1,x.1.1.1.2.2.2.2.2.2.2.2.2.1,x.1.1.1.2.2.2.2.2.2.2.2.2.2.1,x.1.1.2.1,x.1.1.2.2.1,x.2.1,x.2.2.1)⟩ (fun x=>rfl) (fun x=>by kernel_rfl)
def Ep (y:(List UInt8)×Int×Int×Int×(List UInt8)×Int×Bool×Int×Int×Bool×Bool×Int×(List UInt8)×(List (List UInt8))×(List M.ae)×Int×Bool×Int×Int×Bool×Bool×(List (List UInt8))×(List M.ae)×(List M.af)×(List M.af)) {R:Type} (k:Ex->List (AV K)->List (Ob K)->R):R:=match y with
 |a0=>k (Ex.exit 0) (gB.gW D ⟨[.ptr 1 0, .ptr 3 0],[.box [.bn U.u8, .int .i64, .int .u64], .box [.int .i64, .str, .own 10, .own 11, .int .i64, .bool, .own 12, .int .i64, .int .i64, .bool, .bool], .dead, .box [.int .i64, .str, .bn U.str, .bn U.Type, .int .i64, .bool, .own 13, .int .i64, .int .i64, .bool, .bool], .dead, .dead, .dead, .dead, .dead, .dead, .arr U.str, .arr U.Type, .arr U.Value, .arr U.Value]⟩ (((),((),())),((a0.1,(a0.2.1,(a0.2.2.1,()))),((a0.2.2.2.1,(a0.2.2.2.2.1,((),((),(a0.2.2.2.2.2.1,(a0.2.2.2.2.2.2.1,((),(a0.2.2.2.2.2.2.2.1,(a0.2.2.2.2.2.2.2.2.1,(a0.2.2.2.2.2.2.2.2.2.1,(a0.2.2.2.2.2.2.2.2.2.2.1,()))))))))))),((),((a0.2.2.2.2.2.2.2.2.2.2.2.1,(a0.2.2.2.2.2.2.2.2.2.2.2.2.1,(a0.2.2.2.2.2.2.2.2.2.2.2.2.2.1,(a0.2.2.2.2.2.2.2.2.2.2.2.2.2.2.1,(a0.2.2.2.2.2.2.2.2.2.2.2.2.2.2.2.1,(a0.2.2.2.2.2.2.2.2.2.2.2.2.2.2.2.2.1,((),(a0.2.2.2.2.2.2.2.2.2.2.2.2.2.2.2.2.2.1,(a0.2.2.2.2.2.2.2.2.2.2.2.2.2.2.2.2.2.2.1,(a0.2.2.2.2.2.2.2.2.2.2.2.2.2.2.2.2.2.2.2.1,(a0.2.2.2.2.2.2.2.2.2.2.2.2.2.2.2.2.2.2.2.2.1,()))))))))))),((),((),((),((),((),((),(a0.2.2.2.2.2.2.2.2.2.2.2.2.2.2.2.2.2.2.2.2.2.1,(a0.2.2.2.2.2.2.2.2.2.2.2.2.2.2.2.2.2.2.2.2.2.2.1,(a0.2.2.2.2.2.2.2.2.2.2.2.2.2.2.2.2.2.2.2.2.2.2.2.1,(a0.2.2.2.2.2.2.2.2.2.2.2.2.2.2.2.2.2.2.2.2.2.2.2.2,())))))))))))))))) (gB.gY D ⟨[.ptr 1 0, .ptr 3 0],[.box [.bn U.u8, .int .i64, .int .u64], .box [.int .i64, .str, .own 10, .own 11, .int .i64, .bool, .own 12, .int .i64, .int .i64, .bool, .bool], .dead, .box [.int .i64, .str, .bn U.str, .bn U.Type, .int .i64, .bool, .own 13, .int .i64, .int .i64, .bool, .bool], .dead, .dead, .dead, .dead, .dead, .dead, .arr U.str, .arr U.Type, .arr U.Value, .arr U.Value]⟩ (((),((),())),((a0.1,(a0.2.1,(a0.2.2.1,()))),((a0.2.2.2.1,(a0.2.2.2.2.1,((),((),(a0.2.2.2.2.2.1,(a0.2.2.2.2.2.2.1,((),(a0.2.2.2.2.2.2.2.1,(a0.2.2.2.2.2.2.2.2.1,(a0.2.2.2.2.2.2.2.2.2.1,(a0.2.2.2.2.2.2.2.2.2.2.1,()))))))))))),((),((a0.2.2.2.2.2.2.2.2.2.2.2.1,(a0.2.2.2.2.2.2.2.2.2.2.2.2.1,(a0.2.2.2.2.2.2.2.2.2.2.2.2.2.1,(a0.2.2.2.2.2.2.2.2.2.2.2.2.2.2.1,(a0.2.2.2.2.2.2.2.2.2.2.2.2.2.2.2.1,(a0.2.2.2.2.2.2.2.2.2.2.2.2.2.2.2.2.1,((),(a0.2.2.2.2.2.2.2.2.2.2.2.2.2.2.2.2.2.1,(a0.2.2.2.2.2.2.2.2.2.2.2.2.2.2.2.2.2.2.1,(a0.2.2.2.2.2.2.2.2.2.2.2.2.2.2.2.2.2.2.2.1,(a0.2.2.2.2.2.2.2.2.2.2.2.2.2.2.2.2.2.2.2.2.1,()))))))))))),((),((),((),((),((),((),(a0.2.2.2.2.2.2.2.2.2.2.2.2.2.2.2.2.2.2.2.2.2.1,(a0.2.2.2.2.2.2.2.2.2.2.2.2.2.2.2.2.2.2.2.2.2.2.1,(a0.2.2.2.2.2.2.2.2.2.2.2.2.2.2.2.2.2.2.2.2.2.2.2.1,(a0.2.2.2.2.2.2.2.2.2.2.2.2.2.2.2.2.2.2.2.2.2.2.2.2,()))))))))))))))))
def SX : List (jb K ((List UInt8)×Int×Int×Int×(List UInt8)×Int×Bool×Int×Int×Bool×Bool×Int×(List UInt8)×(List (List UInt8))×(List M.ae)×Int×Bool×Int×Int×Bool×Bool×(List (List UInt8))×(List M.ae)×(List M.af)×(List M.af))):=[⟨(Ex.exit 0),⟨[.ptr 1 0, .ptr 3 0],[.box [.bn U.u8, .int .i64, .int .u64], .box [.int .i64, .str, .own 10, .own 11, .int .i64, .bool, .own 12, .int .i64, .int .i64, .bool, .bool], .dead, .box [.int .i64, .str, .bn U.str, .bn U.Type, .int .i64, .bool, .own 13, .int .i64, .int .i64, .bool, .bool], .dead, .dead, .dead, .dead, .dead, .dead, .arr U.str, .arr U.Type, .arr U.Value, .arr U.Value]⟩,fun x=>(x.2.1.1,x.2.1.2.1,x.2.1.2.2.1,x.2.2.1.1,x.2.2.1.2.1,x.2.2.1.2.2.2.2.1,x.2.2.1.2.2.2.2.2.1,x.2.2.1.2.2.2.2.2.2.2.1,x.2.2.1.2.2.2.2.2.2.2.2.1,x.2.2.1.2.2.2.2.2.2.2.2.2.1,x.2.2.1.2.2.2.2.2.2.2.2.2.2.1,x.2.2.2.2.1.1,x.2.2.2.2.1.2.1,x.2.2.2.2.1.2.2.1,x.2.2.2.2.1.2.2.2.1,x.2.2.2.2.1.2.2.2.2.1,x.2.2.2.2.1.2.2.2.2.2.1,x.2.2.2.2.1.2.2.2.2.2.2.2.1,x.2.2.2.2.1.2.2.2.2.2.2.2.2.1,x.2.2.2.2.1.2.2.2.2.2.2.2.2.2.1,x.2.2.2.2.1.2.2.2.2.2.2.2.2.2.2.1,x.2.2.2.2.2.2.2.2.2.2.2.1,x.2.2.2.2.2.2.2.2.2.2.2.2.1,x.2.2.2.2.2.2.2.2.2.2.2.2.2.1,x.2.2.2.2.2.2.2.2.2.2.2.2.2.2.1)⟩]
def IC : gZ K:=jh D false 78 10 [0,2,3,4,6] [2,4] ⟨[.ptr 0 0, .ptr 1 0, .ptr 2 0, .ptr 3 0, .int .i64],[.el U.bW, .box [.int .i64, .str, .own 10, .own 11, .int .i64, .bool, .own 12, .int .i64, .int .i64, .bool, .bool], .box [.int .i64, .str, .own 7, .own 8], .box [.int .i64, .str, .bn U.str, .bn U.Type, .int .i64, .bool, .own 13, .int .i64, .int .i64, .bool, .bool], .dead, .dead, .dead, .OX U.str, .OX U.Type, .dead, .arr U.str, .arr U.Type, .arr U.Value, .arr U.Value]⟩ (fun x=>M.dm x.2.2.1.1 x.2.2.1.2.1 x.2.2.1.2.2.2.2.1 x.2.2.1.2.2.2.2.2.1 x.2.2.1.2.2.2.2.2.2.2.1 x.2.2.1.2.2.2.2.2.2.2.2.1 x.2.2.1.2.2.2.2.2.2.2.2.2.1 x.2.2.1.2.2.2.2.2.2.2.2.2.2.1 x.2.2.2.1.1 x.2.2.2.1.2.1 x.2.2.2.2.2.2.2.2.1 x.2.2.2.2.2.2.2.2.2.1 x.2.2.2.2.2.2.2.2.2.2.2.1 x.2.2.2.2.2.2.2.2.2.2.2.2.1 x.2.2.2.2.2.2.2.2.2.2.2.2.2.1 aP x.1.2.2.2.2.1 x.2.1 x.2.2.2.2.1.1 x.2.2.2.2.1.2.1 x.2.2.2.2.1.2.2.1 x.2.2.2.2.1.2.2.2.1 x.2.2.2.2.1.2.2.2.2.1 x.2.2.2.2.1.2.2.2.2.2.1 x.2.2.2.2.1.2.2.2.2.2.2.2.1 x.2.2.2.2.1.2.2.2.2.2.2.2.2.1 x.2.2.2.2.1.2.2.2.2.2.2.2.2.2.1 x.2.2.2.2.1.2.2.2.2.2.2.2.2.2.2.1 x.2.2.2.2.2.2.2.2.2.2.2.2.2.2.1) Ep
def CQ (m:M.ak->Option (Int×(List UInt8)×(List (List UInt8))×(List M.ae)×Int×Bool×Int×Int×Bool×Bool×M.ak×(List M.af))):bI K:={f:=53,sh:=⟨[.ptr 0 0],[.el U.bW]⟩,R:=Int×(List UInt8)×(List (List UInt8))×(List M.ae)×Int×Bool×Int×Int×Bool×Bool×M.ak×(List M.af),run:=fun x=>m x.2.1,dflt:=default,out:=fun r=>(Sh.enc D (.agg [.int .i64, .str, .bn U.str, .bn U.Type, .int .i64, .bool, .own 1, .int .i64, .int .i64, .bool, .bool]) (r.1,(r.2.1,(r.2.2.1,(r.2.2.2.1,(r.2.2.2.2.1,(r.2.2.2.2.2.1,((),(r.2.2.2.2.2.2.1,(r.2.2.2.2.2.2.2.1,(r.2.2.2.2.2.2.2.2.1,(r.2.2.2.2.2.2.2.2.2.1,()))))))))))),dK.encs D [.el U.bW, .arr U.Value] (r.2.2.2.2.2.2.2.2.2.2.1,(r.2.2.2.2.2.2.2.2.2.2.2,())))}
def zK : Cx K:={iG with mode:=aV .plain [(25, .fF),(21, .fF),(20, .fresh),(22, .fF),(23, .fresh),(38, .pass),(39, .pass),(42, .fF),(73, .fF),(40, .fF)],Zt:=fun b=>cond b (aV .plain [(25, .fF),(21, .fF),(20, .fresh),(22, .fF),(23, .fresh),(38, .pass),(39, .pass),(42, .fF),(73, .fF),(40, .fF)]) (aV .plain [(25, .fF),(21, .fF),(20, .fresh),(22, .fF),(23, .fresh),(38, .pass),(39, .pass),(42, .pass),(73, .fF),(40, .pass)]),KY:=[[none,none,some U.str,some U.Type,none,none,some U.Value,none,none,none,none]],call:=callOf D [fP M.bU,dh M.aJ,jf M.dY,su M.rq],alt:=fun b=>cond b (callOf D [fP M.bU,dh M.aJ,jf M.dY,su M.rq,vT M.nz,vV M.nC,zh M.uu,xB M.rf,zk M.uw,GX M.QQ,xE M.ru,tC M.AQ]) (callOf D [fP M.bU,dh M.aJ,jf M.dY,su M.rq,vS M.yt,vU M.CP,zg M.uo,xA M.qZ,zi M.Iy,vW M.pY,xC M.FB,tu M.nZ]),loop:=aU [(6,IC)]}
theorem IE : aG (zK):=aaW aH _ _ _ (aA jF (aA dR (aA pJ (aA Fz (bg))))) (aA jF (aA dR (aA pJ (aA Fz (aA PD (aA PG (aA UF (aA SL (aA UH (aA UI (aA SS (aA NT (bg))))))))))))) (aA jF (aA dR (aA pJ (aA Fz (aA Pz (aA PE (aA UE (aA SK (aA UG (aA PM (aA SQ (aA NS (bg)))))))))))))
theorem PO : eG (zK) (eQ (fG Tryz.f53) 0) (IC):=
 dU (cx:=zK) (n:=78) (n0:=10) (ins:=[0,2,3,4,6]) (outs:=[2,4]) (sh:=⟨[.ptr 0 0, .ptr 1 0, .ptr 2 0, .ptr 3 0, .int .i64],[.el U.bW, .box [.int .i64, .str, .own 10, .own 11, .int .i64, .bool, .own 12, .int .i64, .int .i64, .bool, .bool], .box [.int .i64, .str, .own 7, .own 8], .box [.int .i64, .str, .bn U.str, .bn U.Type, .int .i64, .bool, .own 13, .int .i64, .int .i64, .bool, .bool], .dead, .dead, .dead, .OX U.str, .OX U.Type, .dead, .arr U.str, .arr U.Type, .arr U.Value, .arr U.Value]⟩) (run:=fun n x=>M.dm x.2.2.1.1 x.2.2.1.2.1 x.2.2.1.2.2.2.2.1 x.2.2.1.2.2.2.2.2.1 x.2.2.1.2.2.2.2.2.2.2.1 x.2.2.1.2.2.2.2.2.2.2.2.1 x.2.2.1.2.2.2.2.2.2.2.2.2.1 x.2.2.1.2.2.2.2.2.2.2.2.2.2.1 x.2.2.2.1.1 x.2.2.2.1.2.1 x.2.2.2.2.2.2.2.2.1 x.2.2.2.2.2.2.2.2.2.1 x.2.2.2.2.2.2.2.2.2.2.2.1 x.2.2.2.2.2.2.2.2.2.2.2.2.1 x.2.2.2.2.2.2.2.2.2.2.2.2.2.1 n x.1.2.2.2.2.1 x.2.1 x.2.2.2.2.1.1 x.2.2.2.2.1.2.1 x.2.2.2.2.1.2.2.1 x.2.2.2.2.1.2.2.2.1 x.2.2.2.2.1.2.2.2.2.1 x.2.2.2.2.1.2.2.2.2.2.1 x.2.2.2.2.1.2.2.2.2.2.2.2.1 x.2.2.2.2.1.2.2.2.2.2.2.2.2.1 x.2.2.2.2.1.2.2.2.2.2.2.2.2.2.1 x.2.2.2.2.1.2.2.2.2.2.2.2.2.2.2.1 x.2.2.2.2.2.2.2.2.2.2.2.2.2.2.1) (iW:=SX) (out:=Ep) aH (IE) ai (az (by kernel_rfl)) (fun _=>rfl) (fun m x=>by kernel_rfl) (aA ⟨dV,fun _ _ _=>rfl⟩ (bg)) false aP
theorem Yh : (CQ (M.zV)).Ok D Tryz.prog:=
 aW (cx:=zK) (c:=CQ (M.zV)) (fz:=false) (fn:=Tryz.f53) aH (IE) ai ⟨Tryz.func53,by kernel_rfl⟩ (aX (bV 1 (by kernel_rfl) (gI (.mk (by kernel_rfl) (PO))))) ⟨⟨[.agg [.int .i64, .str, .bn U.str, .bn U.Type, .int .i64, .bool, .own 1, .int .i64, .int .i64, .bool, .bool]],[.el U.bW, .arr U.Value]⟩,fun x=>(x.1.1.1,x.1.1.2.1,x.1.1.2.2.1,x.1.1.2.2.2.1,x.1.1.2.2.2.2.1,x.1.1.2.2.2.2.2.1,x.1.1.2.2.2.2.2.2.2.1,x.1.1.2.2.2.2.2.2.2.2.1,x.1.1.2.2.2.2.2.2.2.2.2.1,x.1.1.2.2.2.2.2.2.2.2.2.2.1,x.2.1,x.2.2.1)⟩ (fun x=>rfl) (fun x=>by kernel_rfl)
def CS (m:M.ak->Option (M.ah×M.ak)):bI K:={f:=24,sh:=⟨[.ptr 0 0],[.el U.bW]⟩,R:=M.ah×M.ak,run:=fun x=>m x.2.1,dflt:=default,out:=fun r=>(Sh.enc D (.el U.Stream) r.1,dK.encs D [.el U.bW] (r.2,()))}
def NU : Cx K:={iG with mode:=aV .plain [(53, .fF),(21, .fF),(25, .fF),(54, .fF)],call:=callOf D [CQ M.zV,dh M.aJ,fP M.bU,Fq M.Ef],loop:=aU []}
theorem UJ : aG (NU):=aB aH _ (aA Yh (aA dR (aA jF (aA Zq (bg)))))
theorem Yi : (CS (M.zW)).Ok D Tryz.prog:=
 aW (cx:=NU) (c:=CS (M.zW)) (fz:=true) (fn:=Tryz.f24) aH (UJ) ai ⟨Tryz.func24,by kernel_rfl⟩ (aX (az (by kernel_rfl))) ⟨⟨[.el U.Stream],[.el U.bW]⟩,fun x=>(x.1.1,x.2.1)⟩ (fun x=>rfl) (fun x=>by kernel_rfl)
def aiP (m:M.ae->Int->Option (M.ah×Int)):bI K:={f:=20,sh:=⟨[.el U.Type, .int .i64],[]⟩,R:=M.ah×Int,run:=fun x=>m x.1.1 x.1.2.1,dflt:=default,out:=fun r=>(Sh.enc D (.ik [.el U.Stream, .int .i64]) (r.1,(r.2,())),dK.encs D [] ())}
def aj1 : Cx K:={iG with mode:=aV .plain [(46, .plain),(36, .plain),(51, .oU)],call:=callOf D [ni M.jE,jX M.xW,gq M.nN],loop:=aU []}
theorem akJ : aG (aj1):=aB aH _ (aA vC (aA qo (aA yM (bg))))
theorem akZ : (aiP (M.aer)).Ok D Tryz.prog:=
 aW (cx:=aj1) (c:=aiP (M.aer)) (fz:=true) (fn:=Tryz.f20) aH (akJ) ai ⟨Tryz.func20,by kernel_rfl⟩ (aX (az (by kernel_rfl))) ⟨⟨[.ik [.el U.Stream, .int .i64]],[]⟩,fun x=>(x.1.1.1,x.1.1.2.1)⟩ (fun x=>rfl) (fun x=>by kernel_rfl)
def aiQ (m:M.ae->Option (M.ah×Int)):bI K:={f:=23,sh:=⟨[.el U.Type],[]⟩,R:=M.ah×Int,run:=fun x=>m x.1.1,dflt:=default,out:=fun r=>(Sh.enc D (.ik [.el U.Stream, .int .i64]) (r.1,(r.2,())),dK.encs D [] ())}
def aj2 : Cx K:={iG with mode:=aV .plain [(46, .plain),(51, .oU)],call:=callOf D [ni M.jE,gq M.nN],loop:=aU []}
theorem akK : aG (aj2):=aB aH _ (aA vC (aA yM (bg)))
theorem ak0 : (aiQ (M.af6)).Ok D Tryz.prog:=
 aW (cx:=aj2) (c:=aiQ (M.af6)) (fz:=true) (fn:=Tryz.f23) aH (akK) ai ⟨Tryz.func23,by kernel_rfl⟩ (aX (az (by kernel_rfl))) ⟨⟨[.ik [.el U.Stream, .int .i64]],[]⟩,fun x=>(x.1.1.1,x.1.1.2.1)⟩ (fun x=>rfl) (fun x=>by kernel_rfl)
def aic (y:Int×(List UInt8)×Int×Bool×Int×Int×Bool×Bool×(List UInt8)×Int×Int×M.ah×(List M.dZ)×(List (List UInt8))×(List M.ae)×(List M.af)) {R:Type} (k:Ex->List (AV K)->List (Ob K)->R):R:=match y with
 |a0=>k (Ex.exit 0) (gB.gW D ⟨[.ptr 0 0, .ptr 1 0, .ptr 2 0, .own 7],[.box [.int .i64, .str, .own 8, .own 9, .int .i64, .bool, .own 10, .int .i64, .int .i64, .bool, .bool], .box [.bn U.u8, .int .i64, .int .u64], .el U.Stream, .dead, .dead, .dead, .dead, .arr U.pM, .arr U.str, .arr U.Type, .arr U.Value]⟩ (((),((),((),((),())))),((a0.1,(a0.2.1,((),((),(a0.2.2.1,(a0.2.2.2.1,((),(a0.2.2.2.2.1,(a0.2.2.2.2.2.1,(a0.2.2.2.2.2.2.1,(a0.2.2.2.2.2.2.2.1,()))))))))))),((a0.2.2.2.2.2.2.2.2.1,(a0.2.2.2.2.2.2.2.2.2.1,(a0.2.2.2.2.2.2.2.2.2.2.1,()))),(a0.2.2.2.2.2.2.2.2.2.2.2.1,((),((),((),((),(a0.2.2.2.2.2.2.2.2.2.2.2.2.1,(a0.2.2.2.2.2.2.2.2.2.2.2.2.2.1,(a0.2.2.2.2.2.2.2.2.2.2.2.2.2.2.1,(a0.2.2.2.2.2.2.2.2.2.2.2.2.2.2.2,()))))))))))))) (gB.gY D ⟨[.ptr 0 0, .ptr 1 0, .ptr 2 0, .own 7],[.box [.int .i64, .str, .own 8, .own 9, .int .i64, .bool, .own 10, .int .i64, .int .i64, .bool, .bool], .box [.bn U.u8, .int .i64, .int .u64], .el U.Stream, .dead, .dead, .dead, .dead, .arr U.pM, .arr U.str, .arr U.Type, .arr U.Value]⟩ (((),((),((),((),())))),((a0.1,(a0.2.1,((),((),(a0.2.2.1,(a0.2.2.2.1,((),(a0.2.2.2.2.1,(a0.2.2.2.2.2.1,(a0.2.2.2.2.2.2.1,(a0.2.2.2.2.2.2.2.1,()))))))))))),((a0.2.2.2.2.2.2.2.2.1,(a0.2.2.2.2.2.2.2.2.2.1,(a0.2.2.2.2.2.2.2.2.2.2.1,()))),(a0.2.2.2.2.2.2.2.2.2.2.2.1,((),((),((),((),(a0.2.2.2.2.2.2.2.2.2.2.2.2.1,(a0.2.2.2.2.2.2.2.2.2.2.2.2.2.1,(a0.2.2.2.2.2.2.2.2.2.2.2.2.2.2.1,(a0.2.2.2.2.2.2.2.2.2.2.2.2.2.2.2,())))))))))))))
def ajK : List (jb K (Int×(List UInt8)×Int×Bool×Int×Int×Bool×Bool×(List UInt8)×Int×Int×M.ah×(List M.dZ)×(List (List UInt8))×(List M.ae)×(List M.af))):=[⟨(Ex.exit 0),⟨[.ptr 0 0, .ptr 1 0, .ptr 2 0, .own 7],[.box [.int .i64, .str, .own 8, .own 9, .int .i64, .bool, .own 10, .int .i64, .int .i64, .bool, .bool], .box [.bn U.u8, .int .i64, .int .u64], .el U.Stream, .dead, .dead, .dead, .dead, .arr U.pM, .arr U.str, .arr U.Type, .arr U.Value]⟩,fun x=>(x.2.1.1,x.2.1.2.1,x.2.1.2.2.2.2.1,x.2.1.2.2.2.2.2.1,x.2.1.2.2.2.2.2.2.2.1,x.2.1.2.2.2.2.2.2.2.2.1,x.2.1.2.2.2.2.2.2.2.2.2.1,x.2.1.2.2.2.2.2.2.2.2.2.2.1,x.2.2.1.1,x.2.2.1.2.1,x.2.2.1.2.2.1,x.2.2.2.1,x.2.2.2.2.2.2.2.2.1,x.2.2.2.2.2.2.2.2.2.1,x.2.2.2.2.2.2.2.2.2.2.1,x.2.2.2.2.2.2.2.2.2.2.2.1)⟩]
def aip : gZ K:=jh D false 67 7 [2,5,6,8,9] [2,5,6,8] ⟨[.ptr 0 0, .ptr 1 0, .ptr 2 0, .own 7, .int .i64],[.box [.int .i64, .str, .own 8, .own 9, .int .i64, .bool, .own 10, .int .i64, .int .i64, .bool, .bool], .box [.bn U.u8, .int .i64, .int .u64], .el U.Stream, .dead, .dead, .dead, .dead, .arr U.pM, .arr U.str, .arr U.Type, .arr U.Value]⟩ (fun x=>M.abT x.2.1.1 x.2.1.2.1 x.2.1.2.2.2.2.1 x.2.1.2.2.2.2.2.1 x.2.1.2.2.2.2.2.2.2.1 x.2.1.2.2.2.2.2.2.2.2.1 x.2.1.2.2.2.2.2.2.2.2.2.1 x.2.1.2.2.2.2.2.2.2.2.2.2.1 x.2.2.2.2.2.2.2.2.2.1 x.2.2.2.2.2.2.2.2.2.2.1 x.2.2.2.2.2.2.2.2.2.2.2.1 aP x.1.2.2.2.2.1 x.2.2.1.1 x.2.2.1.2.1 x.2.2.1.2.2.1 x.2.2.2.1 x.2.2.2.2.2.2.2.2.1) aic
def ag4 (m:(List UInt8)->Option (M.ah×Int×(List M.dZ))):bI K:={f:=6,sh:=⟨[.bn U.u8],[]⟩,R:=M.ah×Int×(List M.dZ),run:=fun x=>m x.1.1,dflt:=default,out:=fun r=>(Sh.enc D (.ik [.el U.Stream, .int .i64, .bn U.pM]) (r.1,(r.2.1,(r.2.2,()))),dK.encs D [] ())}
def afQ : Cx K:={iG with mode:=aV .plain [(19, .FC),(21, .fF),(20, .oU),(22, .fF),(23, .oU),(24, .fF),(25, .fF)],call:=callOf D [CO M.Po,dh M.aJ,aiP M.aer,jf M.dY,aiQ M.af6,CS M.zW,fP M.bU],loop:=aU [(9,aip)]}
theorem aiq : aG (afQ):=aB aH _ (aA Yg (aA dR (aA akZ (aA pJ (aA ak0 (aA Yi (aA jF (bg))))))))
theorem ajA : eG (afQ) (eQ (fG Tryz.f6) 0) (aip):=
 dU (cx:=afQ) (n:=67) (n0:=7) (ins:=[2,5,6,8,9]) (outs:=[2,5,6,8]) (sh:=⟨[.ptr 0 0, .ptr 1 0, .ptr 2 0, .own 7, .int .i64],[.box [.int .i64, .str, .own 8, .own 9, .int .i64, .bool, .own 10, .int .i64, .int .i64, .bool, .bool], .box [.bn U.u8, .int .i64, .int .u64], .el U.Stream, .dead, .dead, .dead, .dead, .arr U.pM, .arr U.str, .arr U.Type, .arr U.Value]⟩) (run:=fun n x=>M.abT x.2.1.1 x.2.1.2.1 x.2.1.2.2.2.2.1 x.2.1.2.2.2.2.2.1 x.2.1.2.2.2.2.2.2.2.1 x.2.1.2.2.2.2.2.2.2.2.1 x.2.1.2.2.2.2.2.2.2.2.2.1 x.2.1.2.2.2.2.2.2.2.2.2.2.1 x.2.2.2.2.2.2.2.2.2.1 x.2.2.2.2.2.2.2.2.2.2.1 x.2.2.2.2.2.2.2.2.2.2.2.1 n x.1.2.2.2.2.1 x.2.2.1.1 x.2.2.1.2.1 x.2.2.1.2.2.1 x.2.2.2.1 x.2.2.2.2.2.2.2.2.1) (iW:=ajK) (out:=aic) aH (aiq) ai (az (by kernel_rfl)) (fun _=>rfl) (fun m x=>by kernel_rfl) (aA ⟨dV,fun _ _ _=>rfl⟩ (bg)) false aP
theorem akg : (ag4 (M.afe)).Ok D Tryz.prog:=
 aW (cx:=afQ) (c:=ag4 (M.afe)) (fz:=true) (fn:=Tryz.f6) aH (aiq) ai ⟨Tryz.func6,by kernel_rfl⟩ (aX (bV 1 (by kernel_rfl) (gI (.mk (by kernel_rfl) (ajA))))) ⟨⟨[.ik [.el U.Stream, .int .i64, .bn U.pM]],[]⟩,fun x=>(x.1.1.1,x.1.1.2.1,x.1.1.2.2.1)⟩ (fun x=>rfl) (fun x=>by kernel_rfl)
def adp (m:M.af->M.af->Option (Bool)):bI K:={f:=69,sh:=⟨[.el U.Value, .el U.Value],[]⟩,R:=Bool,run:=fun x=>m x.1.1 x.1.2.1,dflt:=default,out:=fun r=>(Sh.enc D (.bool) r,dK.encs D [] ())}
def aji (y:(Bool)⊕(Unit)) {R:Type} (k:Ex->List (AV K)->List (Ob K)->R):R:=match y with
 | .inl a0=>k Ex.ret (gB.gW D ⟨[.bool],[.dead, .dead]⟩ ((a0,()),((),((),())))) (gB.gY D ⟨[.bool],[.dead, .dead]⟩ ((a0,()),((),((),()))))
 | .inr (a1)=>k (Ex.exit 0) (gB.gW D ⟨[.any],[.dead, .dead]⟩ (((),()),((),((),())))) (gB.gY D ⟨[.any],[.dead, .dead]⟩ (((),()),((),((),()))))
def akz : List (jb K ((Bool)⊕(Unit))):=[⟨Ex.ret,⟨[.bool],[.dead, .dead]⟩,fun x=> .inl x.1.1⟩,⟨(Ex.exit 0),⟨[.any],[.dead, .dead]⟩,fun x=> .inr (())⟩]
def ajB (aaK:M.af->M.af->Option (Bool)):gZ K:=jh D false 53 2 [2,3,5] [4] ⟨[.ptr 0 0, .ptr 1 0, .int .i64],[.el U.Value, .el U.Value]⟩ (fun x=>M.acS aaK aP x.1.2.2.1 x.2.1 x.2.2.1) aji
def ain (aaK:M.af->M.af->Option (Bool)):Cx K:={iG with mode:=aV .plain [(69, .plain)],call:=callOf D [adp aaK],loop:=aU [(4,ajB aaK)]}
theorem ajC (aaK:M.af->M.af->Option (Bool)) (aft:(adp aaK).Ok D Tryz.prog):aG (ain aaK):=aB aH _ (aA aft (bg))
theorem aks (aaK:M.af->M.af->Option (Bool)) (aft:(adp aaK).Ok D Tryz.prog):eG (ain aaK) (eQ (fG Tryz.f69) 0) (ajB aaK):=
 dU (cx:=ain aaK) (n:=53) (n0:=2) (ins:=[2,3,5]) (outs:=[4]) (sh:=⟨[.ptr 0 0, .ptr 1 0, .int .i64],[.el U.Value, .el U.Value]⟩) (run:=fun n x=>M.acS aaK n x.1.2.2.1 x.2.1 x.2.2.1) (iW:=akz) (out:=aji) aH (ajC aaK aft) ai (az (by kernel_rfl)) (fun _=>rfl) (fun m x=>by kernel_rfl) (aA ⟨oN,fun _ _ _=>rfl⟩ (aA ⟨dV,fun _ _ _=>rfl⟩ (bg))) false aP
theorem akL (aaK:M.af->M.af->Option (Bool)) (aft:(adp aaK).Ok D Tryz.prog):(adp (M.ah3 aaK)).Ok D Tryz.prog:=
 aW (cx:=ain aaK) (c:=adp (M.ah3 aaK)) (fz:=true) (fn:=Tryz.f69) aH (ajC aaK aft) ai ⟨Tryz.func69,by kernel_rfl⟩ (aX (bV 1 (by kernel_rfl) (gI (.mk (by kernel_rfl) (aks aaK aft))))) ⟨⟨[.bool],[]⟩,fun x=>x.1.1⟩ (fun x=>rfl) (fun x=>by kernel_rfl)
theorem ajD : ∀n,(adp (M.adr n)).Ok D Tryz.prog
 |0=>oO fun _=>rfl
 |n+1=>akL (M.adr n) (ajD n)
theorem ak1 : (adp (M.ajx)).Ok D Tryz.prog:=ajD aP
def aio (y:(Bool)⊕(Unit)) {R:Type} (k:Ex->List (AV K)->List (Ob K)->R):R:=match y with
 | .inl a0=>k Ex.ret (gB.gW D ⟨[.bool],[]⟩ ((a0,()),())) (gB.gY D ⟨[.bool],[]⟩ ((a0,()),()))
 | .inr (a1)=>k (Ex.exit 0) (gB.gW D ⟨[.any],[]⟩ (((),()),())) (gB.gY D ⟨[.any],[]⟩ (((),()),()))
def ajT : List (jb K ((Bool)⊕(Unit))):=[⟨Ex.ret,⟨[.bool],[]⟩,fun x=> .inl x.1.1⟩,⟨(Ex.exit 0),⟨[.any],[]⟩,fun x=> .inr (())⟩]
def aiM : gZ K:=jh D false 27 0 [0,1,5] [4] ⟨[.bn U.Value, .bn U.Value, .int .i64],[]⟩ (fun x=>M.acI x.1.1 x.1.2.1 aP x.1.2.2.1) aio
def ah1 (m:(List M.af)->(List M.af)->Option (Bool)):bI K:={f:=45,sh:=⟨[.bn U.Value, .bn U.Value],[]⟩,R:=Bool,run:=fun x=>m x.1.1 x.1.2.1,dflt:=default,out:=fun r=>(Sh.enc D (.bool) r,dK.encs D [] ())}
def agJ : Cx K:={iG with mode:=aV .plain [(69, .plain)],call:=callOf D [adp M.ajx],loop:=aU [(4,aiM)]}
theorem aiN : aG (agJ):=aB aH _ (aA ak1 (bg))
theorem ajL : eG (agJ) (eQ (fG Tryz.f45) 0) (aiM):=
 dU (cx:=agJ) (n:=27) (n0:=0) (ins:=[0,1,5]) (outs:=[4]) (sh:=⟨[.bn U.Value, .bn U.Value, .int .i64],[]⟩) (run:=fun n x=>M.acI x.1.1 x.1.2.1 n x.1.2.2.1) (iW:=ajT) (out:=aio) aH (aiN) ai (az (by kernel_rfl)) (fun _=>rfl) (fun m x=>by kernel_rfl) (aA ⟨oN,fun _ _ _=>rfl⟩ (aA ⟨dV,fun _ _ _=>rfl⟩ (bg))) false aP
theorem akt : (ah1 (M.afD)).Ok D Tryz.prog:=
 aW (cx:=agJ) (c:=ah1 (M.afD)) (fz:=true) (fn:=Tryz.f45) aH (aiN) ai ⟨Tryz.func45,by kernel_rfl⟩ (aX (bV 1 (by kernel_rfl) (gI (.mk (by kernel_rfl) (ajL))))) ⟨⟨[.bool],[]⟩,fun x=>x.1.1⟩ (fun x=>rfl) (fun x=>by kernel_rfl)
def aiC (m:M.ah->M.ah->Option (Bool)):bI K:={f:=9,sh:=⟨[.el U.Stream, .el U.Stream],[]⟩,R:=Bool,run:=fun x=>m x.1.1 x.1.2.1,dflt:=default,out:=fun r=>(Sh.enc D (.bool) r,dK.encs D [] ())}
def ajQ : Cx K:={iG with mode:=aV .plain [(44, .plain),(45, .plain)],call:=callOf D [ajh M.aiB,ah1 M.afD],loop:=aU []}
theorem akA : aG (ajQ):=aB aH _ (aA ak9 (aA akt (bg)))
theorem akU : (aiC (M.ahg)).Ok D Tryz.prog:=
 aW (cx:=ajQ) (c:=aiC (M.ahg)) (fz:=true) (fn:=Tryz.f9) aH (akA) ai ⟨Tryz.func9,by kernel_rfl⟩ (aX (az (by kernel_rfl))) ⟨⟨[.bool],[]⟩,fun x=>x.1.1⟩ (fun x=>rfl) (fun x=>by kernel_rfl)
def ajj (y:(Bool)⊕(Int×Int×(List UInt8)×Int×Bool×Int×Int×Bool×Bool×(List M.af)×(List (List UInt8))×(List M.ae)×(List M.af))) {R:Type} (k:Ex->List (AV K)->List (Ob K)->R):R:=match y with
 | .inl a0=>k Ex.ret (gB.gW D ⟨[.any, .any, .any, .bool],[.dead, .dead, .dead, .dead, .dead, .dead, .dead, .dead, .dead]⟩ (((),((),((),(a0,())))),((),((),((),((),((),((),((),((),((),()))))))))))) (gB.gY D ⟨[.any, .any, .any, .bool],[.dead, .dead, .dead, .dead, .dead, .dead, .dead, .dead, .dead]⟩ (((),((),((),(a0,())))),((),((),((),((),((),((),((),((),((),())))))))))))
 | .inr (a1)=>k (Ex.exit 0) (gB.gW D ⟨[.int .i64, .ptr 0 0, .own 5, .any],[.box [.int .i64, .str, .own 6, .own 7, .int .i64, .bool, .own 8, .int .i64, .int .i64, .bool, .bool], .dead, .dead, .dead, .dead, .tree U.Value, .arr U.str, .tree U.Type, .tree U.Value]⟩ ((a1.1,((),((),((),())))),((a1.2.1,(a1.2.2.1,((),((),(a1.2.2.2.1,(a1.2.2.2.2.1,((),(a1.2.2.2.2.2.1,(a1.2.2.2.2.2.2.1,(a1.2.2.2.2.2.2.2.1,(a1.2.2.2.2.2.2.2.2.1,()))))))))))),((),((),((),((),(a1.2.2.2.2.2.2.2.2.2.1,(a1.2.2.2.2.2.2.2.2.2.2.1,(a1.2.2.2.2.2.2.2.2.2.2.2.1,(a1.2.2.2.2.2.2.2.2.2.2.2.2,()))))))))))) (gB.gY D ⟨[.int .i64, .ptr 0 0, .own 5, .any],[.box [.int .i64, .str, .own 6, .own 7, .int .i64, .bool, .own 8, .int .i64, .int .i64, .bool, .bool], .dead, .dead, .dead, .dead, .tree U.Value, .arr U.str, .tree U.Type, .tree U.Value]⟩ ((a1.1,((),((),((),())))),((a1.2.1,(a1.2.2.1,((),((),(a1.2.2.2.1,(a1.2.2.2.2.1,((),(a1.2.2.2.2.2.1,(a1.2.2.2.2.2.2.1,(a1.2.2.2.2.2.2.2.1,(a1.2.2.2.2.2.2.2.2.1,()))))))))))),((),((),((),((),(a1.2.2.2.2.2.2.2.2.2.1,(a1.2.2.2.2.2.2.2.2.2.2.1,(a1.2.2.2.2.2.2.2.2.2.2.2.1,(a1.2.2.2.2.2.2.2.2.2.2.2.2,())))))))))))
def akB : List (jb K ((Bool)⊕(Int×Int×(List UInt8)×Int×Bool×Int×Int×Bool×Bool×(List M.af)×(List (List UInt8))×(List M.ae)×(List M.af)))):=[⟨Ex.ret,⟨[.any, .any, .any, .bool],[.dead, .dead, .dead, .dead, .dead, .dead, .dead, .dead, .dead]⟩,fun x=> .inl x.1.2.2.2.1⟩,⟨(Ex.exit 0),⟨[.int .i64, .ptr 0 0, .own 5, .any],[.box [.int .i64, .str, .own 6, .own 7, .int .i64, .bool, .own 8, .int .i64, .int .i64, .bool, .bool], .dead, .dead, .dead, .dead, .tree U.Value, .arr U.str, .tree U.Type, .tree U.Value]⟩,fun x=> .inr ((x.1.1,x.2.1.1,x.2.1.2.1,x.2.1.2.2.2.2.1,x.2.1.2.2.2.2.2.1,x.2.1.2.2.2.2.2.2.2.1,x.2.1.2.2.2.2.2.2.2.2.1,x.2.1.2.2.2.2.2.2.2.2.2.1,x.2.1.2.2.2.2.2.2.2.2.2.2.1,x.2.2.2.2.2.2.1,x.2.2.2.2.2.2.2.1,x.2.2.2.2.2.2.2.2.1,x.2.2.2.2.2.2.2.2.2.1))⟩]
def ajI : gZ K:=jh D false 120 5 [4,6,7,12] [4,6,7,2] ⟨[.int .i64, .ptr 0 0, .own 5, .int .i64],[.box [.int .i64, .str, .own 6, .own 7, .int .i64, .bool, .own 8, .int .i64, .int .i64, .bool, .bool], .dead, .dead, .dead, .dead, .tree U.Value, .arr U.str, .tree U.Type, .tree U.Value]⟩ (fun x=>M.ac8 x.1.1 x.2.1.1 x.2.1.2.1 x.2.1.2.2.2.2.1 x.2.1.2.2.2.2.2.1 x.2.1.2.2.2.2.2.2.2.1 x.2.1.2.2.2.2.2.2.2.2.1 x.2.1.2.2.2.2.2.2.2.2.2.1 x.2.1.2.2.2.2.2.2.2.2.2.2.1 x.2.2.2.2.2.2.1 x.2.2.2.2.2.2.2.1 x.2.2.2.2.2.2.2.2.1 x.2.2.2.2.2.2.2.2.2.1 aP x.1.2.2.2.1) ajj
def ajk (y:(Bool)⊕(Int×(List UInt8)×Int×Bool×Int×Int×Bool×Bool×(List M.af)×(List (List UInt8))×(List M.ae)×(List M.af))) {R:Type} (k:Ex->List (AV K)->List (Ob K)->R):R:=match y with
 | .inl a0=>k Ex.ret (gB.gW D ⟨[.any, .any, .bool],[.dead, .dead, .dead, .dead, .dead, .dead, .dead, .dead, .dead]⟩ (((),((),(a0,()))),((),((),((),((),((),((),((),((),((),()))))))))))) (gB.gY D ⟨[.any, .any, .bool],[.dead, .dead, .dead, .dead, .dead, .dead, .dead, .dead, .dead]⟩ (((),((),(a0,()))),((),((),((),((),((),((),((),((),((),())))))))))))
 | .inr (a1)=>k (Ex.exit 2) (gB.gW D ⟨[.ptr 0 0, .own 5, .any],[.box [.int .i64, .str, .own 6, .own 7, .int .i64, .bool, .own 8, .int .i64, .int .i64, .bool, .bool], .dead, .dead, .dead, .dead, .tree U.Value, .arr U.str, .tree U.Type, .tree U.Value]⟩ (((),((),((),()))),((a1.1,(a1.2.1,((),((),(a1.2.2.1,(a1.2.2.2.1,((),(a1.2.2.2.2.1,(a1.2.2.2.2.2.1,(a1.2.2.2.2.2.2.1,(a1.2.2.2.2.2.2.2.1,()))))))))))),((),((),((),((),(a1.2.2.2.2.2.2.2.2.1,(a1.2.2.2.2.2.2.2.2.2.1,(a1.2.2.2.2.2.2.2.2.2.2.1,(a1.2.2.2.2.2.2.2.2.2.2.2,()))))))))))) (gB.gY D ⟨[.ptr 0 0, .own 5, .any],[.box [.int .i64, .str, .own 6, .own 7, .int .i64, .bool, .own 8, .int .i64, .int .i64, .bool, .bool], .dead, .dead, .dead, .dead, .tree U.Value, .arr U.str, .tree U.Type, .tree U.Value]⟩ (((),((),((),()))),((a1.1,(a1.2.1,((),((),(a1.2.2.1,(a1.2.2.2.1,((),(a1.2.2.2.2.1,(a1.2.2.2.2.2.1,(a1.2.2.2.2.2.2.1,(a1.2.2.2.2.2.2.2.1,()))))))))))),((),((),((),((),(a1.2.2.2.2.2.2.2.2.1,(a1.2.2.2.2.2.2.2.2.2.1,(a1.2.2.2.2.2.2.2.2.2.2.1,(a1.2.2.2.2.2.2.2.2.2.2.2,())))))))))))
def akC : List (jb K ((Bool)⊕(Int×(List UInt8)×Int×Bool×Int×Int×Bool×Bool×(List M.af)×(List (List UInt8))×(List M.ae)×(List M.af)))):=[⟨Ex.ret,⟨[.any, .any, .bool],[.dead, .dead, .dead, .dead, .dead, .dead, .dead, .dead, .dead]⟩,fun x=> .inl x.1.2.2.1⟩,⟨(Ex.exit 2),⟨[.ptr 0 0, .own 5, .any],[.box [.int .i64, .str, .own 6, .own 7, .int .i64, .bool, .own 8, .int .i64, .int .i64, .bool, .bool], .dead, .dead, .dead, .dead, .tree U.Value, .arr U.str, .tree U.Type, .tree U.Value]⟩,fun x=> .inr ((x.2.1.1,x.2.1.2.1,x.2.1.2.2.2.2.1,x.2.1.2.2.2.2.2.1,x.2.1.2.2.2.2.2.2.2.1,x.2.1.2.2.2.2.2.2.2.2.1,x.2.1.2.2.2.2.2.2.2.2.2.1,x.2.1.2.2.2.2.2.2.2.2.2.2.1,x.2.2.2.2.2.2.1,x.2.2.2.2.2.2.2.1,x.2.2.2.2.2.2.2.2.1,x.2.2.2.2.2.2.2.2.2.1))⟩]
def ajJ : gZ K:=jh D false 120 5 [4,6,7,13] [6,7,2] ⟨[.int .i64, .ptr 0 0, .own 5, .int .i64],[.box [.int .i64, .str, .own 6, .own 7, .int .i64, .bool, .own 8, .int .i64, .int .i64, .bool, .bool], .dead, .dead, .dead, .dead, .tree U.Value, .arr U.str, .tree U.Type, .tree U.Value]⟩ (fun x=>M.ado x.1.1 x.2.1.1 x.2.1.2.1 x.2.1.2.2.2.2.1 x.2.1.2.2.2.2.2.1 x.2.1.2.2.2.2.2.2.2.1 x.2.1.2.2.2.2.2.2.2.2.1 x.2.1.2.2.2.2.2.2.2.2.2.1 x.2.1.2.2.2.2.2.2.2.2.2.2.1 x.2.2.2.2.2.2.1 x.2.2.2.2.2.2.2.1 x.2.2.2.2.2.2.2.2.1 x.2.2.2.2.2.2.2.2.2.1 aP x.1.2.2.2.1) ajk
def aiR (m:(List UInt8)->Option (Bool)):bI K:={f:=3,sh:=⟨[.bn U.u8],[]⟩,R:=Bool,run:=fun x=>m x.1.1,dflt:=default,out:=fun r=>(Sh.enc D (.bool) r,dK.encs D [] ())}
def afU : Cx K:={iG with mode:=aV .plain [(5, .plain),(6, .oU),(7, .fresh),(8, .oU),(9, .plain),(10, .plain)],call:=callOf D [Ik M.NF,ag4 M.afe,aiy M.ahb,aix M.ag6,aiC M.ahg,nS M.je],loop:=aU [(11,ajI),(16,ajJ)]}
theorem aiD : aG (afU):=aB aH _ (aA aaV (aA akg (aA akR (aA akQ (aA akU (aA yg (bg)))))))
theorem aku : eG (afU) (eQ (fG Tryz.f3) 0) (ajI):=
 dU (cx:=afU) (n:=120) (n0:=5) (ins:=[4,6,7,12]) (outs:=[4,6,7,2]) (sh:=⟨[.int .i64, .ptr 0 0, .own 5, .int .i64],[.box [.int .i64, .str, .own 6, .own 7, .int .i64, .bool, .own 8, .int .i64, .int .i64, .bool, .bool], .dead, .dead, .dead, .dead, .tree U.Value, .arr U.str, .tree U.Type, .tree U.Value]⟩) (run:=fun n x=>M.ac8 x.1.1 x.2.1.1 x.2.1.2.1 x.2.1.2.2.2.2.1 x.2.1.2.2.2.2.2.1 x.2.1.2.2.2.2.2.2.2.1 x.2.1.2.2.2.2.2.2.2.2.1 x.2.1.2.2.2.2.2.2.2.2.2.1 x.2.1.2.2.2.2.2.2.2.2.2.2.1 x.2.2.2.2.2.2.1 x.2.2.2.2.2.2.2.1 x.2.2.2.2.2.2.2.2.1 x.2.2.2.2.2.2.2.2.2.1 n x.1.2.2.2.1) (iW:=akB) (out:=ajj) aH (aiD) ai (az (by kernel_rfl)) (fun _=>rfl) (fun m x=>by kernel_rfl) (aA ⟨oN,fun _ _ _=>rfl⟩ (aA ⟨dV,fun _ _ _=>rfl⟩ (bg))) false aP
theorem akv : eG (afU) (eQ (fG Tryz.f3) 1) (ajJ):=
 dU (cx:=afU) (n:=120) (n0:=5) (ins:=[4,6,7,13]) (outs:=[6,7,2]) (sh:=⟨[.int .i64, .ptr 0 0, .own 5, .int .i64],[.box [.int .i64, .str, .own 6, .own 7, .int .i64, .bool, .own 8, .int .i64, .int .i64, .bool, .bool], .dead, .dead, .dead, .dead, .tree U.Value, .arr U.str, .tree U.Type, .tree U.Value]⟩) (run:=fun n x=>M.ado x.1.1 x.2.1.1 x.2.1.2.1 x.2.1.2.2.2.2.1 x.2.1.2.2.2.2.2.1 x.2.1.2.2.2.2.2.2.2.1 x.2.1.2.2.2.2.2.2.2.2.1 x.2.1.2.2.2.2.2.2.2.2.2.1 x.2.1.2.2.2.2.2.2.2.2.2.2.1 x.2.2.2.2.2.2.1 x.2.2.2.2.2.2.2.1 x.2.2.2.2.2.2.2.2.1 x.2.2.2.2.2.2.2.2.2.1 n x.1.2.2.2.1) (iW:=akC) (out:=ajk) aH (aiD) ai (az (by kernel_rfl)) (fun _=>rfl) (fun m x=>by kernel_rfl) (aA ⟨oN,fun _ _ _=>rfl⟩ (aA ⟨dV,fun _ _ _=>rfl⟩ (bg))) false aP
theorem ak2 : (aiR (M.aif)).Ok D Tryz.prog:=
 aW (cx:=afU) (c:=aiR (M.aif)) (fz:=true) (fn:=Tryz.f3) aH (aiD) ai ⟨Tryz.func3,by kernel_rfl⟩ (aX (bV 2 (by kernel_rfl) (lt_succ (gI (.mk (by kernel_rfl) (aku))) (.mk (by kernel_rfl) (akv))))) ⟨⟨[.bool],[]⟩,fun x=>x.1.1⟩ (fun x=>rfl) (fun x=>by kernel_rfl)
