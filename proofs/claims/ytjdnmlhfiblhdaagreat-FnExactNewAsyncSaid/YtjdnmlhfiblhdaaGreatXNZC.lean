/-
  Part of the proof of the claim.
-/
import Derived.Test.YtjdnmlhfiblhdaaGreatXNZM
import Derived.Test.YtjdnmlhfiblhdaaGreatXNHd3
import Derived.Test.YtjdnmlhfiblhdaaGreatXNHd4
import Derived.Test.YtjdnmlhfiblhdaaGreatXNHdS
import Derived.Test.YtjdnmlhfiblhdaaGreatXNHdKAop
import Derived.Test.YtjdnmlhfiblhdaaGreatXNHdKNote
import Derived.Test.YtjdnmlhfiblhdaaGreatProg
set_option linter.unusedVariables false
set_option maxRecDepth 100000
open Go Go.Proofs
open Go.V
noncomputable section
def abu : Go.TypeId->Option U:=bf [(2,U.i64),(3,U.i64),(4,U.bool),(5,U.u8),(6,U.u8),(9,U.str),(10,U.str),(11,U.str),(12,U.u64),(21,U.i32),(22,U.Jn),(23,U.Ih),(25,U.Jn),(26,U.BB),(27,U.NL),(28,U.NM),(30,U.Async),(43,U.SK),(45,U.Prog),(48,U.U9),(49,U.NP),(51,U.Type),(52,U.GR),(54,U.Stream),(57,U.SK),(59,U.Prog),(80,U.Note),(83,U.rP),(86,U.Task),(98,U.rP),(108,U.abv),(110,U.Value),(140,U.u64),(142,U.i64),(151,U.u32),(153,U.u64),(154,U.u64),(170,U.u8),(171,U.u8),(174,U.i32),(175,U.i32)]
def afs : Go.TypeId->List (Option U):=bu [] [(22,[some U.Prog]),(23,[some U.i64]),(25,[some U.Prog]),(26,[some U.Stream]),(27,[some U.Task]),(28,[some U.Note]),(30,[some U.Prog,some U.Stream,some U.Task,some U.i64,some U.Note]),(43,[some U.rP]),(45,[none,some U.rP]),(48,[some U.str]),(49,[some U.Type]),(51,[none,none,some U.str,some U.Type]),(52,[some U.Value]),(54,[none,none,some U.str,some U.Type,none,none,some U.Value,none,none,none,none]),(57,[some U.rP]),(59,[none,some U.rP]),(86,[none,none,none,none,none,none,none,none,none,some U.i64,some U.i64]),(108,[some U.u8]),(110,[none,none,none,some U.Value])]
theorem ai : Tryz.prog.follows .mixedOrders=true:=by kernel_rfl
def jh : Cx K:={P:=Tryz.prog,D:=D,ty:=abu,sls:=afs,mode:=bu .plain [],call:=callOf D [],loop:=bf []}
def BC (y:(Bool)⊕(Unit)) {R:Type} (k:Ex->List (AV K)->List (Ob K)->R):R:=match y with
 | .inl a0=>k Ex.ret (dw.dC D ⟨[.bool],[]⟩ ((a0,()),())) (dw.dI D ⟨[.bool],[]⟩ ((a0,()),()))
 | .inr (a1)=>k (Ex.exit 0) (dw.dC D ⟨[.any],[]⟩ (((),()),())) (dw.dI D ⟨[.any],[]⟩ (((),()),()))
def OY : List (dU K ((Bool)⊕(Unit))):=[⟨Ex.ret,⟨[.bool],[]⟩,fun x=> .inl x.1.1⟩,⟨(Ex.exit 0),⟨[.any],[]⟩,fun x=> .inr (())⟩]
def EU : dM K:=dX D false 26 0 [0,1,5] [4] ⟨[.bD U.str, .bD U.str, .int .i64],[]⟩ (fun x=>M.kS x.1.1 x.1.2.1 aF x.1.2.2.1) BC
def zD (m:(List (List UInt8))->(List (List UInt8))->Option (Bool)):bY K:={f:=93,sh:=⟨[.bD U.str, .bD U.str],[]⟩,R:=Bool,run:=fun x=>m x.1.1 x.1.2.1,dflt:=default,out:=fun r=>(Sh.enc D (.bool) r,dY.encs D [] ())}
def vM : Cx K:={jh with mode:=bu .plain [],call:=callOf D [],loop:=bf [(4,EU)]}
theorem EW : aI (vM):=aA aG _ (bn)
theorem NQ : bT (vM) (bU (bW Tryz.f93) 0) (EU):=
 bG (cx:=vM) (n:=26) (n0:=0) (ins:=[0,1,5]) (outs:=[4]) (sh:=⟨[.bD U.str, .bD U.str, .int .i64],[]⟩) (run:=fun n x=>M.kS x.1.1 x.1.2.1 n x.1.2.2.1) (dR:=OY) (out:=BC) aG (EW) ai (ay (by kernel_rfl)) (fun _=>rfl) (fun m x=>by kernel_rfl) (az ⟨fE,fun _ _ _=>rfl⟩ (az ⟨bH,fun _ _ _=>rfl⟩ (bn))) false aF
theorem Va : (zD (M.uM)).Ok D Tryz.prog:=
 bz (cx:=vM) (c:=zD (M.uM)) (fz:=true) (fn:=Tryz.f93) aG (EW) ai ⟨Tryz.func93,by kernel_rfl⟩ (bC (aP 1 (by kernel_rfl) (cZ (.mk (by kernel_rfl) (NQ))))) ⟨⟨[.bool],[]⟩,fun x=>x.1.1⟩ (fun x=>rfl) (fun x=>by kernel_rfl)
def iO (m:M.ae->M.ae->Option (Bool)):bY K:={f:=80,sh:=⟨[.el U.Type, .el U.Type],[]⟩,R:=Bool,run:=fun x=>m x.1.1 x.1.2.1,dflt:=default,out:=fun r=>(Sh.enc D (.bool) r,dY.encs D [] ())}
def EX (y:(Bool)⊕(Unit)) {R:Type} (k:Ex->List (AV K)->List (Ob K)->R):R:=match y with
 | .inl a0=>k Ex.ret (dw.dC D ⟨[.bool],[]⟩ ((a0,()),())) (dw.dI D ⟨[.bool],[]⟩ ((a0,()),()))
 | .inr (a1)=>k (Ex.exit 0) (dw.dC D ⟨[.any],[]⟩ (((),()),())) (dw.dI D ⟨[.any],[]⟩ (((),()),()))
def Uh : List (dU K ((Bool)⊕(Unit))):=[⟨Ex.ret,⟨[.bool],[]⟩,fun x=> .inl x.1.1⟩,⟨(Ex.exit 0),⟨[.any],[]⟩,fun x=> .inr (())⟩]
def Jo (aO:M.ae->M.ae->Option (Bool)):dM K:=dX D false 27 0 [0,1,5] [4] ⟨[.bD U.Type, .bD U.Type, .int .i64],[]⟩ (fun x=>M.oO aO x.1.1 x.1.2.1 aF x.1.2.2.1) EX
def Es (m:(List M.ae)->(List M.ae)->Option (Bool)):bY K:={f:=94,sh:=⟨[.bD U.Type, .bD U.Type],[]⟩,R:=Bool,run:=fun x=>m x.1.1 x.1.2.1,dflt:=default,out:=fun r=>(Sh.enc D (.bool) r,dY.encs D [] ())}
def Aj (aO:M.ae->M.ae->Option (Bool)):Cx K:={jh with mode:=bu .plain [(80, .plain)],call:=callOf D [iO aO],loop:=bf [(4,Jo aO)]}
theorem Jp (aO:M.ae->M.ae->Option (Bool)) (iJ:(iO aO).Ok D Tryz.prog):aI (Aj aO):=aA aG _ (az iJ (bn))
theorem QQ (aO:M.ae->M.ae->Option (Bool)) (iJ:(iO aO).Ok D Tryz.prog):bT (Aj aO) (bU (bW Tryz.f94) 0) (Jo aO):=
 bG (cx:=Aj aO) (n:=27) (n0:=0) (ins:=[0,1,5]) (outs:=[4]) (sh:=⟨[.bD U.Type, .bD U.Type, .int .i64],[]⟩) (run:=fun n x=>M.oO aO x.1.1 x.1.2.1 n x.1.2.2.1) (dR:=Uh) (out:=EX) aG (Jp aO iJ) ai (ay (by kernel_rfl)) (fun _=>rfl) (fun m x=>by kernel_rfl) (az ⟨fE,fun _ _ _=>rfl⟩ (az ⟨bH,fun _ _ _=>rfl⟩ (bn))) false aF
theorem YQ (aO:M.ae->M.ae->Option (Bool)) (iJ:(iO aO).Ok D Tryz.prog):(Es (M.AZ aO)).Ok D Tryz.prog:=
 bz (cx:=Aj aO) (c:=Es (M.AZ aO)) (fz:=true) (fn:=Tryz.f94) aG (Jp aO iJ) ai ⟨Tryz.func94,by kernel_rfl⟩ (bC (aP 1 (by kernel_rfl) (cZ (.mk (by kernel_rfl) (QQ aO iJ))))) ⟨⟨[.bool],[]⟩,fun x=>x.1.1⟩ (fun x=>rfl) (fun x=>by kernel_rfl)
def SL (aO:M.ae->M.ae->Option (Bool)):Cx K:={jh with mode:=bu .plain [(93, .plain),(94, .plain)],call:=callOf D [zD M.uM,Es (M.AZ aO)],loop:=bf []}
theorem Xo (aO:M.ae->M.ae->Option (Bool)) (iJ:(iO aO).Ok D Tryz.prog):aI (SL aO):=aA aG _ (az Va (az (YQ aO iJ) (bn)))
theorem Xp (aO:M.ae->M.ae->Option (Bool)) (iJ:(iO aO).Ok D Tryz.prog):(iO (M.BD aO)).Ok D Tryz.prog:=
 bz (cx:=SL aO) (c:=iO (M.BD aO)) (fz:=true) (fn:=Tryz.f80) aG (Xo aO iJ) ai ⟨Tryz.func80,by kernel_rfl⟩ (bC (ay (by kernel_rfl))) ⟨⟨[.bool],[]⟩,fun x=>x.1.1⟩ (fun x=>rfl) (fun x=>by kernel_rfl)
theorem MK : ∀n,(iO (M.tN n)).Ok D Tryz.prog
 |0=>nH fun _=>rfl
 |n+1=>Xp (M.tN n) (MK n)
theorem Z7 : (iO (M.OZ)).Ok D Tryz.prog:=MK aF
def ji (m:M.ae->Int->Option (Int×Int)):bY K:={f:=83,sh:=⟨[.el U.Type, .int .i64],[]⟩,R:=Int×Int,run:=fun x=>m x.1.1 x.1.2.1,dflt:=default,out:=fun r=>(Sh.enc D (.pR [.int .i64, .int .i64]) (r.1,(r.2,())),dY.encs D [] ())}
def GU (m:Int->Int->Option (Int)):bY K:={f:=96,sh:=⟨[.int .i64, .int .i64],[]⟩,R:=Int,run:=fun x=>m x.1.1 x.1.2.1,dflt:=default,out:=fun r=>(Sh.enc D (.int .i64) r,dY.encs D [] ())}
def SN : Cx K:={jh with mode:=bu .plain [],call:=callOf D [],loop:=bf []}
theorem Xq : aI (SN):=aA aG _ (bn)
theorem Z8 : (GU (M.yU)).Ok D Tryz.prog:=
 bz (cx:=SN) (c:=GU (M.yU)) (fz:=true) (fn:=Tryz.f96) aG (Xq) ai ⟨Tryz.func96,by kernel_rfl⟩ (bC (ay (by kernel_rfl))) ⟨⟨[.int .i64],[]⟩,fun x=>x.1.1⟩ (fun x=>rfl) (fun x=>by kernel_rfl)
def EY (y:(Int×Int)⊕(Int×Int)) {R:Type} (k:Ex->List (AV K)->List (Ob K)->R):R:=match y with
 | .inl a0=>k Ex.ret (dw.dC D ⟨[.any, .any, .int .i64, .int .i64],[.dead]⟩ (((),((),(a0.1,(a0.2,())))),((),()))) (dw.dI D ⟨[.any, .any, .int .i64, .int .i64],[.dead]⟩ (((),((),(a0.1,(a0.2,())))),((),())))
 | .inr (a1)=>k (Ex.exit 0) (dw.dC D ⟨[.int .i64, .int .i64, .any, .any],[.dead]⟩ ((a1.1,(a1.2,((),((),())))),((),()))) (dw.dI D ⟨[.int .i64, .int .i64, .any, .any],[.dead]⟩ ((a1.1,(a1.2,((),((),())))),((),())))
def Ui : List (dU K ((Int×Int)⊕(Int×Int))):=[⟨Ex.ret,⟨[.any, .any, .int .i64, .int .i64],[.dead]⟩,fun x=> .inl (x.1.2.2.1,x.1.2.2.2.1)⟩,⟨(Ex.exit 0),⟨[.int .i64, .int .i64, .any, .any],[.dead]⟩,fun x=> .inr ((x.1.1,x.1.2.1))⟩]
def Jq (bF:M.ae->Int->Option (Int×Int)):dM K:=dX D false 48 1 [1,2,6,7,8] [6,7,4,5] ⟨[.int .i64, .ptr 0 0, .int .i64, .int .i64, .int .i64],[.el U.Type]⟩ (fun x=>M.lU bF x.1.1 aF x.1.2.2.1 x.1.2.2.2.1 x.1.2.2.2.2.1 x.2.1) EY
def Ak (bF:M.ae->Int->Option (Int×Int)):Cx K:={jh with mode:=bu .plain [(83, .plain),(96, .plain)],call:=callOf D [ji bF,GU M.yU],loop:=bf [(6,Jq bF)]}
theorem Jr (bF:M.ae->Int->Option (Int×Int)) (nP:(ji bF).Ok D Tryz.prog):aI (Ak bF):=aA aG _ (az nP (az Z8 (bn)))
theorem QR (bF:M.ae->Int->Option (Int×Int)) (nP:(ji bF).Ok D Tryz.prog):bT (Ak bF) (bU (bW Tryz.f83) 0) (Jq bF):=
 bG (cx:=Ak bF) (n:=48) (n0:=1) (ins:=[1,2,6,7,8]) (outs:=[6,7,4,5]) (sh:=⟨[.int .i64, .ptr 0 0, .int .i64, .int .i64, .int .i64],[.el U.Type]⟩) (run:=fun n x=>M.lU bF x.1.1 n x.1.2.2.1 x.1.2.2.2.1 x.1.2.2.2.2.1 x.2.1) (dR:=Ui) (out:=EY) aG (Jr bF nP) ai (ay (by kernel_rfl)) (fun _=>rfl) (fun m x=>by kernel_rfl) (az ⟨fE,fun _ _ _=>rfl⟩ (az ⟨bH,fun _ _ _=>rfl⟩ (bn))) false aF
theorem Vb (bF:M.ae->Int->Option (Int×Int)) (nP:(ji bF).Ok D Tryz.prog):(ji (M.yT bF)).Ok D Tryz.prog:=
 bz (cx:=Ak bF) (c:=ji (M.yT bF)) (fz:=true) (fn:=Tryz.f83) aG (Jr bF nP) ai ⟨Tryz.func83,by kernel_rfl⟩ (bC (aP 1 (by kernel_rfl) (cZ (.mk (by kernel_rfl) (QR bF nP))))) ⟨⟨[.pR [.int .i64, .int .i64]],[]⟩,fun x=>(x.1.1.1,x.1.1.2.1)⟩ (fun x=>rfl) (fun x=>by kernel_rfl)
theorem Js : ∀n,(ji (M.ou n)).Ok D Tryz.prog
 |0=>nH fun _=>rfl
 |n+1=>Vb (M.ou n) (Js n)
theorem YR : (ji (M.Ll)).Ok D Tryz.prog:=Js aF
def qI (m:Int->Int->Int->Option (Bool)):bY K:={f:=40,sh:=⟨[.int .i64, .int .i64, .int .i64],[]⟩,R:=Bool,run:=fun x=>m x.1.1 x.1.2.1 x.1.2.2.1,dflt:=default,out:=fun r=>(Sh.enc D (.bool) r,dY.encs D [] ())}
def Vd : Cx K:={jh with mode:=bu .plain [],call:=callOf D [],loop:=bf []}
theorem YS : aI (Vd):=aA aG _ (bn)
theorem BF : (qI (M.GV)).Ok D Tryz.prog:=
 bz (cx:=Vd) (c:=qI (M.GV)) (fz:=true) (fn:=Tryz.f40) aG (YS) ai ⟨Tryz.func40,by kernel_rfl⟩ (bC (ay (by kernel_rfl))) ⟨⟨[.bool],[]⟩,fun x=>x.1.1⟩ (fun x=>rfl) (fun x=>by kernel_rfl)
def EZ (y:(Bool)⊕(Unit)) {R:Type} (k:Ex->List (AV K)->List (Ob K)->R):R:=match y with
 | .inl a0=>k Ex.ret (dw.dC D ⟨[.bool],[]⟩ ((a0,()),())) (dw.dI D ⟨[.bool],[]⟩ ((a0,()),()))
 | .inr (a1)=>k (Ex.exit 0) (dw.dC D ⟨[.any],[]⟩ (((),()),())) (dw.dI D ⟨[.any],[]⟩ (((),()),()))
def Uj : List (dU K ((Bool)⊕(Unit))):=[⟨Ex.ret,⟨[.bool],[]⟩,fun x=> .inl x.1.1⟩,⟨(Ex.exit 0),⟨[.any],[]⟩,fun x=> .inr (())⟩]
def Jt : dM K:=dX D false 69 0 [0,3] [2] ⟨[.str, .int .i64],[]⟩ (fun x=>M.oM x.1.1 aF x.1.2.1) EZ
def yc (m:(List UInt8)->Option (Bool)):bY K:={f:=106,sh:=⟨[.str],[]⟩,R:=Bool,run:=fun x=>m x.1.1,dflt:=default,out:=fun r=>(Sh.enc D (.bool) r,dY.encs D [] ())}
def Am : Cx K:={jh with mode:=bu .plain [],call:=callOf D [],loop:=bf [(4,Jt)]}
theorem Ju : aI (Am):=aA aG _ (bn)
theorem QS : bT (Am) (bU (bW Tryz.f106) 0) (Jt):=
 bG (cx:=Am) (n:=69) (n0:=0) (ins:=[0,3]) (outs:=[2]) (sh:=⟨[.str, .int .i64],[]⟩) (run:=fun n x=>M.oM x.1.1 n x.1.2.1) (dR:=Uj) (out:=EZ) aG (Ju) ai (ay (by kernel_rfl)) (fun _=>rfl) (fun m x=>by kernel_rfl) (az ⟨fE,fun _ _ _=>rfl⟩ (az ⟨bH,fun _ _ _=>rfl⟩ (bn))) false aF
theorem O0 : (yc (M.uk)).Ok D Tryz.prog:=
 bz (cx:=Am) (c:=yc (M.uk)) (fz:=true) (fn:=Tryz.f106) aG (Ju) ai ⟨Tryz.func106,by kernel_rfl⟩ (bC (aP 1 (by kernel_rfl) (cZ (.mk (by kernel_rfl) (QS))))) ⟨⟨[.bool],[]⟩,fun x=>x.1.1⟩ (fun x=>rfl) (fun x=>by kernel_rfl)
def y5 (y:(Bool)⊕((List (List UInt8))×Int)) {R:Type} (k:Ex->List (AV K)->List (Ob K)->R):R:=match y with
 | .inl a0=>k Ex.ret (dw.dC D ⟨[.any, .any, .bool],[]⟩ (((),((),(a0,()))),())) (dw.dI D ⟨[.any, .any, .bool],[]⟩ (((),((),(a0,()))),()))
 | .inr (a1)=>k (Ex.exit 2) (dw.dC D ⟨[.bD U.str, .int .i64, .any],[]⟩ ((a1.1,(a1.2,((),()))),())) (dw.dI D ⟨[.bD U.str, .int .i64, .any],[]⟩ ((a1.1,(a1.2,((),()))),()))
def LZ : List (dU K ((Bool)⊕((List (List UInt8))×Int))):=[⟨Ex.ret,⟨[.any, .any, .bool],[]⟩,fun x=> .inl x.1.2.2.1⟩,⟨(Ex.exit 2),⟨[.bD U.str, .int .i64, .any],[]⟩,fun x=> .inr ((x.1.1,x.1.2.1))⟩]
def BG : dM K:=dX D false 39 0 [0,3,4] [0,3,2] ⟨[.bD U.str, .int .i64, .int .i64],[]⟩ (fun x=>M.iq x.1.1 x.1.2.1 aF x.1.2.2.1) y5
def BH (y:(Bool)⊕(Unit)) {R:Type} (k:Ex->List (AV K)->List (Ob K)->R):R:=match y with
 | .inl a0=>k Ex.ret (dw.dC D ⟨[.bool],[]⟩ ((a0,()),())) (dw.dI D ⟨[.bool],[]⟩ ((a0,()),()))
 | .inr (a1)=>k (Ex.exit 0) (dw.dC D ⟨[.any],[]⟩ (((),()),())) (dw.dI D ⟨[.any],[]⟩ (((),()),()))
def O1 : List (dU K ((Bool)⊕(Unit))):=[⟨Ex.ret,⟨[.bool],[]⟩,fun x=> .inl x.1.1⟩,⟨(Ex.exit 0),⟨[.any],[]⟩,fun x=> .inr (())⟩]
def E5 : dM K:=dX D false 39 0 [0,3] [2] ⟨[.bD U.str, .int .i64],[]⟩ (fun x=>M.iM aF x.1.1 x.1.2.1) BH
def zF (m:(List (List UInt8))->Option (Bool)):bY K:={f:=107,sh:=⟨[.bD U.str],[]⟩,R:=Bool,run:=fun x=>m x.1.1,dflt:=default,out:=fun r=>(Sh.enc D (.bool) r,dY.encs D [] ())}
def nR : Cx K:={jh with mode:=bu .plain [(106, .plain)],call:=callOf D [yc M.uk],loop:=bf [(9,BG),(4,E5)]}
theorem xB : aI (nR):=aA aG _ (az O0 (bn))
theorem Jv : bT (nR) (bU (bU (bW Tryz.f107) 0) 0) (BG):=
 bG (cx:=nR) (n:=39) (n0:=0) (ins:=[0,3,4]) (outs:=[0,3,2]) (sh:=⟨[.bD U.str, .int .i64, .int .i64],[]⟩) (run:=fun n x=>M.iq x.1.1 x.1.2.1 n x.1.2.2.1) (dR:=LZ) (out:=y5) aG (xB) ai (ay (by kernel_rfl)) (fun _=>rfl) (fun m x=>by kernel_rfl) (az ⟨fE,fun _ _ _=>rfl⟩ (az ⟨bH,fun _ _ _=>rfl⟩ (bn))) false aF
theorem NR : bT (nR) (bU (bW Tryz.f107) 0) (E5):=
 bG (cx:=nR) (n:=39) (n0:=0) (ins:=[0,3]) (outs:=[2]) (sh:=⟨[.bD U.str, .int .i64],[]⟩) (run:=fun n x=>M.iM n x.1.1 x.1.2.1) (dR:=O1) (out:=BH) aG (xB) ai (aP 1 (by kernel_rfl) (cZ (.mk (by kernel_rfl) (Jv)))) (fun _=>rfl) (fun m x=>by kernel_rfl) (az ⟨fE,fun _ _ _=>rfl⟩ (az ⟨bH,fun _ _ _=>rfl⟩ (bn))) false aF
theorem Ve : (zF (M.um)).Ok D Tryz.prog:=
 bz (cx:=nR) (c:=zF (M.um)) (fz:=true) (fn:=Tryz.f107) aG (xB) ai ⟨Tryz.func107,by kernel_rfl⟩ (bC (aP 1 (by kernel_rfl) (cZ (.mk (by kernel_rfl) (NR))))) ⟨⟨[.bool],[]⟩,fun x=>x.1.1⟩ (fun x=>rfl) (fun x=>by kernel_rfl)
def Du (y:(Bool)⊕(Unit)) {R:Type} (k:Ex->List (AV K)->List (Ob K)->R):R:=match y with
 | .inl a0=>k Ex.ret (dw.dC D ⟨[.bool],[.dead]⟩ ((a0,()),((),()))) (dw.dI D ⟨[.bool],[.dead]⟩ ((a0,()),((),())))
 | .inr (a1)=>k (Ex.exit 0) (dw.dC D ⟨[.any],[.dead]⟩ (((),()),((),()))) (dw.dI D ⟨[.any],[.dead]⟩ (((),()),((),())))
def QT : List (dU K ((Bool)⊕(Unit))):=[⟨Ex.ret,⟨[.bool],[.dead]⟩,fun x=> .inl x.1.1⟩,⟨(Ex.exit 0),⟨[.any],[.dead]⟩,fun x=> .inr (())⟩]
def Ii : dM K:=dX D false 18 1 [1,3] [2] ⟨[.ptr 0 0, .int .i64],[.el U.Type]⟩ (fun x=>M.iH aF x.1.2.1 x.2.1) Du
def BI (m:M.ae->Option (Bool)):bY K:={f:=108,sh:=⟨[.el U.Type],[]⟩,R:=Bool,run:=fun x=>m x.1.1,dflt:=default,out:=fun r=>(Sh.enc D (.bool) r,dY.encs D [] ())}
def yf : Cx K:={jh with mode:=bu .plain [],call:=callOf D [],loop:=bf [(2,Ii)]}
theorem Ij : aI (yf):=aA aG _ (bn)
theorem O3 : bT (yf) (bU (bW Tryz.f108) 0) (Ii):=
 bG (cx:=yf) (n:=18) (n0:=1) (ins:=[1,3]) (outs:=[2]) (sh:=⟨[.ptr 0 0, .int .i64],[.el U.Type]⟩) (run:=fun n x=>M.iH n x.1.2.1 x.2.1) (dR:=QT) (out:=Du) aG (Ij) ai (ay (by kernel_rfl)) (fun _=>rfl) (fun m x=>by kernel_rfl) (az ⟨fE,fun _ _ _=>rfl⟩ (az ⟨bH,fun _ _ _=>rfl⟩ (bn))) false aF
theorem Xr : (BI (M.ql)).Ok D Tryz.prog:=
 bz (cx:=yf) (c:=BI (M.ql)) (fz:=true) (fn:=Tryz.f108) aG (Ij) ai ⟨Tryz.func108,by kernel_rfl⟩ (bC (aP 1 (by kernel_rfl) (cZ (.mk (by kernel_rfl) (O3))))) ⟨⟨[.bool],[]⟩,fun x=>x.1.1⟩ (fun x=>rfl) (fun x=>by kernel_rfl)
def jk (m:M.ae->Int->Int->Option (Bool)):bY K:={f:=68,sh:=⟨[.el U.Type, .int .i64, .int .i64],[]⟩,R:=Bool,run:=fun x=>m x.1.1 x.1.2.1 x.1.2.2.1,dflt:=default,out:=fun r=>(Sh.enc D (.bool) r,dY.encs D [] ())}
def Ik (y:(Bool)⊕(Unit)) {R:Type} (k:Ex->List (AV K)->List (Ob K)->R):R:=match y with
 | .inl a0=>k Ex.ret (dw.dC D ⟨[.bool],[.dead]⟩ ((a0,()),((),()))) (dw.dI D ⟨[.bool],[.dead]⟩ ((a0,()),((),())))
 | .inr (a1)=>k (Ex.exit 0) (dw.dC D ⟨[.any],[.dead]⟩ (((),()),((),()))) (dw.dI D ⟨[.any],[.dead]⟩ (((),()),((),())))
def Vf : List (dU K ((Bool)⊕(Unit))):=[⟨Ex.ret,⟨[.bool],[.dead]⟩,fun x=> .inl x.1.1⟩,⟨(Ex.exit 0),⟨[.any],[.dead]⟩,fun x=> .inr (())⟩]
def ML (bJ:M.ae->Int->Int->Option (Bool)):dM K:=dX D false 28 1 [1,2,3,7] [6] ⟨[.int .i64, .int .i64, .ptr 0 0, .int .i64],[.el U.Type]⟩ (fun x=>M.jQ bJ x.1.1 x.1.2.1 aF x.1.2.2.2.1 x.2.1) Ik
def Dv (bJ:M.ae->Int->Int->Option (Bool)):Cx K:={jh with mode:=bu .plain [(40, .plain),(68, .plain)],call:=callOf D [qI M.GV,jk bJ],loop:=bf [(4,ML bJ)]}
theorem MM (bJ:M.ae->Int->Int->Option (Bool)) (pU:(jk bJ).Ok D Tryz.prog):aI (Dv bJ):=aA aG _ (az BF (az pU (bn)))
theorem Uk (bJ:M.ae->Int->Int->Option (Bool)) (pU:(jk bJ).Ok D Tryz.prog):bT (Dv bJ) (bU (bW Tryz.f68) 0) (ML bJ):=
 bG (cx:=Dv bJ) (n:=28) (n0:=1) (ins:=[1,2,3,7]) (outs:=[6]) (sh:=⟨[.int .i64, .int .i64, .ptr 0 0, .int .i64],[.el U.Type]⟩) (run:=fun n x=>M.jQ bJ x.1.1 x.1.2.1 n x.1.2.2.2.1 x.2.1) (dR:=Vf) (out:=Ik) aG (MM bJ pU) ai (ay (by kernel_rfl)) (fun _=>rfl) (fun m x=>by kernel_rfl) (az ⟨fE,fun _ _ _=>rfl⟩ (az ⟨bH,fun _ _ _=>rfl⟩ (bn))) false aF
theorem Xt (bJ:M.ae->Int->Int->Option (Bool)) (pU:(jk bJ).Ok D Tryz.prog):(jk (M.Bo bJ)).Ok D Tryz.prog:=
 bz (cx:=Dv bJ) (c:=jk (M.Bo bJ)) (fz:=true) (fn:=Tryz.f68) aG (MM bJ pU) ai ⟨Tryz.func68,by kernel_rfl⟩ (bC (aP 1 (by kernel_rfl) (cZ (.mk (by kernel_rfl) (Uk bJ pU))))) ⟨⟨[.bool],[]⟩,fun x=>x.1.1⟩ (fun x=>rfl) (fun x=>by kernel_rfl)
theorem MN : ∀n,(jk (M.kM n)).Ok D Tryz.prog
 |0=>nH fun _=>rfl
 |n+1=>Xt (M.kM n) (MN n)
theorem SQ : (jk (M.sD)).Ok D Tryz.prog:=MN aF
def BJ (m:M.ae->Option (Bool)):bY K:={f:=97,sh:=⟨[.el U.Type],[]⟩,R:=Bool,run:=fun x=>m x.1.1,dflt:=default,out:=fun r=>(Sh.enc D (.bool) r,dY.encs D [] ())}
def MO : Cx K:={jh with mode:=bu .plain [(40, .plain),(106, .plain),(107, .plain),(108, .plain),(68, .plain)],call:=callOf D [qI M.GV,yc M.uk,zF M.um,BI M.ql,jk M.sD],loop:=bf []}
theorem Ul : aI (MO):=aA aG _ (az BF (az O0 (az Ve (az Xr (az SQ (bn))))))
theorem Xu : (BJ (M.xm)).Ok D Tryz.prog:=
 bz (cx:=MO) (c:=BJ (M.xm)) (fz:=true) (fn:=Tryz.f97) aG (Ul) ai ⟨Tryz.func97,by kernel_rfl⟩ (bC (ay (by kernel_rfl))) ⟨⟨[.bool],[]⟩,fun x=>x.1.1⟩ (fun x=>rfl) (fun x=>by kernel_rfl)
def iP (m:M.ae->Option (Bool)):bY K:={f:=84,sh:=⟨[.el U.Type],[]⟩,R:=Bool,run:=fun x=>m x.1.1,dflt:=default,out:=fun r=>(Sh.enc D (.bool) r,dY.encs D [] ())}
def Dw (y:(Bool)⊕(Unit)) {R:Type} (k:Ex->List (AV K)->List (Ob K)->R):R:=match y with
 | .inl a0=>k Ex.ret (dw.dC D ⟨[.bool],[.dead]⟩ ((a0,()),((),()))) (dw.dI D ⟨[.bool],[.dead]⟩ ((a0,()),((),())))
 | .inr (a1)=>k (Ex.exit 0) (dw.dC D ⟨[.any],[.dead]⟩ (((),()),((),()))) (dw.dI D ⟨[.any],[.dead]⟩ (((),()),((),())))
def QU : List (dU K ((Bool)⊕(Unit))):=[⟨Ex.ret,⟨[.bool],[.dead]⟩,fun x=> .inl x.1.1⟩,⟨(Ex.exit 0),⟨[.any],[.dead]⟩,fun x=> .inr (())⟩]
def Il (bg:M.ae->Option (Bool)):dM K:=dX D false 21 1 [1,3] [2] ⟨[.ptr 0 0, .int .i64],[.el U.Type]⟩ (fun x=>M.iI bg aF x.1.2.1 x.2.1) Dw
def yg (bg:M.ae->Option (Bool)):Cx K:={jh with mode:=bu .plain [(97, .plain),(84, .plain)],call:=callOf D [BJ M.xm,iP bg],loop:=bf [(4,Il bg)]}
theorem Io (bg:M.ae->Option (Bool)) (lN:(iP bg).Ok D Tryz.prog):aI (yg bg):=aA aG _ (az Xu (az lN (bn)))
theorem O4 (bg:M.ae->Option (Bool)) (lN:(iP bg).Ok D Tryz.prog):bT (yg bg) (bU (bW Tryz.f84) 0) (Il bg):=
 bG (cx:=yg bg) (n:=21) (n0:=1) (ins:=[1,3]) (outs:=[2]) (sh:=⟨[.ptr 0 0, .int .i64],[.el U.Type]⟩) (run:=fun n x=>M.iI bg n x.1.2.1 x.2.1) (dR:=QU) (out:=Dw) aG (Io bg lN) ai (ay (by kernel_rfl)) (fun _=>rfl) (fun m x=>by kernel_rfl) (az ⟨fE,fun _ _ _=>rfl⟩ (az ⟨bH,fun _ _ _=>rfl⟩ (bn))) false aF
theorem Um (bg:M.ae->Option (Bool)) (lN:(iP bg).Ok D Tryz.prog):(iP (M.vG bg)).Ok D Tryz.prog:=
 bz (cx:=yg bg) (c:=iP (M.vG bg)) (fz:=true) (fn:=Tryz.f84) aG (Io bg lN) ai ⟨Tryz.func84,by kernel_rfl⟩ (bC (aP 1 (by kernel_rfl) (cZ (.mk (by kernel_rfl) (O4 bg lN))))) ⟨⟨[.bool],[]⟩,fun x=>x.1.1⟩ (fun x=>rfl) (fun x=>by kernel_rfl)
theorem Ip : ∀n,(iP (M.jg n)).Ok D Tryz.prog
 |0=>nH fun _=>rfl
 |n+1=>Um (M.jg n) (Ip n)
theorem Xv : (iP (M.GM)).Ok D Tryz.prog:=Ip aF
def oP (m:M.ae->Int->Option (Int)):bY K:={f:=87,sh:=⟨[.el U.Type, .int .i64],[]⟩,R:=Int,run:=fun x=>m x.1.1 x.1.2.1,dflt:=default,out:=fun r=>(Sh.enc D (.int .i64) r,dY.encs D [] ())}
def MP (y:Int) {R:Type} (k:Ex->List (AV K)->List (Ob K)->R):R:=match y with
 |a0=>k (Ex.exit 0) (dw.dC D ⟨[.int .i64],[]⟩ ((a0,()),())) (dw.dI D ⟨[.int .i64],[]⟩ ((a0,()),()))
def YT : List (dU K (Int)):=[⟨(Ex.exit 0),⟨[.int .i64],[]⟩,fun x=>x.1.1⟩]
def SS (dA:M.ae->Int->Option (Int)):dM K:=dX D false 26 0 [1,5,11,12,13] [5] ⟨[.int .i64, .int .i64, .bD U.Type, .int .i64, .int .i64],[]⟩ (fun x=>M.uw dA x.1.1 x.1.2.2.1 x.1.2.2.2.1 aF x.1.2.1 x.1.2.2.2.2.1) MP
def Ls (dA:M.ae->Int->Option (Int)):Cx K:={jh with mode:=bu .plain [(87, .plain)],call:=callOf D [oP dA],loop:=bf [(5,SS dA)]}
theorem SV (dA:M.ae->Int->Option (Int)) (uN:(oP dA).Ok D Tryz.prog):aI (Ls dA):=aA aG _ (az uN (bn))
theorem Xw (dA:M.ae->Int->Option (Int)) (uN:(oP dA).Ok D Tryz.prog):bT (Ls dA) (bU (bW Tryz.f87) 0) (SS dA):=
 bG (cx:=Ls dA) (n:=26) (n0:=0) (ins:=[1,5,11,12,13]) (outs:=[5]) (sh:=⟨[.int .i64, .int .i64, .bD U.Type, .int .i64, .int .i64],[]⟩) (run:=fun n x=>M.uw dA x.1.1 x.1.2.2.1 x.1.2.2.2.1 n x.1.2.1 x.1.2.2.2.2.1) (dR:=YT) (out:=MP) aG (SV dA uN) ai (ay (by kernel_rfl)) (fun _=>rfl) (fun m x=>by kernel_rfl) (az ⟨bH,fun _ _ _=>rfl⟩ (bn)) false aF
theorem Z9 (dA:M.ae->Int->Option (Int)) (uN:(oP dA).Ok D Tryz.prog):(oP (M.Jl dA)).Ok D Tryz.prog:=
 bz (cx:=Ls dA) (c:=oP (M.Jl dA)) (fz:=true) (fn:=Tryz.f87) aG (SV dA uN) ai ⟨Tryz.func87,by kernel_rfl⟩ (bC (aP 1 (by kernel_rfl) (cZ (.mk (by kernel_rfl) (Xw dA uN))))) ⟨⟨[.int .i64],[]⟩,fun x=>x.1.1⟩ (fun x=>rfl) (fun x=>by kernel_rfl)
theorem SX : ∀n,(oP (M.yS n)).Ok D Tryz.prog
 |0=>nH fun _=>rfl
 |n+1=>Z9 (M.yS n) (SX n)
theorem adl : (oP (M.YK)).Ok D Tryz.prog:=SX aF
def lX (m:M.ae->Option (Int)):bY K:={f:=88,sh:=⟨[.el U.Type],[]⟩,R:=Int,run:=fun x=>m x.1.1,dflt:=default,out:=fun r=>(Sh.enc D (.int .i64) r,dY.encs D [] ())}
def Jw (y:Int) {R:Type} (k:Ex->List (AV K)->List (Ob K)->R):R:=match y with
 |a0=>k (Ex.exit 0) (dw.dC D ⟨[.int .i64],[]⟩ ((a0,()),())) (dw.dI D ⟨[.int .i64],[]⟩ ((a0,()),()))
def Xx : List (dU K (Int)):=[⟨(Ex.exit 0),⟨[.int .i64],[]⟩,fun x=>x.1.1⟩]
def O5 (bZ:M.ae->Option (Int)):dM K:=dX D false 19 0 [3,7,8,9] [3] ⟨[.int .i64, .bD U.Type, .int .i64, .int .i64],[]⟩ (fun x=>M.qm bZ x.1.2.1 x.1.2.2.1 aF x.1.1 x.1.2.2.2.1) Jw
def GX (bZ:M.ae->Option (Int)):Cx K:={jh with mode:=bu .plain [(88, .plain)],call:=callOf D [lX bZ],loop:=bf [(3,O5 bZ)]}
theorem O6 (bZ:M.ae->Option (Int)) (rf:(lX bZ).Ok D Tryz.prog):aI (GX bZ):=aA aG _ (az rf (bn))
theorem Vg (bZ:M.ae->Option (Int)) (rf:(lX bZ).Ok D Tryz.prog):bT (GX bZ) (bU (bW Tryz.f88) 0) (O5 bZ):=
 bG (cx:=GX bZ) (n:=19) (n0:=0) (ins:=[3,7,8,9]) (outs:=[3]) (sh:=⟨[.int .i64, .bD U.Type, .int .i64, .int .i64],[]⟩) (run:=fun n x=>M.qm bZ x.1.2.1 x.1.2.2.1 n x.1.1 x.1.2.2.2.1) (dR:=Xx) (out:=Jw) aG (O6 bZ rf) ai (ay (by kernel_rfl)) (fun _=>rfl) (fun m x=>by kernel_rfl) (az ⟨bH,fun _ _ _=>rfl⟩ (bn)) false aF
theorem YU (bZ:M.ae->Option (Int)) (rf:(lX bZ).Ok D Tryz.prog):(lX (M.ER bZ)).Ok D Tryz.prog:=
 bz (cx:=GX bZ) (c:=lX (M.ER bZ)) (fz:=true) (fn:=Tryz.f88) aG (O6 bZ rf) ai ⟨Tryz.func88,by kernel_rfl⟩ (bC (aP 1 (by kernel_rfl) (cZ (.mk (by kernel_rfl) (Vg bZ rf))))) ⟨⟨[.int .i64],[]⟩,fun x=>x.1.1⟩ (fun x=>rfl) (fun x=>by kernel_rfl)
theorem O7 : ∀n,(lX (M.uu n)).Ok D Tryz.prog
 |0=>nH fun _=>rfl
 |n+1=>YU (M.uu n) (O7 n)
theorem abw : (lX (M.UU)).Ok D Tryz.prog:=O7 aF
def eu (m:M.ae->Option (Bool)):bY K:={f:=89,sh:=⟨[.el U.Type],[]⟩,R:=Bool,run:=fun x=>m x.1.1,dflt:=default,out:=fun r=>(Sh.enc D (.bool) r,dY.encs D [] ())}
def xC (m:M.ae->Option (Bool)):bY K:={f:=98,sh:=⟨[.el U.Type],[]⟩,R:=Bool,run:=fun x=>m x.1.1,dflt:=default,out:=fun r=>(Sh.enc D (.bool) r,dY.encs D [] ())}
def Iq (aB:M.ae->Option (Bool)):Cx K:={jh with mode:=bu .plain [(89, .plain)],call:=callOf D [eu aB],loop:=bf []}
theorem O8 (aB:M.ae->Option (Bool)) (di:(eu aB).Ok D Tryz.prog):aI (Iq aB):=aA aG _ (az di (bn))
theorem Un (aB:M.ae->Option (Bool)) (di:(eu aB).Ok D Tryz.prog):(xC (M.qY aB)).Ok D Tryz.prog:=
 bz (cx:=Iq aB) (c:=xC (M.qY aB)) (fz:=true) (fn:=Tryz.f98) aG (O8 aB di) ai ⟨Tryz.func98,by kernel_rfl⟩ (bC (ay (by kernel_rfl))) ⟨⟨[.bool],[]⟩,fun x=>x.1.1⟩ (fun x=>rfl) (fun x=>by kernel_rfl)
def lD (y:(Int)⊕(Unit)) {R:Type} (k:Ex->List (AV K)->List (Ob K)->R):R:=match y with
 | .inl a0=>k Ex.ret (dw.dC D ⟨[.int .i64],[]⟩ ((a0,()),())) (dw.dI D ⟨[.int .i64],[]⟩ ((a0,()),()))
 | .inr (a1)=>k (Ex.exit 0) (dw.dC D ⟨[.any],[]⟩ (((),()),())) (dw.dI D ⟨[.any],[]⟩ (((),()),()))
def vN : List (dU K ((Int)⊕(Unit))):=[⟨Ex.ret,⟨[.int .i64],[]⟩,fun x=> .inl x.1.1⟩,⟨(Ex.exit 0),⟨[.any],[]⟩,fun x=> .inr (())⟩]
def ng (aB:M.ae->Option (Bool)):dM K:=dX D false 19 0 [0,1,7,8] [4] ⟨[.bD U.Type, .fn 98 [], .int .i64, .int .i64],[]⟩ (fun x=>M.dG aB x.1.1 x.1.2.2.1 aF x.1.2.2.2.1) lD
def je (m:(List M.ae)->Option (Int)):bY K:={f:=105,sh:=⟨[.bD U.Type, .fn 98 []],[]⟩,R:=Int,run:=fun x=>m x.1.1,dflt:=default,out:=fun r=>(Sh.enc D (.int .i64) r,dY.encs D [] ())}
def gB (aB:M.ae->Option (Bool)):Cx K:={jh with mode:=bu .plain [(98, .plain)],call:=callOf D [xC (M.qY aB)],loop:=bf [(2,ng aB)]}
theorem ni (aB:M.ae->Option (Bool)) (di:(eu aB).Ok D Tryz.prog):aI (gB aB):=aA aG _ (az (Un aB di) (bn))
theorem vk (aB:M.ae->Option (Bool)) (di:(eu aB).Ok D Tryz.prog):bT (gB aB) (bU (bW Tryz.f105) 0) (ng aB):=
 bG (cx:=gB aB) (n:=19) (n0:=0) (ins:=[0,1,7,8]) (outs:=[4]) (sh:=⟨[.bD U.Type, .fn 98 [], .int .i64, .int .i64],[]⟩) (run:=fun n x=>M.dG aB x.1.1 x.1.2.2.1 n x.1.2.2.2.1) (dR:=vN) (out:=lD) aG (ni aB di) ai (ay (by kernel_rfl)) (fun _=>rfl) (fun m x=>by kernel_rfl) (az ⟨fE,fun _ _ _=>rfl⟩ (az ⟨bH,fun _ _ _=>rfl⟩ (bn))) false aF
theorem y7 (aB:M.ae->Option (Bool)) (di:(eu aB).Ok D Tryz.prog):(je (M.fP aB)).Ok D Tryz.prog:=
 bz (cx:=gB aB) (c:=je (M.fP aB)) (fz:=true) (fn:=Tryz.f105) aG (ni aB di) ai ⟨Tryz.func105,by kernel_rfl⟩ (bC (aP 1 (by kernel_rfl) (cZ (.mk (by kernel_rfl) (vk aB di))))) ⟨⟨[.int .i64],[]⟩,fun x=>x.1.1⟩ (fun x=>rfl) (fun x=>by kernel_rfl)
def iE (m:(List M.ae)->Option (Bool)):bY K:={f:=91,sh:=⟨[.bD U.Type, .fn 98 []],[]⟩,R:=Bool,run:=fun x=>m x.1.1,dflt:=default,out:=fun r=>(Sh.enc D (.bool) r,dY.encs D [] ())}
def lY (aB:M.ae->Option (Bool)):Cx K:={jh with mode:=bu .plain [(105, .plain)],call:=callOf D [je (M.fP aB)],loop:=bf []}
theorem tV (aB:M.ae->Option (Bool)) (di:(eu aB).Ok D Tryz.prog):aI (lY aB):=aA aG _ (az (y7 aB di) (bn))
theorem vO (aB:M.ae->Option (Bool)) (di:(eu aB).Ok D Tryz.prog):(iE (M.dF aB)).Ok D Tryz.prog:=
 bz (cx:=lY aB) (c:=iE (M.dF aB)) (fz:=true) (fn:=Tryz.f91) aG (tV aB di) ai ⟨Tryz.func91,by kernel_rfl⟩ (bC (ay (by kernel_rfl))) ⟨⟨[.bool],[]⟩,fun x=>x.1.1⟩ (fun x=>rfl) (fun x=>by kernel_rfl)
def lZ (m:Int->Int->Int->Option (Bool)):bY K:={f:=43,sh:=⟨[.int .i64, .int .i64, .int .i64],[]⟩,R:=Bool,run:=fun x=>m x.1.1 x.1.2.1 x.1.2.2.1,dflt:=default,out:=fun r=>(Sh.enc D (.bool) r,dY.encs D [] ())}
def SY : Cx K:={jh with mode:=bu .plain [],call:=callOf D [],loop:=bf []}
theorem Xy : aI (SY):=aA aG _ (bn)
theorem uO : (lZ (M.y8)).Ok D Tryz.prog:=
 bz (cx:=SY) (c:=lZ (M.y8)) (fz:=true) (fn:=Tryz.f43) aG (Xy) ai ⟨Tryz.func43,by kernel_rfl⟩ (bC (ay (by kernel_rfl))) ⟨⟨[.bool],[]⟩,fun x=>x.1.1⟩ (fun x=>rfl) (fun x=>by kernel_rfl)
def qc (m:(List (List UInt8))->Option (Int)):bY K:={f:=103,sh:=⟨[.bD U.str],[]⟩,R:=Int,run:=fun x=>m x.1.1,dflt:=default,out:=fun r=>(Sh.enc D (.int .i64) r,dY.encs D [] ())}
def E8 : Cx K:={jh with mode:=bu .plain [],call:=callOf D [],loop:=bf []}
theorem NS : aI (E8):=aA aG _ (bn)
theorem Fa : (qc (M.yh)).Ok D Tryz.prog:=
 bz (cx:=E8) (c:=qc (M.yh)) (fz:=true) (fn:=Tryz.f103) aG (NS) ai ⟨Tryz.func103,by kernel_rfl⟩ (bC (ay (by kernel_rfl))) ⟨⟨[.int .i64],[]⟩,fun x=>x.1.1⟩ (fun x=>rfl) (fun x=>by kernel_rfl)
def Ir (y:(Bool)⊕((List UInt8))) {R:Type} (k:Ex->List (AV K)->List (Ob K)->R):R:=match y with
 | .inl a0=>k Ex.ret (dw.dC D ⟨[.any, .bool],[]⟩ (((),(a0,())),())) (dw.dI D ⟨[.any, .bool],[]⟩ (((),(a0,())),()))
 | .inr (a1)=>k (Ex.exit 0) (dw.dC D ⟨[.str, .any],[]⟩ ((a1,((),())),())) (dw.dI D ⟨[.str, .any],[]⟩ ((a1,((),())),()))
def Vh : List (dU K ((Bool)⊕((List UInt8)))):=[⟨Ex.ret,⟨[.any, .bool],[]⟩,fun x=> .inl x.1.2.1⟩,⟨(Ex.exit 0),⟨[.str, .any],[]⟩,fun x=> .inr (x.1.1)⟩]
def MQ : dM K:=dX D false 75 0 [0,7,8] [0,2] ⟨[.str, .int .i64, .int .i64],[]⟩ (fun x=>M.oh x.1.1 x.1.2.1 aF x.1.2.2.1) Ir
def Ap (m:(List UInt8)->Option (Bool)):bY K:={f:=100,sh:=⟨[.str],[]⟩,R:=Bool,run:=fun x=>m x.1.1,dflt:=default,out:=fun r=>(Sh.enc D (.bool) r,dY.encs D [] ())}
def Dx : Cx K:={jh with mode:=bu .plain [],call:=callOf D [],loop:=bf [(2,MQ)]}
theorem MR : aI (Dx):=aA aG _ (bn)
theorem Uo : bT (Dx) (bU (bW Tryz.f100) 0) (MQ):=
 bG (cx:=Dx) (n:=75) (n0:=0) (ins:=[0,7,8]) (outs:=[0,2]) (sh:=⟨[.str, .int .i64, .int .i64],[]⟩) (run:=fun n x=>M.oh x.1.1 x.1.2.1 n x.1.2.2.1) (dR:=Vh) (out:=Ir) aG (MR) ai (ay (by kernel_rfl)) (fun _=>rfl) (fun m x=>by kernel_rfl) (az ⟨fE,fun _ _ _=>rfl⟩ (az ⟨bH,fun _ _ _=>rfl⟩ (bn))) false aF
theorem S9 : (Ap (M.yQ)).Ok D Tryz.prog:=
 bz (cx:=Dx) (c:=Ap (M.yQ)) (fz:=true) (fn:=Tryz.f100) aG (MR) ai ⟨Tryz.func100,by kernel_rfl⟩ (bC (aP 1 (by kernel_rfl) (cZ (.mk (by kernel_rfl) (Uo))))) ⟨⟨[.bool],[]⟩,fun x=>x.1.1⟩ (fun x=>rfl) (fun x=>by kernel_rfl)
def vP (m:(List UInt8)->Option (Bool)):bY K:={f:=111,sh:=⟨[.str],[]⟩,R:=Bool,run:=fun x=>m x.1.1,dflt:=default,out:=fun r=>(Sh.enc D (.bool) r,dY.encs D [] ())}
def Fb : Cx K:={jh with mode:=bu .plain [(100, .plain)],call:=callOf D [Ap M.yQ],loop:=bf []}
theorem NT : aI (Fb):=aA aG _ (az S9 (bn))
theorem QV : (vP (M.pJ)).Ok D Tryz.prog:=
 bz (cx:=Fb) (c:=vP (M.pJ)) (fz:=true) (fn:=Tryz.f111) aG (NT) ai ⟨Tryz.func111,by kernel_rfl⟩ (bC (ay (by kernel_rfl))) ⟨⟨[.bool],[]⟩,fun x=>x.1.1⟩ (fun x=>rfl) (fun x=>by kernel_rfl)
def jy (y:(Int)⊕(Unit)) {R:Type} (k:Ex->List (AV K)->List (Ob K)->R):R:=match y with
 | .inl a0=>k Ex.ret (dw.dC D ⟨[.int .i64],[]⟩ ((a0,()),())) (dw.dI D ⟨[.int .i64],[]⟩ ((a0,()),()))
 | .inr (a1)=>k (Ex.exit 0) (dw.dC D ⟨[.any],[]⟩ (((),()),())) (dw.dI D ⟨[.any],[]⟩ (((),()),()))
def rQ : List (dU K ((Int)⊕(Unit))):=[⟨Ex.ret,⟨[.int .i64],[]⟩,fun x=> .inl x.1.1⟩,⟨(Ex.exit 0),⟨[.any],[]⟩,fun x=> .inr (())⟩]
def jU : dM K:=dX D false 19 0 [0,1,7,8] [4] ⟨[.bD U.str, .fn 111 [], .int .i64, .int .i64],[]⟩ (fun x=>M.cu x.1.1 x.1.2.2.1 aF x.1.2.2.2.1) jy
def ik (m:(List (List UInt8))->Option (Int)):bY K:={f:=115,sh:=⟨[.bD U.str, .fn 111 []],[]⟩,R:=Int,run:=fun x=>m x.1.1,dflt:=default,out:=fun r=>(Sh.enc D (.int .i64) r,dY.encs D [] ())}
def fG : Cx K:={jh with mode:=bu .plain [(111, .plain)],call:=callOf D [vP M.pJ],loop:=bf [(2,jU)]}
theorem jV : aI (fG):=aA aG _ (az QV (bn))
theorem rq : bT (fG) (bU (bW Tryz.f115) 0) (jU):=
 bG (cx:=fG) (n:=19) (n0:=0) (ins:=[0,1,7,8]) (outs:=[4]) (sh:=⟨[.bD U.str, .fn 111 [], .int .i64, .int .i64],[]⟩) (run:=fun n x=>M.cu x.1.1 x.1.2.2.1 n x.1.2.2.2.1) (dR:=rQ) (out:=jy) aG (jV) ai (ay (by kernel_rfl)) (fun _=>rfl) (fun m x=>by kernel_rfl) (az ⟨fE,fun _ _ _=>rfl⟩ (az ⟨bH,fun _ _ _=>rfl⟩ (bn))) false aF
theorem vz : (ik (M.eX)).Ok D Tryz.prog:=
 bz (cx:=fG) (c:=ik (M.eX)) (fz:=true) (fn:=Tryz.f115) aG (jV) ai ⟨Tryz.func115,by kernel_rfl⟩ (bC (aP 1 (by kernel_rfl) (cZ (.mk (by kernel_rfl) (rq))))) ⟨⟨[.int .i64],[]⟩,fun x=>x.1.1⟩ (fun x=>rfl) (fun x=>by kernel_rfl)
def gq (m:(List (List UInt8))->Option (Bool)):bY K:={f:=110,sh:=⟨[.bD U.str, .fn 111 []],[]⟩,R:=Bool,run:=fun x=>m x.1.1,dflt:=default,out:=fun r=>(Sh.enc D (.bool) r,dY.encs D [] ())}
def jJ : Cx K:={jh with mode:=bu .plain [(115, .plain)],call:=callOf D [ik M.eX],loop:=bf []}
theorem qJ : aI (jJ):=aA aG _ (az vz (bn))
theorem rU : (gq (M.dD)).Ok D Tryz.prog:=
 bz (cx:=jJ) (c:=gq (M.dD)) (fz:=true) (fn:=Tryz.f110) aG (qJ) ai ⟨Tryz.func110,by kernel_rfl⟩ (bC (ay (by kernel_rfl))) ⟨⟨[.bool],[]⟩,fun x=>x.1.1⟩ (fun x=>rfl) (fun x=>by kernel_rfl)
def BK (m:(List (List UInt8))->Option (Bool)):bY K:={f:=99,sh:=⟨[.bD U.str],[]⟩,R:=Bool,run:=fun x=>m x.1.1,dflt:=default,out:=fun r=>(Sh.enc D (.bool) r,dY.encs D [] ())}
def MS : Cx K:={jh with mode:=bu .plain [(103, .plain),(43, .plain),(109, .plain),(110, .plain)],call:=callOf D [qc M.yh,lZ M.y8,Bh M.qj,gq M.dD],loop:=bf []}
theorem Ur : aI (MS):=aA aG _ (az Fa (az uO (az Xj (az rU (bn)))))
theorem Xz : (BK (M.xk)).Ok D Tryz.prog:=
 bz (cx:=MS) (c:=BK (M.xk)) (fz:=true) (fn:=Tryz.f99) aG (Ur) ai ⟨Tryz.func99,by kernel_rfl⟩ (bC (ay (by kernel_rfl))) ⟨⟨[.bool],[]⟩,fun x=>x.1.1⟩ (fun x=>rfl) (fun x=>by kernel_rfl)
def sQ (m:(List M.ae)->Option (Int)):bY K:={f:=102,sh:=⟨[.bD U.Type],[]⟩,R:=Int,run:=fun x=>m x.1.1,dflt:=default,out:=fun r=>(Sh.enc D (.int .i64) r,dY.encs D [] ())}
def Jy : Cx K:={jh with mode:=bu .plain [],call:=callOf D [],loop:=bf []}
theorem QW : aI (Jy):=aA aG _ (bn)
theorem Jz : (sQ (M.Dy)).Ok D Tryz.prog:=
 bz (cx:=Jy) (c:=sQ (M.Dy)) (fz:=true) (fn:=Tryz.f102) aG (QW) ai ⟨Tryz.func102,by kernel_rfl⟩ (bC (ay (by kernel_rfl))) ⟨⟨[.int .i64],[]⟩,fun x=>x.1.1⟩ (fun x=>rfl) (fun x=>by kernel_rfl)
def Aq (m:M.ae->Option (Bool)):bY K:={f:=76,sh:=⟨[.el U.Type],[]⟩,R:=Bool,run:=fun x=>m x.1.1,dflt:=default,out:=fun r=>(Sh.enc D (.bool) r,dY.encs D [] ())}
def Tc : Cx K:={jh with mode:=bu .plain [],call:=callOf D [],loop:=bf []}
theorem XA : aI (Tc):=aA aG _ (bn)
theorem Td : (Aq (M.O9)).Ok D Tryz.prog:=
 bz (cx:=Tc) (c:=Aq (M.O9)) (fz:=true) (fn:=Tryz.f76) aG (XA) ai ⟨Tryz.func76,by kernel_rfl⟩ (bC (ay (by kernel_rfl))) ⟨⟨[.bool],[]⟩,fun x=>x.1.1⟩ (fun x=>rfl) (fun x=>by kernel_rfl)
def jW (y:(Int)⊕(Unit)) {R:Type} (k:Ex->List (AV K)->List (Ob K)->R):R:=match y with
 | .inl a0=>k Ex.ret (dw.dC D ⟨[.int .i64],[]⟩ ((a0,()),())) (dw.dI D ⟨[.int .i64],[]⟩ ((a0,()),()))
 | .inr (a1)=>k (Ex.exit 0) (dw.dC D ⟨[.any],[]⟩ (((),()),())) (dw.dI D ⟨[.any],[]⟩ (((),()),()))
def tX : List (dU K ((Int)⊕(Unit))):=[⟨Ex.ret,⟨[.int .i64],[]⟩,fun x=> .inl x.1.1⟩,⟨(Ex.exit 0),⟨[.any],[]⟩,fun x=> .inr (())⟩]
def lF : dM K:=dX D false 19 0 [0,1,7,8] [4] ⟨[.bD U.Type, .fn 76 [], .int .i64, .int .i64],[]⟩ (fun x=>M.dh x.1.1 x.1.2.2.1 aF x.1.2.2.2.1) jW
def iQ (m:(List M.ae)->Option (Int)):bY K:={f:=105,sh:=⟨[.bD U.Type, .fn 76 []],[]⟩,R:=Int,run:=fun x=>m x.1.1,dflt:=default,out:=fun r=>(Sh.enc D (.int .i64) r,dY.encs D [] ())}
def fM : Cx K:={jh with mode:=bu .plain [(76, .plain)],call:=callOf D [Aq M.O9],loop:=bf [(2,lF)]}
theorem lG : aI (fM):=aA aG _ (az Td (bn))
theorem sJ : bT (fM) (bU (bW Tryz.f105) 0) (lF):=
 bG (cx:=fM) (n:=19) (n0:=0) (ins:=[0,1,7,8]) (outs:=[4]) (sh:=⟨[.bD U.Type, .fn 76 [], .int .i64, .int .i64],[]⟩) (run:=fun n x=>M.dh x.1.1 x.1.2.2.1 n x.1.2.2.2.1) (dR:=tX) (out:=jW) aG (lG) ai (ay (by kernel_rfl)) (fun _=>rfl) (fun m x=>by kernel_rfl) (az ⟨fE,fun _ _ _=>rfl⟩ (az ⟨bH,fun _ _ _=>rfl⟩ (bn))) false aF
theorem wX : (iQ (M.fD)).Ok D Tryz.prog:=
 bz (cx:=fM) (c:=iQ (M.fD)) (fz:=true) (fn:=Tryz.f105) aG (lG) ai ⟨Tryz.func105,by kernel_rfl⟩ (bC (aP 1 (by kernel_rfl) (cZ (.mk (by kernel_rfl) (sJ))))) ⟨⟨[.int .i64],[]⟩,fun x=>x.1.1⟩ (fun x=>rfl) (fun x=>by kernel_rfl)
def gK (m:(List M.ae)->Option (Bool)):bY K:={f:=91,sh:=⟨[.bD U.Type, .fn 76 []],[]⟩,R:=Bool,run:=fun x=>m x.1.1,dflt:=default,out:=fun r=>(Sh.enc D (.bool) r,dY.encs D [] ())}
def kT : Cx K:={jh with mode:=bu .plain [(105, .plain)],call:=callOf D [iQ M.fD],loop:=bf []}
theorem rV : aI (kT):=aA aG _ (az wX (bn))
theorem tY : (gK (M.dO)).Ok D Tryz.prog:=
 bz (cx:=kT) (c:=gK (M.dO)) (fz:=true) (fn:=Tryz.f91) aG (rV) ai ⟨Tryz.func91,by kernel_rfl⟩ (bC (ay (by kernel_rfl))) ⟨⟨[.bool],[]⟩,fun x=>x.1.1⟩ (fun x=>rfl) (fun x=>by kernel_rfl)
def GY (m:M.ae->Int->Option (Bool)):bY K:={f:=101,sh:=⟨[.el U.Type, .int .i64],[]⟩,R:=Bool,run:=fun x=>m x.1.1 x.1.2.1,dflt:=default,out:=fun r=>(Sh.enc D (.bool) r,dY.encs D [] ())}
def Tf : Cx K:={jh with mode:=bu .plain [(102, .plain),(91, .plain)],call:=callOf D [sQ M.Dy,gK M.dO],loop:=bf []}
theorem XB : aI (Tf):=aA aG _ (az Jz (az tY (bn)))
theorem aab : (GY (M.vH)).Ok D Tryz.prog:=
 bz (cx:=Tf) (c:=GY (M.vH)) (fz:=true) (fn:=Tryz.f101) aG (XB) ai ⟨Tryz.func101,by kernel_rfl⟩ (bC (ay (by kernel_rfl))) ⟨⟨[.bool],[]⟩,fun x=>x.1.1⟩ (fun x=>rfl) (fun x=>by kernel_rfl)
def ny (y:(Int)⊕(Unit)) {R:Type} (k:Ex->List (AV K)->List (Ob K)->R):R:=match y with
 | .inl a0=>k Ex.ret (dw.dC D ⟨[.int .i64],[]⟩ ((a0,()),())) (dw.dI D ⟨[.int .i64],[]⟩ ((a0,()),()))
 | .inr (a1)=>k (Ex.exit 0) (dw.dC D ⟨[.any],[]⟩ (((),()),())) (dw.dI D ⟨[.any],[]⟩ (((),()),()))
def xE : List (dU K ((Int)⊕(Unit))):=[⟨Ex.ret,⟨[.int .i64],[]⟩,fun x=> .inl x.1.1⟩,⟨(Ex.exit 0),⟨[.any],[]⟩,fun x=> .inr (())⟩]
def oG : dM K:=dX D false 19 0 [0,1,7,8] [4] ⟨[.bD U.i64, .int .i64, .int .i64, .int .i64],[]⟩ (fun x=>M.dP x.1.1 x.1.2.1 x.1.2.2.1 aF x.1.2.2.2.1) ny
def jF (m:(List Int)->Int->Option (Int)):bY K:={f:=104,sh:=⟨[.bD U.i64, .int .i64],[]⟩,R:=Int,run:=fun x=>m x.1.1 x.1.2.1,dflt:=default,out:=fun r=>(Sh.enc D (.int .i64) r,dY.encs D [] ())}
def iy : Cx K:={jh with mode:=bu .plain [],call:=callOf D [],loop:=bf [(2,oG)]}
theorem oH : aI (iy):=aA aG _ (bn)
theorem wY : bT (iy) (bU (bW Tryz.f104) 0) (oG):=
 bG (cx:=iy) (n:=19) (n0:=0) (ins:=[0,1,7,8]) (outs:=[4]) (sh:=⟨[.bD U.i64, .int .i64, .int .i64, .int .i64],[]⟩) (run:=fun n x=>M.dP x.1.1 x.1.2.1 x.1.2.2.1 n x.1.2.2.2.1) (dR:=xE) (out:=ny) aG (oH) ai (ay (by kernel_rfl)) (fun _=>rfl) (fun m x=>by kernel_rfl) (az ⟨fE,fun _ _ _=>rfl⟩ (az ⟨bH,fun _ _ _=>rfl⟩ (bn))) false aF
theorem Ar : (jF (M.gI)).Ok D Tryz.prog:=
 bz (cx:=iy) (c:=jF (M.gI)) (fz:=true) (fn:=Tryz.f104) aG (oH) ai ⟨Tryz.func104,by kernel_rfl⟩ (bC (aP 1 (by kernel_rfl) (cZ (.mk (by kernel_rfl) (wY))))) ⟨⟨[.int .i64],[]⟩,fun x=>x.1.1⟩ (fun x=>rfl) (fun x=>by kernel_rfl)
def iY (m:(List Int)->Int->Option (Bool)):bY K:={f:=90,sh:=⟨[.bD U.i64, .int .i64],[]⟩,R:=Bool,run:=fun x=>m x.1.1 x.1.2.1,dflt:=default,out:=fun r=>(Sh.enc D (.bool) r,dY.encs D [] ())}
def nS : Cx K:={jh with mode:=bu .plain [(104, .plain)],call:=callOf D [jF M.gI],loop:=bf []}
theorem vS : aI (nS):=aA aG _ (az Ar (bn))
theorem xG : (iY (M.eG)).Ok D Tryz.prog:=
 bz (cx:=nS) (c:=iY (M.eG)) (fz:=true) (fn:=Tryz.f90) aG (vS) ai ⟨Tryz.func90,by kernel_rfl⟩ (bC (ay (by kernel_rfl))) ⟨⟨[.bool],[]⟩,fun x=>x.1.1⟩ (fun x=>rfl) (fun x=>by kernel_rfl)
def dZ (m:M.ae->(List Int)->Option (Bool)):bY K:={f:=77,sh:=⟨[.el U.Type, .bD U.i64],[]⟩,R:=Bool,run:=fun x=>m x.1.1 x.1.2.1,dflt:=default,out:=fun r=>(Sh.enc D (.bool) r,dY.encs D [] ())}
def xH (m:M.ae->(List Int)->Option (Bool)):bY K:={f:=92,sh:=⟨[.el U.Type, .rp U.Ih 0],[]⟩,R:=Bool,run:=fun x=>m x.1.1 x.1.2.1,dflt:=default,out:=fun r=>(Sh.enc D (.bool) r,dY.encs D [] ())}
def Iu (aC:M.ae->(List Int)->Option (Bool)):Cx K:={jh with mode:=bu .plain [(77, .plain)],call:=callOf D [dZ aC],loop:=bf []}
theorem Pg (aC:M.ae->(List Int)->Option (Bool)) (dm:(dZ aC).Ok D Tryz.prog):aI (Iu aC):=aA aG _ (az dm (bn))
theorem Us (aC:M.ae->(List Int)->Option (Bool)) (dm:(dZ aC).Ok D Tryz.prog):(xH (M.qX aC)).Ok D Tryz.prog:=
 bz (cx:=Iu aC) (c:=xH (M.qX aC)) (fz:=true) (fn:=Tryz.f92) aG (Pg aC dm) ai ⟨Tryz.func92,by kernel_rfl⟩ (bC (ay (by kernel_rfl))) ⟨⟨[.bool],[]⟩,fun x=>x.1.1⟩ (fun x=>rfl) (fun x=>by kernel_rfl)
def jX (y:(Int)⊕(Unit)) {R:Type} (k:Ex->List (AV K)->List (Ob K)->R):R:=match y with
 | .inl a0=>k Ex.ret (dw.dC D ⟨[.int .i64],[]⟩ ((a0,()),())) (dw.dI D ⟨[.int .i64],[]⟩ ((a0,()),()))
 | .inr (a1)=>k (Ex.exit 0) (dw.dC D ⟨[.any],[]⟩ (((),()),())) (dw.dI D ⟨[.any],[]⟩ (((),()),()))
def tZ : List (dU K ((Int)⊕(Unit))):=[⟨Ex.ret,⟨[.int .i64],[]⟩,fun x=> .inl x.1.1⟩,⟨(Ex.exit 0),⟨[.any],[]⟩,fun x=> .inr (())⟩]
def lH (aC:M.ae->(List Int)->Option (Bool)):dM K:=dX D false 19 0 [0,1,7,8] [4] ⟨[.bD U.Type, .fn 92 [.rp U.Ih 0], .int .i64, .int .i64],[]⟩ (fun x=>M.df aC x.1.1 x.1.2.1.1 x.1.2.2.1 aF x.1.2.2.2.1) jX
def iR (m:(List M.ae)->(List Int)->Option (Int)):bY K:={f:=105,sh:=⟨[.bD U.Type, .fn 92 [.rp U.Ih 0]],[]⟩,R:=Int,run:=fun x=>m x.1.1 x.1.2.1.1,dflt:=default,out:=fun r=>(Sh.enc D (.int .i64) r,dY.encs D [] ())}
def fO (aC:M.ae->(List Int)->Option (Bool)):Cx K:={jh with mode:=bu .plain [(92, .plain)],call:=callOf D [xH (M.qX aC)],loop:=bf [(2,lH aC)]}
theorem lI (aC:M.ae->(List Int)->Option (Bool)) (dm:(dZ aC).Ok D Tryz.prog):aI (fO aC):=aA aG _ (az (Us aC dm) (bn))
theorem sK (aC:M.ae->(List Int)->Option (Bool)) (dm:(dZ aC).Ok D Tryz.prog):bT (fO aC) (bU (bW Tryz.f105) 0) (lH aC):=
 bG (cx:=fO aC) (n:=19) (n0:=0) (ins:=[0,1,7,8]) (outs:=[4]) (sh:=⟨[.bD U.Type, .fn 92 [.rp U.Ih 0], .int .i64, .int .i64],[]⟩) (run:=fun n x=>M.df aC x.1.1 x.1.2.1.1 x.1.2.2.1 n x.1.2.2.2.1) (dR:=tZ) (out:=jX) aG (lI aC dm) ai (ay (by kernel_rfl)) (fun _=>rfl) (fun m x=>by kernel_rfl) (az ⟨fE,fun _ _ _=>rfl⟩ (az ⟨bH,fun _ _ _=>rfl⟩ (bn))) false aF
theorem wZ (aC:M.ae->(List Int)->Option (Bool)) (dm:(dZ aC).Ok D Tryz.prog):(iR (M.fC aC)).Ok D Tryz.prog:=
 bz (cx:=fO aC) (c:=iR (M.fC aC)) (fz:=true) (fn:=Tryz.f105) aG (lI aC dm) ai ⟨Tryz.func105,by kernel_rfl⟩ (bC (aP 1 (by kernel_rfl) (cZ (.mk (by kernel_rfl) (sK aC dm))))) ⟨⟨[.int .i64],[]⟩,fun x=>x.1.1⟩ (fun x=>rfl) (fun x=>by kernel_rfl)
def gQ (m:(List M.ae)->(List Int)->Option (Bool)):bY K:={f:=91,sh:=⟨[.bD U.Type, .fn 92 [.rp U.Ih 0]],[]⟩,R:=Bool,run:=fun x=>m x.1.1 x.1.2.1.1,dflt:=default,out:=fun r=>(Sh.enc D (.bool) r,dY.encs D [] ())}
def kU (aC:M.ae->(List Int)->Option (Bool)):Cx K:={jh with mode:=bu .plain [(105, .plain)],call:=callOf D [iR (M.fC aC)],loop:=bf []}
theorem rW (aC:M.ae->(List Int)->Option (Bool)) (dm:(dZ aC).Ok D Tryz.prog):aI (kU aC):=aA aG _ (az (wZ aC dm) (bn))
theorem uf (aC:M.ae->(List Int)->Option (Bool)) (dm:(dZ aC).Ok D Tryz.prog):(gQ (M.dN aC)).Ok D Tryz.prog:=
 bz (cx:=kU aC) (c:=gQ (M.dN aC)) (fz:=true) (fn:=Tryz.f91) aG (rW aC dm) ai ⟨Tryz.func91,by kernel_rfl⟩ (bC (ay (by kernel_rfl))) ⟨⟨[.bool],[]⟩,fun x=>x.1.1⟩ (fun x=>rfl) (fun x=>by kernel_rfl)
def Ph (aC:M.ae->(List Int)->Option (Bool)):Cx K:={jh with mode:=bu .plain [(90, .plain),(91, .plain)],call:=callOf D [iY M.eG,gQ (M.dN aC)],loop:=bf []}
theorem Vj (aC:M.ae->(List Int)->Option (Bool)) (dm:(dZ aC).Ok D Tryz.prog):aI (Ph aC):=aA aG _ (az xG (az (uf aC dm) (bn)))
theorem Vk (aC:M.ae->(List Int)->Option (Bool)) (dm:(dZ aC).Ok D Tryz.prog):(dZ (M.yR aC)).Ok D Tryz.prog:=
 bz (cx:=Ph aC) (c:=dZ (M.yR aC)) (fz:=true) (fn:=Tryz.f77) aG (Vj aC dm) ai ⟨Tryz.func77,by kernel_rfl⟩ (bC (ay (by kernel_rfl))) ⟨⟨[.bool],[]⟩,fun x=>x.1.1⟩ (fun x=>rfl) (fun x=>by kernel_rfl)
theorem JA : ∀n,(dZ (M.jR n)).Ok D Tryz.prog
 |0=>nH fun _=>rfl
 |n+1=>Vk (M.jR n) (JA n)
theorem Pj : (dZ (M.pK)).Ok D Tryz.prog:=JA aF
def Pm (aB:M.ae->Option (Bool)):Cx K:={jh with mode:=bu .plain [(91, .plain),(43, .plain),(99, .plain),(100, .plain),(101, .plain),(102, .plain),(103, .plain),(77, .plain)],call:=callOf D [iE (M.dF aB),lZ M.y8,BK M.xk,Ap M.yQ,GY M.vH,sQ M.Dy,qc M.yh,dZ M.pK],loop:=bf []}
theorem Vl (aB:M.ae->Option (Bool)) (di:(eu aB).Ok D Tryz.prog):aI (Pm aB):=aA aG _ (az (vO aB di) (az uO (az Xz (az S9 (az aab (az Jz (az Fa (az Pj (bn)))))))))
theorem Vm (aB:M.ae->Option (Bool)) (di:(eu aB).Ok D Tryz.prog):(eu (M.uy aB)).Ok D Tryz.prog:=
 bz (cx:=Pm aB) (c:=eu (M.uy aB)) (fz:=true) (fn:=Tryz.f89) aG (Vl aB di) ai ⟨Tryz.func89,by kernel_rfl⟩ (bC (ay (by kernel_rfl))) ⟨⟨[.bool],[]⟩,fun x=>x.1.1⟩ (fun x=>rfl) (fun x=>by kernel_rfl)
theorem JB : ∀n,(eu (M.lV n)).Ok D Tryz.prog
 |0=>nH fun _=>rfl
 |n+1=>Vm (M.lV n) (JB n)
theorem YV : (eu (M.Lm)).Ok D Tryz.prog:=JB aF
def JC (m:M.ae->Option (Bool)):bY K:={f:=67,sh:=⟨[.el U.Type],[]⟩,R:=Bool,run:=fun x=>m x.1.1,dflt:=default,out:=fun r=>(Sh.enc D (.bool) r,dY.encs D [] ())}
def Vo : Cx K:={jh with mode:=bu .plain [(83, .plain),(84, .plain)],call:=callOf D [ji M.Ll,iP M.GM],loop:=bf []}
theorem YW : aI (Vo):=aA aG _ (az YR (az Xv (bn)))
theorem abx : (JC (M.Lj)).Ok D Tryz.prog:=
 bz (cx:=Vo) (c:=JC (M.Lj)) (fz:=true) (fn:=Tryz.f67) aG (YW) ai ⟨Tryz.func67,by kernel_rfl⟩ (bC (ay (by kernel_rfl))) ⟨⟨[.bool],[]⟩,fun x=>x.1.1⟩ (fun x=>rfl) (fun x=>by kernel_rfl)
def fF (m:M.ae->Option (Int×(List UInt8)×(List (List UInt8))×(List M.ae))):bY K:={f:=53,sh:=⟨[.el U.Type],[]⟩,R:=Int×(List UInt8)×(List (List UInt8))×(List M.ae),run:=fun x=>m x.1.1,dflt:=default,out:=fun r=>(Sh.enc D (.agg [.int .i64, .str, .own 0, .own 1]) (r.1,(r.2.1,((),((),())))),dY.encs D [.arr U.str, .tree U.Type] (r.2.2.1,(r.2.2.2,())))}
def BL (y:(List M.ae)) {R:Type} (k:Ex->List (AV K)->List (Ob K)->R):R:=match y with
 |a0=>k (Ex.exit 0) (dw.dC D ⟨[.own 1],[.dead, .tree U.Type]⟩ (((),()),((),(a0,())))) (dw.dI D ⟨[.own 1],[.dead, .tree U.Type]⟩ (((),()),((),(a0,()))))
def Pn : List (dU K ((List M.ae))):=[⟨(Ex.exit 0),⟨[.own 1],[.dead, .tree U.Type]⟩,fun x=>x.2.2.1⟩]
def Fe (aJ:M.ae->Option (Int×(List UInt8)×(List (List UInt8))×(List M.ae))):dM K:=dX D false 20 1 [3,7,8,9] [3] ⟨[.own 1, .bD U.Type, .int .i64, .int .i64],[.dead, .tree U.Type]⟩ (fun x=>M.kN aJ x.1.2.1 x.1.2.2.1 aF x.1.2.2.2.1 x.2.2.1) BL
def zG (m:(List M.ae)->Option ((List M.ae))):bY K:={f:=79,sh:=⟨[.bD U.Type],[]⟩,R:=(List M.ae),run:=fun x=>m x.1.1,dflt:=default,out:=fun r=>(Sh.enc D (.own 0) (),dY.encs D [.tree U.Type] (r,()))}
def vT (aJ:M.ae->Option (Int×(List UInt8)×(List (List UInt8))×(List M.ae))):Cx K:={jh with mode:=bu .plain [(53, .fresh)],rsl:=[[some U.Type]],deep:=fun c=>bP (D.cells c (K.zero c)),call:=callOf D [fF aJ],loop:=bf [(3,Fe aJ)]}
theorem Ff (aJ:M.ae->Option (Int×(List UInt8)×(List (List UInt8))×(List M.ae))) (fZ:(fF aJ).Ok D Tryz.prog):aI (vT aJ):=aA aG _ (az fZ (bn))
theorem NU (aJ:M.ae->Option (Int×(List UInt8)×(List (List UInt8))×(List M.ae))) (fZ:(fF aJ).Ok D Tryz.prog):bT (vT aJ) (bU (bW Tryz.f79) 0) (Fe aJ):=
 bG (cx:=vT aJ) (n:=20) (n0:=1) (ins:=[3,7,8,9]) (outs:=[3]) (sh:=⟨[.own 1, .bD U.Type, .int .i64, .int .i64],[.dead, .tree U.Type]⟩) (run:=fun n x=>M.kN aJ x.1.2.1 x.1.2.2.1 n x.1.2.2.2.1 x.2.2.1) (dR:=Pn) (out:=BL) aG (Ff aJ fZ) ai (ay (by kernel_rfl)) (fun _=>rfl) (fun m x=>by kernel_rfl) (az ⟨bH,fun _ _ _=>rfl⟩ (bn)) false aF
theorem Vp (aJ:M.ae->Option (Int×(List UInt8)×(List (List UInt8))×(List M.ae))) (fZ:(fF aJ).Ok D Tryz.prog):(zG (M.uz aJ)).Ok D Tryz.prog:=
 bz (cx:=vT aJ) (c:=zG (M.uz aJ)) (fz:=false) (fn:=Tryz.f79) aG (Ff aJ fZ) ai ⟨Tryz.func79,by kernel_rfl⟩ (bC (aP 1 (by kernel_rfl) (cZ (.mk (by kernel_rfl) (NU aJ fZ))))) ⟨⟨[.own 0],[.tree U.Type]⟩,fun x=>x.2.1⟩ (fun x=>rfl) (fun x=>by kernel_rfl)
def MV (aJ:M.ae->Option (Int×(List UInt8)×(List (List UInt8))×(List M.ae))):Cx K:={jh with mode:=bu .plain [(78, .fresh),(79, .fresh)],rsl:=[[none,none,some U.str,some U.Type]],deep:=fun c=>bP (D.cells c (K.zero c)),call:=callOf D [ja M.dE,zG (M.uz aJ)],loop:=bf []}
theorem Ut (aJ:M.ae->Option (Int×(List UInt8)×(List (List UInt8))×(List M.ae))) (fZ:(fF aJ).Ok D Tryz.prog):aI (MV aJ):=aA aG _ (az yO (az (Vp aJ fZ) (bn)))
theorem Uu (aJ:M.ae->Option (Int×(List UInt8)×(List (List UInt8))×(List M.ae))) (fZ:(fF aJ).Ok D Tryz.prog):(fF (M.vI aJ)).Ok D Tryz.prog:=
 bz (cx:=MV aJ) (c:=fF (M.vI aJ)) (fz:=false) (fn:=Tryz.f53) aG (Ut aJ fZ) ai ⟨Tryz.func53,by kernel_rfl⟩ (bC (ay (by kernel_rfl))) ⟨⟨[.agg [.int .i64, .str, .own 0, .own 1]],[.arr U.str, .tree U.Type]⟩,fun x=>(x.1.1.1,x.1.1.2.1,x.2.1,x.2.2.1)⟩ (fun x=>rfl) (fun x=>by kernel_rfl)
theorem Iw : ∀n,(fF (M.lW n)).Ok D Tryz.prog
 |0=>nH fun _=>rfl
 |n+1=>Uu (M.lW n) (Iw n)
theorem MW : (fF (M.tK)).Ok D Tryz.prog:=Iw aF
def Et (m:M.ae->Option (Bool)):bY K:={f:=39,sh:=⟨[.el U.Type],[]⟩,R:=Bool,run:=fun x=>m x.1.1,dflt:=default,out:=fun r=>(Sh.enc D (.bool) r,dY.encs D [] ())}
def Po : Cx K:={jh with mode:=bu .plain [(67, .plain),(68, .plain)],call:=callOf D [JC M.Lj,jk M.sD],loop:=bf []}
theorem Vq : aI (Po):=aA aG _ (az abx (az SQ (bn)))
theorem YX : (Et (M.xn)).Ok D Tryz.prog:=
 bz (cx:=Po) (c:=Et (M.xn)) (fz:=true) (fn:=Tryz.f39) aG (Vq) ai ⟨Tryz.func39,by kernel_rfl⟩ (bC (ay (by kernel_rfl))) ⟨⟨[.bool],[]⟩,fun x=>x.1.1⟩ (fun x=>rfl) (fun x=>by kernel_rfl)
def jO (m:M.ae->Option (M.ae)):bY K:={f:=41,sh:=⟨[.el U.Type],[]⟩,R:=M.ae,run:=fun x=>m x.1.1,dflt:=default,out:=fun r=>(Sh.enc D (.el U.Type) r,dY.encs D [] ())}
def Iy (y:Int×(List UInt8)×Int×(List UInt8)×(List (List UInt8))×(List M.ae)×(List (List UInt8))×(List M.ae)) {R:Type} (k:Ex->List (AV K)->List (Ob K)->R):R:=match y with
 |a0=>k (Ex.exit 0) (dw.dC D ⟨[.ptr 1 0, .ptr 2 0],[.dead, .box [.int .i64, .str, .own 7, .own 8], .box [.int .i64, .str, .own 9, .own 10], .dead, .dead, .dead, .dead, .arr U.str, .arr U.Type, .arr U.str, .arr U.Type]⟩ (((),((),())),((),((a0.1,(a0.2.1,((),((),())))),((a0.2.2.1,(a0.2.2.2.1,((),((),())))),((),((),((),((),(a0.2.2.2.2.1,(a0.2.2.2.2.2.1,(a0.2.2.2.2.2.2.1,(a0.2.2.2.2.2.2.2,()))))))))))))) (dw.dI D ⟨[.ptr 1 0, .ptr 2 0],[.dead, .box [.int .i64, .str, .own 7, .own 8], .box [.int .i64, .str, .own 9, .own 10], .dead, .dead, .dead, .dead, .arr U.str, .arr U.Type, .arr U.str, .arr U.Type]⟩ (((),((),())),((),((a0.1,(a0.2.1,((),((),())))),((a0.2.2.1,(a0.2.2.2.1,((),((),())))),((),((),((),((),(a0.2.2.2.2.1,(a0.2.2.2.2.2.1,(a0.2.2.2.2.2.2.1,(a0.2.2.2.2.2.2.2,())))))))))))))
def Vr : List (dU K (Int×(List UInt8)×Int×(List UInt8)×(List (List UInt8))×(List M.ae)×(List (List UInt8))×(List M.ae))):=[⟨(Ex.exit 0),⟨[.ptr 1 0, .ptr 2 0],[.dead, .box [.int .i64, .str, .own 7, .own 8], .box [.int .i64, .str, .own 9, .own 10], .dead, .dead, .dead, .dead, .arr U.str, .arr U.Type, .arr U.str, .arr U.Type]⟩,fun x=>(x.2.2.1.1,x.2.2.1.2.1,x.2.2.2.1.1,x.2.2.2.1.2.1,x.2.2.2.2.2.2.2.2.1,x.2.2.2.2.2.2.2.2.2.1,x.2.2.2.2.2.2.2.2.2.2.1,x.2.2.2.2.2.2.2.2.2.2.2.1)⟩]
def MX (bM:M.ae->Option (M.ae)):dM K:=dX D false 33 7 [1,2,3,4] [2,3] ⟨[.ptr 0 0, .ptr 1 0, .ptr 2 0, .int .i64],[.el U.Type, .box [.int .i64, .str, .own 7, .own 8], .box [.int .i64, .str, .own 9, .own 10], .dead, .dead, .dead, .dead, .arr U.str, .arr U.Type, .arr U.str, .arr U.Type]⟩ (fun x=>M.oz bM x.2.2.1.1 x.2.2.1.2.1 x.2.2.2.1.1 x.2.2.2.1.2.1 x.2.2.2.2.2.2.2.2.1 x.2.2.2.2.2.2.2.2.2.1 x.2.2.2.2.2.2.2.2.2.2.1 aF x.1.2.2.2.1 x.2.1 x.2.2.2.2.2.2.2.2.2.2.2.1) Iy
def Dz (bM:M.ae->Option (M.ae)):Cx K:={jh with mode:=bu .plain [(41, .JD)],call:=callOf D [jO bM],loop:=bf [(3,MX bM)]}
theorem MZ (bM:M.ae->Option (M.ae)) (pV:(jO bM).Ok D Tryz.prog):aI (Dz bM):=aA aG _ (az pV (bn))
theorem Uw (bM:M.ae->Option (M.ae)) (pV:(jO bM).Ok D Tryz.prog):bT (Dz bM) (bU (bW Tryz.f41) 0) (MX bM):=
 bG (cx:=Dz bM) (n:=33) (n0:=7) (ins:=[1,2,3,4]) (outs:=[2,3]) (sh:=⟨[.ptr 0 0, .ptr 1 0, .ptr 2 0, .int .i64],[.el U.Type, .box [.int .i64, .str, .own 7, .own 8], .box [.int .i64, .str, .own 9, .own 10], .dead, .dead, .dead, .dead, .arr U.str, .arr U.Type, .arr U.str, .arr U.Type]⟩) (run:=fun n x=>M.oz bM x.2.2.1.1 x.2.2.1.2.1 x.2.2.2.1.1 x.2.2.2.1.2.1 x.2.2.2.2.2.2.2.2.1 x.2.2.2.2.2.2.2.2.2.1 x.2.2.2.2.2.2.2.2.2.2.1 n x.1.2.2.2.1 x.2.1 x.2.2.2.2.2.2.2.2.2.2.2.1) (dR:=Vr) (out:=Iy) aG (MZ bM pV) ai (ay (by kernel_rfl)) (fun _=>rfl) (fun m x=>by kernel_rfl) (az ⟨bH,fun _ _ _=>rfl⟩ (bn)) false aF
theorem XC (bM:M.ae->Option (M.ae)) (pV:(jO bM).Ok D Tryz.prog):(jO (M.Bq bM)).Ok D Tryz.prog:=
 bz (cx:=Dz bM) (c:=jO (M.Bq bM)) (fz:=true) (fn:=Tryz.f41) aG (MZ bM pV) ai ⟨Tryz.func41,by kernel_rfl⟩ (bC (aP 1 (by kernel_rfl) (cZ (.mk (by kernel_rfl) (Uw bM pV))))) ⟨⟨[.el U.Type],[]⟩,fun x=>x.1.1⟩ (fun x=>rfl) (fun x=>by kernel_rfl)
theorem Na : ∀n,(jO (M.qo n)).Ok D Tryz.prog
 |0=>nH fun _=>rfl
 |n+1=>XC (M.qo n) (Na n)
theorem aac : (jO (M.OX)).Ok D Tryz.prog:=Na aF
def GZ (m:M.ae->Option (Bool)):bY K:={f:=75,sh:=⟨[.el U.Type],[]⟩,R:=Bool,run:=fun x=>m x.1.1,dflt:=default,out:=fun r=>(Sh.enc D (.bool) r,dY.encs D [] ())}
def Ti : Cx K:={jh with mode:=bu .plain [(87, .plain),(88, .plain),(89, .plain)],call:=callOf D [oP M.YK,lX M.UU,eu M.Lm],loop:=bf []}
theorem XD : aI (Ti):=aA aG _ (az adl (az abw (az YV (bn))))
theorem aad : (GZ (M.ES)).Ok D Tryz.prog:=
 bz (cx:=Ti) (c:=GZ (M.ES)) (fz:=true) (fn:=Tryz.f75) aG (XD) ai ⟨Tryz.func75,by kernel_rfl⟩ (bC (ay (by kernel_rfl))) ⟨⟨[.bool],[]⟩,fun x=>x.1.1⟩ (fun x=>rfl) (fun x=>by kernel_rfl)
def xI (m:M.ae->Option (Bool)):bY K:={f:=52,sh:=⟨[.el U.Type],[]⟩,R:=Bool,run:=fun x=>m x.1.1,dflt:=default,out:=fun r=>(Sh.enc D (.bool) r,dY.encs D [] ())}
def Iz : Cx K:={jh with mode:=bu .plain [(75, .plain),(76, .plain),(77, .plain)],call:=callOf D [GZ M.ES,Aq M.O9,dZ M.pK],loop:=bf []}
theorem Pq : aI (Iz):=aA aG _ (az aad (az Td (az Pj (bn))))
theorem Ux : (xI (M.oN)).Ok D Tryz.prog:=
 bz (cx:=Iz) (c:=xI (M.oN)) (fz:=true) (fn:=Tryz.f52) aG (Pq) ai ⟨Tryz.func52,by kernel_rfl⟩ (bC (ay (by kernel_rfl))) ⟨⟨[.bool],[]⟩,fun x=>x.1.1⟩ (fun x=>rfl) (fun x=>by kernel_rfl)
def DC (y:(List UInt8)) {R:Type} (k:Ex->List (AV K)->List (Ob K)->R):R:=match y with
 |a0=>k (Ex.exit 0) (dw.dC D ⟨[.str],[]⟩ ((a0,()),())) (dw.dI D ⟨[.str],[]⟩ ((a0,()),()))
def QX : List (dU K ((List UInt8))):=[⟨(Ex.exit 0),⟨[.str],[]⟩,fun x=>x.1.1⟩]
def IA : dM K:=dX D false 20 0 [0,3] [3] ⟨[.int .i64, .str],[]⟩ (fun x=>M.mD aF x.1.1 x.1.2.1) DC
def gU (m:Int->Option ((List UInt8))):bY K:={f:=58,sh:=⟨[.int .i64],[]⟩,R:=(List UInt8),run:=fun x=>m x.1.1,dflt:=default,out:=fun r=>(Sh.enc D (.str) r,dY.encs D [] ())}
def yj : Cx K:={jh with mode:=bu .plain [],deep:=fun c=>bP (D.cells c (K.zero c)),call:=callOf D [],loop:=bf [(4,IA)]}
theorem IB : aI (yj):=aA aG _ (bn)
theorem Pv : bT (yj) (bU (bW Tryz.f58) 0) (IA):=
 bG (cx:=yj) (n:=20) (n0:=0) (ins:=[0,3]) (outs:=[3]) (sh:=⟨[.int .i64, .str],[]⟩) (run:=fun n x=>M.mD n x.1.1 x.1.2.1) (dR:=QX) (out:=DC) aG (IB) ai (ay (by kernel_rfl)) (fun _=>rfl) (fun m x=>by kernel_rfl) (az ⟨bH,fun _ _ _=>rfl⟩ (bn)) false aF
theorem jY : (gU (M.ed)).Ok D Tryz.prog:=
 bz (cx:=yj) (c:=gU (M.ed)) (fz:=true) (fn:=Tryz.f58) aG (IB) ai ⟨Tryz.func58,by kernel_rfl⟩ (bC (aP 1 (by kernel_rfl) (cZ (.mk (by kernel_rfl) (Pv))))) ⟨⟨[.str],[]⟩,fun x=>x.1.1⟩ (fun x=>rfl) (fun x=>by kernel_rfl)
def y9 (y:Int×(List (List UInt8))) {R:Type} (k:Ex->List (AV K)->List (Ob K)->R):R:=match y with
 |a0=>k (Ex.exit 0) (dw.dC D ⟨[.int .i64],[.arr U.str]⟩ ((a0.1,()),(a0.2,()))) (dw.dI D ⟨[.int .i64],[.arr U.str]⟩ ((a0.1,()),(a0.2,())))
def L6 : List (dU K (Int×(List (List UInt8)))):=[⟨(Ex.exit 0),⟨[.int .i64],[.arr U.str]⟩,fun x=>(x.1.1,x.2.1)⟩]
def BM : dM K:=dX D true 20 1 [0,1,5] [1] ⟨[.own 0, .int .i64, .int .i64],[.arr U.str]⟩ (fun x=>M.nN aF x.1.2.1 x.1.2.2.1 x.2.1) y9
def qf (m:Int->(List (List UInt8))->Option (Int×(List (List UInt8)))):bY K:={f:=59,sh:=⟨[.own 0, .int .i64],[.arr U.str]⟩,R:=Int×(List (List UInt8)),run:=fun x=>m x.1.2.1 x.2.1,dflt:=default,out:=fun r=>(Sh.enc D (.int .i64) r.1,dY.encs D [.arr U.str] (r.2,()))}
def ru : Cx K:={jh with mode:=bu .plain [(58, .plain)],deep:=fun c=>bP (D.cells c (K.zero c)),opn:=true,call:=callOf D [gU M.ed],loop:=bf [(2,BM)]}
theorem BN : aI (ru):=aA aG _ (az jY (bn))
theorem JE : bT (ru) (bU (bW Tryz.f59) 0) (BM):=
 bG (cx:=ru) (n:=20) (n0:=1) (ins:=[0,1,5]) (outs:=[1]) (sh:=⟨[.own 0, .int .i64, .int .i64],[.arr U.str]⟩) (run:=fun n x=>M.nN n x.1.2.1 x.1.2.2.1 x.2.1) (dR:=L6) (out:=y9) aG (BN) ai (ay (by kernel_rfl)) (fun _=>rfl) (fun m x=>by kernel_rfl) (az ⟨bH,fun _ _ _=>rfl⟩ (bn)) true aF
theorem Fg : (qf (M.jS)).Ok D Tryz.prog:=
 bz (cx:=ru) (c:=qf (M.jS)) (fz:=true) (fn:=Tryz.f59) aG (BN) ai ⟨Tryz.func59,by kernel_rfl⟩ (bC (aP 1 (by kernel_rfl) (cZ (.mk (by kernel_rfl) (JE))))) ⟨⟨[.int .i64],[.arr U.str]⟩,fun x=>(x.1.1,x.2.1)⟩ (fun x=>rfl) (fun x=>by kernel_rfl)
def gY (m:Int->(List M.ae)->Option (Int×(List M.ae))):bY K:={f:=60,sh:=⟨[.own 0, .int .i64],[.tree U.Type]⟩,R:=Int×(List M.ae),run:=fun x=>m x.1.2.1 x.2.1,dflt:=default,out:=fun r=>(Sh.enc D (.int .i64) r.1,dY.encs D [.tree U.Type] (r.2,()))}
def BO (y:Int×(List M.ae)) {R:Type} (k:Ex->List (AV K)->List (Ob K)->R):R:=match y with
 |a0=>k (Ex.exit 0) (dw.dC D ⟨[.int .i64],[.tree U.Type]⟩ ((a0.1,()),(a0.2,()))) (dw.dI D ⟨[.int .i64],[.tree U.Type]⟩ ((a0.1,()),(a0.2,())))
def Px : List (dU K (Int×(List M.ae))):=[⟨(Ex.exit 0),⟨[.int .i64],[.tree U.Type]⟩,fun x=>(x.1.1,x.2.1)⟩]
def Fh (aY:Int->(List M.ae)->Option (Int×(List M.ae))):dM K:=dX D true 42 1 [0,1,5] [1] ⟨[.own 0, .int .i64, .int .i64],[.tree U.Type]⟩ (fun x=>M.qy aY aF x.1.2.1 x.1.2.2.1 x.2.1) BO
def vU (aY:Int->(List M.ae)->Option (Int×(List M.ae))):Cx K:={jh with mode:=bu .plain [(58, .plain),(59, .pass),(60, .pass)],deep:=fun c=>bP (D.cells c (K.zero c)),opn:=true,call:=callOf D [gU M.ed,qf M.jS,gY aY],loop:=bf [(2,Fh aY)]}
theorem Fj (aY:Int->(List M.ae)->Option (Int×(List M.ae))) (kG:(gY aY).Ok D Tryz.prog):aI (vU aY):=aA aG _ (az jY (az Fg (az kG (bn))))
theorem NV (aY:Int->(List M.ae)->Option (Int×(List M.ae))) (kG:(gY aY).Ok D Tryz.prog):bT (vU aY) (bU (bW Tryz.f60) 0) (Fh aY):=
 bG (cx:=vU aY) (n:=42) (n0:=1) (ins:=[0,1,5]) (outs:=[1]) (sh:=⟨[.own 0, .int .i64, .int .i64],[.tree U.Type]⟩) (run:=fun n x=>M.qy aY n x.1.2.1 x.1.2.2.1 x.2.1) (dR:=Px) (out:=BO) aG (Fj aY kG) ai (ay (by kernel_rfl)) (fun _=>rfl) (fun m x=>by kernel_rfl) (az ⟨bH,fun _ _ _=>rfl⟩ (bn)) true aF
theorem QY (aY:Int->(List M.ae)->Option (Int×(List M.ae))) (kG:(gY aY).Ok D Tryz.prog):(gY (M.sG aY)).Ok D Tryz.prog:=
 bz (cx:=vU aY) (c:=gY (M.sG aY)) (fz:=true) (fn:=Tryz.f60) aG (Fj aY kG) ai ⟨Tryz.func60,by kernel_rfl⟩ (bC (aP 1 (by kernel_rfl) (cZ (.mk (by kernel_rfl) (NV aY kG))))) ⟨⟨[.int .i64],[.tree U.Type]⟩,fun x=>(x.1.1,x.2.1)⟩ (fun x=>rfl) (fun x=>by kernel_rfl)
theorem Fp : ∀n,(gY (M.yl n)).Ok D Tryz.prog
 |0=>nH fun _=>rfl
 |n+1=>QY (M.yl n) (Fp n)
theorem Vs : (gY (M.yY)).Ok D Tryz.prog:=Fp aF
def gu (m:Int->(List M.ah)->Option (Int×(List M.ah))):bY K:={f:=61,sh:=⟨[.own 0, .int .i64],[.tree U.Value]⟩,R:=Int×(List M.ah),run:=fun x=>m x.1.2.1 x.2.1,dflt:=default,out:=fun r=>(Sh.enc D (.int .i64) r.1,dY.encs D [.tree U.Value] (r.2,()))}
def zZ (y:Int×(List M.ah)) {R:Type} (k:Ex->List (AV K)->List (Ob K)->R):R:=match y with
 |a0=>k (Ex.exit 0) (dw.dC D ⟨[.int .i64],[.tree U.Value]⟩ ((a0.1,()),(a0.2,()))) (dw.dI D ⟨[.int .i64],[.tree U.Value]⟩ ((a0.1,()),(a0.2,())))
def NW : List (dU K (Int×(List M.ah))):=[⟨(Ex.exit 0),⟨[.int .i64],[.tree U.Value]⟩,fun x=>(x.1.1,x.2.1)⟩]
def DD (aV:Int->(List M.ah)->Option (Int×(List M.ah))):dM K:=dX D true 42 1 [0,1,5] [1] ⟨[.own 0, .int .i64, .int .i64],[.tree U.Value]⟩ (fun x=>M.pF aV aF x.1.2.1 x.1.2.2.1 x.2.1) zZ
def sS (aV:Int->(List M.ah)->Option (Int×(List M.ah))):Cx K:={jh with mode:=bu .plain [(58, .plain),(61, .pass)],deep:=fun c=>bP (D.cells c (K.zero c)),opn:=true,call:=callOf D [gU M.ed,gu aV],loop:=bf [(2,DD aV)]}
theorem DF (aV:Int->(List M.ah)->Option (Int×(List M.ah))) (jA:(gu aV).Ok D Tryz.prog):aI (sS aV):=aA aG _ (az jY (az jA (bn)))
theorem L8 (aV:Int->(List M.ah)->Option (Int×(List M.ah))) (jA:(gu aV).Ok D Tryz.prog):bT (sS aV) (bU (bW Tryz.f61) 0) (DD aV):=
 bG (cx:=sS aV) (n:=42) (n0:=1) (ins:=[0,1,5]) (outs:=[1]) (sh:=⟨[.own 0, .int .i64, .int .i64],[.tree U.Value]⟩) (run:=fun n x=>M.pF aV n x.1.2.1 x.1.2.2.1 x.2.1) (dR:=NW) (out:=zZ) aG (DF aV jA) ai (ay (by kernel_rfl)) (fun _=>rfl) (fun m x=>by kernel_rfl) (az ⟨bH,fun _ _ _=>rfl⟩ (bn)) true aF
theorem Py (aV:Int->(List M.ah)->Option (Int×(List M.ah))) (jA:(gu aV).Ok D Tryz.prog):(gu (M.qA aV)).Ok D Tryz.prog:=
 bz (cx:=sS aV) (c:=gu (M.qA aV)) (fz:=true) (fn:=Tryz.f61) aG (DF aV jA) ai ⟨Tryz.func61,by kernel_rfl⟩ (bC (aP 1 (by kernel_rfl) (cZ (.mk (by kernel_rfl) (L8 aV jA))))) ⟨⟨[.int .i64],[.tree U.Value]⟩,fun x=>(x.1.1,x.2.1)⟩ (fun x=>rfl) (fun x=>by kernel_rfl)
theorem DI : ∀n,(gu (M.vV n)).Ok D Tryz.prog
 |0=>nH fun _=>rfl
 |n+1=>Py (M.vV n) (DI n)
theorem Uy : (gu (M.vJ)).Ok D Tryz.prog:=DI aF
def zf (y:(Int)⊕(Int)) {R:Type} (k:Ex->List (AV K)->List (Ob K)->R):R:=match y with
 | .inl a0=>k Ex.ret (dw.dC D ⟨[.any, .int .i64],[]⟩ (((),(a0,())),())) (dw.dI D ⟨[.any, .int .i64],[]⟩ (((),(a0,())),()))
 | .inr (a1)=>k (Ex.exit 0) (dw.dC D ⟨[.int .i64, .any],[]⟩ ((a1,((),())),())) (dw.dI D ⟨[.int .i64, .any],[]⟩ ((a1,((),())),()))
def L9 : List (dU K ((Int)⊕(Int))):=[⟨Ex.ret,⟨[.any, .int .i64],[]⟩,fun x=> .inl x.1.2.1⟩,⟨(Ex.exit 0),⟨[.int .i64, .any],[]⟩,fun x=> .inr (x.1.1)⟩]
def BP : dM K:=dX D false 22 0 [0,1,5] [1,4] ⟨[.bD U.str, .int .i64, .int .i64],[]⟩ (fun x=>M.nO x.1.1 aF x.1.2.1 x.1.2.2.1) zf
def qg (m:(List (List UInt8))->Int->Option (Int)):bY K:={f:=63,sh:=⟨[.bD U.str, .int .i64],[]⟩,R:=Int,run:=fun x=>m x.1.1 x.1.2.1,dflt:=default,out:=fun r=>(Sh.enc D (.int .i64) r,dY.encs D [] ())}
def ry : Cx K:={jh with mode:=bu .plain [(58, .plain)],call:=callOf D [gU M.ed],loop:=bf [(2,BP)]}
theorem BQ : aI (ry):=aA aG _ (az jY (bn))
theorem JF : bT (ry) (bU (bW Tryz.f63) 0) (BP):=
 bG (cx:=ry) (n:=22) (n0:=0) (ins:=[0,1,5]) (outs:=[1,4]) (sh:=⟨[.bD U.str, .int .i64, .int .i64],[]⟩) (run:=fun n x=>M.nO x.1.1 n x.1.2.1 x.1.2.2.1) (dR:=L9) (out:=zf) aG (BQ) ai (ay (by kernel_rfl)) (fun _=>rfl) (fun m x=>by kernel_rfl) (az ⟨fE,fun _ _ _=>rfl⟩ (az ⟨bH,fun _ _ _=>rfl⟩ (bn))) false aF
theorem Fq : (qg (M.jT)).Ok D Tryz.prog:=
 bz (cx:=ry) (c:=qg (M.jT)) (fz:=true) (fn:=Tryz.f63) aG (BQ) ai ⟨Tryz.func63,by kernel_rfl⟩ (bC (aP 1 (by kernel_rfl) (cZ (.mk (by kernel_rfl) (JF))))) ⟨⟨[.int .i64],[]⟩,fun x=>x.1.1⟩ (fun x=>rfl) (fun x=>by kernel_rfl)
def gZ (m:(List M.ae)->Int->Option (Int)):bY K:={f:=64,sh:=⟨[.bD U.Type, .int .i64],[]⟩,R:=Int,run:=fun x=>m x.1.1 x.1.2.1,dflt:=default,out:=fun r=>(Sh.enc D (.int .i64) r,dY.encs D [] ())}
def BR (y:(Int)⊕(Int)) {R:Type} (k:Ex->List (AV K)->List (Ob K)->R):R:=match y with
 | .inl a0=>k Ex.ret (dw.dC D ⟨[.any, .int .i64],[]⟩ (((),(a0,())),())) (dw.dI D ⟨[.any, .int .i64],[]⟩ (((),(a0,())),()))
 | .inr (a1)=>k (Ex.exit 0) (dw.dC D ⟨[.int .i64, .any],[]⟩ ((a1,((),())),())) (dw.dI D ⟨[.int .i64, .any],[]⟩ ((a1,((),())),()))
def Pz : List (dU K ((Int)⊕(Int))):=[⟨Ex.ret,⟨[.any, .int .i64],[]⟩,fun x=> .inl x.1.2.1⟩,⟨(Ex.exit 0),⟨[.int .i64, .any],[]⟩,fun x=> .inr (x.1.1)⟩]
def Fv (aW:(List M.ae)->Int->Option (Int)):dM K:=dX D false 50 0 [0,1,5] [1,4] ⟨[.bD U.Type, .int .i64, .int .i64],[]⟩ (fun x=>M.qE aW x.1.1 aF x.1.2.1 x.1.2.2.1) BR
def vW (aW:(List M.ae)->Int->Option (Int)):Cx K:={jh with mode:=bu .plain [(58, .plain),(63, .plain),(64, .plain)],call:=callOf D [gU M.ed,qg M.jT,gZ aW],loop:=bf [(2,Fv aW)]}
theorem Fz (aW:(List M.ae)->Int->Option (Int)) (kH:(gZ aW).Ok D Tryz.prog):aI (vW aW):=aA aG _ (az jY (az Fq (az kH (bn))))
theorem NY (aW:(List M.ae)->Int->Option (Int)) (kH:(gZ aW).Ok D Tryz.prog):bT (vW aW) (bU (bW Tryz.f64) 0) (Fv aW):=
 bG (cx:=vW aW) (n:=50) (n0:=0) (ins:=[0,1,5]) (outs:=[1,4]) (sh:=⟨[.bD U.Type, .int .i64, .int .i64],[]⟩) (run:=fun n x=>M.qE aW x.1.1 n x.1.2.1 x.1.2.2.1) (dR:=Pz) (out:=BR) aG (Fz aW kH) ai (ay (by kernel_rfl)) (fun _=>rfl) (fun m x=>by kernel_rfl) (az ⟨fE,fun _ _ _=>rfl⟩ (az ⟨bH,fun _ _ _=>rfl⟩ (bn))) false aF
theorem QZ (aW:(List M.ae)->Int->Option (Int)) (kH:(gZ aW).Ok D Tryz.prog):(gZ (M.sH aW)).Ok D Tryz.prog:=
 bz (cx:=vW aW) (c:=gZ (M.sH aW)) (fz:=true) (fn:=Tryz.f64) aG (Fz aW kH) ai ⟨Tryz.func64,by kernel_rfl⟩ (bC (aP 1 (by kernel_rfl) (cZ (.mk (by kernel_rfl) (NY aW kH))))) ⟨⟨[.int .i64],[]⟩,fun x=>x.1.1⟩ (fun x=>rfl) (fun x=>by kernel_rfl)
theorem FB : ∀n,(gZ (M.yt n)).Ok D Tryz.prog
 |0=>nH fun _=>rfl
 |n+1=>QZ (M.yt n) (FB n)
theorem Vt : (gZ (M.yZ)).Ok D Tryz.prog:=FB aF
def gz (m:(List M.ah)->Int->Option (Int)):bY K:={f:=65,sh:=⟨[.bD U.Value, .int .i64],[]⟩,R:=Int,run:=fun x=>m x.1.1 x.1.2.1,dflt:=default,out:=fun r=>(Sh.enc D (.int .i64) r,dY.encs D [] ())}
def Aa (y:(Int)⊕(Int)) {R:Type} (k:Ex->List (AV K)->List (Ob K)->R):R:=match y with
 | .inl a0=>k Ex.ret (dw.dC D ⟨[.any, .int .i64],[]⟩ (((),(a0,())),())) (dw.dI D ⟨[.any, .int .i64],[]⟩ (((),(a0,())),()))
 | .inr (a1)=>k (Ex.exit 0) (dw.dC D ⟨[.int .i64, .any],[]⟩ ((a1,((),())),())) (dw.dI D ⟨[.int .i64, .any],[]⟩ ((a1,((),())),()))
def NZ : List (dU K ((Int)⊕(Int))):=[⟨Ex.ret,⟨[.any, .int .i64],[]⟩,fun x=> .inl x.1.2.1⟩,⟨(Ex.exit 0),⟨[.int .i64, .any],[]⟩,fun x=> .inr (x.1.1)⟩]
def DJ (aS:(List M.ah)->Int->Option (Int)):dM K:=dX D false 50 0 [0,1,5] [1,4] ⟨[.bD U.Value, .int .i64, .int .i64],[]⟩ (fun x=>M.pG aS x.1.1 aF x.1.2.1 x.1.2.2.1) Aa
def sU (aS:(List M.ah)->Int->Option (Int)):Cx K:={jh with mode:=bu .plain [(58, .plain),(65, .plain)],call:=callOf D [gU M.ed,gz aS],loop:=bf [(2,DJ aS)]}
theorem DK (aS:(List M.ah)->Int->Option (Int)) (jB:(gz aS).Ok D Tryz.prog):aI (sU aS):=aA aG _ (az jY (az jB (bn)))
theorem Mc (aS:(List M.ah)->Int->Option (Int)) (jB:(gz aS).Ok D Tryz.prog):bT (sU aS) (bU (bW Tryz.f65) 0) (DJ aS):=
 bG (cx:=sU aS) (n:=50) (n0:=0) (ins:=[0,1,5]) (outs:=[1,4]) (sh:=⟨[.bD U.Value, .int .i64, .int .i64],[]⟩) (run:=fun n x=>M.pG aS x.1.1 n x.1.2.1 x.1.2.2.1) (dR:=NZ) (out:=Aa) aG (DK aS jB) ai (ay (by kernel_rfl)) (fun _=>rfl) (fun m x=>by kernel_rfl) (az ⟨fE,fun _ _ _=>rfl⟩ (az ⟨bH,fun _ _ _=>rfl⟩ (bn))) false aF
theorem PD (aS:(List M.ah)->Int->Option (Int)) (jB:(gz aS).Ok D Tryz.prog):(gz (M.qF aS)).Ok D Tryz.prog:=
 bz (cx:=sU aS) (c:=gz (M.qF aS)) (fz:=true) (fn:=Tryz.f65) aG (DK aS jB) ai ⟨Tryz.func65,by kernel_rfl⟩ (bC (aP 1 (by kernel_rfl) (cZ (.mk (by kernel_rfl) (Mc aS jB))))) ⟨⟨[.int .i64],[]⟩,fun x=>x.1.1⟩ (fun x=>rfl) (fun x=>by kernel_rfl)
theorem DL : ∀n,(gz (M.vX n)).Ok D Tryz.prog
 |0=>nH fun _=>rfl
 |n+1=>PD (M.vX n) (DL n)
theorem Uz : (gz (M.vK)).Ok D Tryz.prog:=DL aF
def iK (m:M.ah->M.ah->Option (Bool)):bY K:={f:=95,sh:=⟨[.el U.Value, .el U.Value],[]⟩,R:=Bool,run:=fun x=>m x.1.1 x.1.2.1,dflt:=default,out:=fun r=>(Sh.enc D (.bool) r,dY.encs D [] ())}
def DN (y:(Bool)⊕(Unit)) {R:Type} (k:Ex->List (AV K)->List (Ob K)->R):R:=match y with
 | .inl a0=>k Ex.ret (dw.dC D ⟨[.bool],[]⟩ ((a0,()),())) (dw.dI D ⟨[.bool],[]⟩ ((a0,()),()))
 | .inr (a1)=>k (Ex.exit 0) (dw.dC D ⟨[.any],[]⟩ (((),()),())) (dw.dI D ⟨[.any],[]⟩ (((),()),()))
def Q3 : List (dU K ((Bool)⊕(Unit))):=[⟨Ex.ret,⟨[.bool],[]⟩,fun x=> .inl x.1.1⟩,⟨(Ex.exit 0),⟨[.any],[]⟩,fun x=> .inr (())⟩]
def IC (aN:M.ah->M.ah->Option (Bool)):dM K:=dX D false 27 0 [0,1,5] [4] ⟨[.bD U.Value, .bD U.Value, .int .i64],[]⟩ (fun x=>M.mQ aN x.1.1 x.1.2.1 aF x.1.2.2.1) DN
def vY (m:(List M.ah)->(List M.ah)->Option (Bool)):bY K:={f:=81,sh:=⟨[.bD U.Value, .bD U.Value],[]⟩,R:=Bool,run:=fun x=>m x.1.1 x.1.2.1,dflt:=default,out:=fun r=>(Sh.enc D (.bool) r,dY.encs D [] ())}
def yu (aN:M.ah->M.ah->Option (Bool)):Cx K:={jh with mode:=bu .plain [(95, .plain)],call:=callOf D [iK aN],loop:=bf [(4,IC aN)]}
theorem IE (aN:M.ah->M.ah->Option (Bool)) (gV:(iK aN).Ok D Tryz.prog):aI (yu aN):=aA aG _ (az gV (bn))
theorem PE (aN:M.ah->M.ah->Option (Bool)) (gV:(iK aN).Ok D Tryz.prog):bT (yu aN) (bU (bW Tryz.f81) 0) (IC aN):=
 bG (cx:=yu aN) (n:=27) (n0:=0) (ins:=[0,1,5]) (outs:=[4]) (sh:=⟨[.bD U.Value, .bD U.Value, .int .i64],[]⟩) (run:=fun n x=>M.mQ aN x.1.1 x.1.2.1 n x.1.2.2.1) (dR:=Q3) (out:=DN) aG (IE aN gV) ai (ay (by kernel_rfl)) (fun _=>rfl) (fun m x=>by kernel_rfl) (az ⟨fE,fun _ _ _=>rfl⟩ (az ⟨bH,fun _ _ _=>rfl⟩ (bn))) false aF
theorem Nb (aN:M.ah->M.ah->Option (Bool)) (gV:(iK aN).Ok D Tryz.prog):(vY (M.oQ aN)).Ok D Tryz.prog:=
 bz (cx:=yu aN) (c:=vY (M.oQ aN)) (fz:=true) (fn:=Tryz.f81) aG (IE aN gV) ai ⟨Tryz.func81,by kernel_rfl⟩ (bC (aP 1 (by kernel_rfl) (cZ (.mk (by kernel_rfl) (PE aN gV))))) ⟨⟨[.bool],[]⟩,fun x=>x.1.1⟩ (fun x=>rfl) (fun x=>by kernel_rfl)
def PG (aN:M.ah->M.ah->Option (Bool)):Cx K:={jh with mode:=bu .plain [(81, .plain)],call:=callOf D [vY (M.oQ aN)],loop:=bf []}
theorem Vu (aN:M.ah->M.ah->Option (Bool)) (gV:(iK aN).Ok D Tryz.prog):aI (PG aN):=aA aG _ (az (Nb aN gV) (bn))
theorem Vw (aN:M.ah->M.ah->Option (Bool)) (gV:(iK aN).Ok D Tryz.prog):(iK (M.zg aN)).Ok D Tryz.prog:=
 bz (cx:=PG aN) (c:=iK (M.zg aN)) (fz:=true) (fn:=Tryz.f95) aG (Vu aN gV) ai ⟨Tryz.func95,by kernel_rfl⟩ (bC (ay (by kernel_rfl))) ⟨⟨[.bool],[]⟩,fun x=>x.1.1⟩ (fun x=>rfl) (fun x=>by kernel_rfl)
theorem JG : ∀n,(iK (M.qK n)).Ok D Tryz.prog
 |0=>nH fun _=>rfl
 |n+1=>Vw (M.qK n) (JG n)
theorem YY : (iK (M.A7)).Ok D Tryz.prog:=JG aF
def gm (m:M.ah->Option (Int×Int×(List UInt8)×(List M.ah))):bY K:={f:=86,sh:=⟨[.el U.Value],[]⟩,R:=Int×Int×(List UInt8)×(List M.ah),run:=fun x=>m x.1.1,dflt:=default,out:=fun r=>(Sh.enc D (.agg [.int .i64, .int .i64, .str, .own 0]) (r.1,(r.2.1,(r.2.2.1,((),())))),dY.encs D [.tree U.Value] (r.2.2.2,()))}
def Ac (y:(List M.ah)) {R:Type} (k:Ex->List (AV K)->List (Ob K)->R):R:=match y with
 |a0=>k (Ex.exit 0) (dw.dC D ⟨[.own 1],[.dead, .tree U.Value]⟩ (((),()),((),(a0,())))) (dw.dI D ⟨[.own 1],[.dead, .tree U.Value]⟩ (((),()),((),(a0,()))))
def N7 : List (dU K ((List M.ah))):=[⟨(Ex.exit 0),⟨[.own 1],[.dead, .tree U.Value]⟩,fun x=>x.2.2.1⟩]
def DR (aH:M.ah->Option (Int×Int×(List UInt8)×(List M.ah))):dM K:=dX D false 20 1 [3,7,8,9] [3] ⟨[.own 1, .bD U.Value, .int .i64, .int .i64],[.dead, .tree U.Value]⟩ (fun x=>M.sV aH x.1.2.1 x.1.2.2.1 aF x.1.2.2.2.1 x.2.2.1) Ac
def rC (m:(List M.ah)->Option ((List M.ah))):bY K:={f:=74,sh:=⟨[.bD U.Value],[]⟩,R:=(List M.ah),run:=fun x=>m x.1.1,dflt:=default,out:=fun r=>(Sh.enc D (.own 0) (),dY.encs D [.tree U.Value] (r,()))}
def sW (aH:M.ah->Option (Int×Int×(List UInt8)×(List M.ah))):Cx K:={jh with mode:=bu .plain [(86, .fresh)],rsl:=[[some U.Value]],deep:=fun c=>bP (D.cells c (K.zero c)),call:=callOf D [gm aH],loop:=bf [(3,DR aH)]}
theorem DT (aH:M.ah->Option (Int×Int×(List UInt8)×(List M.ah))) (fH:(gm aH).Ok D Tryz.prog):aI (sW aH):=aA aG _ (az fH (bn))
theorem Md (aH:M.ah->Option (Int×Int×(List UInt8)×(List M.ah))) (fH:(gm aH).Ok D Tryz.prog):bT (sW aH) (bU (bW Tryz.f74) 0) (DR aH):=
 bG (cx:=sW aH) (n:=20) (n0:=1) (ins:=[3,7,8,9]) (outs:=[3]) (sh:=⟨[.own 1, .bD U.Value, .int .i64, .int .i64],[.dead, .tree U.Value]⟩) (run:=fun n x=>M.sV aH x.1.2.1 x.1.2.2.1 n x.1.2.2.2.1 x.2.2.1) (dR:=N7) (out:=Ac) aG (DT aH fH) ai (ay (by kernel_rfl)) (fun _=>rfl) (fun m x=>by kernel_rfl) (az ⟨bH,fun _ _ _=>rfl⟩ (bn)) false aF
theorem IG (aH:M.ah->Option (Int×Int×(List UInt8)×(List M.ah))) (fH:(gm aH).Ok D Tryz.prog):(rC (M.rD aH)).Ok D Tryz.prog:=
 bz (cx:=sW aH) (c:=rC (M.rD aH)) (fz:=false) (fn:=Tryz.f74) aG (DT aH fH) ai ⟨Tryz.func74,by kernel_rfl⟩ (bC (aP 1 (by kernel_rfl) (cZ (.mk (by kernel_rfl) (Md aH fH))))) ⟨⟨[.own 0],[.tree U.Value]⟩,fun x=>x.2.1⟩ (fun x=>rfl) (fun x=>by kernel_rfl)
def JH (aH:M.ah->Option (Int×Int×(List UInt8)×(List M.ah))):Cx K:={jh with mode:=bu .plain [(74, .fresh)],rsl:=[[none,none,none,some U.Value]],deep:=fun c=>bP (D.cells c (K.zero c)),call:=callOf D [rC (M.rD aH)],loop:=bf []}
theorem Q4 (aH:M.ah->Option (Int×Int×(List UInt8)×(List M.ah))) (fH:(gm aH).Ok D Tryz.prog):aI (JH aH):=aA aG _ (az (IG aH fH) (bn))
theorem Q5 (aH:M.ah->Option (Int×Int×(List UInt8)×(List M.ah))) (fH:(gm aH).Ok D Tryz.prog):(gm (M.Eu aH)).Ok D Tryz.prog:=
 bz (cx:=JH aH) (c:=gm (M.Eu aH)) (fz:=false) (fn:=Tryz.f86) aG (Q4 aH fH) ai ⟨Tryz.func86,by kernel_rfl⟩ (bC (ay (by kernel_rfl))) ⟨⟨[.agg [.int .i64, .int .i64, .str, .own 0]],[.tree U.Value]⟩,fun x=>(x.1.1.1,x.1.1.2.1,x.1.1.2.2.1,x.2.1)⟩ (fun x=>rfl) (fun x=>by kernel_rfl)
theorem FC : ∀n,(gm (M.yw n)).Ok D Tryz.prog
 |0=>nH fun _=>rfl
 |n+1=>Q5 (M.yw n) (FC n)
theorem Vx : (gm (M.DU)).Ok D Tryz.prog:=FC aF
def xJ (m:M.af->Option (Int×(List UInt8)×Int×Bool×Int×Int×Bool×Bool×(List (List UInt8))×(List M.ae)×(List M.ah))):bY K:={f:=51,sh:=⟨[.el U.Stream],[]⟩,R:=Int×(List UInt8)×Int×Bool×Int×Int×Bool×Bool×(List (List UInt8))×(List M.ae)×(List M.ah),run:=fun x=>m x.1.1,dflt:=default,out:=fun r=>(Sh.enc D (.agg [.int .i64, .str, .own 0, .own 1, .int .i64, .bool, .own 2, .int .i64, .int .i64, .bool, .bool]) (r.1,(r.2.1,((),((),(r.2.2.1,(r.2.2.2.1,((),(r.2.2.2.2.1,(r.2.2.2.2.2.1,(r.2.2.2.2.2.2.1,(r.2.2.2.2.2.2.2.1,()))))))))))),dY.encs D [.arr U.str, .tree U.Type, .tree U.Value] (r.2.2.2.2.2.2.2.2.1,(r.2.2.2.2.2.2.2.2.2.1,(r.2.2.2.2.2.2.2.2.2.2,()))))}
def II : Cx K:={jh with mode:=bu .plain [(53, .fresh),(74, .fresh)],rsl:=[[none,none,some U.str,some U.Type,none,none,some U.Value,none,none,none,none]],deep:=fun c=>bP (D.cells c (K.zero c)),call:=callOf D [fF M.tK,rC (M.rD M.DU)],loop:=bf []}
theorem PH : aI (II):=aA aG _ (az MW (az (IG M.DU Vx) (bn)))
theorem UA : (xJ (M.Au)).Ok D Tryz.prog:=
 bz (cx:=II) (c:=xJ (M.Au)) (fz:=false) (fn:=Tryz.f51) aG (PH) ai ⟨Tryz.func51,by kernel_rfl⟩ (bC (ay (by kernel_rfl))) ⟨⟨[.agg [.int .i64, .str, .own 0, .own 1, .int .i64, .bool, .own 2, .int .i64, .int .i64, .bool, .bool]],[.arr U.str, .tree U.Type, .tree U.Value]⟩,fun x=>(x.1.1.1,x.1.1.2.1,x.1.1.2.2.2.2.1,x.1.1.2.2.2.2.2.1,x.1.1.2.2.2.2.2.2.2.1,x.1.1.2.2.2.2.2.2.2.2.1,x.1.1.2.2.2.2.2.2.2.2.2.1,x.1.1.2.2.2.2.2.2.2.2.2.2.1,x.2.1,x.2.2.1,x.2.2.2.1)⟩ (fun x=>rfl) (fun x=>by kernel_rfl)
def BU (m:M.af->M.af->Option (Bool)):bY K:={f:=54,sh:=⟨[.el U.Stream, .el U.Stream],[]⟩,R:=Bool,run:=fun x=>m x.1.1 x.1.2.1,dflt:=default,out:=fun r=>(Sh.enc D (.bool) r,dY.encs D [] ())}
def Nc : Cx K:={jh with mode:=bu .plain [(80, .plain),(81, .plain)],call:=callOf D [iO M.OZ,vY (M.oQ M.A7)],loop:=bf []}
theorem UB : aI (Nc):=aA aG _ (az Z7 (az (Nb M.A7 YY) (bn)))
theorem XE : (BU (M.xK)).Ok D Tryz.prog:=
 bz (cx:=Nc) (c:=BU (M.xK)) (fz:=true) (fn:=Tryz.f54) aG (UB) ai ⟨Tryz.func54,by kernel_rfl⟩ (bC (ay (by kernel_rfl))) ⟨⟨[.bool],[]⟩,fun x=>x.1.1⟩ (fun x=>rfl) (fun x=>by kernel_rfl)
def G5 (m:(List M.aT)->Int->Option (Int)):bY K:={f:=37,sh:=⟨[.bD U.rP, .int .i64],[]⟩,R:=Int,run:=fun x=>m x.1.1 x.1.2.1,dflt:=default,out:=fun r=>(Sh.enc D (.int .i64) r,dY.encs D [] ())}
def Tj : Cx K:={jh with mode:=bu .plain [],call:=callOf D [],loop:=bf []}
theorem XF : aI (Tj):=aA aG _ (bn)
theorem aae : (G5 (M.FD)).Ok D Tryz.prog:=
 bz (cx:=Tj) (c:=G5 (M.FD)) (fz:=true) (fn:=Tryz.f37) aG (XF) ai ⟨Tryz.func37,by kernel_rfl⟩ (bC (ay (by kernel_rfl))) ⟨⟨[.int .i64],[]⟩,fun x=>x.1.1⟩ (fun x=>rfl) (fun x=>by kernel_rfl)
def G6 (m:M.ak->Int->Option (Int)):bY K:={f:=16,sh:=⟨[.el U.Prog, .int .i64],[]⟩,R:=Int,run:=fun x=>m x.1.1 x.1.2.1,dflt:=default,out:=fun r=>(Sh.enc D (.int .i64) r,dY.encs D [] ())}
def Tm : Cx K:={jh with mode:=bu .plain [(37, .plain)],call:=callOf D [G5 M.FD],loop:=bf []}
theorem XG : aI (Tm):=aA aG _ (az aae (bn))
theorem aaf : (G6 (M.FH)).Ok D Tryz.prog:=
 bz (cx:=Tm) (c:=G6 (M.FH)) (fz:=true) (fn:=Tryz.f16) aG (XG) ai ⟨Tryz.func16,by kernel_rfl⟩ (bC (ay (by kernel_rfl))) ⟨⟨[.int .i64],[]⟩,fun x=>x.1.1⟩ (fun x=>rfl) (fun x=>by kernel_rfl)
def FI (y:(Int)⊕(Int)) {R:Type} (k:Ex->List (AV K)->List (Ob K)->R):R:=match y with
 | .inl a0=>k Ex.ret (dw.dC D ⟨[.any, .int .i64],[]⟩ (((),(a0,())),())) (dw.dI D ⟨[.any, .int .i64],[]⟩ (((),(a0,())),()))
 | .inr (a1)=>k (Ex.exit 0) (dw.dC D ⟨[.int .i64, .any],[]⟩ ((a1,((),())),())) (dw.dI D ⟨[.int .i64, .any],[]⟩ ((a1,((),())),()))
def UC : List (dU K ((Int)⊕(Int))):=[⟨Ex.ret,⟨[.any, .int .i64],[]⟩,fun x=> .inl x.1.2.1⟩,⟨(Ex.exit 0),⟨[.int .i64, .any],[]⟩,fun x=> .inr (x.1.1)⟩]
def JI : dM K:=dX D false 27 0 [0,1,5] [1,4] ⟨[.bD U.Prog, .int .i64, .int .i64],[]⟩ (fun x=>M.oU x.1.1 aF x.1.2.1 x.1.2.2.1) FI
def Ew (m:(List M.ak)->Int->Option (Int)):bY K:={f:=4,sh:=⟨[.bD U.Prog, .int .i64],[]⟩,R:=Int,run:=fun x=>m x.1.1 x.1.2.1,dflt:=default,out:=fun r=>(Sh.enc D (.int .i64) r,dY.encs D [] ())}
def Aw : Cx K:={jh with mode:=bu .plain [(16, .plain)],call:=callOf D [G6 M.FH],loop:=bf [(5,JI)]}
theorem JJ : aI (Aw):=aA aG _ (az aaf (bn))
theorem Q7 : bT (Aw) (bU (bW Tryz.f4) 0) (JI):=
 bG (cx:=Aw) (n:=27) (n0:=0) (ins:=[0,1,5]) (outs:=[1,4]) (sh:=⟨[.bD U.Prog, .int .i64, .int .i64],[]⟩) (run:=fun n x=>M.oU x.1.1 n x.1.2.1 x.1.2.2.1) (dR:=UC) (out:=FI) aG (JJ) ai (ay (by kernel_rfl)) (fun _=>rfl) (fun m x=>by kernel_rfl) (az ⟨fE,fun _ _ _=>rfl⟩ (az ⟨bH,fun _ _ _=>rfl⟩ (bn))) false aF
theorem YZ : (Ew (M.A8)).Ok D Tryz.prog:=
 bz (cx:=Aw) (c:=Ew (M.A8)) (fz:=true) (fn:=Tryz.f4) aG (JJ) ai ⟨Tryz.func4,by kernel_rfl⟩ (bC (aP 1 (by kernel_rfl) (cZ (.mk (by kernel_rfl) (Q7))))) ⟨⟨[.int .i64],[]⟩,fun x=>x.1.1⟩ (fun x=>rfl) (fun x=>by kernel_rfl)
def JK (m:M.aT->Option (M.aT)):bY K:={f:=69,sh:=⟨[.el U.rP],[]⟩,R:=M.aT,run:=fun x=>m x.1.1,dflt:=default,out:=fun r=>(Sh.enc D (.el U.rP) r,dY.encs D [] ())}
def Vy : Cx K:={jh with mode:=bu .plain [],rsl:=[[]],deep:=fun c=>bP (D.cells c (K.zero c)),call:=callOf D [],loop:=bf []}
theorem Y0 : aI (Vy):=aA aG _ (bn)
theorem aby : (JK (M.PI)).Ok D Tryz.prog:=
 bz (cx:=Vy) (c:=JK (M.PI)) (fz:=false) (fn:=Tryz.f69) aG (Y0) ai ⟨Tryz.func69,by kernel_rfl⟩ (bC (ay (by kernel_rfl))) ⟨⟨[.el U.rP],[]⟩,fun x=>x.1.1⟩ (fun x=>rfl) (fun x=>by kernel_rfl)
def IJ (y:(List M.aT)) {R:Type} (k:Ex->List (AV K)->List (Ob K)->R):R:=match y with
 |a0=>k (Ex.exit 0) (dw.dC D ⟨[.own 1],[.dead, .arr U.rP]⟩ (((),()),((),(a0,())))) (dw.dI D ⟨[.own 1],[.dead, .arr U.rP]⟩ (((),()),((),(a0,()))))
def Vz : List (dU K ((List M.aT))):=[⟨(Ex.exit 0),⟨[.own 1],[.dead, .arr U.rP]⟩,fun x=>x.2.2.1⟩]
def Nh : dM K:=dX D false 23 1 [0,3,4] [3] ⟨[.bD U.rP, .own 1, .int .i64],[.dead, .arr U.rP]⟩ (fun x=>M.oI x.1.1 aF x.1.2.2.1 x.2.2.1) IJ
def G7 (m:(List M.aT)->Option ((List M.aT))):bY K:={f:=42,sh:=⟨[.bD U.rP],[]⟩,R:=(List M.aT),run:=fun x=>m x.1.1,dflt:=default,out:=fun r=>(Sh.enc D (.own 0) (),dY.encs D [.arr U.rP] (r,()))}
def DV : Cx K:={jh with mode:=bu .plain [(69, .fresh)],rsl:=[[some U.rP]],deep:=fun c=>bP (D.cells c (K.zero c)),call:=callOf D [JK M.PI],loop:=bf [(3,Nh)]}
theorem Nj : aI (DV):=aA aG _ (az aby (bn))
theorem UD : bT (DV) (bU (bW Tryz.f42) 0) (Nh):=
 bG (cx:=DV) (n:=23) (n0:=1) (ins:=[0,3,4]) (outs:=[3]) (sh:=⟨[.bD U.rP, .own 1, .int .i64],[.dead, .arr U.rP]⟩) (run:=fun n x=>M.oI x.1.1 n x.1.2.2.1 x.2.2.1) (dR:=Vz) (out:=IJ) aG (Nj) ai (ay (by kernel_rfl)) (fun _=>rfl) (fun m x=>by kernel_rfl) (az ⟨bH,fun _ _ _=>rfl⟩ (bn)) false aF
theorem aag : (G7 (M.FK)).Ok D Tryz.prog:=
 bz (cx:=DV) (c:=G7 (M.FK)) (fz:=false) (fn:=Tryz.f42) aG (Nj) ai ⟨Tryz.func42,by kernel_rfl⟩ (bC (aP 1 (by kernel_rfl) (cZ (.mk (by kernel_rfl) (UD))))) ⟨⟨[.own 0],[.arr U.rP]⟩,fun x=>x.2.1⟩ (fun x=>rfl) (fun x=>by kernel_rfl)
def G8 (m:M.ak->Option (Int×(List M.aT))):bY K:={f:=20,sh:=⟨[.el U.Prog],[]⟩,R:=Int×(List M.aT),run:=fun x=>m x.1.1,dflt:=default,out:=fun r=>(Sh.enc D (.agg [.int .i64, .own 0]) (r.1,((),())),dY.encs D [.arr U.rP] (r.2,()))}
def Tn : Cx K:={jh with mode:=bu .plain [(42, .fresh)],rsl:=[[none,some U.rP]],deep:=fun c=>bP (D.cells c (K.zero c)),call:=callOf D [G7 M.FK],loop:=bf []}
theorem XH : aI (Tn):=aA aG _ (az aag (bn))
theorem aah : (G8 (M.FM)).Ok D Tryz.prog:=
 bz (cx:=Tn) (c:=G8 (M.FM)) (fz:=false) (fn:=Tryz.f20) aG (XH) ai ⟨Tryz.func20,by kernel_rfl⟩ (bC (ay (by kernel_rfl))) ⟨⟨[.agg [.int .i64, .own 0]],[.arr U.rP]⟩,fun x=>(x.1.1.1,x.2.1)⟩ (fun x=>rfl) (fun x=>by kernel_rfl)
def FN (y:(List M.ak)) {R:Type} (k:Ex->List (AV K)->List (Ob K)->R):R:=match y with
 |a0=>k (Ex.exit 0) (dw.dC D ⟨[.own 1],[.dead, .tree U.Prog]⟩ (((),()),((),(a0,())))) (dw.dI D ⟨[.own 1],[.dead, .tree U.Prog]⟩ (((),()),((),(a0,()))))
def UE : List (dU K ((List M.ak))):=[⟨(Ex.exit 0),⟨[.own 1],[.dead, .tree U.Prog]⟩,fun x=>x.2.2.1⟩]
def JL : dM K:=dX D false 23 1 [0,3,4] [3] ⟨[.bD U.Prog, .own 1, .int .i64],[.dead, .tree U.Prog]⟩ (fun x=>M.l7 x.1.1 aF x.1.2.2.1 x.2.2.1) FN
def Ey (m:(List M.ak)->Option ((List M.ak))):bY K:={f:=6,sh:=⟨[.bD U.Prog],[]⟩,R:=(List M.ak),run:=fun x=>m x.1.1,dflt:=default,out:=fun r=>(Sh.enc D (.own 0) (),dY.encs D [.tree U.Prog] (r,()))}
def Az : Cx K:={jh with mode:=bu .plain [(20, .fresh)],rsl:=[[some U.Prog]],deep:=fun c=>bP (D.cells c (K.zero c)),call:=callOf D [G8 M.FM],loop:=bf [(3,JL)]}
theorem JM : aI (Az):=aA aG _ (az aah (bn))
theorem Q8 : bT (Az) (bU (bW Tryz.f6) 0) (JL):=
 bG (cx:=Az) (n:=23) (n0:=1) (ins:=[0,3,4]) (outs:=[3]) (sh:=⟨[.bD U.Prog, .own 1, .int .i64],[.dead, .tree U.Prog]⟩) (run:=fun n x=>M.l7 x.1.1 n x.1.2.2.1 x.2.2.1) (dR:=UE) (out:=FN) aG (JM) ai (ay (by kernel_rfl)) (fun _=>rfl) (fun m x=>by kernel_rfl) (az ⟨bH,fun _ _ _=>rfl⟩ (bn)) false aF
theorem Y1 : (Ey (M.Ba)).Ok D Tryz.prog:=
 bz (cx:=Az) (c:=Ey (M.Ba)) (fz:=false) (fn:=Tryz.f6) aG (JM) ai ⟨Tryz.func6,by kernel_rfl⟩ (bC (aP 1 (by kernel_rfl) (cZ (.mk (by kernel_rfl) (Q8))))) ⟨⟨[.own 0],[.tree U.Prog]⟩,fun x=>x.2.1⟩ (fun x=>rfl) (fun x=>by kernel_rfl)
def DW (y:(List Int)) {R:Type} (k:Ex->List (AV K)->List (Ob K)->R):R:=match y with
 |a0=>k (Ex.exit 0) (dw.dC D ⟨[.own 1],[.dead, .arr U.i64]⟩ (((),()),((),(a0,())))) (dw.dI D ⟨[.own 1],[.dead, .arr U.i64]⟩ (((),()),((),(a0,()))))
def Q9 : List (dU K ((List Int))):=[⟨(Ex.exit 0),⟨[.own 1],[.dead, .arr U.i64]⟩,fun x=>x.2.2.1⟩]
def IK : dM K:=dX D false 22 1 [0,3,4] [3] ⟨[.bD U.i64, .own 1, .int .i64],[.dead, .arr U.i64]⟩ (fun x=>M.jZ x.1.1 aF x.1.2.2.1 x.2.2.1) DW
def BV (m:(List Int)->Option ((List Int))):bY K:={f:=7,sh:=⟨[.bD U.i64],[]⟩,R:=(List Int),run:=fun x=>m x.1.1,dflt:=default,out:=fun r=>(Sh.enc D (.own 0) (),dY.encs D [.arr U.i64] (r,()))}
def yx : Cx K:={jh with mode:=bu .plain [],rsl:=[[some U.i64]],deep:=fun c=>bP (D.cells c (K.zero c)),call:=callOf D [],loop:=bf [(3,IK)]}
theorem IL : aI (yx):=aA aG _ (bn)
theorem PK : bT (yx) (bU (bW Tryz.f7) 0) (IK):=
 bG (cx:=yx) (n:=22) (n0:=1) (ins:=[0,3,4]) (outs:=[3]) (sh:=⟨[.bD U.i64, .own 1, .int .i64],[.dead, .arr U.i64]⟩) (run:=fun n x=>M.jZ x.1.1 n x.1.2.2.1 x.2.2.1) (dR:=Q9) (out:=DW) aG (IL) ai (ay (by kernel_rfl)) (fun _=>rfl) (fun m x=>by kernel_rfl) (az ⟨bH,fun _ _ _=>rfl⟩ (bn)) false aF
theorem XI : (BV (M.xM)).Ok D Tryz.prog:=
 bz (cx:=yx) (c:=BV (M.xM)) (fz:=false) (fn:=Tryz.f7) aG (IL) ai ⟨Tryz.func7,by kernel_rfl⟩ (bC (aP 1 (by kernel_rfl) (cZ (.mk (by kernel_rfl) (PK))))) ⟨⟨[.own 0],[.arr U.i64]⟩,fun x=>x.2.1⟩ (fun x=>rfl) (fun x=>by kernel_rfl)
def G9 (m:M.aT->Option (Bool)):bY K:={f:=66,sh:=⟨[.el U.rP],[]⟩,R:=Bool,run:=fun x=>m x.1.1,dflt:=default,out:=fun r=>(Sh.enc D (.bool) r,dY.encs D [] ())}
def Tq : Cx K:={jh with mode:=bu .plain [(40, .plain)],call:=callOf D [qI M.GV],loop:=bf []}
theorem XJ : aI (Tq):=aA aG _ (az BF (bn))
theorem aai : (G9 (M.sF)).Ok D Tryz.prog:=
 bz (cx:=Tq) (c:=G9 (M.sF)) (fz:=true) (fn:=Tryz.f66) aG (XJ) ai ⟨Tryz.func66,by kernel_rfl⟩ (bC (ay (by kernel_rfl))) ⟨⟨[.bool],[]⟩,fun x=>x.1.1⟩ (fun x=>rfl) (fun x=>by kernel_rfl)
def IM (y:(Bool)⊕(Unit)) {R:Type} (k:Ex->List (AV K)->List (Ob K)->R):R:=match y with
 | .inl a0=>k Ex.ret (dw.dC D ⟨[.bool],[.dead]⟩ ((a0,()),((),()))) (dw.dI D ⟨[.bool],[.dead]⟩ ((a0,()),((),())))
 | .inr (a1)=>k (Ex.exit 0) (dw.dC D ⟨[.any],[.dead]⟩ (((),()),((),()))) (dw.dI D ⟨[.any],[.dead]⟩ (((),()),((),())))
def VA : List (dU K ((Bool)⊕(Unit))):=[⟨Ex.ret,⟨[.bool],[.dead]⟩,fun x=> .inl x.1.1⟩,⟨(Ex.exit 0),⟨[.any],[.dead]⟩,fun x=> .inr (())⟩]
def Nk : dM K:=dX D false 28 1 [1,3] [2] ⟨[.ptr 0 0, .int .i64],[.el U.Prog]⟩ (fun x=>M.oC x.2.1 aF x.1.2.1) IM
def Ha (m:M.ak->Option (Bool)):bY K:={f:=38,sh:=⟨[.el U.Prog],[]⟩,R:=Bool,run:=fun x=>m x.1.1,dflt:=default,out:=fun r=>(Sh.enc D (.bool) r,dY.encs D [] ())}
def DX : Cx K:={jh with mode:=bu .plain [(40, .plain),(66, .plain)],call:=callOf D [qI M.GV,G9 M.sF],loop:=bf [(4,Nk)]}
theorem Nl : aI (DX):=aA aG _ (az BF (az aai (bn)))
theorem UF : bT (DX) (bU (bW Tryz.f38) 0) (Nk):=
 bG (cx:=DX) (n:=28) (n0:=1) (ins:=[1,3]) (outs:=[2]) (sh:=⟨[.ptr 0 0, .int .i64],[.el U.Prog]⟩) (run:=fun n x=>M.oC x.2.1 n x.1.2.1) (dR:=VA) (out:=IM) aG (Nl) ai (ay (by kernel_rfl)) (fun _=>rfl) (fun m x=>by kernel_rfl) (az ⟨fE,fun _ _ _=>rfl⟩ (az ⟨bH,fun _ _ _=>rfl⟩ (bn))) false aF
theorem aaj : (Ha (M.Bv)).Ok D Tryz.prog:=
 bz (cx:=DX) (c:=Ha (M.Bv)) (fz:=true) (fn:=Tryz.f38) aG (Nl) ai ⟨Tryz.func38,by kernel_rfl⟩ (bC (aP 1 (by kernel_rfl) (cZ (.mk (by kernel_rfl) (UF))))) ⟨⟨[.bool],[]⟩,fun x=>x.1.1⟩ (fun x=>rfl) (fun x=>by kernel_rfl)
def DY (y:(Bool)⊕(Unit)) {R:Type} (k:Ex->List (AV K)->List (Ob K)->R):R:=match y with
 | .inl a0=>k Ex.ret (dw.dC D ⟨[.bool],[]⟩ ((a0,()),())) (dw.dI D ⟨[.bool],[]⟩ ((a0,()),()))
 | .inr (a1)=>k (Ex.exit 0) (dw.dC D ⟨[.any],[]⟩ (((),()),())) (dw.dI D ⟨[.any],[]⟩ (((),()),()))
def Rf : List (dU K ((Bool)⊕(Unit))):=[⟨Ex.ret,⟨[.bool],[]⟩,fun x=> .inl x.1.1⟩,⟨(Ex.exit 0),⟨[.any],[]⟩,fun x=> .inr (())⟩]
def IP : dM K:=dX D false 24 0 [0,3] [2] ⟨[.bD U.Prog, .int .i64],[]⟩ (fun x=>M.mF x.1.1 aF x.1.2.1) DY
def BX (m:(List M.ak)->Option (Bool)):bY K:={f:=17,sh:=⟨[.bD U.Prog],[]⟩,R:=Bool,run:=fun x=>m x.1.1,dflt:=default,out:=fun r=>(Sh.enc D (.bool) r,dY.encs D [] ())}
def yz : Cx K:={jh with mode:=bu .plain [(38, .plain)],call:=callOf D [Ha M.Bv],loop:=bf [(4,IP)]}
theorem IQ : aI (yz):=aA aG _ (az aaj (bn))
theorem PL : bT (yz) (bU (bW Tryz.f17) 0) (IP):=
 bG (cx:=yz) (n:=24) (n0:=0) (ins:=[0,3]) (outs:=[2]) (sh:=⟨[.bD U.Prog, .int .i64],[]⟩) (run:=fun n x=>M.mF x.1.1 n x.1.2.1) (dR:=Rf) (out:=DY) aG (IQ) ai (ay (by kernel_rfl)) (fun _=>rfl) (fun m x=>by kernel_rfl) (az ⟨fE,fun _ _ _=>rfl⟩ (az ⟨bH,fun _ _ _=>rfl⟩ (bn))) false aF
theorem XK : (BX (M.xq)).Ok D Tryz.prog:=
 bz (cx:=yz) (c:=BX (M.xq)) (fz:=true) (fn:=Tryz.f17) aG (IQ) ai ⟨Tryz.func17,by kernel_rfl⟩ (bC (aP 1 (by kernel_rfl) (cZ (.mk (by kernel_rfl) (PL))))) ⟨⟨[.bool],[]⟩,fun x=>x.1.1⟩ (fun x=>rfl) (fun x=>by kernel_rfl)
def zh (y:(List M.ak)) {R:Type} (k:Ex->List (AV K)->List (Ob K)->R):R:=match y with
 |a0=>k (Ex.exit 0) (dw.dC D ⟨[.own 1],[.dead, .arr U.Prog]⟩ (((),()),((),(a0,())))) (dw.dI D ⟨[.own 1],[.dead, .arr U.Prog]⟩ (((),()),((),(a0,()))))
def Me : List (dU K ((List M.ak))):=[⟨(Ex.exit 0),⟨[.own 1],[.dead, .arr U.Prog]⟩,fun x=>x.2.2.1⟩]
def BZ : dM K:=dX D false 29 1 [0,3,4] [3] ⟨[.bD U.Prog, .own 1, .int .i64],[.dead, .arr U.Prog]⟩ (fun x=>M.jb x.1.1 aF x.1.2.2.1 x.2.2.1) zh
def vZ (m:(List M.ak)->Option ((List M.ak))):bY K:={f:=18,sh:=⟨[.bD U.Prog],[]⟩,R:=(List M.ak),run:=fun x=>m x.1.1,dflt:=default,out:=fun r=>(Sh.enc D (.bD U.Prog) r,dY.encs D [] ())}
def rE : Cx K:={jh with mode:=bu .plain [],call:=callOf D [],loop:=bf [(3,BZ)]}
theorem Cb : aI (rE):=aA aG _ (bn)
theorem JO : bT (rE) (bU (bW Tryz.f18) 0) (BZ):=
 bG (cx:=rE) (n:=29) (n0:=1) (ins:=[0,3,4]) (outs:=[3]) (sh:=⟨[.bD U.Prog, .own 1, .int .i64],[.dead, .arr U.Prog]⟩) (run:=fun n x=>M.jb x.1.1 n x.1.2.2.1 x.2.2.1) (dR:=Me) (out:=zh) aG (Cb) ai (ay (by kernel_rfl)) (fun _=>rfl) (fun m x=>by kernel_rfl) (az ⟨bH,fun _ _ _=>rfl⟩ (bn)) false aF
theorem Rh : (vZ (M.pM)).Ok D Tryz.prog:=
 bz (cx:=rE) (c:=vZ (M.pM)) (fz:=true) (fn:=Tryz.f18) aG (Cb) ai ⟨Tryz.func18,by kernel_rfl⟩ (bC (aP 1 (by kernel_rfl) (cZ (.mk (by kernel_rfl) (JO))))) ⟨⟨[.bD U.Prog],[]⟩,fun x=>x.1.1⟩ (fun x=>rfl) (fun x=>by kernel_rfl)
def zH (m:M.ae->Int->Option (M.af×Int)):bY K:={f:=19,sh:=⟨[.el U.Type, .int .i64],[]⟩,R:=M.af×Int,run:=fun x=>m x.1.1 x.1.2.1,dflt:=default,out:=fun r=>(Sh.enc D (.pR [.el U.Stream, .int .i64]) (r.1,(r.2,())),dY.encs D [] ())}
def JP : Cx K:={jh with mode:=bu .plain [(39, .plain),(40, .plain),(41, .JD)],call:=callOf D [Et M.xn,qI M.GV,jO M.OX],loop:=bf []}
theorem Ri : aI (JP):=aA aG _ (az YX (az BF (az aac (bn))))
theorem VB : (zH (M.uB)).Ok D Tryz.prog:=
 bz (cx:=JP) (c:=zH (M.uB)) (fz:=true) (fn:=Tryz.f19) aG (Ri) ai ⟨Tryz.func19,by kernel_rfl⟩ (bC (ay (by kernel_rfl))) ⟨⟨[.pR [.el U.Stream, .int .i64]],[]⟩,fun x=>(x.1.1.1,x.1.1.2.1)⟩ (fun x=>rfl) (fun x=>by kernel_rfl)
def DZ (y:(Int×(List M.ak)×(List M.af)×(List M.aj)×(List Int)×(List M.aK))⊕((List M.ak)×(List M.ak)×(List M.af)×(List M.aj)×(List Int)×(List M.aK)×(List M.af)×(List M.aj)×(List Int)×(List M.aK))) {R:Type} (k:Ex->List (AV K)->List (Ob K)->R):R:=match y with
 | .inl a0=>k Ex.ret (dw.dC D ⟨[.ptr 0 0, .any, .int .i64],[.box [.own 11, .own 12, .own 13, .own 14, .own 15], .dead, .dead, .dead, .dead, .dead, .dead, .dead, .dead, .dead, .dead, .arr U.Prog, .arr U.Stream, .arr U.Task, .arr U.i64, .arr U.Note, .dead, .dead, .dead, .dead]⟩ (((),((),(a0.1,()))),(((),((),((),((),((),()))))),((),((),((),((),((),((),((),((),((),((),(a0.2.1,(a0.2.2.1,(a0.2.2.2.1,(a0.2.2.2.2.1,(a0.2.2.2.2.2,((),((),((),((),())))))))))))))))))))))) (dw.dI D ⟨[.ptr 0 0, .any, .int .i64],[.box [.own 11, .own 12, .own 13, .own 14, .own 15], .dead, .dead, .dead, .dead, .dead, .dead, .dead, .dead, .dead, .dead, .arr U.Prog, .arr U.Stream, .arr U.Task, .arr U.i64, .arr U.Note, .dead, .dead, .dead, .dead]⟩ (((),((),(a0.1,()))),(((),((),((),((),((),()))))),((),((),((),((),((),((),((),((),((),((),(a0.2.1,(a0.2.2.1,(a0.2.2.2.1,(a0.2.2.2.2.1,(a0.2.2.2.2.2,((),((),((),((),()))))))))))))))))))))))
 | .inr (a1)=>k (Ex.exit 0) (dw.dC D ⟨[.ptr 0 0, .ptr 1 0, .any],[.box [.own 11, .own 12, .own 13, .own 14, .own 15], .box [.bD U.Prog, .own 16, .own 17, .own 18, .own 19], .dead, .dead, .dead, .dead, .dead, .dead, .dead, .dead, .dead, .arr U.Prog, .arr U.Stream, .arr U.Task, .arr U.i64, .arr U.Note, .arr U.Stream, .arr U.Task, .arr U.i64, .arr U.Note]⟩ (((),((),((),()))),(((),((),((),((),((),()))))),((a1.1,((),((),((),((),()))))),((),((),((),((),((),((),((),((),((),(a1.2.1,(a1.2.2.1,(a1.2.2.2.1,(a1.2.2.2.2.1,(a1.2.2.2.2.2.1,(a1.2.2.2.2.2.2.1,(a1.2.2.2.2.2.2.2.1,(a1.2.2.2.2.2.2.2.2.1,(a1.2.2.2.2.2.2.2.2.2,())))))))))))))))))))))) (dw.dI D ⟨[.ptr 0 0, .ptr 1 0, .any],[.box [.own 11, .own 12, .own 13, .own 14, .own 15], .box [.bD U.Prog, .own 16, .own 17, .own 18, .own 19], .dead, .dead, .dead, .dead, .dead, .dead, .dead, .dead, .dead, .arr U.Prog, .arr U.Stream, .arr U.Task, .arr U.i64, .arr U.Note, .arr U.Stream, .arr U.Task, .arr U.i64, .arr U.Note]⟩ (((),((),((),()))),(((),((),((),((),((),()))))),((a1.1,((),((),((),((),()))))),((),((),((),((),((),((),((),((),((),(a1.2.1,(a1.2.2.1,(a1.2.2.2.1,(a1.2.2.2.2.1,(a1.2.2.2.2.2.1,(a1.2.2.2.2.2.2.1,(a1.2.2.2.2.2.2.2.1,(a1.2.2.2.2.2.2.2.2.1,(a1.2.2.2.2.2.2.2.2.2,()))))))))))))))))))))))
def Rj : List (dU K ((Int×(List M.ak)×(List M.af)×(List M.aj)×(List Int)×(List M.aK))⊕((List M.ak)×(List M.ak)×(List M.af)×(List M.aj)×(List Int)×(List M.aK)×(List M.af)×(List M.aj)×(List Int)×(List M.aK)))):=[⟨Ex.ret,⟨[.ptr 0 0, .any, .int .i64],[.box [.own 11, .own 12, .own 13, .own 14, .own 15], .dead, .dead, .dead, .dead, .dead, .dead, .dead, .dead, .dead, .dead, .arr U.Prog, .arr U.Stream, .arr U.Task, .arr U.i64, .arr U.Note, .dead, .dead, .dead, .dead]⟩,fun x=> .inl (x.1.2.2.1,x.2.2.2.2.2.2.2.2.2.2.2.2.1,x.2.2.2.2.2.2.2.2.2.2.2.2.2.1,x.2.2.2.2.2.2.2.2.2.2.2.2.2.2.1,x.2.2.2.2.2.2.2.2.2.2.2.2.2.2.2.1,x.2.2.2.2.2.2.2.2.2.2.2.2.2.2.2.2.1)⟩,⟨(Ex.exit 0),⟨[.ptr 0 0, .ptr 1 0, .any],[.box [.own 11, .own 12, .own 13, .own 14, .own 15], .box [.bD U.Prog, .own 16, .own 17, .own 18, .own 19], .dead, .dead, .dead, .dead, .dead, .dead, .dead, .dead, .dead, .arr U.Prog, .arr U.Stream, .arr U.Task, .arr U.i64, .arr U.Note, .arr U.Stream, .arr U.Task, .arr U.i64, .arr U.Note]⟩,fun x=> .inr ((x.2.2.1.1,x.2.2.2.2.2.2.2.2.2.2.2.2.1,x.2.2.2.2.2.2.2.2.2.2.2.2.2.1,x.2.2.2.2.2.2.2.2.2.2.2.2.2.2.1,x.2.2.2.2.2.2.2.2.2.2.2.2.2.2.2.1,x.2.2.2.2.2.2.2.2.2.2.2.2.2.2.2.2.1,x.2.2.2.2.2.2.2.2.2.2.2.2.2.2.2.2.2.1,x.2.2.2.2.2.2.2.2.2.2.2.2.2.2.2.2.2.2.1,x.2.2.2.2.2.2.2.2.2.2.2.2.2.2.2.2.2.2.2.1,x.2.2.2.2.2.2.2.2.2.2.2.2.2.2.2.2.2.2.2.2.1))⟩]
def IU : dM K:=dX D false 47 11 [1,4,6,7] [4,6,5] ⟨[.bD U.i64, .ptr 0 0, .ptr 1 0, .int .i64],[.box [.own 11, .own 12, .own 13, .own 14, .own 15], .box [.bD U.Prog, .own 16, .own 17, .own 18, .own 19], .dead, .dead, .dead, .dead, .dead, .dead, .dead, .dead, .dead, .arr U.Prog, .arr U.Stream, .arr U.Task, .arr U.i64, .arr U.Note, .arr U.Stream, .arr U.Task, .arr U.i64, .arr U.Note]⟩ (fun x=>M.mG x.1.1 x.2.2.1.1 x.2.2.2.2.2.2.2.2.2.2.2.2.1 x.2.2.2.2.2.2.2.2.2.2.2.2.2.1 x.2.2.2.2.2.2.2.2.2.2.2.2.2.2.1 x.2.2.2.2.2.2.2.2.2.2.2.2.2.2.2.1 x.2.2.2.2.2.2.2.2.2.2.2.2.2.2.2.2.1 x.2.2.2.2.2.2.2.2.2.2.2.2.2.2.2.2.2.2.1 x.2.2.2.2.2.2.2.2.2.2.2.2.2.2.2.2.2.2.2.1 x.2.2.2.2.2.2.2.2.2.2.2.2.2.2.2.2.2.2.2.2.1 aF x.1.2.2.2.1 x.2.2.2.2.2.2.2.2.2.2.2.2.2.2.2.2.2.1) DZ
def Cc (m:(List M.ak)->(List Int)->Option (M.aX×Int)):bY K:={f:=5,sh:=⟨[.bD U.Prog, .bD U.i64],[]⟩,R:=M.aX×Int,run:=fun x=>m x.1.1 x.1.2.1,dflt:=default,out:=fun r=>(Sh.enc D (.pR [.el U.Async, .int .i64]) (r.1,(r.2,())),dY.encs D [] ())}
def yA : Cx K:={jh with mode:=bu .plain [(17, .plain),(18, .JD),(19, .JD)],call:=callOf D [BX M.xq,vZ M.pM,zH M.uB],loop:=bf [(7,IU)]}
theorem IV : aI (yA):=aA aG _ (az XK (az Rh (az VB (bn))))
theorem PM : bT (yA) (bU (bW Tryz.f5) 0) (IU):=
 bG (cx:=yA) (n:=47) (n0:=11) (ins:=[1,4,6,7]) (outs:=[4,6,5]) (sh:=⟨[.bD U.i64, .ptr 0 0, .ptr 1 0, .int .i64],[.box [.own 11, .own 12, .own 13, .own 14, .own 15], .box [.bD U.Prog, .own 16, .own 17, .own 18, .own 19], .dead, .dead, .dead, .dead, .dead, .dead, .dead, .dead, .dead, .arr U.Prog, .arr U.Stream, .arr U.Task, .arr U.i64, .arr U.Note, .arr U.Stream, .arr U.Task, .arr U.i64, .arr U.Note]⟩) (run:=fun n x=>M.mG x.1.1 x.2.2.1.1 x.2.2.2.2.2.2.2.2.2.2.2.2.1 x.2.2.2.2.2.2.2.2.2.2.2.2.2.1 x.2.2.2.2.2.2.2.2.2.2.2.2.2.2.1 x.2.2.2.2.2.2.2.2.2.2.2.2.2.2.2.1 x.2.2.2.2.2.2.2.2.2.2.2.2.2.2.2.2.1 x.2.2.2.2.2.2.2.2.2.2.2.2.2.2.2.2.2.2.1 x.2.2.2.2.2.2.2.2.2.2.2.2.2.2.2.2.2.2.2.1 x.2.2.2.2.2.2.2.2.2.2.2.2.2.2.2.2.2.2.2.2.1 n x.1.2.2.2.1 x.2.2.2.2.2.2.2.2.2.2.2.2.2.2.2.2.2.1) (dR:=Rj) (out:=DZ) aG (IV) ai (ay (by kernel_rfl)) (fun _=>rfl) (fun m x=>by kernel_rfl) (az ⟨fE,fun _ _ _=>rfl⟩ (az ⟨bH,fun _ _ _=>rfl⟩ (bn))) false aF
theorem XL : (Cc (M.xu)).Ok D Tryz.prog:=
 bz (cx:=yA) (c:=Cc (M.xu)) (fz:=true) (fn:=Tryz.f5) aG (IV) ai ⟨Tryz.func5,by kernel_rfl⟩ (bC (aP 1 (by kernel_rfl) (cZ (.mk (by kernel_rfl) (PM))))) ⟨⟨[.pR [.el U.Async, .int .i64]],[]⟩,fun x=>(x.1.1.1,x.1.1.2.1)⟩ (fun x=>rfl) (fun x=>by kernel_rfl)
def zI (m:(List M.ak)->Option (Int)):bY K:={f:=44,sh:=⟨[.bD U.Prog],[]⟩,R:=Int,run:=fun x=>m x.1.1,dflt:=default,out:=fun r=>(Sh.enc D (.int .i64) r,dY.encs D [] ())}
def JQ : Cx K:={jh with mode:=bu .plain [],call:=callOf D [],loop:=bf []}
theorem Rk : aI (JQ):=aA aG _ (bn)
theorem VC : (zI (M.JR)).Ok D Tryz.prog:=
 bz (cx:=JQ) (c:=zI (M.JR)) (fz:=true) (fn:=Tryz.f44) aG (Rk) ai ⟨Tryz.func44,by kernel_rfl⟩ (bC (ay (by kernel_rfl))) ⟨⟨[.int .i64],[]⟩,fun x=>x.1.1⟩ (fun x=>rfl) (fun x=>by kernel_rfl)
def JS (m:M.aT->Option (Bool)):bY K:={f:=73,sh:=⟨[.el U.rP],[]⟩,R:=Bool,run:=fun x=>m x.1.1,dflt:=default,out:=fun r=>(Sh.enc D (.bool) r,dY.encs D [] ())}
def VD : Cx K:={jh with mode:=bu .plain [(43, .plain)],call:=callOf D [lZ M.y8],loop:=bf []}
theorem Y2 : aI (VD):=aA aG _ (az uO (bn))
theorem abz : (JS (M.Dt)).Ok D Tryz.prog:=
 bz (cx:=VD) (c:=JS (M.Dt)) (fz:=true) (fn:=Tryz.f73) aG (Y2) ai ⟨Tryz.func73,by kernel_rfl⟩ (bC (ay (by kernel_rfl))) ⟨⟨[.bool],[]⟩,fun x=>x.1.1⟩ (fun x=>rfl) (fun x=>by kernel_rfl)
def zJ (m:M.aT->Option (Bool)):bY K:={f:=72,sh:=⟨[.el U.rP],[]⟩,R:=Bool,run:=fun x=>m x.1.1,dflt:=default,out:=fun r=>(Sh.enc D (.bool) r,dY.encs D [] ())}
def JU : Cx K:={jh with mode:=bu .plain [(73, .plain)],call:=callOf D [JS M.Dt],loop:=bf []}
theorem Rl : aI (JU):=aA aG _ (az abz (bn))
theorem VE : (zJ (M.JV)).Ok D Tryz.prog:=
 bz (cx:=JU) (c:=zJ (M.JV)) (fz:=true) (fn:=Tryz.f72) aG (Rl) ai ⟨Tryz.func72,by kernel_rfl⟩ (bC (ay (by kernel_rfl))) ⟨⟨[.bool],[]⟩,fun x=>x.1.1⟩ (fun x=>rfl) (fun x=>by kernel_rfl)
def nz (y:(Int)⊕(Unit)) {R:Type} (k:Ex->List (AV K)->List (Ob K)->R):R:=match y with
 | .inl a0=>k Ex.ret (dw.dC D ⟨[.int .i64],[]⟩ ((a0,()),())) (dw.dI D ⟨[.int .i64],[]⟩ ((a0,()),()))
 | .inr (a1)=>k (Ex.exit 0) (dw.dC D ⟨[.any],[]⟩ (((),()),())) (dw.dI D ⟨[.any],[]⟩ (((),()),()))
def xN : List (dU K ((Int)⊕(Unit))):=[⟨Ex.ret,⟨[.int .i64],[]⟩,fun x=> .inl x.1.1⟩,⟨(Ex.exit 0),⟨[.any],[]⟩,fun x=> .inr (())⟩]
def oJ : dM K:=dX D false 19 0 [0,1,7,8] [4] ⟨[.bD U.rP, .fn 72 [], .int .i64, .int .i64],[]⟩ (fun x=>M.dn x.1.1 x.1.2.2.1 aF x.1.2.2.2.1) nz
def jG (m:(List M.aT)->Option (Int)):bY K:={f:=85,sh:=⟨[.bD U.rP, .fn 72 []],[]⟩,R:=Int,run:=fun x=>m x.1.1,dflt:=default,out:=fun r=>(Sh.enc D (.int .i64) r,dY.encs D [] ())}
def iC : Cx K:={jh with mode:=bu .plain [(72, .plain)],call:=callOf D [zJ M.JV],loop:=bf [(2,oJ)]}
theorem oK : aI (iC):=aA aG _ (az VE (bn))
theorem xe : bT (iC) (bU (bW Tryz.f85) 0) (oJ):=
 bG (cx:=iC) (n:=19) (n0:=0) (ins:=[0,1,7,8]) (outs:=[4]) (sh:=⟨[.bD U.rP, .fn 72 [], .int .i64, .int .i64],[]⟩) (run:=fun n x=>M.dn x.1.1 x.1.2.2.1 n x.1.2.2.2.1) (dR:=xN) (out:=nz) aG (oK) ai (ay (by kernel_rfl)) (fun _=>rfl) (fun m x=>by kernel_rfl) (az ⟨fE,fun _ _ _=>rfl⟩ (az ⟨bH,fun _ _ _=>rfl⟩ (bn))) false aF
theorem AA : (jG (M.gJ)).Ok D Tryz.prog:=
 bz (cx:=iC) (c:=jG (M.gJ)) (fz:=true) (fn:=Tryz.f85) aG (oK) ai ⟨Tryz.func85,by kernel_rfl⟩ (bC (aP 1 (by kernel_rfl) (cZ (.mk (by kernel_rfl) (xe))))) ⟨⟨[.int .i64],[]⟩,fun x=>x.1.1⟩ (fun x=>rfl) (fun x=>by kernel_rfl)
def iZ (m:(List M.aT)->Option (Bool)):bY K:={f:=71,sh:=⟨[.bD U.rP, .fn 72 []],[]⟩,R:=Bool,run:=fun x=>m x.1.1,dflt:=default,out:=fun r=>(Sh.enc D (.bool) r,dY.encs D [] ())}
def nU : Cx K:={jh with mode:=bu .plain [(85, .plain)],call:=callOf D [jG M.gJ],loop:=bf []}
theorem wo : aI (nU):=aA aG _ (az AA (bn))
theorem xO : (iZ (M.eH)).Ok D Tryz.prog:=
 bz (cx:=nU) (c:=iZ (M.eH)) (fz:=true) (fn:=Tryz.f71) aG (wo) ai ⟨Tryz.func71,by kernel_rfl⟩ (bC (ay (by kernel_rfl))) ⟨⟨[.bool],[]⟩,fun x=>x.1.1⟩ (fun x=>rfl) (fun x=>by kernel_rfl)
def He (m:M.ak->Option (Bool)):bY K:={f:=47,sh:=⟨[.el U.Prog],[]⟩,R:=Bool,run:=fun x=>m x.1.1,dflt:=default,out:=fun r=>(Sh.enc D (.bool) r,dY.encs D [] ())}
def Tt : Cx K:={jh with mode:=bu .plain [(43, .plain),(71, .plain)],call:=callOf D [lZ M.y8,iZ M.eH],loop:=bf []}
theorem XM : aI (Tt):=aA aG _ (az uO (az xO (bn)))
theorem aak : (He (M.Bz)).Ok D Tryz.prog:=
 bz (cx:=Tt) (c:=He (M.Bz)) (fz:=true) (fn:=Tryz.f47) aG (XM) ai ⟨Tryz.func47,by kernel_rfl⟩ (bC (ay (by kernel_rfl))) ⟨⟨[.bool],[]⟩,fun x=>x.1.1⟩ (fun x=>rfl) (fun x=>by kernel_rfl)
def xP (m:M.ak->Option (Bool)):bY K:={f:=46,sh:=⟨[.el U.Prog],[]⟩,R:=Bool,run:=fun x=>m x.1.1,dflt:=default,out:=fun r=>(Sh.enc D (.bool) r,dY.encs D [] ())}
def IW : Cx K:={jh with mode:=bu .plain [(47, .plain)],call:=callOf D [He M.Bz],loop:=bf []}
theorem PN : aI (IW):=aA aG _ (az aak (bn))
theorem UG : (xP (M.qZ)).Ok D Tryz.prog:=
 bz (cx:=IW) (c:=xP (M.qZ)) (fz:=true) (fn:=Tryz.f46) aG (PN) ai ⟨Tryz.func46,by kernel_rfl⟩ (bC (ay (by kernel_rfl))) ⟨⟨[.bool],[]⟩,fun x=>x.1.1⟩ (fun x=>rfl) (fun x=>by kernel_rfl)
def lJ (y:(Int)⊕(Unit)) {R:Type} (k:Ex->List (AV K)->List (Ob K)->R):R:=match y with
 | .inl a0=>k Ex.ret (dw.dC D ⟨[.int .i64],[]⟩ ((a0,()),())) (dw.dI D ⟨[.int .i64],[]⟩ ((a0,()),()))
 | .inr (a1)=>k (Ex.exit 0) (dw.dC D ⟨[.any],[]⟩ (((),()),())) (dw.dI D ⟨[.any],[]⟩ (((),()),()))
def wu : List (dU K ((Int)⊕(Unit))):=[⟨Ex.ret,⟨[.int .i64],[]⟩,fun x=> .inl x.1.1⟩,⟨(Ex.exit 0),⟨[.any],[]⟩,fun x=> .inr (())⟩]
def nC : dM K:=dX D false 19 0 [0,1,7,8] [4] ⟨[.bD U.Prog, .fn 46 [], .int .i64, .int .i64],[]⟩ (fun x=>M.dH x.1.1 x.1.2.2.1 aF x.1.2.2.2.1) lJ
def jf (m:(List M.ak)->Option (Int)):bY K:={f:=70,sh:=⟨[.bD U.Prog, .fn 46 []],[]⟩,R:=Int,run:=fun x=>m x.1.1,dflt:=default,out:=fun r=>(Sh.enc D (.int .i64) r,dY.encs D [] ())}
def gG : Cx K:={jh with mode:=bu .plain [(46, .plain)],call:=callOf D [xP M.qZ],loop:=bf [(2,nC)]}
theorem nD : aI (gG):=aA aG _ (az UG (bn))
theorem vC : bT (gG) (bU (bW Tryz.f70) 0) (nC):=
 bG (cx:=gG) (n:=19) (n0:=0) (ins:=[0,1,7,8]) (outs:=[4]) (sh:=⟨[.bD U.Prog, .fn 46 [], .int .i64, .int .i64],[]⟩) (run:=fun n x=>M.dH x.1.1 x.1.2.2.1 n x.1.2.2.2.1) (dR:=wu) (out:=lJ) aG (nD) ai (ay (by kernel_rfl)) (fun _=>rfl) (fun m x=>by kernel_rfl) (az ⟨fE,fun _ _ _=>rfl⟩ (az ⟨bH,fun _ _ _=>rfl⟩ (bn))) false aF
theorem zi : (jf (M.fQ)).Ok D Tryz.prog:=
 bz (cx:=gG) (c:=jf (M.fQ)) (fz:=true) (fn:=Tryz.f70) aG (nD) ai ⟨Tryz.func70,by kernel_rfl⟩ (bC (aP 1 (by kernel_rfl) (cZ (.mk (by kernel_rfl) (vC))))) ⟨⟨[.int .i64],[]⟩,fun x=>x.1.1⟩ (fun x=>rfl) (fun x=>by kernel_rfl)
def iF (m:(List M.ak)->Option (Bool)):bY K:={f:=45,sh:=⟨[.bD U.Prog, .fn 46 []],[]⟩,R:=Bool,run:=fun x=>m x.1.1,dflt:=default,out:=fun r=>(Sh.enc D (.bool) r,dY.encs D [] ())}
def l9 : Cx K:={jh with mode:=bu .plain [(70, .plain)],call:=callOf D [jf M.fQ],loop:=bf []}
theorem ug : aI (l9):=aA aG _ (az zi (bn))
theorem wz : (iF (M.dV)).Ok D Tryz.prog:=
 bz (cx:=l9) (c:=iF (M.dV)) (fz:=true) (fn:=Tryz.f45) aG (ug) ai ⟨Tryz.func45,by kernel_rfl⟩ (bC (ay (by kernel_rfl))) ⟨⟨[.bool],[]⟩,fun x=>x.1.1⟩ (fun x=>rfl) (fun x=>by kernel_rfl)
def Ez (m:(List M.ak)->Option (Bool)):bY K:={f:=21,sh:=⟨[.bD U.Prog],[]⟩,R:=Bool,run:=fun x=>m x.1.1,dflt:=default,out:=fun r=>(Sh.enc D (.bool) r,dY.encs D [] ())}
def PO : Cx K:={jh with mode:=bu .plain [(44, .plain),(43, .plain),(45, .plain)],call:=callOf D [zI M.JR,lZ M.y8,iF M.dV],loop:=bf []}
theorem VF : aI (PO):=aA aG _ (az VC (az uO (az wz (bn))))
theorem Y3 : (Ez (M.AY)).Ok D Tryz.prog:=
 bz (cx:=PO) (c:=Ez (M.AY)) (fz:=true) (fn:=Tryz.f21) aG (VF) ai ⟨Tryz.func21,by kernel_rfl⟩ (bC (ay (by kernel_rfl))) ⟨⟨[.bool],[]⟩,fun x=>x.1.1⟩ (fun x=>rfl) (fun x=>by kernel_rfl)
def Ce (y:M.aX×(List M.ak)×(List M.af)×(List M.aj)×(List Int)×(List M.aK)×(List M.ak)×(List M.af)×(List M.aj)×(List Int)×(List M.aK)) {R:Type} (k:Ex->List (AV K)->List (Ob K)->R):R:=match y with
 |a0=>k (Ex.exit 0) (dw.dC D ⟨[.ptr 0 0, .ptr 1 0, .ptr 2 0],[.el U.Async, .box [.own 13, .own 14, .own 15, .own 16, .own 17], .box [.own 18, .own 19, .own 20, .own 21, .own 22], .dead, .dead, .dead, .dead, .dead, .dead, .dead, .dead, .dead, .dead, .tree U.Prog, .tree U.Stream, .tree U.Task, .arr U.i64, .arr U.Note, .tree U.Prog, .tree U.Stream, .tree U.Task, .arr U.i64, .arr U.Note]⟩ (((),((),((),()))),(a0.1,(((),((),((),((),((),()))))),(((),((),((),((),((),()))))),((),((),((),((),((),((),((),((),((),((),(a0.2.1,(a0.2.2.1,(a0.2.2.2.1,(a0.2.2.2.2.1,(a0.2.2.2.2.2.1,(a0.2.2.2.2.2.2.1,(a0.2.2.2.2.2.2.2.1,(a0.2.2.2.2.2.2.2.2.1,(a0.2.2.2.2.2.2.2.2.2.1,(a0.2.2.2.2.2.2.2.2.2.2,()))))))))))))))))))))))))) (dw.dI D ⟨[.ptr 0 0, .ptr 1 0, .ptr 2 0],[.el U.Async, .box [.own 13, .own 14, .own 15, .own 16, .own 17], .box [.own 18, .own 19, .own 20, .own 21, .own 22], .dead, .dead, .dead, .dead, .dead, .dead, .dead, .dead, .dead, .dead, .tree U.Prog, .tree U.Stream, .tree U.Task, .arr U.i64, .arr U.Note, .tree U.Prog, .tree U.Stream, .tree U.Task, .arr U.i64, .arr U.Note]⟩ (((),((),((),()))),(a0.1,(((),((),((),((),((),()))))),(((),((),((),((),((),()))))),((),((),((),((),((),((),((),((),((),((),(a0.2.1,(a0.2.2.1,(a0.2.2.2.1,(a0.2.2.2.2.1,(a0.2.2.2.2.2.1,(a0.2.2.2.2.2.2.1,(a0.2.2.2.2.2.2.2.1,(a0.2.2.2.2.2.2.2.2.1,(a0.2.2.2.2.2.2.2.2.2.1,(a0.2.2.2.2.2.2.2.2.2.2,())))))))))))))))))))))))))
def PQ : List (dU K (M.aX×(List M.ak)×(List M.af)×(List M.aj)×(List Int)×(List M.aK)×(List M.ak)×(List M.af)×(List M.aj)×(List Int)×(List M.aK))):=[⟨(Ex.exit 0),⟨[.ptr 0 0, .ptr 1 0, .ptr 2 0],[.el U.Async, .box [.own 13, .own 14, .own 15, .own 16, .own 17], .box [.own 18, .own 19, .own 20, .own 21, .own 22], .dead, .dead, .dead, .dead, .dead, .dead, .dead, .dead, .dead, .dead, .tree U.Prog, .tree U.Stream, .tree U.Task, .arr U.i64, .arr U.Note, .tree U.Prog, .tree U.Stream, .tree U.Task, .arr U.i64, .arr U.Note]⟩,fun x=>(x.2.1,x.2.2.2.2.2.2.2.2.2.2.2.2.2.2.1,x.2.2.2.2.2.2.2.2.2.2.2.2.2.2.2.1,x.2.2.2.2.2.2.2.2.2.2.2.2.2.2.2.2.1,x.2.2.2.2.2.2.2.2.2.2.2.2.2.2.2.2.2.1,x.2.2.2.2.2.2.2.2.2.2.2.2.2.2.2.2.2.2.1,x.2.2.2.2.2.2.2.2.2.2.2.2.2.2.2.2.2.2.2.1,x.2.2.2.2.2.2.2.2.2.2.2.2.2.2.2.2.2.2.2.2.1,x.2.2.2.2.2.2.2.2.2.2.2.2.2.2.2.2.2.2.2.2.2.1,x.2.2.2.2.2.2.2.2.2.2.2.2.2.2.2.2.2.2.2.2.2.2.1,x.2.2.2.2.2.2.2.2.2.2.2.2.2.2.2.2.2.2.2.2.2.2.2.1)⟩]
def FO : dM K:=dX D false 74 13 [1,2,3,18,19,20] [1,2,3] ⟨[.ptr 0 0, .ptr 1 0, .ptr 2 0, .bD U.Prog, .int .i64, .int .i64],[.el U.Async, .box [.own 13, .own 14, .own 15, .own 16, .own 17], .box [.own 18, .own 19, .own 20, .own 21, .own 22], .dead, .dead, .dead, .dead, .dead, .dead, .dead, .dead, .dead, .dead, .tree U.Prog, .tree U.Stream, .tree U.Task, .arr U.i64, .arr U.Note, .tree U.Prog, .tree U.Stream, .tree U.Task, .arr U.i64, .arr U.Note]⟩ (fun x=>M.kP x.1.2.2.2.1 x.1.2.2.2.2.1 x.2.1 x.2.2.2.2.2.2.2.2.2.2.2.2.2.2.1 x.2.2.2.2.2.2.2.2.2.2.2.2.2.2.2.1 x.2.2.2.2.2.2.2.2.2.2.2.2.2.2.2.2.1 x.2.2.2.2.2.2.2.2.2.2.2.2.2.2.2.2.2.1 x.2.2.2.2.2.2.2.2.2.2.2.2.2.2.2.2.2.2.1 x.2.2.2.2.2.2.2.2.2.2.2.2.2.2.2.2.2.2.2.2.1 x.2.2.2.2.2.2.2.2.2.2.2.2.2.2.2.2.2.2.2.2.2.1 x.2.2.2.2.2.2.2.2.2.2.2.2.2.2.2.2.2.2.2.2.2.2.1 x.2.2.2.2.2.2.2.2.2.2.2.2.2.2.2.2.2.2.2.2.2.2.2.1 aF x.1.2.2.2.2.2.1 x.2.2.2.2.2.2.2.2.2.2.2.2.2.2.2.2.2.2.2.1) Ce
def Cf (y:M.aX×(List M.ak)×(List M.af)×(List M.aj)×(List Int)×(List M.aK)×(List M.ak)×(List M.af)×(List M.aj)×(List Int)×(List M.aK)) {R:Type} (k:Ex->List (AV K)->List (Ob K)->R):R:=match y with
 |a0=>k (Ex.exit 2) (dw.dC D ⟨[.ptr 0 0, .ptr 1 0, .ptr 2 0],[.el U.Async, .box [.own 13, .own 14, .own 15, .own 16, .own 17], .box [.own 18, .own 19, .own 20, .own 21, .own 22], .dead, .dead, .dead, .dead, .dead, .dead, .dead, .dead, .dead, .dead, .tree U.Prog, .tree U.Stream, .tree U.Task, .arr U.i64, .arr U.Note, .tree U.Prog, .tree U.Stream, .tree U.Task, .arr U.i64, .arr U.Note]⟩ (((),((),((),()))),(a0.1,(((),((),((),((),((),()))))),(((),((),((),((),((),()))))),((),((),((),((),((),((),((),((),((),((),(a0.2.1,(a0.2.2.1,(a0.2.2.2.1,(a0.2.2.2.2.1,(a0.2.2.2.2.2.1,(a0.2.2.2.2.2.2.1,(a0.2.2.2.2.2.2.2.1,(a0.2.2.2.2.2.2.2.2.1,(a0.2.2.2.2.2.2.2.2.2.1,(a0.2.2.2.2.2.2.2.2.2.2,()))))))))))))))))))))))))) (dw.dI D ⟨[.ptr 0 0, .ptr 1 0, .ptr 2 0],[.el U.Async, .box [.own 13, .own 14, .own 15, .own 16, .own 17], .box [.own 18, .own 19, .own 20, .own 21, .own 22], .dead, .dead, .dead, .dead, .dead, .dead, .dead, .dead, .dead, .dead, .tree U.Prog, .tree U.Stream, .tree U.Task, .arr U.i64, .arr U.Note, .tree U.Prog, .tree U.Stream, .tree U.Task, .arr U.i64, .arr U.Note]⟩ (((),((),((),()))),(a0.1,(((),((),((),((),((),()))))),(((),((),((),((),((),()))))),((),((),((),((),((),((),((),((),((),((),(a0.2.1,(a0.2.2.1,(a0.2.2.2.1,(a0.2.2.2.2.1,(a0.2.2.2.2.2.1,(a0.2.2.2.2.2.2.1,(a0.2.2.2.2.2.2.2.1,(a0.2.2.2.2.2.2.2.2.1,(a0.2.2.2.2.2.2.2.2.2.1,(a0.2.2.2.2.2.2.2.2.2.2,())))))))))))))))))))))))))
def PR : List (dU K (M.aX×(List M.ak)×(List M.af)×(List M.aj)×(List Int)×(List M.aK)×(List M.ak)×(List M.af)×(List M.aj)×(List Int)×(List M.aK))):=[⟨(Ex.exit 2),⟨[.ptr 0 0, .ptr 1 0, .ptr 2 0],[.el U.Async, .box [.own 13, .own 14, .own 15, .own 16, .own 17], .box [.own 18, .own 19, .own 20, .own 21, .own 22], .dead, .dead, .dead, .dead, .dead, .dead, .dead, .dead, .dead, .dead, .tree U.Prog, .tree U.Stream, .tree U.Task, .arr U.i64, .arr U.Note, .tree U.Prog, .tree U.Stream, .tree U.Task, .arr U.i64, .arr U.Note]⟩,fun x=>(x.2.1,x.2.2.2.2.2.2.2.2.2.2.2.2.2.2.1,x.2.2.2.2.2.2.2.2.2.2.2.2.2.2.2.1,x.2.2.2.2.2.2.2.2.2.2.2.2.2.2.2.2.1,x.2.2.2.2.2.2.2.2.2.2.2.2.2.2.2.2.2.1,x.2.2.2.2.2.2.2.2.2.2.2.2.2.2.2.2.2.2.1,x.2.2.2.2.2.2.2.2.2.2.2.2.2.2.2.2.2.2.2.1,x.2.2.2.2.2.2.2.2.2.2.2.2.2.2.2.2.2.2.2.2.1,x.2.2.2.2.2.2.2.2.2.2.2.2.2.2.2.2.2.2.2.2.2.1,x.2.2.2.2.2.2.2.2.2.2.2.2.2.2.2.2.2.2.2.2.2.2.1,x.2.2.2.2.2.2.2.2.2.2.2.2.2.2.2.2.2.2.2.2.2.2.2.1)⟩]
def FP : dM K:=dX D false 74 13 [1,2,3,37,38,39] [1,2,3] ⟨[.ptr 0 0, .ptr 1 0, .ptr 2 0, .bD U.Stream, .int .i64, .int .i64],[.el U.Async, .box [.own 13, .own 14, .own 15, .own 16, .own 17], .box [.own 18, .own 19, .own 20, .own 21, .own 22], .dead, .dead, .dead, .dead, .dead, .dead, .dead, .dead, .dead, .dead, .tree U.Prog, .tree U.Stream, .tree U.Task, .arr U.i64, .arr U.Note, .tree U.Prog, .tree U.Stream, .tree U.Task, .arr U.i64, .arr U.Note]⟩ (fun x=>M.nK x.1.2.2.2.1 x.1.2.2.2.2.1 x.2.1 x.2.2.2.2.2.2.2.2.2.2.2.2.2.2.1 x.2.2.2.2.2.2.2.2.2.2.2.2.2.2.2.1 x.2.2.2.2.2.2.2.2.2.2.2.2.2.2.2.2.1 x.2.2.2.2.2.2.2.2.2.2.2.2.2.2.2.2.2.1 x.2.2.2.2.2.2.2.2.2.2.2.2.2.2.2.2.2.2.1 x.2.2.2.2.2.2.2.2.2.2.2.2.2.2.2.2.2.2.2.1 x.2.2.2.2.2.2.2.2.2.2.2.2.2.2.2.2.2.2.2.2.2.1 x.2.2.2.2.2.2.2.2.2.2.2.2.2.2.2.2.2.2.2.2.2.2.1 x.2.2.2.2.2.2.2.2.2.2.2.2.2.2.2.2.2.2.2.2.2.2.2.1 aF x.1.2.2.2.2.2.1 x.2.2.2.2.2.2.2.2.2.2.2.2.2.2.2.2.2.2.2.2.1) Cf
def Ci (y:(List M.ak)×(List M.af)×(List M.aj)×(List Int)×(List M.aK)×(List M.ak)×(List M.af)×(List M.aj)×(List Int)×(List M.aK)) {R:Type} (k:Ex->List (AV K)->List (Ob K)->R):R:=match y with
 |a0=>k (Ex.exit 4) (dw.dC D ⟨[.ptr 0 0, .ptr 1 0],[.box [.own 12, .own 13, .own 14, .own 15, .own 16], .box [.own 17, .own 18, .own 19, .own 20, .own 21], .dead, .dead, .dead, .dead, .dead, .dead, .dead, .dead, .dead, .dead, .tree U.Prog, .tree U.Stream, .tree U.Task, .arr U.i64, .arr U.Note, .tree U.Prog, .tree U.Stream, .tree U.Task, .arr U.i64, .arr U.Note]⟩ (((),((),())),(((),((),((),((),((),()))))),(((),((),((),((),((),()))))),((),((),((),((),((),((),((),((),((),((),(a0.1,(a0.2.1,(a0.2.2.1,(a0.2.2.2.1,(a0.2.2.2.2.1,(a0.2.2.2.2.2.1,(a0.2.2.2.2.2.2.1,(a0.2.2.2.2.2.2.2.1,(a0.2.2.2.2.2.2.2.2.1,(a0.2.2.2.2.2.2.2.2.2,())))))))))))))))))))))))) (dw.dI D ⟨[.ptr 0 0, .ptr 1 0],[.box [.own 12, .own 13, .own 14, .own 15, .own 16], .box [.own 17, .own 18, .own 19, .own 20, .own 21], .dead, .dead, .dead, .dead, .dead, .dead, .dead, .dead, .dead, .dead, .tree U.Prog, .tree U.Stream, .tree U.Task, .arr U.i64, .arr U.Note, .tree U.Prog, .tree U.Stream, .tree U.Task, .arr U.i64, .arr U.Note]⟩ (((),((),())),(((),((),((),((),((),()))))),(((),((),((),((),((),()))))),((),((),((),((),((),((),((),((),((),((),(a0.1,(a0.2.1,(a0.2.2.1,(a0.2.2.2.1,(a0.2.2.2.2.1,(a0.2.2.2.2.2.1,(a0.2.2.2.2.2.2.1,(a0.2.2.2.2.2.2.2.1,(a0.2.2.2.2.2.2.2.2.1,(a0.2.2.2.2.2.2.2.2.2,()))))))))))))))))))))))))
def PS : List (dU K ((List M.ak)×(List M.af)×(List M.aj)×(List Int)×(List M.aK)×(List M.ak)×(List M.af)×(List M.aj)×(List Int)×(List M.aK))):=[⟨(Ex.exit 4),⟨[.ptr 0 0, .ptr 1 0],[.box [.own 12, .own 13, .own 14, .own 15, .own 16], .box [.own 17, .own 18, .own 19, .own 20, .own 21], .dead, .dead, .dead, .dead, .dead, .dead, .dead, .dead, .dead, .dead, .tree U.Prog, .tree U.Stream, .tree U.Task, .arr U.i64, .arr U.Note, .tree U.Prog, .tree U.Stream, .tree U.Task, .arr U.i64, .arr U.Note]⟩,fun x=>(x.2.2.2.2.2.2.2.2.2.2.2.2.2.1,x.2.2.2.2.2.2.2.2.2.2.2.2.2.2.1,x.2.2.2.2.2.2.2.2.2.2.2.2.2.2.2.1,x.2.2.2.2.2.2.2.2.2.2.2.2.2.2.2.2.1,x.2.2.2.2.2.2.2.2.2.2.2.2.2.2.2.2.2.1,x.2.2.2.2.2.2.2.2.2.2.2.2.2.2.2.2.2.2.1,x.2.2.2.2.2.2.2.2.2.2.2.2.2.2.2.2.2.2.2.1,x.2.2.2.2.2.2.2.2.2.2.2.2.2.2.2.2.2.2.2.2.1,x.2.2.2.2.2.2.2.2.2.2.2.2.2.2.2.2.2.2.2.2.2.1,x.2.2.2.2.2.2.2.2.2.2.2.2.2.2.2.2.2.2.2.2.2.2.1)⟩]
def FQ : dM K:=dX D false 74 12 [2,3,52,53,54] [2,3] ⟨[.ptr 0 0, .ptr 1 0, .bD U.Task, .int .i64, .int .i64],[.box [.own 12, .own 13, .own 14, .own 15, .own 16], .box [.own 17, .own 18, .own 19, .own 20, .own 21], .dead, .dead, .dead, .dead, .dead, .dead, .dead, .dead, .dead, .dead, .tree U.Prog, .tree U.Stream, .tree U.Task, .arr U.i64, .arr U.Note, .tree U.Prog, .tree U.Stream, .tree U.Task, .arr U.i64, .arr U.Note]⟩ (fun x=>M.nM x.1.2.2.1 x.1.2.2.2.1 x.2.2.2.2.2.2.2.2.2.2.2.2.2.1 x.2.2.2.2.2.2.2.2.2.2.2.2.2.2.1 x.2.2.2.2.2.2.2.2.2.2.2.2.2.2.2.1 x.2.2.2.2.2.2.2.2.2.2.2.2.2.2.2.2.1 x.2.2.2.2.2.2.2.2.2.2.2.2.2.2.2.2.2.1 x.2.2.2.2.2.2.2.2.2.2.2.2.2.2.2.2.2.2.1 x.2.2.2.2.2.2.2.2.2.2.2.2.2.2.2.2.2.2.2.1 x.2.2.2.2.2.2.2.2.2.2.2.2.2.2.2.2.2.2.2.2.2.1 x.2.2.2.2.2.2.2.2.2.2.2.2.2.2.2.2.2.2.2.2.2.2.1 aF x.1.2.2.2.2.1 x.2.2.2.2.2.2.2.2.2.2.2.2.2.2.2.2.2.2.2.2.1) Ci
def zK (m:M.aX->Option ((List M.ak)×(List M.af)×(List M.aj)×(List Int)×(List M.aK))):bY K:={f:=22,sh:=⟨[.el U.Async],[]⟩,R:=(List M.ak)×(List M.af)×(List M.aj)×(List Int)×(List M.aK),run:=fun x=>m x.1.1,dflt:=default,out:=fun r=>(Sh.enc D (.agg [.own 0, .own 1, .own 2, .own 3, .own 4]) ((),((),((),((),((),()))))),dY.encs D [.tree U.Prog, .tree U.Stream, .tree U.Task, .arr U.i64, .arr U.Note] (r.1,(r.2.1,(r.2.2.1,(r.2.2.2.1,(r.2.2.2.2,()))))))}
def jo : Cx K:={jh with mode:=bu .plain [(48, .fresh),(49, .fresh),(50, .fresh),(51, .fresh)],rsl:=[[some U.Prog,some U.Stream,some U.Task,some U.i64,some U.Note]],deep:=fun c=>bP (D.cells c (K.zero c)),call:=callOf D [jD M.dB,kL M.fB,mr M.fA,xJ M.Au],loop:=bf [(3,FO),(8,FP),(13,FQ)]}
theorem rF : aI (jo):=aA aG _ (az Ah (az Dp (az EO (az UA (bn)))))
theorem N8 : bT (jo) (bU (bW Tryz.f22) 0) (FO):=
 bG (cx:=jo) (n:=74) (n0:=13) (ins:=[1,2,3,18,19,20]) (outs:=[1,2,3]) (sh:=⟨[.ptr 0 0, .ptr 1 0, .ptr 2 0, .bD U.Prog, .int .i64, .int .i64],[.el U.Async, .box [.own 13, .own 14, .own 15, .own 16, .own 17], .box [.own 18, .own 19, .own 20, .own 21, .own 22], .dead, .dead, .dead, .dead, .dead, .dead, .dead, .dead, .dead, .dead, .tree U.Prog, .tree U.Stream, .tree U.Task, .arr U.i64, .arr U.Note, .tree U.Prog, .tree U.Stream, .tree U.Task, .arr U.i64, .arr U.Note]⟩) (run:=fun n x=>M.kP x.1.2.2.2.1 x.1.2.2.2.2.1 x.2.1 x.2.2.2.2.2.2.2.2.2.2.2.2.2.2.1 x.2.2.2.2.2.2.2.2.2.2.2.2.2.2.2.1 x.2.2.2.2.2.2.2.2.2.2.2.2.2.2.2.2.1 x.2.2.2.2.2.2.2.2.2.2.2.2.2.2.2.2.2.1 x.2.2.2.2.2.2.2.2.2.2.2.2.2.2.2.2.2.2.1 x.2.2.2.2.2.2.2.2.2.2.2.2.2.2.2.2.2.2.2.2.1 x.2.2.2.2.2.2.2.2.2.2.2.2.2.2.2.2.2.2.2.2.2.1 x.2.2.2.2.2.2.2.2.2.2.2.2.2.2.2.2.2.2.2.2.2.2.1 x.2.2.2.2.2.2.2.2.2.2.2.2.2.2.2.2.2.2.2.2.2.2.2.1 n x.1.2.2.2.2.2.1 x.2.2.2.2.2.2.2.2.2.2.2.2.2.2.2.2.2.2.2.1) (dR:=PQ) (out:=Ce) aG (rF) ai (ay (by kernel_rfl)) (fun _=>rfl) (fun m x=>by kernel_rfl) (az ⟨bH,fun _ _ _=>rfl⟩ (bn)) false aF
theorem N9 : bT (jo) (bU (bW Tryz.f22) 1) (FP):=
 bG (cx:=jo) (n:=74) (n0:=13) (ins:=[1,2,3,37,38,39]) (outs:=[1,2,3]) (sh:=⟨[.ptr 0 0, .ptr 1 0, .ptr 2 0, .bD U.Stream, .int .i64, .int .i64],[.el U.Async, .box [.own 13, .own 14, .own 15, .own 16, .own 17], .box [.own 18, .own 19, .own 20, .own 21, .own 22], .dead, .dead, .dead, .dead, .dead, .dead, .dead, .dead, .dead, .dead, .tree U.Prog, .tree U.Stream, .tree U.Task, .arr U.i64, .arr U.Note, .tree U.Prog, .tree U.Stream, .tree U.Task, .arr U.i64, .arr U.Note]⟩) (run:=fun n x=>M.nK x.1.2.2.2.1 x.1.2.2.2.2.1 x.2.1 x.2.2.2.2.2.2.2.2.2.2.2.2.2.2.1 x.2.2.2.2.2.2.2.2.2.2.2.2.2.2.2.1 x.2.2.2.2.2.2.2.2.2.2.2.2.2.2.2.2.1 x.2.2.2.2.2.2.2.2.2.2.2.2.2.2.2.2.2.1 x.2.2.2.2.2.2.2.2.2.2.2.2.2.2.2.2.2.2.1 x.2.2.2.2.2.2.2.2.2.2.2.2.2.2.2.2.2.2.2.1 x.2.2.2.2.2.2.2.2.2.2.2.2.2.2.2.2.2.2.2.2.2.1 x.2.2.2.2.2.2.2.2.2.2.2.2.2.2.2.2.2.2.2.2.2.2.1 x.2.2.2.2.2.2.2.2.2.2.2.2.2.2.2.2.2.2.2.2.2.2.2.1 n x.1.2.2.2.2.2.1 x.2.2.2.2.2.2.2.2.2.2.2.2.2.2.2.2.2.2.2.2.1) (dR:=PR) (out:=Cf) aG (rF) ai (ay (by kernel_rfl)) (fun _=>rfl) (fun m x=>by kernel_rfl) (az ⟨bH,fun _ _ _=>rfl⟩ (bn)) false aF
theorem Oa : bT (jo) (bU (bW Tryz.f22) 2) (FQ):=
 bG (cx:=jo) (n:=74) (n0:=12) (ins:=[2,3,52,53,54]) (outs:=[2,3]) (sh:=⟨[.ptr 0 0, .ptr 1 0, .bD U.Task, .int .i64, .int .i64],[.box [.own 12, .own 13, .own 14, .own 15, .own 16], .box [.own 17, .own 18, .own 19, .own 20, .own 21], .dead, .dead, .dead, .dead, .dead, .dead, .dead, .dead, .dead, .dead, .tree U.Prog, .tree U.Stream, .tree U.Task, .arr U.i64, .arr U.Note, .tree U.Prog, .tree U.Stream, .tree U.Task, .arr U.i64, .arr U.Note]⟩) (run:=fun n x=>M.nM x.1.2.2.1 x.1.2.2.2.1 x.2.2.2.2.2.2.2.2.2.2.2.2.2.1 x.2.2.2.2.2.2.2.2.2.2.2.2.2.2.1 x.2.2.2.2.2.2.2.2.2.2.2.2.2.2.2.1 x.2.2.2.2.2.2.2.2.2.2.2.2.2.2.2.2.1 x.2.2.2.2.2.2.2.2.2.2.2.2.2.2.2.2.2.1 x.2.2.2.2.2.2.2.2.2.2.2.2.2.2.2.2.2.2.1 x.2.2.2.2.2.2.2.2.2.2.2.2.2.2.2.2.2.2.2.1 x.2.2.2.2.2.2.2.2.2.2.2.2.2.2.2.2.2.2.2.2.2.1 x.2.2.2.2.2.2.2.2.2.2.2.2.2.2.2.2.2.2.2.2.2.2.1 n x.1.2.2.2.2.1 x.2.2.2.2.2.2.2.2.2.2.2.2.2.2.2.2.2.2.2.2.1) (dR:=PS) (out:=Ci) aG (rF) ai (ay (by kernel_rfl)) (fun _=>rfl) (fun m x=>by kernel_rfl) (az ⟨bH,fun _ _ _=>rfl⟩ (bn)) false aF
theorem VG : (zK (M.uD)).Ok D Tryz.prog:=
 bz (cx:=jo) (c:=zK (M.uD)) (fz:=false) (fn:=Tryz.f22) aG (rF) ai ⟨Tryz.func22,by kernel_rfl⟩ (bC (aP 3 (by kernel_rfl) (lt_succ (lt_succ (cZ (.mk (by kernel_rfl) (N8))) (.mk (by kernel_rfl) (N9))) (.mk (by kernel_rfl) (Oa))))) ⟨⟨[.agg [.own 0, .own 1, .own 2, .own 3, .own 4]],[.tree U.Prog, .tree U.Stream, .tree U.Task, .arr U.i64, .arr U.Note]⟩,fun x=>(x.2.1,x.2.2.1,x.2.2.2.1,x.2.2.2.2.1,x.2.2.2.2.2.1)⟩ (fun x=>rfl) (fun x=>by kernel_rfl)
def zL (m:M.ae->Int->Option (Int×(List UInt8)×Int×Bool×Int×Int×Bool×Bool×Int×(List (List UInt8))×(List M.ae)×(List M.ah))):bY K:={f:=23,sh:=⟨[.el U.Type, .int .i64],[]⟩,R:=Int×(List UInt8)×Int×Bool×Int×Int×Bool×Bool×Int×(List (List UInt8))×(List M.ae)×(List M.ah),run:=fun x=>m x.1.1 x.1.2.1,dflt:=default,out:=fun r=>(Sh.enc D (.pR [.agg [.int .i64, .str, .own 0, .own 1, .int .i64, .bool, .own 2, .int .i64, .int .i64, .bool, .bool], .int .i64]) ((r.1,(r.2.1,((),((),(r.2.2.1,(r.2.2.2.1,((),(r.2.2.2.2.1,(r.2.2.2.2.2.1,(r.2.2.2.2.2.2.1,(r.2.2.2.2.2.2.2.1,()))))))))))),(r.2.2.2.2.2.2.2.2.1,())),dY.encs D [.arr U.str, .tree U.Type, .tree U.Value] (r.2.2.2.2.2.2.2.2.2.1,(r.2.2.2.2.2.2.2.2.2.2.1,(r.2.2.2.2.2.2.2.2.2.2.2,()))))}
def JW : Cx K:={jh with mode:=bu .plain [(52, .plain),(43, .plain),(53, .fresh)],rsl:=[[none,none,some U.str,some U.Type,none,none,some U.Value,none,none,none,none],[]],deep:=fun c=>bP (D.cells c (K.zero c)),call:=callOf D [xI M.oN,lZ M.y8,fF M.tK],loop:=bf []}
theorem Rn : aI (JW):=aA aG _ (az Ux (az uO (az MW (bn))))
theorem VH : (zL (M.uC)).Ok D Tryz.prog:=
 bz (cx:=JW) (c:=zL (M.uC)) (fz:=false) (fn:=Tryz.f23) aG (Rn) ai ⟨Tryz.func23,by kernel_rfl⟩ (bC (ay (by kernel_rfl))) ⟨⟨[.pR [.agg [.int .i64, .str, .own 0, .own 1, .int .i64, .bool, .own 2, .int .i64, .int .i64, .bool, .bool], .int .i64]],[.arr U.str, .tree U.Type, .tree U.Value]⟩,fun x=>(x.1.1.1.1,x.1.1.1.2.1,x.1.1.1.2.2.2.2.1,x.1.1.1.2.2.2.2.2.1,x.1.1.1.2.2.2.2.2.2.2.1,x.1.1.1.2.2.2.2.2.2.2.2.1,x.1.1.1.2.2.2.2.2.2.2.2.2.1,x.1.1.1.2.2.2.2.2.2.2.2.2.2.1,x.1.1.2.1,x.2.1,x.2.2.1,x.2.2.2.1)⟩ (fun x=>rfl) (fun x=>by kernel_rfl)
def D5 (y:(Int×(List M.ak)×(List M.af)×(List M.aj)×(List Int)×(List M.aK))⊕((List M.ak)×(List M.af)×(List M.aj)×(List Int)×(List M.aK)×(List M.ak)×(List M.af)×(List M.aj)×(List Int)×(List M.aK))) {R:Type} (k:Ex->List (AV K)->List (Ob K)->R):R:=match y with
 | .inl a0=>k Ex.ret (dw.dC D ⟨[.ptr 0 0, .any, .int .i64],[.box [.own 12, .own 13, .own 14, .own 15, .own 16], .dead, .dead, .dead, .dead, .dead, .dead, .dead, .dead, .dead, .dead, .dead, .tree U.Prog, .tree U.Stream, .tree U.Task, .arr U.i64, .arr U.Note, .dead, .dead, .dead, .dead, .dead]⟩ (((),((),(a0.1,()))),(((),((),((),((),((),()))))),((),((),((),((),((),((),((),((),((),((),((),(a0.2.1,(a0.2.2.1,(a0.2.2.2.1,(a0.2.2.2.2.1,(a0.2.2.2.2.2,((),((),((),((),((),())))))))))))))))))))))))) (dw.dI D ⟨[.ptr 0 0, .any, .int .i64],[.box [.own 12, .own 13, .own 14, .own 15, .own 16], .dead, .dead, .dead, .dead, .dead, .dead, .dead, .dead, .dead, .dead, .dead, .tree U.Prog, .tree U.Stream, .tree U.Task, .arr U.i64, .arr U.Note, .dead, .dead, .dead, .dead, .dead]⟩ (((),((),(a0.1,()))),(((),((),((),((),((),()))))),((),((),((),((),((),((),((),((),((),((),((),(a0.2.1,(a0.2.2.1,(a0.2.2.2.1,(a0.2.2.2.2.1,(a0.2.2.2.2.2,((),((),((),((),((),()))))))))))))))))))))))))
 | .inr (a1)=>k (Ex.exit 1) (dw.dC D ⟨[.ptr 0 0, .ptr 1 0, .any],[.box [.own 12, .own 13, .own 14, .own 15, .own 16], .box [.own 17, .own 18, .own 19, .own 20, .own 21], .dead, .dead, .dead, .dead, .dead, .dead, .dead, .dead, .dead, .dead, .tree U.Prog, .tree U.Stream, .tree U.Task, .arr U.i64, .arr U.Note, .tree U.Prog, .tree U.Stream, .tree U.Task, .arr U.i64, .arr U.Note]⟩ (((),((),((),()))),(((),((),((),((),((),()))))),(((),((),((),((),((),()))))),((),((),((),((),((),((),((),((),((),((),(a1.1,(a1.2.1,(a1.2.2.1,(a1.2.2.2.1,(a1.2.2.2.2.1,(a1.2.2.2.2.2.1,(a1.2.2.2.2.2.2.1,(a1.2.2.2.2.2.2.2.1,(a1.2.2.2.2.2.2.2.2.1,(a1.2.2.2.2.2.2.2.2.2,())))))))))))))))))))))))) (dw.dI D ⟨[.ptr 0 0, .ptr 1 0, .any],[.box [.own 12, .own 13, .own 14, .own 15, .own 16], .box [.own 17, .own 18, .own 19, .own 20, .own 21], .dead, .dead, .dead, .dead, .dead, .dead, .dead, .dead, .dead, .dead, .tree U.Prog, .tree U.Stream, .tree U.Task, .arr U.i64, .arr U.Note, .tree U.Prog, .tree U.Stream, .tree U.Task, .arr U.i64, .arr U.Note]⟩ (((),((),((),()))),(((),((),((),((),((),()))))),(((),((),((),((),((),()))))),((),((),((),((),((),((),((),((),((),((),(a1.1,(a1.2.1,(a1.2.2.1,(a1.2.2.2.1,(a1.2.2.2.2.1,(a1.2.2.2.2.2.1,(a1.2.2.2.2.2.2.1,(a1.2.2.2.2.2.2.2.1,(a1.2.2.2.2.2.2.2.2.1,(a1.2.2.2.2.2.2.2.2.2,()))))))))))))))))))))))))
def Ro : List (dU K ((Int×(List M.ak)×(List M.af)×(List M.aj)×(List Int)×(List M.aK))⊕((List M.ak)×(List M.af)×(List M.aj)×(List Int)×(List M.aK)×(List M.ak)×(List M.af)×(List M.aj)×(List Int)×(List M.aK)))):=[⟨Ex.ret,⟨[.ptr 0 0, .any, .int .i64],[.box [.own 12, .own 13, .own 14, .own 15, .own 16], .dead, .dead, .dead, .dead, .dead, .dead, .dead, .dead, .dead, .dead, .dead, .tree U.Prog, .tree U.Stream, .tree U.Task, .arr U.i64, .arr U.Note, .dead, .dead, .dead, .dead, .dead]⟩,fun x=> .inl (x.1.2.2.1,x.2.2.2.2.2.2.2.2.2.2.2.2.2.1,x.2.2.2.2.2.2.2.2.2.2.2.2.2.2.1,x.2.2.2.2.2.2.2.2.2.2.2.2.2.2.2.1,x.2.2.2.2.2.2.2.2.2.2.2.2.2.2.2.2.1,x.2.2.2.2.2.2.2.2.2.2.2.2.2.2.2.2.2.1)⟩,⟨(Ex.exit 1),⟨[.ptr 0 0, .ptr 1 0, .any],[.box [.own 12, .own 13, .own 14, .own 15, .own 16], .box [.own 17, .own 18, .own 19, .own 20, .own 21], .dead, .dead, .dead, .dead, .dead, .dead, .dead, .dead, .dead, .dead, .tree U.Prog, .tree U.Stream, .tree U.Task, .arr U.i64, .arr U.Note, .tree U.Prog, .tree U.Stream, .tree U.Task, .arr U.i64, .arr U.Note]⟩,fun x=> .inr ((x.2.2.2.2.2.2.2.2.2.2.2.2.2.1,x.2.2.2.2.2.2.2.2.2.2.2.2.2.2.1,x.2.2.2.2.2.2.2.2.2.2.2.2.2.2.2.1,x.2.2.2.2.2.2.2.2.2.2.2.2.2.2.2.2.1,x.2.2.2.2.2.2.2.2.2.2.2.2.2.2.2.2.2.1,x.2.2.2.2.2.2.2.2.2.2.2.2.2.2.2.2.2.2.1,x.2.2.2.2.2.2.2.2.2.2.2.2.2.2.2.2.2.2.2.1,x.2.2.2.2.2.2.2.2.2.2.2.2.2.2.2.2.2.2.2.2.1,x.2.2.2.2.2.2.2.2.2.2.2.2.2.2.2.2.2.2.2.2.2.1,x.2.2.2.2.2.2.2.2.2.2.2.2.2.2.2.2.2.2.2.2.2.2.1))⟩]
def IX : dM K:=dX D false 48 12 [4,6,24,25,26] [4,6,5] ⟨[.ptr 0 0, .ptr 1 0, .bD U.i64, .int .i64, .int .i64],[.box [.own 12, .own 13, .own 14, .own 15, .own 16], .box [.own 17, .own 18, .own 19, .own 20, .own 21], .dead, .dead, .dead, .dead, .dead, .dead, .dead, .dead, .dead, .dead, .tree U.Prog, .tree U.Stream, .tree U.Task, .arr U.i64, .arr U.Note, .tree U.Prog, .tree U.Stream, .tree U.Task, .arr U.i64, .arr U.Note]⟩ (fun x=>M.mJ x.1.2.2.1 x.1.2.2.2.1 x.2.2.2.2.2.2.2.2.2.2.2.2.2.1 x.2.2.2.2.2.2.2.2.2.2.2.2.2.2.1 x.2.2.2.2.2.2.2.2.2.2.2.2.2.2.2.1 x.2.2.2.2.2.2.2.2.2.2.2.2.2.2.2.2.1 x.2.2.2.2.2.2.2.2.2.2.2.2.2.2.2.2.2.1 x.2.2.2.2.2.2.2.2.2.2.2.2.2.2.2.2.2.2.1 x.2.2.2.2.2.2.2.2.2.2.2.2.2.2.2.2.2.2.2.2.1 x.2.2.2.2.2.2.2.2.2.2.2.2.2.2.2.2.2.2.2.2.2.1 x.2.2.2.2.2.2.2.2.2.2.2.2.2.2.2.2.2.2.2.2.2.2.1 aF x.1.2.2.2.2.1 x.2.2.2.2.2.2.2.2.2.2.2.2.2.2.2.2.2.2.2.1) D5
def Cj (m:(List M.ak)->(List Int)->Option (Int×(List M.ak)×(List M.af)×(List M.aj)×(List Int)×(List M.aK))):bY K:={f:=8,sh:=⟨[.bD U.Prog, .bD U.i64],[]⟩,R:=Int×(List M.ak)×(List M.af)×(List M.aj)×(List Int)×(List M.aK),run:=fun x=>m x.1.1 x.1.2.1,dflt:=default,out:=fun r=>(Sh.enc D (.pR [.agg [.own 0, .own 1, .own 2, .own 3, .own 4], .int .i64]) (((),((),((),((),((),()))))),(r.1,())),dY.encs D [.tree U.Prog, .tree U.Stream, .tree U.Task, .arr U.i64, .arr U.Note] (r.2.1,(r.2.2.1,(r.2.2.2.1,(r.2.2.2.2.1,(r.2.2.2.2.2,()))))))}
def yB : Cx K:={jh with mode:=bu .plain [(21, .plain),(22, .fresh),(23, .fresh)],rsl:=[[some U.Prog,some U.Stream,some U.Task,some U.i64,some U.Note],[]],deep:=fun c=>bP (D.cells c (K.zero c)),call:=callOf D [Ez M.AY,zK M.uD,zL M.uC],loop:=bf [(7,IX)]}
theorem IY : aI (yB):=aA aG _ (az Y3 (az VG (az VH (bn))))
theorem PT : bT (yB) (bU (bW Tryz.f8) 0) (IX):=
 bG (cx:=yB) (n:=48) (n0:=12) (ins:=[4,6,24,25,26]) (outs:=[4,6,5]) (sh:=⟨[.ptr 0 0, .ptr 1 0, .bD U.i64, .int .i64, .int .i64],[.box [.own 12, .own 13, .own 14, .own 15, .own 16], .box [.own 17, .own 18, .own 19, .own 20, .own 21], .dead, .dead, .dead, .dead, .dead, .dead, .dead, .dead, .dead, .dead, .tree U.Prog, .tree U.Stream, .tree U.Task, .arr U.i64, .arr U.Note, .tree U.Prog, .tree U.Stream, .tree U.Task, .arr U.i64, .arr U.Note]⟩) (run:=fun n x=>M.mJ x.1.2.2.1 x.1.2.2.2.1 x.2.2.2.2.2.2.2.2.2.2.2.2.2.1 x.2.2.2.2.2.2.2.2.2.2.2.2.2.2.1 x.2.2.2.2.2.2.2.2.2.2.2.2.2.2.2.1 x.2.2.2.2.2.2.2.2.2.2.2.2.2.2.2.2.1 x.2.2.2.2.2.2.2.2.2.2.2.2.2.2.2.2.2.1 x.2.2.2.2.2.2.2.2.2.2.2.2.2.2.2.2.2.2.1 x.2.2.2.2.2.2.2.2.2.2.2.2.2.2.2.2.2.2.2.2.1 x.2.2.2.2.2.2.2.2.2.2.2.2.2.2.2.2.2.2.2.2.2.1 x.2.2.2.2.2.2.2.2.2.2.2.2.2.2.2.2.2.2.2.2.2.2.1 n x.1.2.2.2.2.1 x.2.2.2.2.2.2.2.2.2.2.2.2.2.2.2.2.2.2.2.1) (dR:=Ro) (out:=D5) aG (IY) ai (ay (by kernel_rfl)) (fun _=>rfl) (fun m x=>by kernel_rfl) (az ⟨fE,fun _ _ _=>rfl⟩ (az ⟨bH,fun _ _ _=>rfl⟩ (bn))) false aF
theorem XN : (Cj (M.xw)).Ok D Tryz.prog:=
 bz (cx:=yB) (c:=Cj (M.xw)) (fz:=false) (fn:=Tryz.f8) aG (IY) ai ⟨Tryz.func8,by kernel_rfl⟩ (bC (aP 1 (by kernel_rfl) (cZ (.mk (by kernel_rfl) (PT))))) ⟨⟨[.pR [.agg [.own 0, .own 1, .own 2, .own 3, .own 4], .int .i64]],[.tree U.Prog, .tree U.Stream, .tree U.Task, .arr U.i64, .arr U.Note]⟩,fun x=>(x.1.1.2.1,x.2.1,x.2.2.1,x.2.2.2.1,x.2.2.2.2.1,x.2.2.2.2.2.1)⟩ (fun x=>rfl) (fun x=>by kernel_rfl)
def JX (m:M.aT->M.aT->Option (Bool)):bY K:={f:=82,sh:=⟨[.el U.rP, .el U.rP],[]⟩,R:=Bool,run:=fun x=>m x.1.1 x.1.2.1,dflt:=default,out:=fun r=>(Sh.enc D (.bool) r,dY.encs D [] ())}
def VI : Cx K:={jh with mode:=bu .plain [],call:=callOf D [],loop:=bf []}
theorem Y4 : aI (VI):=aA aG _ (bn)
theorem abA : (JX (M.Lt)).Ok D Tryz.prog:=
 bz (cx:=VI) (c:=JX (M.Lt)) (fz:=true) (fn:=Tryz.f82) aG (Y4) ai ⟨Tryz.func82,by kernel_rfl⟩ (bC (ay (by kernel_rfl))) ⟨⟨[.bool],[]⟩,fun x=>x.1.1⟩ (fun x=>rfl) (fun x=>by kernel_rfl)
def IZ (y:(Bool)⊕(Unit)) {R:Type} (k:Ex->List (AV K)->List (Ob K)->R):R:=match y with
 | .inl a0=>k Ex.ret (dw.dC D ⟨[.bool],[]⟩ ((a0,()),())) (dw.dI D ⟨[.bool],[]⟩ ((a0,()),()))
 | .inr (a1)=>k (Ex.exit 0) (dw.dC D ⟨[.any],[]⟩ (((),()),())) (dw.dI D ⟨[.any],[]⟩ (((),()),()))
def VJ : List (dU K ((Bool)⊕(Unit))):=[⟨Ex.ret,⟨[.bool],[]⟩,fun x=> .inl x.1.1⟩,⟨(Ex.exit 0),⟨[.any],[]⟩,fun x=> .inr (())⟩]
def Np : dM K:=dX D false 27 0 [0,1,5] [4] ⟨[.bD U.rP, .bD U.rP, .int .i64],[]⟩ (fun x=>M.qL x.1.1 x.1.2.1 aF x.1.2.2.1) IZ
def Hg (m:(List M.aT)->(List M.aT)->Option (Bool)):bY K:={f:=57,sh:=⟨[.bD U.rP, .bD U.rP],[]⟩,R:=Bool,run:=fun x=>m x.1.1 x.1.2.1,dflt:=default,out:=fun r=>(Sh.enc D (.bool) r,dY.encs D [] ())}
def D6 : Cx K:={jh with mode:=bu .plain [(82, .plain)],call:=callOf D [JX M.Lt],loop:=bf [(4,Np)]}
theorem Nq : aI (D6):=aA aG _ (az abA (bn))
theorem UH : bT (D6) (bU (bW Tryz.f57) 0) (Np):=
 bG (cx:=D6) (n:=27) (n0:=0) (ins:=[0,1,5]) (outs:=[4]) (sh:=⟨[.bD U.rP, .bD U.rP, .int .i64],[]⟩) (run:=fun n x=>M.qL x.1.1 x.1.2.1 n x.1.2.2.1) (dR:=VJ) (out:=IZ) aG (Nq) ai (ay (by kernel_rfl)) (fun _=>rfl) (fun m x=>by kernel_rfl) (az ⟨fE,fun _ _ _=>rfl⟩ (az ⟨bH,fun _ _ _=>rfl⟩ (bn))) false aF
theorem aal : (Hg (M.FT)).Ok D Tryz.prog:=
 bz (cx:=D6) (c:=Hg (M.FT)) (fz:=true) (fn:=Tryz.f57) aG (Nq) ai ⟨Tryz.func57,by kernel_rfl⟩ (bC (aP 1 (by kernel_rfl) (cZ (.mk (by kernel_rfl) (UH))))) ⟨⟨[.bool],[]⟩,fun x=>x.1.1⟩ (fun x=>rfl) (fun x=>by kernel_rfl)
def Hl (m:M.ak->M.ak->Option (Bool)):bY K:={f:=27,sh:=⟨[.el U.Prog, .el U.Prog],[]⟩,R:=Bool,run:=fun x=>m x.1.1 x.1.2.1,dflt:=default,out:=fun r=>(Sh.enc D (.bool) r,dY.encs D [] ())}
def Tu : Cx K:={jh with mode:=bu .plain [(57, .plain)],call:=callOf D [Hg M.FT],loop:=bf []}
theorem XO : aI (Tu):=aA aG _ (az aal (bn))
theorem aam : (Hl (M.FU)).Ok D Tryz.prog:=
 bz (cx:=Tu) (c:=Hl (M.FU)) (fz:=true) (fn:=Tryz.f27) aG (XO) ai ⟨Tryz.func27,by kernel_rfl⟩ (bC (ay (by kernel_rfl))) ⟨⟨[.bool],[]⟩,fun x=>x.1.1⟩ (fun x=>rfl) (fun x=>by kernel_rfl)
def FV (y:(Bool)⊕(Unit)) {R:Type} (k:Ex->List (AV K)->List (Ob K)->R):R:=match y with
 | .inl a0=>k Ex.ret (dw.dC D ⟨[.bool],[]⟩ ((a0,()),())) (dw.dI D ⟨[.bool],[]⟩ ((a0,()),()))
 | .inr (a1)=>k (Ex.exit 0) (dw.dC D ⟨[.any],[]⟩ (((),()),())) (dw.dI D ⟨[.any],[]⟩ (((),()),()))
def UI : List (dU K ((Bool)⊕(Unit))):=[⟨Ex.ret,⟨[.bool],[]⟩,fun x=> .inl x.1.1⟩,⟨(Ex.exit 0),⟨[.any],[]⟩,fun x=> .inr (())⟩]
def JY : dM K:=dX D false 27 0 [0,1,5] [4] ⟨[.bD U.Prog, .bD U.Prog, .int .i64],[]⟩ (fun x=>M.oV x.1.1 x.1.2.1 aF x.1.2.2.1) FV
def yC (m:(List M.ak)->(List M.ak)->Option (Bool)):bY K:={f:=10,sh:=⟨[.bD U.Prog, .bD U.Prog],[]⟩,R:=Bool,run:=fun x=>m x.1.1 x.1.2.1,dflt:=default,out:=fun r=>(Sh.enc D (.bool) r,dY.encs D [] ())}
def AB : Cx K:={jh with mode:=bu .plain [(27, .plain)],call:=callOf D [Hl M.FU],loop:=bf [(4,JY)]}
theorem JZ : aI (AB):=aA aG _ (az aam (bn))
theorem Rq : bT (AB) (bU (bW Tryz.f10) 0) (JY):=
 bG (cx:=AB) (n:=27) (n0:=0) (ins:=[0,1,5]) (outs:=[4]) (sh:=⟨[.bD U.Prog, .bD U.Prog, .int .i64],[]⟩) (run:=fun n x=>M.oV x.1.1 x.1.2.1 n x.1.2.2.1) (dR:=UI) (out:=FV) aG (JZ) ai (ay (by kernel_rfl)) (fun _=>rfl) (fun m x=>by kernel_rfl) (az ⟨fE,fun _ _ _=>rfl⟩ (az ⟨bH,fun _ _ _=>rfl⟩ (bn))) false aF
theorem PU : (yC (M.uP)).Ok D Tryz.prog:=
 bz (cx:=AB) (c:=yC (M.uP)) (fz:=true) (fn:=Tryz.f10) aG (JZ) ai ⟨Tryz.func10,by kernel_rfl⟩ (bC (aP 1 (by kernel_rfl) (cZ (.mk (by kernel_rfl) (Rq))))) ⟨⟨[.bool],[]⟩,fun x=>x.1.1⟩ (fun x=>rfl) (fun x=>by kernel_rfl)
def Cm (y:(Bool)⊕(Unit)) {R:Type} (k:Ex->List (AV K)->List (Ob K)->R):R:=match y with
 | .inl a0=>k Ex.ret (dw.dC D ⟨[.bool],[]⟩ ((a0,()),())) (dw.dI D ⟨[.bool],[]⟩ ((a0,()),()))
 | .inr (a1)=>k (Ex.exit 0) (dw.dC D ⟨[.any],[]⟩ (((),()),())) (dw.dI D ⟨[.any],[]⟩ (((),()),()))
def PV : List (dU K ((Bool)⊕(Unit))):=[⟨Ex.ret,⟨[.bool],[]⟩,fun x=> .inl x.1.1⟩,⟨(Ex.exit 0),⟨[.any],[]⟩,fun x=> .inr (())⟩]
def FW : dM K:=dX D false 27 0 [0,1,5] [4] ⟨[.bD U.Stream, .bD U.Stream, .int .i64],[]⟩ (fun x=>M.kV x.1.1 x.1.2.1 aF x.1.2.2.1) Cm
def zM (m:(List M.af)->(List M.af)->Option (Bool)):bY K:={f:=24,sh:=⟨[.bD U.Stream, .bD U.Stream],[]⟩,R:=Bool,run:=fun x=>m x.1.1 x.1.2.1,dflt:=default,out:=fun r=>(Sh.enc D (.bool) r,dY.encs D [] ())}
def wB : Cx K:={jh with mode:=bu .plain [(54, .plain)],call:=callOf D [BU M.xK],loop:=bf [(4,FW)]}
theorem FX : aI (wB):=aA aG _ (az XE (bn))
theorem Oc : bT (wB) (bU (bW Tryz.f24) 0) (FW):=
 bG (cx:=wB) (n:=27) (n0:=0) (ins:=[0,1,5]) (outs:=[4]) (sh:=⟨[.bD U.Stream, .bD U.Stream, .int .i64],[]⟩) (run:=fun n x=>M.kV x.1.1 x.1.2.1 n x.1.2.2.1) (dR:=PV) (out:=Cm) aG (FX) ai (ay (by kernel_rfl)) (fun _=>rfl) (fun m x=>by kernel_rfl) (az ⟨fE,fun _ _ _=>rfl⟩ (az ⟨bH,fun _ _ _=>rfl⟩ (bn))) false aF
theorem VK : (zM (M.uQ)).Ok D Tryz.prog:=
 bz (cx:=wB) (c:=zM (M.uQ)) (fz:=true) (fn:=Tryz.f24) aG (FX) ai ⟨Tryz.func24,by kernel_rfl⟩ (bC (aP 1 (by kernel_rfl) (cZ (.mk (by kernel_rfl) (Oc))))) ⟨⟨[.bool],[]⟩,fun x=>x.1.1⟩ (fun x=>rfl) (fun x=>by kernel_rfl)
def D7 (y:(Bool)⊕(Unit)) {R:Type} (k:Ex->List (AV K)->List (Ob K)->R):R:=match y with
 | .inl a0=>k Ex.ret (dw.dC D ⟨[.bool],[]⟩ ((a0,()),())) (dw.dI D ⟨[.bool],[]⟩ ((a0,()),()))
 | .inr (a1)=>k (Ex.exit 0) (dw.dC D ⟨[.any],[]⟩ (((),()),())) (dw.dI D ⟨[.any],[]⟩ (((),()),()))
def Rt : List (dU K ((Bool)⊕(Unit))):=[⟨Ex.ret,⟨[.bool],[]⟩,fun x=> .inl x.1.1⟩,⟨(Ex.exit 0),⟨[.any],[]⟩,fun x=> .inr (())⟩]
def I4 : dM K:=dX D false 26 0 [0,1,5] [4] ⟨[.bD U.i64, .bD U.i64, .int .i64],[]⟩ (fun x=>M.mV x.1.1 x.1.2.1 aF x.1.2.2.1) D7
def qM (m:(List Int)->(List Int)->Option (Bool)):bY K:={f:=11,sh:=⟨[.bD U.i64, .bD U.i64],[]⟩,R:=Bool,run:=fun x=>m x.1.1 x.1.2.1,dflt:=default,out:=fun r=>(Sh.enc D (.bool) r,dY.encs D [] ())}
def yD : Cx K:={jh with mode:=bu .plain [],call:=callOf D [],loop:=bf [(4,I4)]}
theorem I5 : aI (yD):=aA aG _ (bn)
theorem PW : bT (yD) (bU (bW Tryz.f11) 0) (I4):=
 bG (cx:=yD) (n:=26) (n0:=0) (ins:=[0,1,5]) (outs:=[4]) (sh:=⟨[.bD U.i64, .bD U.i64, .int .i64],[]⟩) (run:=fun n x=>M.mV x.1.1 x.1.2.1 n x.1.2.2.1) (dR:=Rt) (out:=D7) aG (I5) ai (ay (by kernel_rfl)) (fun _=>rfl) (fun m x=>by kernel_rfl) (az ⟨fE,fun _ _ _=>rfl⟩ (az ⟨bH,fun _ _ _=>rfl⟩ (bn))) false aF
theorem EC : (qM (M.kW)).Ok D Tryz.prog:=
 bz (cx:=yD) (c:=qM (M.kW)) (fz:=true) (fn:=Tryz.f11) aG (I5) ai ⟨Tryz.func11,by kernel_rfl⟩ (bC (aP 1 (by kernel_rfl) (cZ (.mk (by kernel_rfl) (PW))))) ⟨⟨[.bool],[]⟩,fun x=>x.1.1⟩ (fun x=>rfl) (fun x=>by kernel_rfl)
def Hm (m:M.aj->M.aj->Option (Bool)):bY K:={f:=55,sh:=⟨[.el U.Task, .el U.Task],[]⟩,R:=Bool,run:=fun x=>m x.1.1 x.1.2.1,dflt:=default,out:=fun r=>(Sh.enc D (.bool) r,dY.encs D [] ())}
def Tv : Cx K:={jh with mode:=bu .plain [(11, .plain)],call:=callOf D [qM M.kW],loop:=bf []}
theorem XP : aI (Tv):=aA aG _ (az EC (bn))
theorem aan : (Hm (M.FY)).Ok D Tryz.prog:=
 bz (cx:=Tv) (c:=Hm (M.FY)) (fz:=true) (fn:=Tryz.f55) aG (XP) ai ⟨Tryz.func55,by kernel_rfl⟩ (bC (ay (by kernel_rfl))) ⟨⟨[.bool],[]⟩,fun x=>x.1.1⟩ (fun x=>rfl) (fun x=>by kernel_rfl)
def FZ (y:(Bool)⊕(Unit)) {R:Type} (k:Ex->List (AV K)->List (Ob K)->R):R:=match y with
 | .inl a0=>k Ex.ret (dw.dC D ⟨[.bool],[]⟩ ((a0,()),())) (dw.dI D ⟨[.bool],[]⟩ ((a0,()),()))
 | .inr (a1)=>k (Ex.exit 0) (dw.dC D ⟨[.any],[]⟩ (((),()),())) (dw.dI D ⟨[.any],[]⟩ (((),()),()))
def UJ : List (dU K ((Bool)⊕(Unit))):=[⟨Ex.ret,⟨[.bool],[]⟩,fun x=> .inl x.1.1⟩,⟨(Ex.exit 0),⟨[.any],[]⟩,fun x=> .inr (())⟩]
def J3 : dM K:=dX D false 27 0 [0,1,5] [4] ⟨[.bD U.Task, .bD U.Task, .int .i64],[]⟩ (fun x=>M.oW x.1.1 x.1.2.1 aF x.1.2.2.1) FZ
def ED (m:(List M.aj)->(List M.aj)->Option (Bool)):bY K:={f:=25,sh:=⟨[.bD U.Task, .bD U.Task],[]⟩,R:=Bool,run:=fun x=>m x.1.1 x.1.2.1,dflt:=default,out:=fun r=>(Sh.enc D (.bool) r,dY.encs D [] ())}
def AL : Cx K:={jh with mode:=bu .plain [(55, .plain)],call:=callOf D [Hm M.FY],loop:=bf [(4,J3)]}
theorem J4 : aI (AL):=aA aG _ (az aan (bn))
theorem Ru : bT (AL) (bU (bW Tryz.f25) 0) (J3):=
 bG (cx:=AL) (n:=27) (n0:=0) (ins:=[0,1,5]) (outs:=[4]) (sh:=⟨[.bD U.Task, .bD U.Task, .int .i64],[]⟩) (run:=fun n x=>M.oW x.1.1 x.1.2.1 n x.1.2.2.1) (dR:=UJ) (out:=FZ) aG (J4) ai (ay (by kernel_rfl)) (fun _=>rfl) (fun m x=>by kernel_rfl) (az ⟨fE,fun _ _ _=>rfl⟩ (az ⟨bH,fun _ _ _=>rfl⟩ (bn))) false aF
theorem Y5 : (ED (M.Bc)).Ok D Tryz.prog:=
 bz (cx:=AL) (c:=ED (M.Bc)) (fz:=true) (fn:=Tryz.f25) aG (J4) ai ⟨Tryz.func25,by kernel_rfl⟩ (bC (aP 1 (by kernel_rfl) (cZ (.mk (by kernel_rfl) (Ru))))) ⟨⟨[.bool],[]⟩,fun x=>x.1.1⟩ (fun x=>rfl) (fun x=>by kernel_rfl)
def Hq (m:M.aK->M.aK->Option (Bool)):bY K:={f:=56,sh:=⟨[.el U.Note, .el U.Note],[]⟩,R:=Bool,run:=fun x=>m x.1.1 x.1.2.1,dflt:=default,out:=fun r=>(Sh.enc D (.bool) r,dY.encs D [] ())}
def Tz : Cx K:={jh with mode:=bu .plain [],call:=callOf D [],loop:=bf []}
theorem XQ : aI (Tz):=aA aG _ (bn)
theorem aao : (Hq (M.F5)).Ok D Tryz.prog:=
 bz (cx:=Tz) (c:=Hq (M.F5)) (fz:=true) (fn:=Tryz.f56) aG (XQ) ai ⟨Tryz.func56,by kernel_rfl⟩ (bC (ay (by kernel_rfl))) ⟨⟨[.bool],[]⟩,fun x=>x.1.1⟩ (fun x=>rfl) (fun x=>by kernel_rfl)
def F6 (y:(Bool)⊕(Unit)) {R:Type} (k:Ex->List (AV K)->List (Ob K)->R):R:=match y with
 | .inl a0=>k Ex.ret (dw.dC D ⟨[.bool],[]⟩ ((a0,()),())) (dw.dI D ⟨[.bool],[]⟩ ((a0,()),()))
 | .inr (a1)=>k (Ex.exit 0) (dw.dC D ⟨[.any],[]⟩ (((),()),())) (dw.dI D ⟨[.any],[]⟩ (((),()),()))
def UK : List (dU K ((Bool)⊕(Unit))):=[⟨Ex.ret,⟨[.bool],[]⟩,fun x=> .inl x.1.1⟩,⟨(Ex.exit 0),⟨[.any],[]⟩,fun x=> .inr (())⟩]
def J5 : dM K:=dX D false 27 0 [0,1,5] [4] ⟨[.bD U.Note, .bD U.Note, .int .i64],[]⟩ (fun x=>M.oZ x.1.1 x.1.2.1 aF x.1.2.2.1) F6
def EE (m:(List M.aK)->(List M.aK)->Option (Bool)):bY K:={f:=26,sh:=⟨[.bD U.Note, .bD U.Note],[]⟩,R:=Bool,run:=fun x=>m x.1.1 x.1.2.1,dflt:=default,out:=fun r=>(Sh.enc D (.bool) r,dY.encs D [] ())}
def AO : Cx K:={jh with mode:=bu .plain [(56, .plain)],call:=callOf D [Hq M.F5],loop:=bf [(4,J5)]}
theorem J6 : aI (AO):=aA aG _ (az aao (bn))
theorem Rw : bT (AO) (bU (bW Tryz.f26) 0) (J5):=
 bG (cx:=AO) (n:=27) (n0:=0) (ins:=[0,1,5]) (outs:=[4]) (sh:=⟨[.bD U.Note, .bD U.Note, .int .i64],[]⟩) (run:=fun n x=>M.oZ x.1.1 x.1.2.1 n x.1.2.2.1) (dR:=UK) (out:=F6) aG (J6) ai (ay (by kernel_rfl)) (fun _=>rfl) (fun m x=>by kernel_rfl) (az ⟨fE,fun _ _ _=>rfl⟩ (az ⟨bH,fun _ _ _=>rfl⟩ (bn))) false aF
theorem Y6 : (EE (M.Bd)).Ok D Tryz.prog:=
 bz (cx:=AO) (c:=EE (M.Bd)) (fz:=true) (fn:=Tryz.f26) aG (J6) ai ⟨Tryz.func26,by kernel_rfl⟩ (bC (aP 1 (by kernel_rfl) (cZ (.mk (by kernel_rfl) (Rw))))) ⟨⟨[.bool],[]⟩,fun x=>x.1.1⟩ (fun x=>rfl) (fun x=>by kernel_rfl)
def EF (m:M.aX->M.aX->Option (Bool)):bY K:={f:=9,sh:=⟨[.el U.Async, .el U.Async],[]⟩,R:=Bool,run:=fun x=>m x.1.1 x.1.2.1,dflt:=default,out:=fun r=>(Sh.enc D (.bool) r,dY.encs D [] ())}
def PX : Cx K:={jh with mode:=bu .plain [(10, .plain),(24, .plain),(25, .plain),(11, .plain),(26, .plain)],call:=callOf D [yC M.uP,zM M.uQ,ED M.Bc,qM M.kW,EE M.Bd],loop:=bf []}
theorem VL : aI (PX):=aA aG _ (az PU (az VK (az Y5 (az EC (az Y6 (bn))))))
theorem Y7 : (EF (M.Be)).Ok D Tryz.prog:=
 bz (cx:=PX) (c:=EF (M.Be)) (fz:=true) (fn:=Tryz.f9) aG (VL) ai ⟨Tryz.func9,by kernel_rfl⟩ (bC (ay (by kernel_rfl))) ⟨⟨[.bool],[]⟩,fun x=>x.1.1⟩ (fun x=>rfl) (fun x=>by kernel_rfl)
def D8 (y:Int×(List M.aT)) {R:Type} (k:Ex->List (AV K)->List (Ob K)->R):R:=match y with
 |a0=>k (Ex.exit 0) (dw.dC D ⟨[.int .i64],[.arr U.rP]⟩ ((a0.1,()),(a0.2,()))) (dw.dI D ⟨[.int .i64],[.arr U.rP]⟩ ((a0.1,()),(a0.2,())))
def Rx : List (dU K (Int×(List M.aT))):=[⟨(Ex.exit 0),⟨[.int .i64],[.arr U.rP]⟩,fun x=>(x.1.1,x.2.1)⟩]
def I7 : dM K:=dX D true 34 1 [0,1,5] [1] ⟨[.own 0, .int .i64, .int .i64],[.arr U.rP]⟩ (fun x=>M.mM aF x.1.2.1 x.1.2.2.1 x.2.1) D8
def CB (m:Int->(List M.aT)->Option (Int×(List M.aT))):bY K:={f:=28,sh:=⟨[.own 0, .int .i64],[.arr U.rP]⟩,R:=Int×(List M.aT),run:=fun x=>m x.1.2.1 x.2.1,dflt:=default,out:=fun r=>(Sh.enc D (.int .i64) r.1,dY.encs D [.arr U.rP] (r.2,()))}
def yE : Cx K:={jh with mode:=bu .plain [],deep:=fun c=>bP (D.cells c (K.zero c)),opn:=true,call:=callOf D [],loop:=bf [(2,I7)]}
theorem I8 : aI (yE):=aA aG _ (bn)
theorem PY : bT (yE) (bU (bW Tryz.f28) 0) (I7):=
 bG (cx:=yE) (n:=34) (n0:=1) (ins:=[0,1,5]) (outs:=[1]) (sh:=⟨[.own 0, .int .i64, .int .i64],[.arr U.rP]⟩) (run:=fun n x=>M.mM n x.1.2.1 x.1.2.2.1 x.2.1) (dR:=Rx) (out:=D8) aG (I8) ai (ay (by kernel_rfl)) (fun _=>rfl) (fun m x=>by kernel_rfl) (az ⟨bH,fun _ _ _=>rfl⟩ (bn)) true aF
theorem XR : (CB (M.xy)).Ok D Tryz.prog:=
 bz (cx:=yE) (c:=CB (M.xy)) (fz:=true) (fn:=Tryz.f28) aG (I8) ai ⟨Tryz.func28,by kernel_rfl⟩ (bC (aP 1 (by kernel_rfl) (cZ (.mk (by kernel_rfl) (PY))))) ⟨⟨[.int .i64],[.arr U.rP]⟩,fun x=>(x.1.1,x.2.1)⟩ (fun x=>rfl) (fun x=>by kernel_rfl)
def CE (y:Int×(List M.ak)) {R:Type} (k:Ex->List (AV K)->List (Ob K)->R):R:=match y with
 |a0=>k (Ex.exit 0) (dw.dC D ⟨[.int .i64],[.tree U.Prog]⟩ ((a0.1,()),(a0.2,()))) (dw.dI D ⟨[.int .i64],[.tree U.Prog]⟩ ((a0.1,()),(a0.2,())))
def PZ : List (dU K (Int×(List M.ak))):=[⟨(Ex.exit 0),⟨[.int .i64],[.tree U.Prog]⟩,fun x=>(x.1.1,x.2.1)⟩]
def F7 : dM K:=dX D true 27 1 [0,1,5] [1] ⟨[.own 0, .int .i64, .int .i64],[.tree U.Prog]⟩ (fun x=>M.kQ aF x.1.2.1 x.1.2.2.1 x.2.1) CE
def sZ (m:Int->(List M.ak)->Option (Int×(List M.ak))):bY K:={f:=12,sh:=⟨[.own 0, .int .i64],[.tree U.Prog]⟩,R:=Int×(List M.ak),run:=fun x=>m x.1.2.1 x.2.1,dflt:=default,out:=fun r=>(Sh.enc D (.int .i64) r.1,dY.encs D [.tree U.Prog] (r.2,()))}
def wC : Cx K:={jh with mode:=bu .plain [(28, .pass)],deep:=fun c=>bP (D.cells c (K.zero c)),opn:=true,call:=callOf D [CB M.xy],loop:=bf [(2,F7)]}
theorem F8 : aI (wC):=aA aG _ (az XR (bn))
theorem Oe : bT (wC) (bU (bW Tryz.f12) 0) (F7):=
 bG (cx:=wC) (n:=27) (n0:=1) (ins:=[0,1,5]) (outs:=[1]) (sh:=⟨[.own 0, .int .i64, .int .i64],[.tree U.Prog]⟩) (run:=fun n x=>M.kQ n x.1.2.1 x.1.2.2.1 x.2.1) (dR:=PZ) (out:=CE) aG (F8) ai (ay (by kernel_rfl)) (fun _=>rfl) (fun m x=>by kernel_rfl) (az ⟨bH,fun _ _ _=>rfl⟩ (bn)) true aF
theorem J7 : (sZ (M.oD)).Ok D Tryz.prog:=
 bz (cx:=wC) (c:=sZ (M.oD)) (fz:=true) (fn:=Tryz.f12) aG (F8) ai ⟨Tryz.func12,by kernel_rfl⟩ (bC (aP 1 (by kernel_rfl) (cZ (.mk (by kernel_rfl) (Oe))))) ⟨⟨[.int .i64],[.tree U.Prog]⟩,fun x=>(x.1.1,x.2.1)⟩ (fun x=>rfl) (fun x=>by kernel_rfl)
def Ad (y:Int×(List Int)) {R:Type} (k:Ex->List (AV K)->List (Ob K)->R):R:=match y with
 |a0=>k (Ex.exit 0) (dw.dC D ⟨[.int .i64],[.arr U.i64]⟩ ((a0.1,()),(a0.2,()))) (dw.dI D ⟨[.int .i64],[.arr U.i64]⟩ ((a0.1,()),(a0.2,())))
def Og : List (dU K (Int×(List Int))):=[⟨(Ex.exit 0),⟨[.int .i64],[.arr U.i64]⟩,fun x=>(x.1.1,x.2.1)⟩]
def D9 : dM K:=dX D true 19 1 [0,1,5] [1] ⟨[.own 0, .int .i64, .int .i64],[.arr U.i64]⟩ (fun x=>M.jE aF x.1.2.1 x.1.2.2.1 x.2.1) Ad
def nV (m:Int->(List Int)->Option (Int×(List Int))):bY K:={f:=13,sh:=⟨[.own 0, .int .i64],[.arr U.i64]⟩,R:=Int×(List Int),run:=fun x=>m x.1.2.1 x.2.1,dflt:=default,out:=fun r=>(Sh.enc D (.int .i64) r.1,dY.encs D [.arr U.i64] (r.2,()))}
def tq : Cx K:={jh with mode:=bu .plain [],deep:=fun c=>bP (D.cells c (K.zero c)),opn:=true,call:=callOf D [],loop:=bf [(2,D9)]}
theorem Ea : aI (tq):=aA aG _ (bn)
theorem MB : bT (tq) (bU (bW Tryz.f13) 0) (D9):=
 bG (cx:=tq) (n:=19) (n0:=1) (ins:=[0,1,5]) (outs:=[1]) (sh:=⟨[.own 0, .int .i64, .int .i64],[.arr U.i64]⟩) (run:=fun n x=>M.jE n x.1.2.1 x.1.2.2.1 x.2.1) (dR:=Og) (out:=Ad) aG (Ea) ai (ay (by kernel_rfl)) (fun _=>rfl) (fun m x=>by kernel_rfl) (az ⟨bH,fun _ _ _=>rfl⟩ (bn)) true aF
theorem zN : (nV (M.gX)).Ok D Tryz.prog:=
 bz (cx:=tq) (c:=nV (M.gX)) (fz:=true) (fn:=Tryz.f13) aG (Ea) ai ⟨Tryz.func13,by kernel_rfl⟩ (bC (aP 1 (by kernel_rfl) (cZ (.mk (by kernel_rfl) (MB))))) ⟨⟨[.int .i64],[.arr U.i64]⟩,fun x=>(x.1.1,x.2.1)⟩ (fun x=>rfl) (fun x=>by kernel_rfl)
def zk (y:Int×(List M.af)) {R:Type} (k:Ex->List (AV K)->List (Ob K)->R):R:=match y with
 |a0=>k (Ex.exit 0) (dw.dC D ⟨[.int .i64],[.tree U.Stream]⟩ ((a0.1,()),(a0.2,()))) (dw.dI D ⟨[.int .i64],[.tree U.Stream]⟩ ((a0.1,()),(a0.2,())))
def MC : List (dU K (Int×(List M.af))):=[⟨(Ex.exit 0),⟨[.int .i64],[.tree U.Stream]⟩,fun x=>(x.1.1,x.2.1)⟩]
def CG : dM K:=dX D true 101 1 [0,1,5] [1] ⟨[.own 0, .int .i64, .int .i64],[.tree U.Stream]⟩ (fun x=>M.jc aF x.1.2.1 x.1.2.2.1 x.2.1) zk
def wE (m:Int->(List M.af)->Option (Int×(List M.af))):bY K:={f:=29,sh:=⟨[.own 0, .int .i64],[.tree U.Stream]⟩,R:=Int×(List M.af),run:=fun x=>m x.1.2.1 x.2.1,dflt:=default,out:=fun r=>(Sh.enc D (.int .i64) r.1,dY.encs D [.tree U.Stream] (r.2,()))}
def rG : Cx K:={jh with mode:=bu .plain [(58, .plain),(59, .pass),(60, .pass),(61, .pass)],deep:=fun c=>bP (D.cells c (K.zero c)),opn:=true,call:=callOf D [gU M.ed,qf M.jS,gY M.yY,gu M.vJ],loop:=bf [(2,CG)]}
theorem CJ : aI (rG):=aA aG _ (az jY (az Fg (az Vs (az Uy (bn)))))
theorem J8 : bT (rG) (bU (bW Tryz.f29) 0) (CG):=
 bG (cx:=rG) (n:=101) (n0:=1) (ins:=[0,1,5]) (outs:=[1]) (sh:=⟨[.own 0, .int .i64, .int .i64],[.tree U.Stream]⟩) (run:=fun n x=>M.jc n x.1.2.1 x.1.2.2.1 x.2.1) (dR:=MC) (out:=zk) aG (CJ) ai (ay (by kernel_rfl)) (fun _=>rfl) (fun m x=>by kernel_rfl) (az ⟨bH,fun _ _ _=>rfl⟩ (bn)) true aF
theorem Ry : (wE (M.pO)).Ok D Tryz.prog:=
 bz (cx:=rG) (c:=wE (M.pO)) (fz:=true) (fn:=Tryz.f29) aG (CJ) ai ⟨Tryz.func29,by kernel_rfl⟩ (bC (aP 1 (by kernel_rfl) (cZ (.mk (by kernel_rfl) (J8))))) ⟨⟨[.int .i64],[.tree U.Stream]⟩,fun x=>(x.1.1,x.2.1)⟩ (fun x=>rfl) (fun x=>by kernel_rfl)
def CO (y:Int×(List M.aj)) {R:Type} (k:Ex->List (AV K)->List (Ob K)->R):R:=match y with
 |a0=>k (Ex.exit 0) (dw.dC D ⟨[.int .i64],[.tree U.Task]⟩ ((a0.1,()),(a0.2,()))) (dw.dI D ⟨[.int .i64],[.tree U.Task]⟩ ((a0.1,()),(a0.2,())))
def P5 : List (dU K (Int×(List M.aj))):=[⟨(Ex.exit 0),⟨[.int .i64],[.tree U.Task]⟩,fun x=>(x.1.1,x.2.1)⟩]
def F9 : dM K:=dX D true 96 1 [0,1,5] [1] ⟨[.own 0, .int .i64, .int .i64],[.tree U.Task]⟩ (fun x=>M.qB aF x.1.2.1 x.1.2.2.1 x.2.1) CO
def zO (m:Int->(List M.aj)->Option (Int×(List M.aj))):bY K:={f:=30,sh:=⟨[.own 0, .int .i64],[.tree U.Task]⟩,R:=Int×(List M.aj),run:=fun x=>m x.1.2.1 x.2.1,dflt:=default,out:=fun r=>(Sh.enc D (.int .i64) r.1,dY.encs D [.tree U.Task] (r.2,()))}
def wF : Cx K:={jh with mode:=bu .plain [(13, .pass)],deep:=fun c=>bP (D.cells c (K.zero c)),opn:=true,call:=callOf D [nV M.gX],loop:=bf [(2,F9)]}
theorem Gf : aI (wF):=aA aG _ (az zN (bn))
theorem Oh : bT (wF) (bU (bW Tryz.f30) 0) (F9):=
 bG (cx:=wF) (n:=96) (n0:=1) (ins:=[0,1,5]) (outs:=[1]) (sh:=⟨[.own 0, .int .i64, .int .i64],[.tree U.Task]⟩) (run:=fun n x=>M.qB n x.1.2.1 x.1.2.2.1 x.2.1) (dR:=P5) (out:=CO) aG (Gf) ai (ay (by kernel_rfl)) (fun _=>rfl) (fun m x=>by kernel_rfl) (az ⟨bH,fun _ _ _=>rfl⟩ (bn)) true aF
theorem VM : (zO (M.uF)).Ok D Tryz.prog:=
 bz (cx:=wF) (c:=zO (M.uF)) (fz:=true) (fn:=Tryz.f30) aG (Gf) ai ⟨Tryz.func30,by kernel_rfl⟩ (bC (aP 1 (by kernel_rfl) (cZ (.mk (by kernel_rfl) (Oh))))) ⟨⟨[.int .i64],[.tree U.Task]⟩,fun x=>(x.1.1,x.2.1)⟩ (fun x=>rfl) (fun x=>by kernel_rfl)
def CP (y:Int×(List M.aK)) {R:Type} (k:Ex->List (AV K)->List (Ob K)->R):R:=match y with
 |a0=>k (Ex.exit 0) (dw.dC D ⟨[.int .i64],[.arr U.Note]⟩ ((a0.1,()),(a0.2,()))) (dw.dI D ⟨[.int .i64],[.arr U.Note]⟩ ((a0.1,()),(a0.2,())))
def P6 : List (dU K (Int×(List M.aK))):=[⟨(Ex.exit 0),⟨[.int .i64],[.arr U.Note]⟩,fun x=>(x.1.1,x.2.1)⟩]
def Gg : dM K:=dX D true 41 1 [0,1,5] [1] ⟨[.own 0, .int .i64, .int .i64],[.arr U.Note]⟩ (fun x=>M.qC aF x.1.2.1 x.1.2.2.1 x.2.1) CP
def zQ (m:Int->(List M.aK)->Option (Int×(List M.aK))):bY K:={f:=31,sh:=⟨[.own 0, .int .i64],[.arr U.Note]⟩,R:=Int×(List M.aK),run:=fun x=>m x.1.2.1 x.2.1,dflt:=default,out:=fun r=>(Sh.enc D (.int .i64) r.1,dY.encs D [.arr U.Note] (r.2,()))}
def wG : Cx K:={jh with mode:=bu .plain [],deep:=fun c=>bP (D.cells c (K.zero c)),opn:=true,call:=callOf D [],loop:=bf [(2,Gg)]}
theorem Gh : aI (wG):=aA aG _ (bn)
theorem Oi : bT (wG) (bU (bW Tryz.f31) 0) (Gg):=
 bG (cx:=wG) (n:=41) (n0:=1) (ins:=[0,1,5]) (outs:=[1]) (sh:=⟨[.own 0, .int .i64, .int .i64],[.arr U.Note]⟩) (run:=fun n x=>M.qC n x.1.2.1 x.1.2.2.1 x.2.1) (dR:=P6) (out:=CP) aG (Gh) ai (ay (by kernel_rfl)) (fun _=>rfl) (fun m x=>by kernel_rfl) (az ⟨bH,fun _ _ _=>rfl⟩ (bn)) true aF
theorem VN : (zQ (M.uG)).Ok D Tryz.prog:=
 bz (cx:=wG) (c:=zQ (M.uG)) (fz:=true) (fn:=Tryz.f31) aG (Gh) ai ⟨Tryz.func31,by kernel_rfl⟩ (bC (aP 1 (by kernel_rfl) (cZ (.mk (by kernel_rfl) (Oi))))) ⟨⟨[.int .i64],[.arr U.Note]⟩,fun x=>(x.1.1,x.2.1)⟩ (fun x=>rfl) (fun x=>by kernel_rfl)
def Eb (y:(Int)⊕(Int)) {R:Type} (k:Ex->List (AV K)->List (Ob K)->R):R:=match y with
 | .inl a0=>k Ex.ret (dw.dC D ⟨[.any, .int .i64],[]⟩ (((),(a0,())),())) (dw.dI D ⟨[.any, .int .i64],[]⟩ (((),(a0,())),()))
 | .inr (a1)=>k (Ex.exit 0) (dw.dC D ⟨[.int .i64, .any],[]⟩ ((a1,((),())),())) (dw.dI D ⟨[.int .i64, .any],[]⟩ ((a1,((),())),()))
def Rz : List (dU K ((Int)⊕(Int))):=[⟨Ex.ret,⟨[.any, .int .i64],[]⟩,fun x=> .inl x.1.2.1⟩,⟨(Ex.exit 0),⟨[.int .i64, .any],[]⟩,fun x=> .inr (x.1.1)⟩]
def I9 : dM K:=dX D false 40 0 [0,1,5] [1,4] ⟨[.bD U.rP, .int .i64, .int .i64],[]⟩ (fun x=>M.mO x.1.1 aF x.1.2.1 x.1.2.2.1) Eb
def CQ (m:(List M.aT)->Int->Option (Int)):bY K:={f:=62,sh:=⟨[.bD U.rP, .int .i64],[]⟩,R:=Int,run:=fun x=>m x.1.1 x.1.2.1,dflt:=default,out:=fun r=>(Sh.enc D (.int .i64) r,dY.encs D [] ())}
def yF : Cx K:={jh with mode:=bu .plain [],call:=callOf D [],loop:=bf [(2,I9)]}
theorem Ja : aI (yF):=aA aG _ (bn)
theorem P7 : bT (yF) (bU (bW Tryz.f62) 0) (I9):=
 bG (cx:=yF) (n:=40) (n0:=0) (ins:=[0,1,5]) (outs:=[1,4]) (sh:=⟨[.bD U.rP, .int .i64, .int .i64],[]⟩) (run:=fun n x=>M.mO x.1.1 n x.1.2.1 x.1.2.2.1) (dR:=Rz) (out:=Eb) aG (Ja) ai (ay (by kernel_rfl)) (fun _=>rfl) (fun m x=>by kernel_rfl) (az ⟨fE,fun _ _ _=>rfl⟩ (az ⟨bH,fun _ _ _=>rfl⟩ (bn))) false aF
theorem XT : (CQ (M.xA)).Ok D Tryz.prog:=
 bz (cx:=yF) (c:=CQ (M.xA)) (fz:=true) (fn:=Tryz.f62) aG (Ja) ai ⟨Tryz.func62,by kernel_rfl⟩ (bC (aP 1 (by kernel_rfl) (cZ (.mk (by kernel_rfl) (P7))))) ⟨⟨[.int .i64],[]⟩,fun x=>x.1.1⟩ (fun x=>rfl) (fun x=>by kernel_rfl)
def CS (y:(Int)⊕(Int)) {R:Type} (k:Ex->List (AV K)->List (Ob K)->R):R:=match y with
 | .inl a0=>k Ex.ret (dw.dC D ⟨[.any, .int .i64],[]⟩ (((),(a0,())),())) (dw.dI D ⟨[.any, .int .i64],[]⟩ (((),(a0,())),()))
 | .inr (a1)=>k (Ex.exit 0) (dw.dC D ⟨[.int .i64, .any],[]⟩ ((a1,((),())),())) (dw.dI D ⟨[.int .i64, .any],[]⟩ ((a1,((),())),()))
def P8 : List (dU K ((Int)⊕(Int))):=[⟨Ex.ret,⟨[.any, .int .i64],[]⟩,fun x=> .inl x.1.2.1⟩,⟨(Ex.exit 0),⟨[.int .i64, .any],[]⟩,fun x=> .inr (x.1.1)⟩]
def Gi : dM K:=dX D false 31 0 [0,1,5] [1,4] ⟨[.bD U.Prog, .int .i64, .int .i64],[]⟩ (fun x=>M.kR x.1.1 aF x.1.2.1 x.1.2.2.1) CS
def zS (m:(List M.ak)->Int->Option (Int)):bY K:={f:=32,sh:=⟨[.bD U.Prog, .int .i64],[]⟩,R:=Int,run:=fun x=>m x.1.1 x.1.2.1,dflt:=default,out:=fun r=>(Sh.enc D (.int .i64) r,dY.encs D [] ())}
def wH : Cx K:={jh with mode:=bu .plain [(62, .plain)],call:=callOf D [CQ M.xA],loop:=bf [(2,Gi)]}
theorem Gj : aI (wH):=aA aG _ (az XT (bn))
theorem Oj : bT (wH) (bU (bW Tryz.f32) 0) (Gi):=
 bG (cx:=wH) (n:=31) (n0:=0) (ins:=[0,1,5]) (outs:=[1,4]) (sh:=⟨[.bD U.Prog, .int .i64, .int .i64],[]⟩) (run:=fun n x=>M.kR x.1.1 n x.1.2.1 x.1.2.2.1) (dR:=P8) (out:=CS) aG (Gj) ai (ay (by kernel_rfl)) (fun _=>rfl) (fun m x=>by kernel_rfl) (az ⟨fE,fun _ _ _=>rfl⟩ (az ⟨bH,fun _ _ _=>rfl⟩ (bn))) false aF
theorem VO : (zS (M.qx)).Ok D Tryz.prog:=
 bz (cx:=wH) (c:=zS (M.qx)) (fz:=true) (fn:=Tryz.f32) aG (Gj) ai ⟨Tryz.func32,by kernel_rfl⟩ (bC (aP 1 (by kernel_rfl) (cZ (.mk (by kernel_rfl) (Oj))))) ⟨⟨[.int .i64],[]⟩,fun x=>x.1.1⟩ (fun x=>rfl) (fun x=>by kernel_rfl)
def zl (y:(Int)⊕(Int)) {R:Type} (k:Ex->List (AV K)->List (Ob K)->R):R:=match y with
 | .inl a0=>k Ex.ret (dw.dC D ⟨[.any, .int .i64],[]⟩ (((),(a0,())),())) (dw.dI D ⟨[.any, .int .i64],[]⟩ (((),(a0,())),()))
 | .inr (a1)=>k (Ex.exit 0) (dw.dC D ⟨[.int .i64, .any],[]⟩ ((a1,((),())),())) (dw.dI D ⟨[.int .i64, .any],[]⟩ ((a1,((),())),()))
def MF : List (dU K ((Int)⊕(Int))):=[⟨Ex.ret,⟨[.any, .int .i64],[]⟩,fun x=> .inl x.1.2.1⟩,⟨(Ex.exit 0),⟨[.int .i64, .any],[]⟩,fun x=> .inr (x.1.1)⟩]
def CU : dM K:=dX D false 123 0 [0,1,5] [1,4] ⟨[.bD U.Stream, .int .i64, .int .i64],[]⟩ (fun x=>M.jd x.1.1 aF x.1.2.1 x.1.2.2.1) zl
def wI (m:(List M.af)->Int->Option (Int)):bY K:={f:=33,sh:=⟨[.bD U.Stream, .int .i64],[]⟩,R:=Int,run:=fun x=>m x.1.1 x.1.2.1,dflt:=default,out:=fun r=>(Sh.enc D (.int .i64) r,dY.encs D [] ())}
def rH : Cx K:={jh with mode:=bu .plain [(58, .plain),(63, .plain),(64, .plain),(65, .plain)],call:=callOf D [gU M.ed,qg M.jT,gZ M.yZ,gz M.vK],loop:=bf [(2,CU)]}
theorem CV : aI (rH):=aA aG _ (az jY (az Fq (az Vt (az Uz (bn)))))
theorem J9 : bT (rH) (bU (bW Tryz.f33) 0) (CU):=
 bG (cx:=rH) (n:=123) (n0:=0) (ins:=[0,1,5]) (outs:=[1,4]) (sh:=⟨[.bD U.Stream, .int .i64, .int .i64],[]⟩) (run:=fun n x=>M.jd x.1.1 n x.1.2.1 x.1.2.2.1) (dR:=MF) (out:=zl) aG (CV) ai (ay (by kernel_rfl)) (fun _=>rfl) (fun m x=>by kernel_rfl) (az ⟨fE,fun _ _ _=>rfl⟩ (az ⟨bH,fun _ _ _=>rfl⟩ (bn))) false aF
theorem RD : (wI (M.mP)).Ok D Tryz.prog:=
 bz (cx:=rH) (c:=wI (M.mP)) (fz:=true) (fn:=Tryz.f33) aG (CV) ai ⟨Tryz.func33,by kernel_rfl⟩ (bC (aP 1 (by kernel_rfl) (cZ (.mk (by kernel_rfl) (J9))))) ⟨⟨[.int .i64],[]⟩,fun x=>x.1.1⟩ (fun x=>rfl) (fun x=>by kernel_rfl)
def Ae (y:(Int)⊕(Int)) {R:Type} (k:Ex->List (AV K)->List (Ob K)->R):R:=match y with
 | .inl a0=>k Ex.ret (dw.dC D ⟨[.any, .int .i64],[]⟩ (((),(a0,())),())) (dw.dI D ⟨[.any, .int .i64],[]⟩ (((),(a0,())),()))
 | .inr (a1)=>k (Ex.exit 0) (dw.dC D ⟨[.int .i64, .any],[]⟩ ((a1,((),())),())) (dw.dI D ⟨[.int .i64, .any],[]⟩ ((a1,((),())),()))
def Ol : List (dU K ((Int)⊕(Int))):=[⟨Ex.ret,⟨[.any, .int .i64],[]⟩,fun x=> .inl x.1.2.1⟩,⟨(Ex.exit 0),⟨[.int .i64, .any],[]⟩,fun x=> .inr (x.1.1)⟩]
def Ec : dM K:=dX D false 21 0 [0,1,5] [1,4] ⟨[.bD U.i64, .int .i64, .int .i64],[]⟩ (fun x=>M.pI x.1.1 aF x.1.2.1 x.1.2.2.1) Ae
def rJ (m:(List Int)->Int->Option (Int)):bY K:={f:=35,sh:=⟨[.bD U.i64, .int .i64],[]⟩,R:=Int,run:=fun x=>m x.1.1 x.1.2.1,dflt:=default,out:=fun r=>(Sh.enc D (.int .i64) r,dY.encs D [] ())}
def tu : Cx K:={jh with mode:=bu .plain [],call:=callOf D [],loop:=bf [(2,Ec)]}
theorem Ed : aI (tu):=aA aG _ (bn)
theorem MG : bT (tu) (bU (bW Tryz.f35) 0) (Ec):=
 bG (cx:=tu) (n:=21) (n0:=0) (ins:=[0,1,5]) (outs:=[1,4]) (sh:=⟨[.bD U.i64, .int .i64, .int .i64],[]⟩) (run:=fun n x=>M.pI x.1.1 n x.1.2.1 x.1.2.2.1) (dR:=Ol) (out:=Ae) aG (Ed) ai (ay (by kernel_rfl)) (fun _=>rfl) (fun m x=>by kernel_rfl) (az ⟨fE,fun _ _ _=>rfl⟩ (az ⟨bH,fun _ _ _=>rfl⟩ (bn))) false aF
theorem Jb : (rJ (M.jM)).Ok D Tryz.prog:=
 bz (cx:=tu) (c:=rJ (M.jM)) (fz:=true) (fn:=Tryz.f35) aG (Ed) ai ⟨Tryz.func35,by kernel_rfl⟩ (bC (aP 1 (by kernel_rfl) (cZ (.mk (by kernel_rfl) (MG))))) ⟨⟨[.int .i64],[]⟩,fun x=>x.1.1⟩ (fun x=>rfl) (fun x=>by kernel_rfl)
def CW (y:(Int)⊕(Int)) {R:Type} (k:Ex->List (AV K)->List (Ob K)->R):R:=match y with
 | .inl a0=>k Ex.ret (dw.dC D ⟨[.any, .int .i64],[]⟩ (((),(a0,())),())) (dw.dI D ⟨[.any, .int .i64],[]⟩ (((),(a0,())),()))
 | .inr (a1)=>k (Ex.exit 0) (dw.dC D ⟨[.int .i64, .any],[]⟩ ((a1,((),())),())) (dw.dI D ⟨[.int .i64, .any],[]⟩ ((a1,((),())),()))
def P9 : List (dU K ((Int)⊕(Int))):=[⟨Ex.ret,⟨[.any, .int .i64],[]⟩,fun x=> .inl x.1.2.1⟩,⟨(Ex.exit 0),⟨[.int .i64, .any],[]⟩,fun x=> .inr (x.1.1)⟩]
def Gl : dM K:=dX D false 118 0 [0,1,5] [1,4] ⟨[.bD U.Task, .int .i64, .int .i64],[]⟩ (fun x=>M.qG x.1.1 aF x.1.2.1 x.1.2.2.1) CW
def zT (m:(List M.aj)->Int->Option (Int)):bY K:={f:=34,sh:=⟨[.bD U.Task, .int .i64],[]⟩,R:=Int,run:=fun x=>m x.1.1 x.1.2.1,dflt:=default,out:=fun r=>(Sh.enc D (.int .i64) r,dY.encs D [] ())}
def wJ : Cx K:={jh with mode:=bu .plain [(35, .plain)],call:=callOf D [rJ M.jM],loop:=bf [(2,Gl)]}
theorem Gm : aI (wJ):=aA aG _ (az Jb (bn))
theorem Om : bT (wJ) (bU (bW Tryz.f34) 0) (Gl):=
 bG (cx:=wJ) (n:=118) (n0:=0) (ins:=[0,1,5]) (outs:=[1,4]) (sh:=⟨[.bD U.Task, .int .i64, .int .i64],[]⟩) (run:=fun n x=>M.qG x.1.1 n x.1.2.1 x.1.2.2.1) (dR:=P9) (out:=CW) aG (Gm) ai (ay (by kernel_rfl)) (fun _=>rfl) (fun m x=>by kernel_rfl) (az ⟨fE,fun _ _ _=>rfl⟩ (az ⟨bH,fun _ _ _=>rfl⟩ (bn))) false aF
theorem VP : (zT (M.uH)).Ok D Tryz.prog:=
 bz (cx:=wJ) (c:=zT (M.uH)) (fz:=true) (fn:=Tryz.f34) aG (Gm) ai ⟨Tryz.func34,by kernel_rfl⟩ (bC (aP 1 (by kernel_rfl) (cZ (.mk (by kernel_rfl) (Om))))) ⟨⟨[.int .i64],[]⟩,fun x=>x.1.1⟩ (fun x=>rfl) (fun x=>by kernel_rfl)
def CX (y:(Int)⊕(Int)) {R:Type} (k:Ex->List (AV K)->List (Ob K)->R):R:=match y with
 | .inl a0=>k Ex.ret (dw.dC D ⟨[.any, .int .i64],[]⟩ (((),(a0,())),())) (dw.dI D ⟨[.any, .int .i64],[]⟩ (((),(a0,())),()))
 | .inr (a1)=>k (Ex.exit 0) (dw.dC D ⟨[.int .i64, .any],[]⟩ ((a1,((),())),())) (dw.dI D ⟨[.int .i64, .any],[]⟩ ((a1,((),())),()))
def Qa : List (dU K ((Int)⊕(Int))):=[⟨Ex.ret,⟨[.any, .int .i64],[]⟩,fun x=> .inl x.1.2.1⟩,⟨(Ex.exit 0),⟨[.int .i64, .any],[]⟩,fun x=> .inr (x.1.1)⟩]
def Gn : dM K:=dX D false 49 0 [0,1,5] [1,4] ⟨[.bD U.Note, .int .i64, .int .i64],[]⟩ (fun x=>M.qH x.1.1 aF x.1.2.1 x.1.2.2.1) CX
def zU (m:(List M.aK)->Int->Option (Int)):bY K:={f:=36,sh:=⟨[.bD U.Note, .int .i64],[]⟩,R:=Int,run:=fun x=>m x.1.1 x.1.2.1,dflt:=default,out:=fun r=>(Sh.enc D (.int .i64) r,dY.encs D [] ())}
def wK : Cx K:={jh with mode:=bu .plain [],call:=callOf D [],loop:=bf [(2,Gn)]}
theorem Gp : aI (wK):=aA aG _ (bn)
theorem Oo : bT (wK) (bU (bW Tryz.f36) 0) (Gn):=
 bG (cx:=wK) (n:=49) (n0:=0) (ins:=[0,1,5]) (outs:=[1,4]) (sh:=⟨[.bD U.Note, .int .i64, .int .i64],[]⟩) (run:=fun n x=>M.qH x.1.1 n x.1.2.1 x.1.2.2.1) (dR:=Qa) (out:=CX) aG (Gp) ai (ay (by kernel_rfl)) (fun _=>rfl) (fun m x=>by kernel_rfl) (az ⟨fE,fun _ _ _=>rfl⟩ (az ⟨bH,fun _ _ _=>rfl⟩ (bn))) false aF
theorem VQ : (zU (M.uI)).Ok D Tryz.prog:=
 bz (cx:=wK) (c:=zU (M.uI)) (fz:=true) (fn:=Tryz.f36) aG (Gp) ai ⟨Tryz.func36,by kernel_rfl⟩ (bC (aP 1 (by kernel_rfl) (cZ (.mk (by kernel_rfl) (Oo))))) ⟨⟨[.int .i64],[]⟩,fun x=>x.1.1⟩ (fun x=>rfl) (fun x=>by kernel_rfl)
def zV (m:Int->(List M.ak)->(List M.af)->(List M.aj)->(List Int)->(List M.aK)->Option (Int×(List M.ak)×(List M.af)×(List M.aj)×(List Int)×(List M.aK))):bY K:={f:=14,sh:=⟨[.agg [.own 0, .own 1, .own 2, .own 3, .own 4], .int .i64],[.tree U.Prog, .tree U.Stream, .tree U.Task, .arr U.i64, .arr U.Note]⟩,R:=Int×(List M.ak)×(List M.af)×(List M.aj)×(List Int)×(List M.aK),run:=fun x=>m x.1.2.1 x.2.1 x.2.2.1 x.2.2.2.1 x.2.2.2.2.1 x.2.2.2.2.2.1,dflt:=default,out:=fun r=>(Sh.enc D (.int .i64) r.1,dY.encs D [.tree U.Prog, .tree U.Stream, .tree U.Task, .arr U.i64, .arr U.Note] (r.2.1,(r.2.2.1,(r.2.2.2.1,(r.2.2.2.2.1,(r.2.2.2.2.2,()))))))}
def Ko : Cx K:={jh with mode:=bu .plain [(12, .pass),(29, .pass),(30, .pass),(13, .pass),(31, .pass)],deep:=fun c=>bP (D.cells c (K.zero c)),opn:=true,call:=callOf D [sZ M.oD,wE M.pO,zO M.uF,nV M.gX,zQ M.uG],loop:=bf []}
theorem RF : aI (Ko):=aA aG _ (az J7 (az Ry (az VM (az zN (az VN (bn))))))
theorem VR : (zV (M.uJ)).Ok D Tryz.prog:=
 bz (cx:=Ko) (c:=zV (M.uJ)) (fz:=true) (fn:=Tryz.f14) aG (RF) ai ⟨Tryz.func14,by kernel_rfl⟩ (bC (ay (by kernel_rfl))) ⟨⟨[.int .i64],[.tree U.Prog, .tree U.Stream, .tree U.Task, .arr U.i64, .arr U.Note]⟩,fun x=>(x.1.1,x.2.1,x.2.2.1,x.2.2.2.1,x.2.2.2.2.1,x.2.2.2.2.2.1)⟩ (fun x=>rfl) (fun x=>by kernel_rfl)
def zW (m:M.aX->Int->Option (Int)):bY K:={f:=15,sh:=⟨[.el U.Async, .int .i64],[]⟩,R:=Int,run:=fun x=>m x.1.1 x.1.2.1,dflt:=default,out:=fun r=>(Sh.enc D (.int .i64) r,dY.encs D [] ())}
def Kq : Cx K:={jh with mode:=bu .plain [(32, .plain),(33, .plain),(34, .plain),(35, .plain),(36, .plain)],call:=callOf D [zS M.qx,wI M.mP,zT M.uH,rJ M.jM,zU M.uI],loop:=bf []}
theorem RG : aI (Kq):=aA aG _ (az VO (az RD (az VP (az Jb (az VQ (bn))))))
theorem VS : (zW (M.uK)).Ok D Tryz.prog:=
 bz (cx:=Kq) (c:=zW (M.uK)) (fz:=true) (fn:=Tryz.f15) aG (RG) ai ⟨Tryz.func15,by kernel_rfl⟩ (bC (ay (by kernel_rfl))) ⟨⟨[.int .i64],[]⟩,fun x=>x.1.1⟩ (fun x=>rfl) (fun x=>by kernel_rfl)
def pY (m:(List M.ak)->(List Int)->Option (Bool)):bY K:={f:=3,sh:=⟨[.bD U.Prog, .bD U.i64],[]⟩,R:=Bool,run:=fun x=>m x.1.1 x.1.2.1,dflt:=default,out:=fun r=>(Sh.enc D (.bool) r,dY.encs D [] ())}
def zn : Cx K:={jh with mode:=bu .plain [(4, .plain),(6, .fresh),(7, .fresh),(5, .JD),(8, .fresh),(9, .plain),(10, .plain),(11, .plain),(12, .pass),(13, .pass),(14, .pass),(15, .plain)],deep:=fun c=>bP (D.cells c (K.zero c)),call:=callOf D [Ew M.A8,Ey M.Ba,BV M.xM,Cc M.xu,Cj M.xw,EF M.Be,yC M.uP,qM M.kW,sZ M.oD,nV M.gX,zV M.uJ,zW M.uK],loop:=bf []}
theorem Hr : aI (zn):=aA aG _ (az YZ (az Y1 (az XI (az XL (az XN (az Y7 (az PU (az EC (az J7 (az zN (az VR (az VS (bn)))))))))))))
theorem Kr : (pY (M.jw)).Ok D Tryz.prog:=
 bz (cx:=zn) (c:=pY (M.jw)) (fz:=true) (fn:=Tryz.f3) aG (Hr) ai ⟨Tryz.func3,by kernel_rfl⟩ (bC (ay (by kernel_rfl))) ⟨⟨[.bool],[]⟩,fun x=>x.1.1⟩ (fun x=>rfl) (fun x=>by kernel_rfl)
