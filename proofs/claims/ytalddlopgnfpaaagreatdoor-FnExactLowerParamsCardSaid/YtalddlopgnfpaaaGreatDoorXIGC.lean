/-
  Part of the proof of the claim.
-/
import Derived.Test.YtalddlopgnfpaaaGreatDoorXIGM
import Derived.Test.YtalddlopgnfpaaaGreatDoorXIHdA
import Derived.Test.YtalddlopgnfpaaaGreatDoorXIHdR
import Derived.Test.YtalddlopgnfpaaaGreatDoorXIHdU
import Derived.Test.YtalddlopgnfpaaaGreatDoorXIHdG
import Derived.Test.YtalddlopgnfpaaaGreatDoorXIHdP
import Derived.Test.YtalddlopgnfpaaaGreatDoorXIHd4
import Derived.Test.YtalddlopgnfpaaaGreatDoorXWor
import Derived.Test.YtalddlopgnfpaaaGreatDoorProg
set_option linter.unusedVariables false
set_option maxRecDepth 100000
open Go Go.Proofs
open Go.V
noncomputable section
def B9:Go.TypeId->Option U:=aE [(2,U.i64),(3,U.i64),(4,U.bool),(5,U.u8),(6,U.u8),(9,U.str),(10,U.str),(11,U.str),(12,U.u64),(21,U.i32),(22,U.ia),(24,U.dR),(25,U.tC),(26,U.qZ),(28,U.Type),(29,U.rf),(31,U.Value),(35,U.ia),(37,U.dR),(41,U.qZ),(43,U.Type),(45,U.rf),(47,U.Value),(56,U.lX),(82,U.rh),(122,U.Block),(124,U.Block),(128,U.tD),(131,U.store),(149,U.u64),(184,U.u64),(185,U.u32),(190,U.tG),(206,U.i64),(216,U.u64),(232,U.u8),(233,U.u8),(236,U.i32),(237,U.i32)]
def Oe:Go.TypeId->List (Option U):=aF [] [(22,[some U.Block]),(24,[none,some U.Block]),(25,[some U.str]),(26,[some U.Type]),(28,[none,none,some U.str,some U.Type]),(29,[some U.Value]),(31,[none,none,none,some U.Value]),(35,[some U.Block]),(37,[none,some U.Block]),(41,[some U.Type]),(43,[none,none,some U.str,some U.Type]),(45,[some U.Value]),(47,[none,none,none,some U.Value]),(56,[some U.i64]),(82,[none,some U.Block,none,none]),(128,[some U.u8]),(131,[some U.u8,some U.Block]),(190,[some U.ia])]
theorem ay:Tryz.prog.follows .mixedOrders=true:=by kernel_rfl
def aK:Cx K:={P:=Tryz.prog,D:=D,ty:=B9,lY:=Oe,mode:=aF .plain [],call:=callOf D [],loop:=aE []}
def mD(m:M.ae->M.ae->Option (Bool)):aC K:={f:=17,sh:=⟨[.el U.Value,.el U.Value],[]⟩,R:=Bool,run:=fun x=>m x.1.1 x.1.2.1,dflt:=default,out:=fun r=>(Sh.enc D (.bool) r,az.encs D [] ())}
def Of(y:(Bool)⊕(Unit)){R:Type}(k:Ex->List (AV K)->List (Ob K)->R):R:=match y with
 |.inl a0=>k Ex.ret (aw.aW D ⟨[.bool],[]⟩ ((a0,()),())) (aw.aX D ⟨[.bool],[]⟩ ((a0,()),()))
 |.inr (a1)=>k (Ex.exit 0) (aw.aW D ⟨[.any],[]⟩ (((),()),())) (aw.aX D ⟨[.any],[]⟩ (((),()),()))
def abS:List (bH K ((Bool)⊕(Unit))):=[⟨Ex.ret,⟨[.bool],[]⟩,fun x=>.inl x.1.1⟩,⟨(Ex.exit 0),⟨[.any],[]⟩,fun x=>.inr (())⟩]
def Og(db:M.ae->M.ae->Option (Bool)):bA K:=bJ D false 27 0 [0,1,5] [4] ⟨[.aj U.Value,.aj U.Value,.int .i64],[]⟩ (fun x=>M.py db x.1.1 x.1.2.1 ah x.1.2.2.1) Of
def GU(m:(List M.ae)->(List M.ae)->Option (Bool)):aC K:={f:=36,sh:=⟨[.aj U.Value,.aj U.Value],[]⟩,R:=Bool,run:=fun x=>m x.1.1 x.1.2.1,dflt:=default,out:=fun r=>(Sh.enc D (.bool) r,az.encs D [] ())}
def Cb(db:M.ae->M.ae->Option (Bool)):Cx K:={aK with mode:=aF .plain [(17,.plain)],call:=callOf D [mD db],loop:=aE [(4,Og db)]}
theorem Oh(db:M.ae->M.ae->Option (Bool))(nz:(mD db).Ok D Tryz.prog):aD (Cb db):=aL ak _ (ai nz (ax))
theorem abT(db:M.ae->M.ae->Option (Bool))(nz:(mD db).Ok D Tryz.prog):bC (Cb db) (bF (bI Tryz.f36) 0) (Og db):=
 bN (cx:=Cb db) (n:=27) (n0:=0) (ins:=[0,1,5]) (outs:=[4]) (sh:=⟨[.aj U.Value,.aj U.Value,.int .i64],[]⟩) (run:=fun n x=>M.py db x.1.1 x.1.2.1 n x.1.2.2.1) (bG:=abS) (out:=Of) ak (Oh db nz) ay (aG (by kernel_rfl)) (fun _=>rfl) (fun m x=>by kernel_rfl) (ai ⟨dj,fun _ _ _=>rfl⟩ (ai ⟨bP,fun _ _ _=>rfl⟩ (ax))) false ah
theorem abU(db:M.ae->M.ae->Option (Bool))(nz:(mD db).Ok D Tryz.prog):(GU (M.pz db)).Ok D Tryz.prog:=
 aI (cx:=Cb db) (c:=GU (M.pz db)) (fz:=true) (fn:=Tryz.f36) ak (Oh db nz) ay ⟨Tryz.func36,by kernel_rfl⟩ (aJ (bQ 1 (by kernel_rfl) (bR (.mk (by kernel_rfl) (abT db nz))))) ⟨⟨[.bool],[]⟩,fun x=>x.1.1⟩ (fun x=>rfl) (fun x=>by kernel_rfl)
def Oi(db:M.ae->M.ae->Option (Bool)):Cx K:={aK with mode:=aF .plain [(36,.plain)],call:=callOf D [GU (M.pz db)],loop:=aE []}
theorem abV(db:M.ae->M.ae->Option (Bool))(nz:(mD db).Ok D Tryz.prog):aD (Oi db):=aL ak _ (ai (abU db nz) (ax))
theorem abW(db:M.ae->M.ae->Option (Bool))(nz:(mD db).Ok D Tryz.prog):(mD (M.zy db)).Ok D Tryz.prog:=
 aI (cx:=Oi db) (c:=mD (M.zy db)) (fz:=true) (fn:=Tryz.f17) ak (abV db nz) ay ⟨Tryz.func17,by kernel_rfl⟩ (aJ (aG (by kernel_rfl))) ⟨⟨[.bool],[]⟩,fun x=>x.1.1⟩ (fun x=>rfl) (fun x=>by kernel_rfl)
theorem Oj:∀n,(mD (M.tH n)).Ok D Tryz.prog
 |0=>ez fun _=>rfl
 |n+1=>abW (M.tH n) (Oj n)
theorem abX:(mD (M.tI)).Ok D Tryz.prog:=Oj ah
def Ol(y:(Bool)⊕(Unit)){R:Type}(k:Ex->List (AV K)->List (Ob K)->R):R:=match y with
 |.inl a0=>k Ex.ret (aw.aW D ⟨[.bool],[]⟩ ((a0,()),())) (aw.aX D ⟨[.bool],[]⟩ ((a0,()),()))
 |.inr (a1)=>k (Ex.exit 0) (aw.aW D ⟨[.any],[]⟩ (((),()),())) (aw.aX D ⟨[.any],[]⟩ (((),()),()))
def abY:List (bH K ((Bool)⊕(Unit))):=[⟨Ex.ret,⟨[.bool],[]⟩,fun x=>.inl x.1.1⟩,⟨(Ex.exit 0),⟨[.any],[]⟩,fun x=>.inr (())⟩]
def Om:bA K:=bJ D false 26 0 [0,1,5] [4] ⟨[.aj U.i64,.aj U.i64,.int .i64],[]⟩ (fun x=>M.tJ x.1.1 x.1.2.1 ah x.1.2.2.1) Ol
def GV(m:(List Int)->(List Int)->Option (Bool)):aC K:={f:=24,sh:=⟨[.aj U.i64,.aj U.i64],[]⟩,R:=Bool,run:=fun x=>m x.1.1 x.1.2.1,dflt:=default,out:=fun r=>(Sh.enc D (.bool) r,az.encs D [] ())}
def Cc:Cx K:={aK with mode:=aF .plain [],call:=callOf D [],loop:=aE [(4,Om)]}
theorem On:aD (Cc):=aL ak _ (ax)
theorem abZ:bC (Cc) (bF (bI Tryz.f24) 0) (Om):=
 bN (cx:=Cc) (n:=26) (n0:=0) (ins:=[0,1,5]) (outs:=[4]) (sh:=⟨[.aj U.i64,.aj U.i64,.int .i64],[]⟩) (run:=fun n x=>M.tJ x.1.1 x.1.2.1 n x.1.2.2.1) (bG:=abY) (out:=Ol) ak (On) ay (aG (by kernel_rfl)) (fun _=>rfl) (fun m x=>by kernel_rfl) (ai ⟨dj,fun _ _ _=>rfl⟩ (ai ⟨bP,fun _ _ _=>rfl⟩ (ax))) false ah
theorem ab1:(GV (M.v8)).Ok D Tryz.prog:=
 aI (cx:=Cc) (c:=GV (M.v8)) (fz:=true) (fn:=Tryz.f24) ak (On) ay ⟨Tryz.func24,by kernel_rfl⟩ (aJ (bQ 1 (by kernel_rfl) (bR (.mk (by kernel_rfl) (abZ))))) ⟨⟨[.bool],[]⟩,fun x=>x.1.1⟩ (fun x=>rfl) (fun x=>by kernel_rfl)
def Oo(y:Int×(List Int)){R:Type}(k:Ex->List (AV K)->List (Ob K)->R):R:=match y with
 |a0=>k (Ex.exit 0) (aw.aW D ⟨[.int .i64],[.arr U.i64]⟩ ((a0.1,()),(a0.2,()))) (aw.aX D ⟨[.int .i64],[.arr U.i64]⟩ ((a0.1,()),(a0.2,())))
def ab2:List (bH K (Int×(List Int))):=[⟨(Ex.exit 0),⟨[.int .i64],[.arr U.i64]⟩,fun x=>(x.1.1,x.2.1)⟩]
def Oq:bA K:=bJ D true 19 1 [0,1,5] [1] ⟨[.own 0,.int .i64,.int .i64],[.arr U.i64]⟩ (fun x=>M.tK ah x.1.2.1 x.1.2.2.1 x.2.1) Oo
def GX(m:Int->(List Int)->Option (Int×(List Int))):aC K:={f:=25,sh:=⟨[.own 0,.int .i64],[.arr U.i64]⟩,R:=Int×(List Int),run:=fun x=>m x.1.2.1 x.2.1,dflt:=default,out:=fun r=>(Sh.enc D (.int .i64) r.1,az.encs D [.arr U.i64] (r.2,()))}
def Cd:Cx K:={aK with mode:=aF .plain [],deep:=fun c=>dy (D.cells c (K.zero c)),opn:=true,call:=callOf D [],loop:=aE [(2,Oq)]}
theorem Ot:aD (Cd):=aL ak _ (ax)
theorem ab3:bC (Cd) (bF (bI Tryz.f25) 0) (Oq):=
 bN (cx:=Cd) (n:=19) (n0:=1) (ins:=[0,1,5]) (outs:=[1]) (sh:=⟨[.own 0,.int .i64,.int .i64],[.arr U.i64]⟩) (run:=fun n x=>M.tK n x.1.2.1 x.1.2.2.1 x.2.1) (bG:=ab2) (out:=Oo) ak (Ot) ay (aG (by kernel_rfl)) (fun _=>rfl) (fun m x=>by kernel_rfl) (ai ⟨bP,fun _ _ _=>rfl⟩ (ax)) true ah
theorem ab4:(GX (M.tL)).Ok D Tryz.prog:=
 aI (cx:=Cd) (c:=GX (M.tL)) (fz:=true) (fn:=Tryz.f25) ak (Ot) ay ⟨Tryz.func25,by kernel_rfl⟩ (aJ (bQ 1 (by kernel_rfl) (bR (.mk (by kernel_rfl) (ab3))))) ⟨⟨[.int .i64],[.arr U.i64]⟩,fun x=>(x.1.1,x.2.1)⟩ (fun x=>rfl) (fun x=>by kernel_rfl)
def Ou(y:(Int)⊕(Int)){R:Type}(k:Ex->List (AV K)->List (Ob K)->R):R:=match y with
 |.inl a0=>k Ex.ret (aw.aW D ⟨[.any,.int .i64],[]⟩ (((),(a0,())),())) (aw.aX D ⟨[.any,.int .i64],[]⟩ (((),(a0,())),()))
 |.inr (a1)=>k (Ex.exit 0) (aw.aW D ⟨[.int .i64,.any],[]⟩ ((a1,((),())),())) (aw.aX D ⟨[.int .i64,.any],[]⟩ ((a1,((),())),()))
def ab5:List (bH K ((Int)⊕(Int))):=[⟨Ex.ret,⟨[.any,.int .i64],[]⟩,fun x=>.inl x.1.2.1⟩,⟨(Ex.exit 0),⟨[.int .i64,.any],[]⟩,fun x=>.inr (x.1.1)⟩]
def Ov:bA K:=bJ D false 21 0 [0,1,5] [1,4] ⟨[.aj U.i64,.int .i64,.int .i64],[]⟩ (fun x=>M.tM x.1.1 ah x.1.2.1 x.1.2.2.1) Ou
def GY(m:(List Int)->Int->Option (Int)):aC K:={f:=26,sh:=⟨[.aj U.i64,.int .i64],[]⟩,R:=Int,run:=fun x=>m x.1.1 x.1.2.1,dflt:=default,out:=fun r=>(Sh.enc D (.int .i64) r,az.encs D [] ())}
def Ce:Cx K:={aK with mode:=aF .plain [],call:=callOf D [],loop:=aE [(2,Ov)]}
theorem Ox:aD (Ce):=aL ak _ (ax)
theorem ab6:bC (Ce) (bF (bI Tryz.f26) 0) (Ov):=
 bN (cx:=Ce) (n:=21) (n0:=0) (ins:=[0,1,5]) (outs:=[1,4]) (sh:=⟨[.aj U.i64,.int .i64,.int .i64],[]⟩) (run:=fun n x=>M.tM x.1.1 n x.1.2.1 x.1.2.2.1) (bG:=ab5) (out:=Ou) ak (Ox) ay (aG (by kernel_rfl)) (fun _=>rfl) (fun m x=>by kernel_rfl) (ai ⟨dj,fun _ _ _=>rfl⟩ (ai ⟨bP,fun _ _ _=>rfl⟩ (ax))) false ah
theorem ab7:(GY (M.wa)).Ok D Tryz.prog:=
 aI (cx:=Ce) (c:=GY (M.wa)) (fz:=true) (fn:=Tryz.f26) ak (Ox) ay ⟨Tryz.func26,by kernel_rfl⟩ (aJ (bQ 1 (by kernel_rfl) (bR (.mk (by kernel_rfl) (ab6))))) ⟨⟨[.int .i64],[]⟩,fun x=>x.1.1⟩ (fun x=>rfl) (fun x=>by kernel_rfl)
def Oy(y:(Int)⊕(Int)){R:Type}(k:Ex->List (AV K)->List (Ob K)->R):R:=match y with
 |.inl a0=>k Ex.ret (aw.aW D ⟨[.any,.int .i64],[]⟩ (((),(a0,())),())) (aw.aX D ⟨[.any,.int .i64],[]⟩ (((),(a0,())),()))
 |.inr (a1)=>k (Ex.exit 0) (aw.aW D ⟨[.int .i64,.any],[]⟩ ((a1,((),())),())) (aw.aX D ⟨[.int .i64,.any],[]⟩ ((a1,((),())),()))
def ab8:List (bH K ((Int)⊕(Int))):=[⟨Ex.ret,⟨[.any,.int .i64],[]⟩,fun x=>.inl x.1.2.1⟩,⟨(Ex.exit 0),⟨[.int .i64,.any],[]⟩,fun x=>.inr (x.1.1)⟩]
def Oz:bA K:=bJ D false 28 0 [0,1,5] [1,4] ⟨[.aj U.str,.int .i64,.int .i64],[]⟩ (fun x=>M.tN x.1.1 ah x.1.2.1 x.1.2.2.1) Oy
def GZ(m:(List (List UInt8))->Int->Option (Int)):aC K:={f:=40,sh:=⟨[.aj U.str,.int .i64],[]⟩,R:=Int,run:=fun x=>m x.1.1 x.1.2.1,dflt:=default,out:=fun r=>(Sh.enc D (.int .i64) r,az.encs D [] ())}
def Cf:Cx K:={aK with mode:=aF .plain [],call:=callOf D [],loop:=aE [(5,Oz)]}
theorem OA:aD (Cf):=aL ak _ (ax)
theorem ab9:bC (Cf) (bF (bI Tryz.f40) 0) (Oz):=
 bN (cx:=Cf) (n:=28) (n0:=0) (ins:=[0,1,5]) (outs:=[1,4]) (sh:=⟨[.aj U.str,.int .i64,.int .i64],[]⟩) (run:=fun n x=>M.tN x.1.1 n x.1.2.1 x.1.2.2.1) (bG:=ab8) (out:=Oy) ak (OA) ay (aG (by kernel_rfl)) (fun _=>rfl) (fun m x=>by kernel_rfl) (ai ⟨dj,fun _ _ _=>rfl⟩ (ai ⟨bP,fun _ _ _=>rfl⟩ (ax))) false ah
theorem aca:(GZ (M.wb)).Ok D Tryz.prog:=
 aI (cx:=Cf) (c:=GZ (M.wb)) (fz:=true) (fn:=Tryz.f40) ak (OA) ay ⟨Tryz.func40,by kernel_rfl⟩ (aJ (bQ 1 (by kernel_rfl) (bR (.mk (by kernel_rfl) (ab9))))) ⟨⟨[.int .i64],[]⟩,fun x=>x.1.1⟩ (fun x=>rfl) (fun x=>by kernel_rfl)
def mE(m:M.aa->Int->Option (Int)):aC K:={f:=8,sh:=⟨[.el U.Type,.int .i64],[]⟩,R:=Int,run:=fun x=>m x.1.1 x.1.2.1,dflt:=default,out:=fun r=>(Sh.enc D (.int .i64) r,az.encs D [] ())}
def OB(y:(Int)⊕(Int)){R:Type}(k:Ex->List (AV K)->List (Ob K)->R):R:=match y with
 |.inl a0=>k Ex.ret (aw.aW D ⟨[.any,.int .i64],[]⟩ (((),(a0,())),())) (aw.aX D ⟨[.any,.int .i64],[]⟩ (((),(a0,())),()))
 |.inr (a1)=>k (Ex.exit 0) (aw.aW D ⟨[.int .i64,.any],[]⟩ ((a1,((),())),())) (aw.aX D ⟨[.int .i64,.any],[]⟩ ((a1,((),())),()))
def acb:List (bH K ((Int)⊕(Int))):=[⟨Ex.ret,⟨[.any,.int .i64],[]⟩,fun x=>.inl x.1.2.1⟩,⟨(Ex.exit 0),⟨[.int .i64,.any],[]⟩,fun x=>.inr (x.1.1)⟩]
def OC(dc:M.aa->Int->Option (Int)):bA K:=bJ D false 27 0 [0,1,5] [1,4] ⟨[.aj U.Type,.int .i64,.int .i64],[]⟩ (fun x=>M.pA dc x.1.1 ah x.1.2.1 x.1.2.2.1) OB
def G0(m:(List M.aa)->Int->Option (Int)):aC K:={f:=29,sh:=⟨[.aj U.Type,.int .i64],[]⟩,R:=Int,run:=fun x=>m x.1.1 x.1.2.1,dflt:=default,out:=fun r=>(Sh.enc D (.int .i64) r,az.encs D [] ())}
def Ci(dc:M.aa->Int->Option (Int)):Cx K:={aK with mode:=aF .plain [(8,.plain)],call:=callOf D [mE dc],loop:=aE [(5,OC dc)]}
theorem OD(dc:M.aa->Int->Option (Int))(nA:(mE dc).Ok D Tryz.prog):aD (Ci dc):=aL ak _ (ai nA (ax))
theorem acd(dc:M.aa->Int->Option (Int))(nA:(mE dc).Ok D Tryz.prog):bC (Ci dc) (bF (bI Tryz.f29) 0) (OC dc):=
 bN (cx:=Ci dc) (n:=27) (n0:=0) (ins:=[0,1,5]) (outs:=[1,4]) (sh:=⟨[.aj U.Type,.int .i64,.int .i64],[]⟩) (run:=fun n x=>M.pA dc x.1.1 n x.1.2.1 x.1.2.2.1) (bG:=acb) (out:=OB) ak (OD dc nA) ay (aG (by kernel_rfl)) (fun _=>rfl) (fun m x=>by kernel_rfl) (ai ⟨dj,fun _ _ _=>rfl⟩ (ai ⟨bP,fun _ _ _=>rfl⟩ (ax))) false ah
theorem ace(dc:M.aa->Int->Option (Int))(nA:(mE dc).Ok D Tryz.prog):(G0 (M.pB dc)).Ok D Tryz.prog:=
 aI (cx:=Ci dc) (c:=G0 (M.pB dc)) (fz:=true) (fn:=Tryz.f29) ak (OD dc nA) ay ⟨Tryz.func29,by kernel_rfl⟩ (aJ (bQ 1 (by kernel_rfl) (bR (.mk (by kernel_rfl) (acd dc nA))))) ⟨⟨[.int .i64],[]⟩,fun x=>x.1.1⟩ (fun x=>rfl) (fun x=>by kernel_rfl)
def OE(dc:M.aa->Int->Option (Int)):Cx K:={aK with mode:=aF .plain [(40,.plain),(29,.plain)],call:=callOf D [GZ M.wb,G0 (M.pB dc)],loop:=aE []}
theorem acf(dc:M.aa->Int->Option (Int))(nA:(mE dc).Ok D Tryz.prog):aD (OE dc):=aL ak _ (ai aca (ai (ace dc nA) (ax)))
theorem acg(dc:M.aa->Int->Option (Int))(nA:(mE dc).Ok D Tryz.prog):(mE (M.zz dc)).Ok D Tryz.prog:=
 aI (cx:=OE dc) (c:=mE (M.zz dc)) (fz:=true) (fn:=Tryz.f8) ak (acf dc nA) ay ⟨Tryz.func8,by kernel_rfl⟩ (aJ (aG (by kernel_rfl))) ⟨⟨[.int .i64],[]⟩,fun x=>x.1.1⟩ (fun x=>rfl) (fun x=>by kernel_rfl)
theorem OF:∀n,(mE (M.tO n)).Ok D Tryz.prog
 |0=>ez fun _=>rfl
 |n+1=>acg (M.tO n) (OF n)
theorem ach:(mE (M.tP)).Ok D Tryz.prog:=OF ah
def OG(y:(List (List UInt8))){R:Type}(k:Ex->List (AV K)->List (Ob K)->R):R:=match y with
 |a0=>k (Ex.exit 0) (aw.aW D ⟨[.own 1],[.dead,.arr U.str]⟩ (((),()),((),(a0,())))) (aw.aX D ⟨[.own 1],[.dead,.arr U.str]⟩ (((),()),((),(a0,()))))
def aci:List (bH K ((List (List UInt8)))):=[⟨(Ex.exit 0),⟨[.own 1],[.dead,.arr U.str]⟩,fun x=>x.2.2.1⟩]
def OH:bA K:=bJ D false 22 1 [0,3,4] [3] ⟨[.aj U.str,.own 1,.int .i64],[.dead,.arr U.str]⟩ (fun x=>M.ri x.1.1 ah x.1.2.2.1 x.2.2.1) OG
def G1(m:(List (List UInt8))->Option ((List (List UInt8)))):aC K:={f:=48,sh:=⟨[.aj U.str],[]⟩,R:=(List (List UInt8)),run:=fun x=>m x.1.1,dflt:=default,out:=fun r=>(Sh.enc D (.own 0) (),az.encs D [.arr U.str] (r,()))}
def Cj:Cx K:={aK with mode:=aF .plain [],fq:=[[some U.str]],deep:=fun c=>dy (D.cells c (K.zero c)),call:=callOf D [],loop:=aE [(3,OH)]}
theorem OI:aD (Cj):=aL ak _ (ax)
theorem acj:bC (Cj) (bF (bI Tryz.f48) 0) (OH):=
 bN (cx:=Cj) (n:=22) (n0:=1) (ins:=[0,3,4]) (outs:=[3]) (sh:=⟨[.aj U.str,.own 1,.int .i64],[.dead,.arr U.str]⟩) (run:=fun n x=>M.ri x.1.1 n x.1.2.2.1 x.2.2.1) (bG:=aci) (out:=OG) ak (OI) ay (aG (by kernel_rfl)) (fun _=>rfl) (fun m x=>by kernel_rfl) (ai ⟨bP,fun _ _ _=>rfl⟩ (ax)) false ah
theorem ack:(G1 (M.wc)).Ok D Tryz.prog:=
 aI (cx:=Cj) (c:=G1 (M.wc)) (fz:=false) (fn:=Tryz.f48) ak (OI) ay ⟨Tryz.func48,by kernel_rfl⟩ (aJ (bQ 1 (by kernel_rfl) (bR (.mk (by kernel_rfl) (acj))))) ⟨⟨[.own 0],[.arr U.str]⟩,fun x=>x.2.1⟩ (fun x=>rfl) (fun x=>by kernel_rfl)
def mF(m:M.aa->Option (Int×(List UInt8)×(List (List UInt8))×(List M.aa))):aC K:={f:=12,sh:=⟨[.el U.Type],[]⟩,R:=Int×(List UInt8)×(List (List UInt8))×(List M.aa),run:=fun x=>m x.1.1,dflt:=default,out:=fun r=>(Sh.enc D (.agg [.int .i64,.str,.own 0,.own 1]) (r.1,(r.2.1,((),((),())))),az.encs D [.arr U.str,.tree U.Type] (r.2.2.1,(r.2.2.2,())))}
def OJ(y:(List M.aa)){R:Type}(k:Ex->List (AV K)->List (Ob K)->R):R:=match y with
 |a0=>k (Ex.exit 0) (aw.aW D ⟨[.own 1],[.dead,.tree U.Type]⟩ (((),()),((),(a0,())))) (aw.aX D ⟨[.own 1],[.dead,.tree U.Type]⟩ (((),()),((),(a0,()))))
def acm:List (bH K ((List M.aa))):=[⟨(Ex.exit 0),⟨[.own 1],[.dead,.tree U.Type]⟩,fun x=>x.2.2.1⟩]
def OK(dk:M.aa->Option (Int×(List UInt8)×(List (List UInt8))×(List M.aa))):bA K:=bJ D false 23 1 [0,3,4] [3] ⟨[.aj U.Type,.own 1,.int .i64],[.dead,.tree U.Type]⟩ (fun x=>M.nB dk x.1.1 ah x.1.2.2.1 x.2.2.1) OJ
def G2(m:(List M.aa)->Option ((List M.aa))):aC K:={f:=32,sh:=⟨[.aj U.Type],[]⟩,R:=(List M.aa),run:=fun x=>m x.1.1,dflt:=default,out:=fun r=>(Sh.enc D (.own 0) (),az.encs D [.tree U.Type] (r,()))}
def Cm(dk:M.aa->Option (Int×(List UInt8)×(List (List UInt8))×(List M.aa))):Cx K:={aK with mode:=aF .plain [(12,.fresh)],fq:=[[some U.Type]],deep:=fun c=>dy (D.cells c (K.zero c)),call:=callOf D [mF dk],loop:=aE [(3,OK dk)]}
theorem OL(dk:M.aa->Option (Int×(List UInt8)×(List (List UInt8))×(List M.aa)))(nC:(mF dk).Ok D Tryz.prog):aD (Cm dk):=aL ak _ (ai nC (ax))
theorem acn(dk:M.aa->Option (Int×(List UInt8)×(List (List UInt8))×(List M.aa)))(nC:(mF dk).Ok D Tryz.prog):bC (Cm dk) (bF (bI Tryz.f32) 0) (OK dk):=
 bN (cx:=Cm dk) (n:=23) (n0:=1) (ins:=[0,3,4]) (outs:=[3]) (sh:=⟨[.aj U.Type,.own 1,.int .i64],[.dead,.tree U.Type]⟩) (run:=fun n x=>M.nB dk x.1.1 n x.1.2.2.1 x.2.2.1) (bG:=acm) (out:=OJ) ak (OL dk nC) ay (aG (by kernel_rfl)) (fun _=>rfl) (fun m x=>by kernel_rfl) (ai ⟨bP,fun _ _ _=>rfl⟩ (ax)) false ah
theorem aco(dk:M.aa->Option (Int×(List UInt8)×(List (List UInt8))×(List M.aa)))(nC:(mF dk).Ok D Tryz.prog):(G2 (M.pC dk)).Ok D Tryz.prog:=
 aI (cx:=Cm dk) (c:=G2 (M.pC dk)) (fz:=false) (fn:=Tryz.f32) ak (OL dk nC) ay ⟨Tryz.func32,by kernel_rfl⟩ (aJ (bQ 1 (by kernel_rfl) (bR (.mk (by kernel_rfl) (acn dk nC))))) ⟨⟨[.own 0],[.tree U.Type]⟩,fun x=>x.2.1⟩ (fun x=>rfl) (fun x=>by kernel_rfl)
def OM(dk:M.aa->Option (Int×(List UInt8)×(List (List UInt8))×(List M.aa))):Cx K:={aK with mode:=aF .plain [(48,.fresh),(32,.fresh)],fq:=[[none,none,some U.str,some U.Type]],deep:=fun c=>dy (D.cells c (K.zero c)),call:=callOf D [G1 M.wc,G2 (M.pC dk)],loop:=aE []}
theorem acp(dk:M.aa->Option (Int×(List UInt8)×(List (List UInt8))×(List M.aa)))(nC:(mF dk).Ok D Tryz.prog):aD (OM dk):=aL ak _ (ai ack (ai (aco dk nC) (ax)))
theorem acr(dk:M.aa->Option (Int×(List UInt8)×(List (List UInt8))×(List M.aa)))(nC:(mF dk).Ok D Tryz.prog):(mF (M.zA dk)).Ok D Tryz.prog:=
 aI (cx:=OM dk) (c:=mF (M.zA dk)) (fz:=false) (fn:=Tryz.f12) ak (acp dk nC) ay ⟨Tryz.func12,by kernel_rfl⟩ (aJ (aG (by kernel_rfl))) ⟨⟨[.agg [.int .i64,.str,.own 0,.own 1]],[.arr U.str,.tree U.Type]⟩,fun x=>(x.1.1.1,x.1.1.2.1,x.2.1,x.2.2.1)⟩ (fun x=>rfl) (fun x=>by kernel_rfl)
theorem ON:∀n,(mF (M.tQ n)).Ok D Tryz.prog
 |0=>ez fun _=>rfl
 |n+1=>acr (M.tQ n) (ON n)
theorem acs:(mF (M.tR)).Ok D Tryz.prog:=ON ah
def OO(y:(Bool)⊕(Unit)){R:Type}(k:Ex->List (AV K)->List (Ob K)->R):R:=match y with
 |.inl a0=>k Ex.ret (aw.aW D ⟨[.bool],[]⟩ ((a0,()),())) (aw.aX D ⟨[.bool],[]⟩ ((a0,()),()))
 |.inr (a1)=>k (Ex.exit 0) (aw.aW D ⟨[.any],[]⟩ (((),()),())) (aw.aX D ⟨[.any],[]⟩ (((),()),()))
def acu:List (bH K ((Bool)⊕(Unit))):=[⟨Ex.ret,⟨[.bool],[]⟩,fun x=>.inl x.1.1⟩,⟨(Ex.exit 0),⟨[.any],[]⟩,fun x=>.inr (())⟩]
def OP:bA K:=bJ D false 26 0 [0,1,5] [4] ⟨[.aj U.str,.aj U.str,.int .i64],[]⟩ (fun x=>M.tU x.1.1 x.1.2.1 ah x.1.2.2.1) OO
def G3(m:(List (List UInt8))->(List (List UInt8))->Option (Bool)):aC K:={f:=56,sh:=⟨[.aj U.str,.aj U.str],[]⟩,R:=Bool,run:=fun x=>m x.1.1 x.1.2.1,dflt:=default,out:=fun r=>(Sh.enc D (.bool) r,az.encs D [] ())}
def CB:Cx K:={aK with mode:=aF .plain [],call:=callOf D [],loop:=aE [(4,OP)]}
theorem OQ:aD (CB):=aL ak _ (ax)
theorem acv:bC (CB) (bF (bI Tryz.f56) 0) (OP):=
 bN (cx:=CB) (n:=26) (n0:=0) (ins:=[0,1,5]) (outs:=[4]) (sh:=⟨[.aj U.str,.aj U.str,.int .i64],[]⟩) (run:=fun n x=>M.tU x.1.1 x.1.2.1 n x.1.2.2.1) (bG:=acu) (out:=OO) ak (OQ) ay (aG (by kernel_rfl)) (fun _=>rfl) (fun m x=>by kernel_rfl) (ai ⟨dj,fun _ _ _=>rfl⟩ (ai ⟨bP,fun _ _ _=>rfl⟩ (ax))) false ah
theorem acw:(G3 (M.we)).Ok D Tryz.prog:=
 aI (cx:=CB) (c:=G3 (M.we)) (fz:=true) (fn:=Tryz.f56) ak (OQ) ay ⟨Tryz.func56,by kernel_rfl⟩ (aJ (bQ 1 (by kernel_rfl) (bR (.mk (by kernel_rfl) (acv))))) ⟨⟨[.bool],[]⟩,fun x=>x.1.1⟩ (fun x=>rfl) (fun x=>by kernel_rfl)
def mG(m:M.aa->M.aa->Option (Bool)):aC K:={f:=16,sh:=⟨[.el U.Type,.el U.Type],[]⟩,R:=Bool,run:=fun x=>m x.1.1 x.1.2.1,dflt:=default,out:=fun r=>(Sh.enc D (.bool) r,az.encs D [] ())}
def OR(y:(Bool)⊕(Unit)){R:Type}(k:Ex->List (AV K)->List (Ob K)->R):R:=match y with
 |.inl a0=>k Ex.ret (aw.aW D ⟨[.bool],[]⟩ ((a0,()),())) (aw.aX D ⟨[.bool],[]⟩ ((a0,()),()))
 |.inr (a1)=>k (Ex.exit 0) (aw.aW D ⟨[.any],[]⟩ (((),()),())) (aw.aX D ⟨[.any],[]⟩ (((),()),()))
def acx:List (bH K ((Bool)⊕(Unit))):=[⟨Ex.ret,⟨[.bool],[]⟩,fun x=>.inl x.1.1⟩,⟨(Ex.exit 0),⟨[.any],[]⟩,fun x=>.inr (())⟩]
def OS(de:M.aa->M.aa->Option (Bool)):bA K:=bJ D false 27 0 [0,1,5] [4] ⟨[.aj U.Type,.aj U.Type,.int .i64],[]⟩ (fun x=>M.pD de x.1.1 x.1.2.1 ah x.1.2.2.1) OR
def G4(m:(List M.aa)->(List M.aa)->Option (Bool)):aC K:={f:=35,sh:=⟨[.aj U.Type,.aj U.Type],[]⟩,R:=Bool,run:=fun x=>m x.1.1 x.1.2.1,dflt:=default,out:=fun r=>(Sh.enc D (.bool) r,az.encs D [] ())}
def CC(de:M.aa->M.aa->Option (Bool)):Cx K:={aK with mode:=aF .plain [(16,.plain)],call:=callOf D [mG de],loop:=aE [(4,OS de)]}
theorem OT(de:M.aa->M.aa->Option (Bool))(nD:(mG de).Ok D Tryz.prog):aD (CC de):=aL ak _ (ai nD (ax))
theorem acy(de:M.aa->M.aa->Option (Bool))(nD:(mG de).Ok D Tryz.prog):bC (CC de) (bF (bI Tryz.f35) 0) (OS de):=
 bN (cx:=CC de) (n:=27) (n0:=0) (ins:=[0,1,5]) (outs:=[4]) (sh:=⟨[.aj U.Type,.aj U.Type,.int .i64],[]⟩) (run:=fun n x=>M.pD de x.1.1 x.1.2.1 n x.1.2.2.1) (bG:=acx) (out:=OR) ak (OT de nD) ay (aG (by kernel_rfl)) (fun _=>rfl) (fun m x=>by kernel_rfl) (ai ⟨dj,fun _ _ _=>rfl⟩ (ai ⟨bP,fun _ _ _=>rfl⟩ (ax))) false ah
theorem acz(de:M.aa->M.aa->Option (Bool))(nD:(mG de).Ok D Tryz.prog):(G4 (M.pE de)).Ok D Tryz.prog:=
 aI (cx:=CC de) (c:=G4 (M.pE de)) (fz:=true) (fn:=Tryz.f35) ak (OT de nD) ay ⟨Tryz.func35,by kernel_rfl⟩ (aJ (bQ 1 (by kernel_rfl) (bR (.mk (by kernel_rfl) (acy de nD))))) ⟨⟨[.bool],[]⟩,fun x=>x.1.1⟩ (fun x=>rfl) (fun x=>by kernel_rfl)
def OU(de:M.aa->M.aa->Option (Bool)):Cx K:={aK with mode:=aF .plain [(56,.plain),(35,.plain)],call:=callOf D [G3 M.we,G4 (M.pE de)],loop:=aE []}
theorem acA(de:M.aa->M.aa->Option (Bool))(nD:(mG de).Ok D Tryz.prog):aD (OU de):=aL ak _ (ai acw (ai (acz de nD) (ax)))
theorem acB(de:M.aa->M.aa->Option (Bool))(nD:(mG de).Ok D Tryz.prog):(mG (M.zB de)).Ok D Tryz.prog:=
 aI (cx:=OU de) (c:=mG (M.zB de)) (fz:=true) (fn:=Tryz.f16) ak (acA de nD) ay ⟨Tryz.func16,by kernel_rfl⟩ (aJ (aG (by kernel_rfl))) ⟨⟨[.bool],[]⟩,fun x=>x.1.1⟩ (fun x=>rfl) (fun x=>by kernel_rfl)
theorem OV:∀n,(mG (M.tV n)).Ok D Tryz.prog
 |0=>ez fun _=>rfl
 |n+1=>acB (M.tV n) (OV n)
theorem acC:(mG (M.tW)).Ok D Tryz.prog:=OV ah
def pF(m:M.aa->Int->Option (Int×Int)):aC K:={f:=156,sh:=⟨[.el U.Type,.int .i64],[]⟩,R:=Int×Int,run:=fun x=>m x.1.1 x.1.2.1,dflt:=default,out:=fun r=>(Sh.enc D (.aV [.int .i64,.int .i64]) (r.1,(r.2,())),az.encs D [] ())}
def tX(m:Int->Int->Option (Int)):aC K:={f:=115,sh:=⟨[.int .i64,.int .i64],[]⟩,R:=Int,run:=fun x=>m x.1.1 x.1.2.1,dflt:=default,out:=fun r=>(Sh.enc D (.int .i64) r,az.encs D [] ())}
def OW:Cx K:={aK with mode:=aF .plain [],call:=callOf D [],loop:=aE []}
theorem acD:aD (OW):=aL ak _ (ax)
theorem zC:(tX (M.gQ)).Ok D Tryz.prog:=
 aI (cx:=OW) (c:=tX (M.gQ)) (fz:=true) (fn:=Tryz.f115) ak (acD) ay ⟨Tryz.func115,by kernel_rfl⟩ (aJ (aG (by kernel_rfl))) ⟨⟨[.int .i64],[]⟩,fun x=>x.1.1⟩ (fun x=>rfl) (fun x=>by kernel_rfl)
def OX(y:(Int×Int)⊕(Int×Int)){R:Type}(k:Ex->List (AV K)->List (Ob K)->R):R:=match y with
 |.inl a0=>k Ex.ret (aw.aW D ⟨[.any,.any,.int .i64,.int .i64],[.dead]⟩ (((),((),(a0.1,(a0.2,())))),((),()))) (aw.aX D ⟨[.any,.any,.int .i64,.int .i64],[.dead]⟩ (((),((),(a0.1,(a0.2,())))),((),())))
 |.inr (a1)=>k (Ex.exit 0) (aw.aW D ⟨[.int .i64,.int .i64,.any,.any],[.dead]⟩ ((a1.1,(a1.2,((),((),())))),((),()))) (aw.aX D ⟨[.int .i64,.int .i64,.any,.any],[.dead]⟩ ((a1.1,(a1.2,((),((),())))),((),())))
def acE:List (bH K ((Int×Int)⊕(Int×Int))):=[⟨Ex.ret,⟨[.any,.any,.int .i64,.int .i64],[.dead]⟩,fun x=>.inl (x.1.2.2.1,x.1.2.2.2.1)⟩,⟨(Ex.exit 0),⟨[.int .i64,.int .i64,.any,.any],[.dead]⟩,fun x=>.inr ((x.1.1,x.1.2.1))⟩]
def OY(eL:M.aa->Int->Option (Int×Int)):bA K:=bJ D false 48 1 [1,2,6,7,8] [6,7,4,5] ⟨[.int .i64,.ptr 0 0,.int .i64,.int .i64,.int .i64],[.el U.Type]⟩ (fun x=>M.rj eL x.1.1 ah x.1.2.2.1 x.1.2.2.2.1 x.1.2.2.2.2.1 x.2.1) OX
def CE(eL:M.aa->Int->Option (Int×Int)):Cx K:={aK with mode:=aF .plain [(156,.plain),(115,.plain)],call:=callOf D [pF eL,tX M.gQ],loop:=aE [(6,OY eL)]}
theorem OZ(eL:M.aa->Int->Option (Int×Int))(wh:(pF eL).Ok D Tryz.prog):aD (CE eL):=aL ak _ (ai wh (ai zC (ax)))
theorem acF(eL:M.aa->Int->Option (Int×Int))(wh:(pF eL).Ok D Tryz.prog):bC (CE eL) (bF (bI Tryz.f156) 0) (OY eL):=
 bN (cx:=CE eL) (n:=48) (n0:=1) (ins:=[1,2,6,7,8]) (outs:=[6,7,4,5]) (sh:=⟨[.int .i64,.ptr 0 0,.int .i64,.int .i64,.int .i64],[.el U.Type]⟩) (run:=fun n x=>M.rj eL x.1.1 n x.1.2.2.1 x.1.2.2.2.1 x.1.2.2.2.2.1 x.2.1) (bG:=acE) (out:=OX) ak (OZ eL wh) ay (aG (by kernel_rfl)) (fun _=>rfl) (fun m x=>by kernel_rfl) (ai ⟨dj,fun _ _ _=>rfl⟩ (ai ⟨bP,fun _ _ _=>rfl⟩ (ax))) false ah
theorem acG(eL:M.aa->Int->Option (Int×Int))(wh:(pF eL).Ok D Tryz.prog):(pF (M.zD eL)).Ok D Tryz.prog:=
 aI (cx:=CE eL) (c:=pF (M.zD eL)) (fz:=true) (fn:=Tryz.f156) ak (OZ eL wh) ay ⟨Tryz.func156,by kernel_rfl⟩ (aJ (bQ 1 (by kernel_rfl) (bR (.mk (by kernel_rfl) (acF eL wh))))) ⟨⟨[.aV [.int .i64,.int .i64]],[]⟩,fun x=>(x.1.1.1,x.1.1.2.1)⟩ (fun x=>rfl) (fun x=>by kernel_rfl)
theorem O0:∀n,(pF (M.rk n)).Ok D Tryz.prog
 |0=>ez fun _=>rfl
 |n+1=>acG (M.rk n) (O0 n)
theorem acH:(pF (M.CG)).Ok D Tryz.prog:=O0 ah
def rl(m:Int->Int->Int->Option (Bool)):aC K:={f:=120,sh:=⟨[.int .i64,.int .i64,.int .i64],[]⟩,R:=Bool,run:=fun x=>m x.1.1 x.1.2.1 x.1.2.2.1,dflt:=default,out:=fun r=>(Sh.enc D (.bool) r,az.encs D [] ())}
def O1:Cx K:={aK with mode:=aF .plain [],call:=callOf D [],loop:=aE []}
theorem acI:aD (O1):=aL ak _ (ax)
theorem wi:(rl (M.rm)).Ok D Tryz.prog:=
 aI (cx:=O1) (c:=rl (M.rm)) (fz:=true) (fn:=Tryz.f120) ak (acI) ay ⟨Tryz.func120,by kernel_rfl⟩ (aJ (aG (by kernel_rfl))) ⟨⟨[.bool],[]⟩,fun x=>x.1.1⟩ (fun x=>rfl) (fun x=>by kernel_rfl)
def O2(y:(Bool)⊕(Unit)){R:Type}(k:Ex->List (AV K)->List (Ob K)->R):R:=match y with
 |.inl a0=>k Ex.ret (aw.aW D ⟨[.bool],[]⟩ ((a0,()),())) (aw.aX D ⟨[.bool],[]⟩ ((a0,()),()))
 |.inr (a1)=>k (Ex.exit 0) (aw.aW D ⟨[.any],[]⟩ (((),()),())) (aw.aX D ⟨[.any],[]⟩ (((),()),()))
def acJ:List (bH K ((Bool)⊕(Unit))):=[⟨Ex.ret,⟨[.bool],[]⟩,fun x=>.inl x.1.1⟩,⟨(Ex.exit 0),⟨[.any],[]⟩,fun x=>.inr (())⟩]
def O3:bA K:=bJ D false 69 0 [0,3] [2] ⟨[.str,.int .i64],[]⟩ (fun x=>M.tY x.1.1 ah x.1.2.1) O2
def CH(m:(List UInt8)->Option (Bool)):aC K:={f:=181,sh:=⟨[.str],[]⟩,R:=Bool,run:=fun x=>m x.1.1,dflt:=default,out:=fun r=>(Sh.enc D (.bool) r,az.encs D [] ())}
def CJ:Cx K:={aK with mode:=aF .plain [],call:=callOf D [],loop:=aE [(4,O3)]}
theorem O4:aD (CJ):=aL ak _ (ax)
theorem acK:bC (CJ) (bF (bI Tryz.f181) 0) (O3):=
 bN (cx:=CJ) (n:=69) (n0:=0) (ins:=[0,3]) (outs:=[2]) (sh:=⟨[.str,.int .i64],[]⟩) (run:=fun n x=>M.tY x.1.1 n x.1.2.1) (bG:=acJ) (out:=O2) ak (O4) ay (aG (by kernel_rfl)) (fun _=>rfl) (fun m x=>by kernel_rfl) (ai ⟨dj,fun _ _ _=>rfl⟩ (ai ⟨bP,fun _ _ _=>rfl⟩ (ax))) false ah
theorem O5:(CH (M.rn)).Ok D Tryz.prog:=
 aI (cx:=CJ) (c:=CH (M.rn)) (fz:=true) (fn:=Tryz.f181) ak (O4) ay ⟨Tryz.func181,by kernel_rfl⟩ (aJ (bQ 1 (by kernel_rfl) (bR (.mk (by kernel_rfl) (acK))))) ⟨⟨[.bool],[]⟩,fun x=>x.1.1⟩ (fun x=>rfl) (fun x=>by kernel_rfl)
def O6(y:(Bool)⊕((List (List UInt8))×Int)){R:Type}(k:Ex->List (AV K)->List (Ob K)->R):R:=match y with
 |.inl a0=>k Ex.ret (aw.aW D ⟨[.any,.any,.bool],[]⟩ (((),((),(a0,()))),())) (aw.aX D ⟨[.any,.any,.bool],[]⟩ (((),((),(a0,()))),()))
 |.inr (a1)=>k (Ex.exit 2) (aw.aW D ⟨[.aj U.str,.int .i64,.any],[]⟩ ((a1.1,(a1.2,((),()))),())) (aw.aX D ⟨[.aj U.str,.int .i64,.any],[]⟩ ((a1.1,(a1.2,((),()))),()))
def acL:List (bH K ((Bool)⊕((List (List UInt8))×Int))):=[⟨Ex.ret,⟨[.any,.any,.bool],[]⟩,fun x=>.inl x.1.2.2.1⟩,⟨(Ex.exit 2),⟨[.aj U.str,.int .i64,.any],[]⟩,fun x=>.inr ((x.1.1,x.1.2.1))⟩]
def O7:bA K:=bJ D false 39 0 [0,3,4] [0,3,2] ⟨[.aj U.str,.int .i64,.int .i64],[]⟩ (fun x=>M.rq x.1.1 x.1.2.1 ah x.1.2.2.1) O6
def O8(y:(Bool)⊕(Unit)){R:Type}(k:Ex->List (AV K)->List (Ob K)->R):R:=match y with
 |.inl a0=>k Ex.ret (aw.aW D ⟨[.bool],[]⟩ ((a0,()),())) (aw.aX D ⟨[.bool],[]⟩ ((a0,()),()))
 |.inr (a1)=>k (Ex.exit 0) (aw.aW D ⟨[.any],[]⟩ (((),()),())) (aw.aX D ⟨[.any],[]⟩ (((),()),()))
def acM:List (bH K ((Bool)⊕(Unit))):=[⟨Ex.ret,⟨[.bool],[]⟩,fun x=>.inl x.1.1⟩,⟨(Ex.exit 0),⟨[.any],[]⟩,fun x=>.inr (())⟩]
def O9:bA K:=bJ D false 39 0 [0,3] [2] ⟨[.aj U.str,.int .i64],[]⟩ (fun x=>M.pG ah x.1.1 x.1.2.1) O8
def G5(m:(List (List UInt8))->Option (Bool)):aC K:={f:=182,sh:=⟨[.aj U.str],[]⟩,R:=Bool,run:=fun x=>m x.1.1,dflt:=default,out:=fun r=>(Sh.enc D (.bool) r,az.encs D [] ())}
def wj:Cx K:={aK with mode:=aF .plain [(181,.plain)],call:=callOf D [CH M.rn],loop:=aE [(9,O7),(4,O9)]}
theorem G6:aD (wj):=aL ak _ (ai O5 (ax))
theorem acN:bC (wj) (bF (bF (bI Tryz.f182) 0) 0) (O7):=
 bN (cx:=wj) (n:=39) (n0:=0) (ins:=[0,3,4]) (outs:=[0,3,2]) (sh:=⟨[.aj U.str,.int .i64,.int .i64],[]⟩) (run:=fun n x=>M.rq x.1.1 x.1.2.1 n x.1.2.2.1) (bG:=acL) (out:=O6) ak (G6) ay (aG (by kernel_rfl)) (fun _=>rfl) (fun m x=>by kernel_rfl) (ai ⟨dj,fun _ _ _=>rfl⟩ (ai ⟨bP,fun _ _ _=>rfl⟩ (ax))) false ah
theorem acO:bC (wj) (bF (bI Tryz.f182) 0) (O9):=
 bN (cx:=wj) (n:=39) (n0:=0) (ins:=[0,3]) (outs:=[2]) (sh:=⟨[.aj U.str,.int .i64],[]⟩) (run:=fun n x=>M.pG n x.1.1 x.1.2.1) (bG:=acM) (out:=O8) ak (G6) ay (bQ 1 (by kernel_rfl) (bR (.mk (by kernel_rfl) (acN)))) (fun _=>rfl) (fun m x=>by kernel_rfl) (ai ⟨dj,fun _ _ _=>rfl⟩ (ai ⟨bP,fun _ _ _=>rfl⟩ (ax))) false ah
theorem acP:(G5 (M.wk)).Ok D Tryz.prog:=
 aI (cx:=wj) (c:=G5 (M.wk)) (fz:=true) (fn:=Tryz.f182) ak (G6) ay ⟨Tryz.func182,by kernel_rfl⟩ (aJ (bQ 1 (by kernel_rfl) (bR (.mk (by kernel_rfl) (acO))))) ⟨⟨[.bool],[]⟩,fun x=>x.1.1⟩ (fun x=>rfl) (fun x=>by kernel_rfl)
def Pe(y:(Bool)⊕(Unit)){R:Type}(k:Ex->List (AV K)->List (Ob K)->R):R:=match y with
 |.inl a0=>k Ex.ret (aw.aW D ⟨[.bool],[.dead]⟩ ((a0,()),((),()))) (aw.aX D ⟨[.bool],[.dead]⟩ ((a0,()),((),())))
 |.inr (a1)=>k (Ex.exit 0) (aw.aW D ⟨[.any],[.dead]⟩ (((),()),((),()))) (aw.aX D ⟨[.any],[.dead]⟩ (((),()),((),())))
def acQ:List (bH K ((Bool)⊕(Unit))):=[⟨Ex.ret,⟨[.bool],[.dead]⟩,fun x=>.inl x.1.1⟩,⟨(Ex.exit 0),⟨[.any],[.dead]⟩,fun x=>.inr (())⟩]
def Pg:bA K:=bJ D false 18 1 [1,3] [2] ⟨[.ptr 0 0,.int .i64],[.el U.Type]⟩ (fun x=>M.nE ah x.1.2.1 x.2.1) Pe
def G7(m:M.aa->Option (Bool)):aC K:={f:=183,sh:=⟨[.el U.Type],[]⟩,R:=Bool,run:=fun x=>m x.1.1,dflt:=default,out:=fun r=>(Sh.enc D (.bool) r,az.encs D [] ())}
def CL:Cx K:={aK with mode:=aF .plain [],call:=callOf D [],loop:=aE [(2,Pg)]}
theorem Ph:aD (CL):=aL ak _ (ax)
theorem acR:bC (CL) (bF (bI Tryz.f183) 0) (Pg):=
 bN (cx:=CL) (n:=18) (n0:=1) (ins:=[1,3]) (outs:=[2]) (sh:=⟨[.ptr 0 0,.int .i64],[.el U.Type]⟩) (run:=fun n x=>M.nE n x.1.2.1 x.2.1) (bG:=acQ) (out:=Pe) ak (Ph) ay (aG (by kernel_rfl)) (fun _=>rfl) (fun m x=>by kernel_rfl) (ai ⟨dj,fun _ _ _=>rfl⟩ (ai ⟨bP,fun _ _ _=>rfl⟩ (ax))) false ah
theorem acS:(G7 (M.ru)).Ok D Tryz.prog:=
 aI (cx:=CL) (c:=G7 (M.ru)) (fz:=true) (fn:=Tryz.f183) ak (Ph) ay ⟨Tryz.func183,by kernel_rfl⟩ (aJ (bQ 1 (by kernel_rfl) (bR (.mk (by kernel_rfl) (acR))))) ⟨⟨[.bool],[]⟩,fun x=>x.1.1⟩ (fun x=>rfl) (fun x=>by kernel_rfl)
def pH(m:M.aa->Int->Int->Option (Bool)):aC K:={f:=184,sh:=⟨[.el U.Type,.int .i64,.int .i64],[]⟩,R:=Bool,run:=fun x=>m x.1.1 x.1.2.1 x.1.2.2.1,dflt:=default,out:=fun r=>(Sh.enc D (.bool) r,az.encs D [] ())}
def Pj(y:(Bool)⊕(Unit)){R:Type}(k:Ex->List (AV K)->List (Ob K)->R):R:=match y with
 |.inl a0=>k Ex.ret (aw.aW D ⟨[.bool],[.dead]⟩ ((a0,()),((),()))) (aw.aX D ⟨[.bool],[.dead]⟩ ((a0,()),((),())))
 |.inr (a1)=>k (Ex.exit 0) (aw.aW D ⟨[.any],[.dead]⟩ (((),()),((),()))) (aw.aX D ⟨[.any],[.dead]⟩ (((),()),((),())))
def acT:List (bH K ((Bool)⊕(Unit))):=[⟨Ex.ret,⟨[.bool],[.dead]⟩,fun x=>.inl x.1.1⟩,⟨(Ex.exit 0),⟨[.any],[.dead]⟩,fun x=>.inr (())⟩]
def Pl(eM:M.aa->Int->Int->Option (Bool)):bA K:=bJ D false 28 1 [1,2,3,7] [6] ⟨[.int .i64,.int .i64,.ptr 0 0,.int .i64],[.el U.Type]⟩ (fun x=>M.nF eM x.1.1 x.1.2.1 ah x.1.2.2.2.1 x.2.1) Pj
def CM(eM:M.aa->Int->Int->Option (Bool)):Cx K:={aK with mode:=aF .plain [(120,.plain),(184,.plain)],call:=callOf D [rl M.rm,pH eM],loop:=aE [(4,Pl eM)]}
theorem Pm(eM:M.aa->Int->Int->Option (Bool))(wo:(pH eM).Ok D Tryz.prog):aD (CM eM):=aL ak _ (ai wi (ai wo (ax)))
theorem acU(eM:M.aa->Int->Int->Option (Bool))(wo:(pH eM).Ok D Tryz.prog):bC (CM eM) (bF (bI Tryz.f184) 0) (Pl eM):=
 bN (cx:=CM eM) (n:=28) (n0:=1) (ins:=[1,2,3,7]) (outs:=[6]) (sh:=⟨[.int .i64,.int .i64,.ptr 0 0,.int .i64],[.el U.Type]⟩) (run:=fun n x=>M.nF eM x.1.1 x.1.2.1 n x.1.2.2.2.1 x.2.1) (bG:=acT) (out:=Pj) ak (Pm eM wo) ay (aG (by kernel_rfl)) (fun _=>rfl) (fun m x=>by kernel_rfl) (ai ⟨dj,fun _ _ _=>rfl⟩ (ai ⟨bP,fun _ _ _=>rfl⟩ (ax))) false ah
theorem acV(eM:M.aa->Int->Int->Option (Bool))(wo:(pH eM).Ok D Tryz.prog):(pH (M.zE eM)).Ok D Tryz.prog:=
 aI (cx:=CM eM) (c:=pH (M.zE eM)) (fz:=true) (fn:=Tryz.f184) ak (Pm eM wo) ay ⟨Tryz.func184,by kernel_rfl⟩ (aJ (bQ 1 (by kernel_rfl) (bR (.mk (by kernel_rfl) (acU eM wo))))) ⟨⟨[.bool],[]⟩,fun x=>x.1.1⟩ (fun x=>rfl) (fun x=>by kernel_rfl)
theorem Pn:∀n,(pH (M.mH n)).Ok D Tryz.prog
 |0=>ez fun _=>rfl
 |n+1=>acV (M.mH n) (Pn n)
theorem acW:(pH (M.tZ)).Ok D Tryz.prog:=Pn ah
def G8(m:M.aa->Option (Bool)):aC K:={f:=170,sh:=⟨[.el U.Type],[]⟩,R:=Bool,run:=fun x=>m x.1.1,dflt:=default,out:=fun r=>(Sh.enc D (.bool) r,az.encs D [] ())}
def Po:Cx K:={aK with mode:=aF .plain [(120,.plain),(181,.plain),(182,.plain),(183,.plain),(184,.plain)],call:=callOf D [rl M.rm,CH M.rn,G5 M.wk,G7 M.ru,pH M.tZ],loop:=aE []}
theorem acX:aD (Po):=aL ak _ (ai wi (ai O5 (ai acP (ai acS (ai acW (ax))))))
theorem acY:(G8 (M.wq)).Ok D Tryz.prog:=
 aI (cx:=Po) (c:=G8 (M.wq)) (fz:=true) (fn:=Tryz.f170) ak (acX) ay ⟨Tryz.func170,by kernel_rfl⟩ (aJ (aG (by kernel_rfl))) ⟨⟨[.bool],[]⟩,fun x=>x.1.1⟩ (fun x=>rfl) (fun x=>by kernel_rfl)
def pI(m:M.aa->Option (Bool)):aC K:={f:=157,sh:=⟨[.el U.Type],[]⟩,R:=Bool,run:=fun x=>m x.1.1,dflt:=default,out:=fun r=>(Sh.enc D (.bool) r,az.encs D [] ())}
def Pq(y:(Bool)⊕(Unit)){R:Type}(k:Ex->List (AV K)->List (Ob K)->R):R:=match y with
 |.inl a0=>k Ex.ret (aw.aW D ⟨[.bool],[.dead]⟩ ((a0,()),((),()))) (aw.aX D ⟨[.bool],[.dead]⟩ ((a0,()),((),())))
 |.inr (a1)=>k (Ex.exit 0) (aw.aW D ⟨[.any],[.dead]⟩ (((),()),((),()))) (aw.aX D ⟨[.any],[.dead]⟩ (((),()),((),())))
def acZ:List (bH K ((Bool)⊕(Unit))):=[⟨Ex.ret,⟨[.bool],[.dead]⟩,fun x=>.inl x.1.1⟩,⟨(Ex.exit 0),⟨[.any],[.dead]⟩,fun x=>.inr (())⟩]
def Pv(eN:M.aa->Option (Bool)):bA K:=bJ D false 21 1 [1,3] [2] ⟨[.ptr 0 0,.int .i64],[.el U.Type]⟩ (fun x=>M.nG eN ah x.1.2.1 x.2.1) Pq
def CN(eN:M.aa->Option (Bool)):Cx K:={aK with mode:=aF .plain [(170,.plain),(157,.plain)],call:=callOf D [G8 M.wq,pI eN],loop:=aE [(4,Pv eN)]}
theorem Px(eN:M.aa->Option (Bool))(wu:(pI eN).Ok D Tryz.prog):aD (CN eN):=aL ak _ (ai acY (ai wu (ax)))
theorem ac0(eN:M.aa->Option (Bool))(wu:(pI eN).Ok D Tryz.prog):bC (CN eN) (bF (bI Tryz.f157) 0) (Pv eN):=
 bN (cx:=CN eN) (n:=21) (n0:=1) (ins:=[1,3]) (outs:=[2]) (sh:=⟨[.ptr 0 0,.int .i64],[.el U.Type]⟩) (run:=fun n x=>M.nG eN n x.1.2.1 x.2.1) (bG:=acZ) (out:=Pq) ak (Px eN wu) ay (aG (by kernel_rfl)) (fun _=>rfl) (fun m x=>by kernel_rfl) (ai ⟨dj,fun _ _ _=>rfl⟩ (ai ⟨bP,fun _ _ _=>rfl⟩ (ax))) false ah
theorem ac1(eN:M.aa->Option (Bool))(wu:(pI eN).Ok D Tryz.prog):(pI (M.zF eN)).Ok D Tryz.prog:=
 aI (cx:=CN eN) (c:=pI (M.zF eN)) (fz:=true) (fn:=Tryz.f157) ak (Px eN wu) ay ⟨Tryz.func157,by kernel_rfl⟩ (aJ (bQ 1 (by kernel_rfl) (bR (.mk (by kernel_rfl) (ac0 eN wu))))) ⟨⟨[.bool],[]⟩,fun x=>x.1.1⟩ (fun x=>rfl) (fun x=>by kernel_rfl)
theorem Py:∀n,(pI (M.nH n)).Ok D Tryz.prog
 |0=>ez fun _=>rfl
 |n+1=>ac1 (M.nH n) (Py n)
theorem ac2:(pI (M.CO)).Ok D Tryz.prog:=Py ah
def pJ(m:M.aa->Int->Option (Int)):aC K:={f:=162,sh:=⟨[.el U.Type,.int .i64],[]⟩,R:=Int,run:=fun x=>m x.1.1 x.1.2.1,dflt:=default,out:=fun r=>(Sh.enc D (.int .i64) r,az.encs D [] ())}
def Pz(y:Int){R:Type}(k:Ex->List (AV K)->List (Ob K)->R):R:=match y with
 |a0=>k (Ex.exit 0) (aw.aW D ⟨[.int .i64],[]⟩ ((a0,()),())) (aw.aX D ⟨[.int .i64],[]⟩ ((a0,()),()))
def ac3:List (bH K (Int)):=[⟨(Ex.exit 0),⟨[.int .i64],[]⟩,fun x=>x.1.1⟩]
def PC(fc:M.aa->Int->Option (Int)):bA K:=bJ D false 26 0 [1,5,11,12,13] [5] ⟨[.int .i64,.int .i64,.aj U.Type,.int .i64,.int .i64],[]⟩ (fun x=>M.rx fc x.1.1 x.1.2.2.1 x.1.2.2.2.1 ah x.1.2.1 x.1.2.2.2.2.1) Pz
def CP(fc:M.aa->Int->Option (Int)):Cx K:={aK with mode:=aF .plain [(162,.plain)],call:=callOf D [pJ fc],loop:=aE [(5,PC fc)]}
theorem PD(fc:M.aa->Int->Option (Int))(wv:(pJ fc).Ok D Tryz.prog):aD (CP fc):=aL ak _ (ai wv (ax))
theorem ac4(fc:M.aa->Int->Option (Int))(wv:(pJ fc).Ok D Tryz.prog):bC (CP fc) (bF (bI Tryz.f162) 0) (PC fc):=
 bN (cx:=CP fc) (n:=26) (n0:=0) (ins:=[1,5,11,12,13]) (outs:=[5]) (sh:=⟨[.int .i64,.int .i64,.aj U.Type,.int .i64,.int .i64],[]⟩) (run:=fun n x=>M.rx fc x.1.1 x.1.2.2.1 x.1.2.2.2.1 n x.1.2.1 x.1.2.2.2.2.1) (bG:=ac3) (out:=Pz) ak (PD fc wv) ay (aG (by kernel_rfl)) (fun _=>rfl) (fun m x=>by kernel_rfl) (ai ⟨bP,fun _ _ _=>rfl⟩ (ax)) false ah
theorem ac5(fc:M.aa->Int->Option (Int))(wv:(pJ fc).Ok D Tryz.prog):(pJ (M.zG fc)).Ok D Tryz.prog:=
 aI (cx:=CP fc) (c:=pJ (M.zG fc)) (fz:=true) (fn:=Tryz.f162) ak (PD fc wv) ay ⟨Tryz.func162,by kernel_rfl⟩ (aJ (bQ 1 (by kernel_rfl) (bR (.mk (by kernel_rfl) (ac4 fc wv))))) ⟨⟨[.int .i64],[]⟩,fun x=>x.1.1⟩ (fun x=>rfl) (fun x=>by kernel_rfl)
theorem PE:∀n,(pJ (M.ry n)).Ok D Tryz.prog
 |0=>ez fun _=>rfl
 |n+1=>ac5 (M.ry n) (PE n)
theorem ac6:(pJ (M.CQ)).Ok D Tryz.prog:=PE ah
def pK(m:M.aa->Option (Int)):aC K:={f:=163,sh:=⟨[.el U.Type],[]⟩,R:=Int,run:=fun x=>m x.1.1,dflt:=default,out:=fun r=>(Sh.enc D (.int .i64) r,az.encs D [] ())}
def PG(y:Int){R:Type}(k:Ex->List (AV K)->List (Ob K)->R):R:=match y with
 |a0=>k (Ex.exit 0) (aw.aW D ⟨[.int .i64],[]⟩ ((a0,()),())) (aw.aX D ⟨[.int .i64],[]⟩ ((a0,()),()))
def ac7:List (bH K (Int)):=[⟨(Ex.exit 0),⟨[.int .i64],[]⟩,fun x=>x.1.1⟩]
def PH(fe:M.aa->Option (Int)):bA K:=bJ D false 19 0 [3,7,8,9] [3] ⟨[.int .i64,.aj U.Type,.int .i64,.int .i64],[]⟩ (fun x=>M.rz fe x.1.2.1 x.1.2.2.1 ah x.1.1 x.1.2.2.2.1) PG
def CS(fe:M.aa->Option (Int)):Cx K:={aK with mode:=aF .plain [(163,.plain)],call:=callOf D [pK fe],loop:=aE [(3,PH fe)]}
theorem PI(fe:M.aa->Option (Int))(wy:(pK fe).Ok D Tryz.prog):aD (CS fe):=aL ak _ (ai wy (ax))
theorem ac8(fe:M.aa->Option (Int))(wy:(pK fe).Ok D Tryz.prog):bC (CS fe) (bF (bI Tryz.f163) 0) (PH fe):=
 bN (cx:=CS fe) (n:=19) (n0:=0) (ins:=[3,7,8,9]) (outs:=[3]) (sh:=⟨[.int .i64,.aj U.Type,.int .i64,.int .i64],[]⟩) (run:=fun n x=>M.rz fe x.1.2.1 x.1.2.2.1 n x.1.1 x.1.2.2.2.1) (bG:=ac7) (out:=PG) ak (PI fe wy) ay (aG (by kernel_rfl)) (fun _=>rfl) (fun m x=>by kernel_rfl) (ai ⟨bP,fun _ _ _=>rfl⟩ (ax)) false ah
theorem ac9(fe:M.aa->Option (Int))(wy:(pK fe).Ok D Tryz.prog):(pK (M.zH fe)).Ok D Tryz.prog:=
 aI (cx:=CS fe) (c:=pK (M.zH fe)) (fz:=true) (fn:=Tryz.f163) ak (PI fe wy) ay ⟨Tryz.func163,by kernel_rfl⟩ (aJ (bQ 1 (by kernel_rfl) (bR (.mk (by kernel_rfl) (ac8 fe wy))))) ⟨⟨[.int .i64],[]⟩,fun x=>x.1.1⟩ (fun x=>rfl) (fun x=>by kernel_rfl)
theorem PK:∀n,(pK (M.rA n)).Ok D Tryz.prog
 |0=>ez fun _=>rfl
 |n+1=>ac9 (M.rA n) (PK n)
theorem ada:(pK (M.CU)).Ok D Tryz.prog:=PK ah
def jV(m:M.aa->Option (Bool)):aC K:={f:=164,sh:=⟨[.el U.Type],[]⟩,R:=Bool,run:=fun x=>m x.1.1,dflt:=default,out:=fun r=>(Sh.enc D (.bool) r,az.encs D [] ())}
def G9(m:M.aa->Option (Bool)):aC K:={f:=173,sh:=⟨[.el U.Type],[]⟩,R:=Bool,run:=fun x=>m x.1.1,dflt:=default,out:=fun r=>(Sh.enc D (.bool) r,az.encs D [] ())}
def PL(cb:M.aa->Option (Bool)):Cx K:={aK with mode:=aF .plain [(164,.plain)],call:=callOf D [jV cb],loop:=aE []}
theorem adb(cb:M.aa->Option (Bool))(iM:(jV cb).Ok D Tryz.prog):aD (PL cb):=aL ak _ (ai iM (ax))
theorem ade(cb:M.aa->Option (Bool))(iM:(jV cb).Ok D Tryz.prog):(G9 (M.wz cb)).Ok D Tryz.prog:=
 aI (cx:=PL cb) (c:=G9 (M.wz cb)) (fz:=true) (fn:=Tryz.f173) ak (adb cb iM) ay ⟨Tryz.func173,by kernel_rfl⟩ (aJ (aG (by kernel_rfl))) ⟨⟨[.bool],[]⟩,fun x=>x.1.1⟩ (fun x=>rfl) (fun x=>by kernel_rfl)
def PM(y:(Int)⊕(Unit)){R:Type}(k:Ex->List (AV K)->List (Ob K)->R):R:=match y with
 |.inl a0=>k Ex.ret (aw.aW D ⟨[.int .i64],[]⟩ ((a0,()),())) (aw.aX D ⟨[.int .i64],[]⟩ ((a0,()),()))
 |.inr (a1)=>k (Ex.exit 0) (aw.aW D ⟨[.any],[]⟩ (((),()),())) (aw.aX D ⟨[.any],[]⟩ (((),()),()))
def adf:List (bH K ((Int)⊕(Unit))):=[⟨Ex.ret,⟨[.int .i64],[]⟩,fun x=>.inl x.1.1⟩,⟨(Ex.exit 0),⟨[.any],[]⟩,fun x=>.inr (())⟩]
def PN(cb:M.aa->Option (Bool)):bA K:=bJ D false 19 0 [0,1,7,8] [4] ⟨[.aj U.Type,.fn 173 [],.int .i64,.int .i64],[]⟩ (fun x=>M.ua cb x.1.1 x.1.2.2.1 ah x.1.2.2.2.1) PM
def Ha(m:(List M.aa)->Option (Int)):aC K:={f:=161,sh:=⟨[.aj U.Type,.fn 173 []],[]⟩,R:=Int,run:=fun x=>m x.1.1,dflt:=default,out:=fun r=>(Sh.enc D (.int .i64) r,az.encs D [] ())}
def CV(cb:M.aa->Option (Bool)):Cx K:={aK with mode:=aF .plain [(173,.plain)],call:=callOf D [G9 (M.wz cb)],loop:=aE [(2,PN cb)]}
theorem PO(cb:M.aa->Option (Bool))(iM:(jV cb).Ok D Tryz.prog):aD (CV cb):=aL ak _ (ai (ade cb iM) (ax))
theorem adg(cb:M.aa->Option (Bool))(iM:(jV cb).Ok D Tryz.prog):bC (CV cb) (bF (bI Tryz.f161) 0) (PN cb):=
 bN (cx:=CV cb) (n:=19) (n0:=0) (ins:=[0,1,7,8]) (outs:=[4]) (sh:=⟨[.aj U.Type,.fn 173 [],.int .i64,.int .i64],[]⟩) (run:=fun n x=>M.ua cb x.1.1 x.1.2.2.1 n x.1.2.2.2.1) (bG:=adf) (out:=PM) ak (PO cb iM) ay (aG (by kernel_rfl)) (fun _=>rfl) (fun m x=>by kernel_rfl) (ai ⟨dj,fun _ _ _=>rfl⟩ (ai ⟨bP,fun _ _ _=>rfl⟩ (ax))) false ah
theorem adh(cb:M.aa->Option (Bool))(iM:(jV cb).Ok D Tryz.prog):(Ha (M.zI cb)).Ok D Tryz.prog:=
 aI (cx:=CV cb) (c:=Ha (M.zI cb)) (fz:=true) (fn:=Tryz.f161) ak (PO cb iM) ay ⟨Tryz.func161,by kernel_rfl⟩ (aJ (bQ 1 (by kernel_rfl) (bR (.mk (by kernel_rfl) (adg cb iM))))) ⟨⟨[.int .i64],[]⟩,fun x=>x.1.1⟩ (fun x=>rfl) (fun x=>by kernel_rfl)
def He(m:(List M.aa)->Option (Bool)):aC K:={f:=134,sh:=⟨[.aj U.Type,.fn 173 []],[]⟩,R:=Bool,run:=fun x=>m x.1.1,dflt:=default,out:=fun r=>(Sh.enc D (.bool) r,az.encs D [] ())}
def PQ(cb:M.aa->Option (Bool)):Cx K:={aK with mode:=aF .plain [(161,.plain)],call:=callOf D [Ha (M.zI cb)],loop:=aE []}
theorem adi(cb:M.aa->Option (Bool))(iM:(jV cb).Ok D Tryz.prog):aD (PQ cb):=aL ak _ (ai (adh cb iM) (ax))
theorem adk(cb:M.aa->Option (Bool))(iM:(jV cb).Ok D Tryz.prog):(He (M.ub cb)).Ok D Tryz.prog:=
 aI (cx:=PQ cb) (c:=He (M.ub cb)) (fz:=true) (fn:=Tryz.f134) ak (adi cb iM) ay ⟨Tryz.func134,by kernel_rfl⟩ (aJ (aG (by kernel_rfl))) ⟨⟨[.bool],[]⟩,fun x=>x.1.1⟩ (fun x=>rfl) (fun x=>by kernel_rfl)
def rB(m:Int->Int->Int->Option (Bool)):aC K:={f:=133,sh:=⟨[.int .i64,.int .i64,.int .i64],[]⟩,R:=Bool,run:=fun x=>m x.1.1 x.1.2.1 x.1.2.2.1,dflt:=default,out:=fun r=>(Sh.enc D (.bool) r,az.encs D [] ())}
def PR:Cx K:={aK with mode:=aF .plain [],call:=callOf D [],loop:=aE []}
theorem adl:aD (PR):=aL ak _ (ax)
theorem wA:(rB (M.rC)).Ok D Tryz.prog:=
 aI (cx:=PR) (c:=rB (M.rC)) (fz:=true) (fn:=Tryz.f133) ak (adl) ay ⟨Tryz.func133,by kernel_rfl⟩ (aJ (aG (by kernel_rfl))) ⟨⟨[.bool],[]⟩,fun x=>x.1.1⟩ (fun x=>rfl) (fun x=>by kernel_rfl)
def wB(m:(List (List UInt8))->Option (Int)):aC K:={f:=138,sh:=⟨[.aj U.str],[]⟩,R:=Int,run:=fun x=>m x.1.1,dflt:=default,out:=fun r=>(Sh.enc D (.int .i64) r,az.encs D [] ())}
def PS:Cx K:={aK with mode:=aF .plain [],call:=callOf D [],loop:=aE []}
theorem adm:aD (PS):=aL ak _ (ax)
theorem CW:(wB (M.wC)).Ok D Tryz.prog:=
 aI (cx:=PS) (c:=wB (M.wC)) (fz:=true) (fn:=Tryz.f138) ak (adm) ay ⟨Tryz.func138,by kernel_rfl⟩ (aJ (aG (by kernel_rfl))) ⟨⟨[.int .i64],[]⟩,fun x=>x.1.1⟩ (fun x=>rfl) (fun x=>by kernel_rfl)
def PT(y:(Bool)⊕((List UInt8))){R:Type}(k:Ex->List (AV K)->List (Ob K)->R):R:=match y with
 |.inl a0=>k Ex.ret (aw.aW D ⟨[.any,.bool],[]⟩ (((),(a0,())),())) (aw.aX D ⟨[.any,.bool],[]⟩ (((),(a0,())),()))
 |.inr (a1)=>k (Ex.exit 0) (aw.aW D ⟨[.str,.any],[]⟩ ((a1,((),())),())) (aw.aX D ⟨[.str,.any],[]⟩ ((a1,((),())),()))
def adn:List (bH K ((Bool)⊕((List UInt8)))):=[⟨Ex.ret,⟨[.any,.bool],[]⟩,fun x=>.inl x.1.2.1⟩,⟨(Ex.exit 0),⟨[.str,.any],[]⟩,fun x=>.inr (x.1.1)⟩]
def PU:bA K:=bJ D false 75 0 [0,7,8] [0,2] ⟨[.str,.int .i64,.int .i64],[]⟩ (fun x=>M.rD x.1.1 x.1.2.1 ah x.1.2.2.1) PT
def CX(m:(List UInt8)->Option (Bool)):aC K:={f:=175,sh:=⟨[.str],[]⟩,R:=Bool,run:=fun x=>m x.1.1,dflt:=default,out:=fun r=>(Sh.enc D (.bool) r,az.encs D [] ())}
def CY:Cx K:={aK with mode:=aF .plain [],call:=callOf D [],loop:=aE [(2,PU)]}
theorem PV:aD (CY):=aL ak _ (ax)
theorem ado:bC (CY) (bF (bI Tryz.f175) 0) (PU):=
 bN (cx:=CY) (n:=75) (n0:=0) (ins:=[0,7,8]) (outs:=[0,2]) (sh:=⟨[.str,.int .i64,.int .i64],[]⟩) (run:=fun n x=>M.rD x.1.1 x.1.2.1 n x.1.2.2.1) (bG:=adn) (out:=PT) ak (PV) ay (aG (by kernel_rfl)) (fun _=>rfl) (fun m x=>by kernel_rfl) (ai ⟨dj,fun _ _ _=>rfl⟩ (ai ⟨bP,fun _ _ _=>rfl⟩ (ax))) false ah
theorem PW:(CX (M.rE)).Ok D Tryz.prog:=
 aI (cx:=CY) (c:=CX (M.rE)) (fz:=true) (fn:=Tryz.f175) ak (PV) ay ⟨Tryz.func175,by kernel_rfl⟩ (aJ (bQ 1 (by kernel_rfl) (bR (.mk (by kernel_rfl) (ado))))) ⟨⟨[.bool],[]⟩,fun x=>x.1.1⟩ (fun x=>rfl) (fun x=>by kernel_rfl)
def Hg(m:(List UInt8)->Option (Bool)):aC K:={f:=188,sh:=⟨[.str],[]⟩,R:=Bool,run:=fun x=>m x.1.1,dflt:=default,out:=fun r=>(Sh.enc D (.bool) r,az.encs D [] ())}
def PX:Cx K:={aK with mode:=aF .plain [(175,.plain)],call:=callOf D [CX M.rE],loop:=aE []}
theorem adp:aD (PX):=aL ak _ (ai PW (ax))
theorem adq:(Hg (M.wE)).Ok D Tryz.prog:=
 aI (cx:=PX) (c:=Hg (M.wE)) (fz:=true) (fn:=Tryz.f188) ak (adp) ay ⟨Tryz.func188,by kernel_rfl⟩ (aJ (aG (by kernel_rfl))) ⟨⟨[.bool],[]⟩,fun x=>x.1.1⟩ (fun x=>rfl) (fun x=>by kernel_rfl)
def PY(y:(Int)⊕(Unit)){R:Type}(k:Ex->List (AV K)->List (Ob K)->R):R:=match y with
 |.inl a0=>k Ex.ret (aw.aW D ⟨[.int .i64],[]⟩ ((a0,()),())) (aw.aX D ⟨[.int .i64],[]⟩ ((a0,()),()))
 |.inr (a1)=>k (Ex.exit 0) (aw.aW D ⟨[.any],[]⟩ (((),()),())) (aw.aX D ⟨[.any],[]⟩ (((),()),()))
def adr:List (bH K ((Int)⊕(Unit))):=[⟨Ex.ret,⟨[.int .i64],[]⟩,fun x=>.inl x.1.1⟩,⟨(Ex.exit 0),⟨[.any],[]⟩,fun x=>.inr (())⟩]
def PZ:bA K:=bJ D false 19 0 [0,1,7,8] [4] ⟨[.aj U.str,.fn 188 [],.int .i64,.int .i64],[]⟩ (fun x=>M.uc x.1.1 x.1.2.2.1 ah x.1.2.2.2.1) PY
def Hh(m:(List (List UInt8))->Option (Int)):aC K:={f:=194,sh:=⟨[.aj U.str,.fn 188 []],[]⟩,R:=Int,run:=fun x=>m x.1.1,dflt:=default,out:=fun r=>(Sh.enc D (.int .i64) r,az.encs D [] ())}
def CZ:Cx K:={aK with mode:=aF .plain [(188,.plain)],call:=callOf D [Hg M.wE],loop:=aE [(2,PZ)]}
theorem P0:aD (CZ):=aL ak _ (ai adq (ax))
theorem ads:bC (CZ) (bF (bI Tryz.f194) 0) (PZ):=
 bN (cx:=CZ) (n:=19) (n0:=0) (ins:=[0,1,7,8]) (outs:=[4]) (sh:=⟨[.aj U.str,.fn 188 [],.int .i64,.int .i64],[]⟩) (run:=fun n x=>M.uc x.1.1 x.1.2.2.1 n x.1.2.2.2.1) (bG:=adr) (out:=PY) ak (P0) ay (aG (by kernel_rfl)) (fun _=>rfl) (fun m x=>by kernel_rfl) (ai ⟨dj,fun _ _ _=>rfl⟩ (ai ⟨bP,fun _ _ _=>rfl⟩ (ax))) false ah
theorem adt:(Hh (M.zJ)).Ok D Tryz.prog:=
 aI (cx:=CZ) (c:=Hh (M.zJ)) (fz:=true) (fn:=Tryz.f194) ak (P0) ay ⟨Tryz.func194,by kernel_rfl⟩ (aJ (bQ 1 (by kernel_rfl) (bR (.mk (by kernel_rfl) (ads))))) ⟨⟨[.int .i64],[]⟩,fun x=>x.1.1⟩ (fun x=>rfl) (fun x=>by kernel_rfl)
def Hj(m:(List (List UInt8))->Option (Bool)):aC K:={f:=187,sh:=⟨[.aj U.str,.fn 188 []],[]⟩,R:=Bool,run:=fun x=>m x.1.1,dflt:=default,out:=fun r=>(Sh.enc D (.bool) r,az.encs D [] ())}
def P1:Cx K:={aK with mode:=aF .plain [(194,.plain)],call:=callOf D [Hh M.zJ],loop:=aE []}
theorem adu:aD (P1):=aL ak _ (ai adt (ax))
theorem adv:(Hj (M.wF)).Ok D Tryz.prog:=
 aI (cx:=P1) (c:=Hj (M.wF)) (fz:=true) (fn:=Tryz.f187) ak (adu) ay ⟨Tryz.func187,by kernel_rfl⟩ (aJ (aG (by kernel_rfl))) ⟨⟨[.bool],[]⟩,fun x=>x.1.1⟩ (fun x=>rfl) (fun x=>by kernel_rfl)
def Hk(m:(List (List UInt8))->Option (Bool)):aC K:={f:=174,sh:=⟨[.aj U.str],[]⟩,R:=Bool,run:=fun x=>m x.1.1,dflt:=default,out:=fun r=>(Sh.enc D (.bool) r,az.encs D [] ())}
def P2:Cx K:={aK with mode:=aF .plain [(138,.plain),(133,.plain),(186,.plain),(187,.plain)],call:=callOf D [wB M.wC,rB M.rC,Hl M.rF,Hj M.wF],loop:=aE []}
theorem adw:aD (P2):=aL ak _ (ai CW (ai wA (ai adx (ai adv (ax)))))
theorem ady:(Hk (M.wG)).Ok D Tryz.prog:=
 aI (cx:=P2) (c:=Hk (M.wG)) (fz:=true) (fn:=Tryz.f174) ak (adw) ay ⟨Tryz.func174,by kernel_rfl⟩ (aJ (aG (by kernel_rfl))) ⟨⟨[.bool],[]⟩,fun x=>x.1.1⟩ (fun x=>rfl) (fun x=>by kernel_rfl)
def zK(m:(List M.aa)->Option (Int)):aC K:={f:=152,sh:=⟨[.aj U.Type],[]⟩,R:=Int,run:=fun x=>m x.1.1,dflt:=default,out:=fun r=>(Sh.enc D (.int .i64) r,az.encs D [] ())}
def P3:Cx K:={aK with mode:=aF .plain [],call:=callOf D [],loop:=aE []}
theorem adz:aD (P3):=aL ak _ (ax)
theorem Hm:(zK (M.zL)).Ok D Tryz.prog:=
 aI (cx:=P3) (c:=zK (M.zL)) (fz:=true) (fn:=Tryz.f152) ak (adz) ay ⟨Tryz.func152,by kernel_rfl⟩ (aJ (aG (by kernel_rfl))) ⟨⟨[.int .i64],[]⟩,fun x=>x.1.1⟩ (fun x=>rfl) (fun x=>by kernel_rfl)
def C0(m:M.aa->Option (Bool)):aC K:={f:=141,sh:=⟨[.el U.Type],[]⟩,R:=Bool,run:=fun x=>m x.1.1,dflt:=default,out:=fun r=>(Sh.enc D (.bool) r,az.encs D [] ())}
def P4:Cx K:={aK with mode:=aF .plain [],call:=callOf D [],loop:=aE []}
theorem adA:aD (P4):=aL ak _ (ax)
theorem P5:(C0 (M.C2)).Ok D Tryz.prog:=
 aI (cx:=P4) (c:=C0 (M.C2)) (fz:=true) (fn:=Tryz.f141) ak (adA) ay ⟨Tryz.func141,by kernel_rfl⟩ (aJ (aG (by kernel_rfl))) ⟨⟨[.bool],[]⟩,fun x=>x.1.1⟩ (fun x=>rfl) (fun x=>by kernel_rfl)
def P6(y:(Int)⊕(Unit)){R:Type}(k:Ex->List (AV K)->List (Ob K)->R):R:=match y with
 |.inl a0=>k Ex.ret (aw.aW D ⟨[.int .i64],[]⟩ ((a0,()),())) (aw.aX D ⟨[.int .i64],[]⟩ ((a0,()),()))
 |.inr (a1)=>k (Ex.exit 0) (aw.aW D ⟨[.any],[]⟩ (((),()),())) (aw.aX D ⟨[.any],[]⟩ (((),()),()))
def adB:List (bH K ((Int)⊕(Unit))):=[⟨Ex.ret,⟨[.int .i64],[]⟩,fun x=>.inl x.1.1⟩,⟨(Ex.exit 0),⟨[.any],[]⟩,fun x=>.inr (())⟩]
def P7:bA K:=bJ D false 19 0 [0,1,7,8] [4] ⟨[.aj U.Type,.fn 141 [],.int .i64,.int .i64],[]⟩ (fun x=>M.ud x.1.1 x.1.2.2.1 ah x.1.2.2.2.1) P6
def Hq(m:(List M.aa)->Option (Int)):aC K:={f:=161,sh:=⟨[.aj U.Type,.fn 141 []],[]⟩,R:=Int,run:=fun x=>m x.1.1,dflt:=default,out:=fun r=>(Sh.enc D (.int .i64) r,az.encs D [] ())}
def C3:Cx K:={aK with mode:=aF .plain [(141,.plain)],call:=callOf D [C0 M.C2],loop:=aE [(2,P7)]}
theorem P8:aD (C3):=aL ak _ (ai P5 (ax))
theorem adC:bC (C3) (bF (bI Tryz.f161) 0) (P7):=
 bN (cx:=C3) (n:=19) (n0:=0) (ins:=[0,1,7,8]) (outs:=[4]) (sh:=⟨[.aj U.Type,.fn 141 [],.int .i64,.int .i64],[]⟩) (run:=fun n x=>M.ud x.1.1 x.1.2.2.1 n x.1.2.2.2.1) (bG:=adB) (out:=P6) ak (P8) ay (aG (by kernel_rfl)) (fun _=>rfl) (fun m x=>by kernel_rfl) (ai ⟨dj,fun _ _ _=>rfl⟩ (ai ⟨bP,fun _ _ _=>rfl⟩ (ax))) false ah
theorem adD:(Hq (M.zM)).Ok D Tryz.prog:=
 aI (cx:=C3) (c:=Hq (M.zM)) (fz:=true) (fn:=Tryz.f161) ak (P8) ay ⟨Tryz.func161,by kernel_rfl⟩ (aJ (bQ 1 (by kernel_rfl) (bR (.mk (by kernel_rfl) (adC))))) ⟨⟨[.int .i64],[]⟩,fun x=>x.1.1⟩ (fun x=>rfl) (fun x=>by kernel_rfl)
def Hr(m:(List M.aa)->Option (Bool)):aC K:={f:=134,sh:=⟨[.aj U.Type,.fn 141 []],[]⟩,R:=Bool,run:=fun x=>m x.1.1,dflt:=default,out:=fun r=>(Sh.enc D (.bool) r,az.encs D [] ())}
def P9:Cx K:={aK with mode:=aF .plain [(161,.plain)],call:=callOf D [Hq M.zM],loop:=aE []}
theorem adE:aD (P9):=aL ak _ (ai adD (ax))
theorem adF:(Hr (M.wH)).Ok D Tryz.prog:=
 aI (cx:=P9) (c:=Hr (M.wH)) (fz:=true) (fn:=Tryz.f134) ak (adE) ay ⟨Tryz.func134,by kernel_rfl⟩ (aJ (aG (by kernel_rfl))) ⟨⟨[.bool],[]⟩,fun x=>x.1.1⟩ (fun x=>rfl) (fun x=>by kernel_rfl)
def Ht(m:M.aa->Int->Option (Bool)):aC K:={f:=176,sh:=⟨[.el U.Type,.int .i64],[]⟩,R:=Bool,run:=fun x=>m x.1.1 x.1.2.1,dflt:=default,out:=fun r=>(Sh.enc D (.bool) r,az.encs D [] ())}
def Qa:Cx K:={aK with mode:=aF .plain [(152,.plain),(134,.plain)],call:=callOf D [zK M.zL,Hr M.wH],loop:=aE []}
theorem adG:aD (Qa):=aL ak _ (ai Hm (ai adF (ax)))
theorem adH:(Ht (M.pL)).Ok D Tryz.prog:=
 aI (cx:=Qa) (c:=Ht (M.pL)) (fz:=true) (fn:=Tryz.f176) ak (adG) ay ⟨Tryz.func176,by kernel_rfl⟩ (aJ (aG (by kernel_rfl))) ⟨⟨[.bool],[]⟩,fun x=>x.1.1⟩ (fun x=>rfl) (fun x=>by kernel_rfl)
def Qb(y:(Int)⊕(Unit)){R:Type}(k:Ex->List (AV K)->List (Ob K)->R):R:=match y with
 |.inl a0=>k Ex.ret (aw.aW D ⟨[.int .i64],[]⟩ ((a0,()),())) (aw.aX D ⟨[.int .i64],[]⟩ ((a0,()),()))
 |.inr (a1)=>k (Ex.exit 0) (aw.aW D ⟨[.any],[]⟩ (((),()),())) (aw.aX D ⟨[.any],[]⟩ (((),()),()))
def adI:List (bH K ((Int)⊕(Unit))):=[⟨Ex.ret,⟨[.int .i64],[]⟩,fun x=>.inl x.1.1⟩,⟨(Ex.exit 0),⟨[.any],[]⟩,fun x=>.inr (())⟩]
def Qc:bA K:=bJ D false 19 0 [0,1,7,8] [4] ⟨[.aj U.i64,.int .i64,.int .i64,.int .i64],[]⟩ (fun x=>M.ue x.1.1 x.1.2.1 x.1.2.2.1 ah x.1.2.2.2.1) Qb
def Hu(m:(List Int)->Int->Option (Int)):aC K:={f:=195,sh:=⟨[.aj U.i64,.int .i64],[]⟩,R:=Int,run:=fun x=>m x.1.1 x.1.2.1,dflt:=default,out:=fun r=>(Sh.enc D (.int .i64) r,az.encs D [] ())}
def C4:Cx K:={aK with mode:=aF .plain [],call:=callOf D [],loop:=aE [(2,Qc)]}
theorem Qd:aD (C4):=aL ak _ (ax)
theorem adJ:bC (C4) (bF (bI Tryz.f195) 0) (Qc):=
 bN (cx:=C4) (n:=19) (n0:=0) (ins:=[0,1,7,8]) (outs:=[4]) (sh:=⟨[.aj U.i64,.int .i64,.int .i64,.int .i64],[]⟩) (run:=fun n x=>M.ue x.1.1 x.1.2.1 x.1.2.2.1 n x.1.2.2.2.1) (bG:=adI) (out:=Qb) ak (Qd) ay (aG (by kernel_rfl)) (fun _=>rfl) (fun m x=>by kernel_rfl) (ai ⟨dj,fun _ _ _=>rfl⟩ (ai ⟨bP,fun _ _ _=>rfl⟩ (ax))) false ah
theorem adK:(Hu (M.zN)).Ok D Tryz.prog:=
 aI (cx:=C4) (c:=Hu (M.zN)) (fz:=true) (fn:=Tryz.f195) ak (Qd) ay ⟨Tryz.func195,by kernel_rfl⟩ (aJ (bQ 1 (by kernel_rfl) (bR (.mk (by kernel_rfl) (adJ))))) ⟨⟨[.int .i64],[]⟩,fun x=>x.1.1⟩ (fun x=>rfl) (fun x=>by kernel_rfl)
def Hw(m:(List Int)->Int->Option (Bool)):aC K:={f:=189,sh:=⟨[.aj U.i64,.int .i64],[]⟩,R:=Bool,run:=fun x=>m x.1.1 x.1.2.1,dflt:=default,out:=fun r=>(Sh.enc D (.bool) r,az.encs D [] ())}
def Qe:Cx K:={aK with mode:=aF .plain [(195,.plain)],call:=callOf D [Hu M.zN],loop:=aE []}
theorem adL:aD (Qe):=aL ak _ (ai adK (ax))
theorem adM:(Hw (M.wI)).Ok D Tryz.prog:=
 aI (cx:=Qe) (c:=Hw (M.wI)) (fz:=true) (fn:=Tryz.f189) ak (adL) ay ⟨Tryz.func189,by kernel_rfl⟩ (aJ (aG (by kernel_rfl))) ⟨⟨[.bool],[]⟩,fun x=>x.1.1⟩ (fun x=>rfl) (fun x=>by kernel_rfl)
def jW(m:M.aa->(List Int)->Option (Bool)):aC K:={f:=177,sh:=⟨[.el U.Type,.aj U.i64],[]⟩,R:=Bool,run:=fun x=>m x.1.1 x.1.2.1,dflt:=default,out:=fun r=>(Sh.enc D (.bool) r,az.encs D [] ())}
def Hy(m:M.aa->(List Int)->Option (Bool)):aC K:={f:=190,sh:=⟨[.el U.Type,.rp U.lX 0],[]⟩,R:=Bool,run:=fun x=>m x.1.1 x.1.2.1,dflt:=default,out:=fun r=>(Sh.enc D (.bool) r,az.encs D [] ())}
def Qf(cg:M.aa->(List Int)->Option (Bool)):Cx K:={aK with mode:=aF .plain [(177,.plain)],call:=callOf D [jW cg],loop:=aE []}
theorem adN(cg:M.aa->(List Int)->Option (Bool))(iN:(jW cg).Ok D Tryz.prog):aD (Qf cg):=aL ak _ (ai iN (ax))
theorem adO(cg:M.aa->(List Int)->Option (Bool))(iN:(jW cg).Ok D Tryz.prog):(Hy (M.wJ cg)).Ok D Tryz.prog:=
 aI (cx:=Qf cg) (c:=Hy (M.wJ cg)) (fz:=true) (fn:=Tryz.f190) ak (adN cg iN) ay ⟨Tryz.func190,by kernel_rfl⟩ (aJ (aG (by kernel_rfl))) ⟨⟨[.bool],[]⟩,fun x=>x.1.1⟩ (fun x=>rfl) (fun x=>by kernel_rfl)
def Qg(y:(Int)⊕(Unit)){R:Type}(k:Ex->List (AV K)->List (Ob K)->R):R:=match y with
 |.inl a0=>k Ex.ret (aw.aW D ⟨[.int .i64],[]⟩ ((a0,()),())) (aw.aX D ⟨[.int .i64],[]⟩ ((a0,()),()))
 |.inr (a1)=>k (Ex.exit 0) (aw.aW D ⟨[.any],[]⟩ (((),()),())) (aw.aX D ⟨[.any],[]⟩ (((),()),()))
def adP:List (bH K ((Int)⊕(Unit))):=[⟨Ex.ret,⟨[.int .i64],[]⟩,fun x=>.inl x.1.1⟩,⟨(Ex.exit 0),⟨[.any],[]⟩,fun x=>.inr (())⟩]
def Qh(cg:M.aa->(List Int)->Option (Bool)):bA K:=bJ D false 19 0 [0,1,7,8] [4] ⟨[.aj U.Type,.fn 190 [.rp U.lX 0],.int .i64,.int .i64],[]⟩ (fun x=>M.uf cg x.1.1 x.1.2.1.1 x.1.2.2.1 ah x.1.2.2.2.1) Qg
def Hz(m:(List M.aa)->(List Int)->Option (Int)):aC K:={f:=161,sh:=⟨[.aj U.Type,.fn 190 [.rp U.lX 0]],[]⟩,R:=Int,run:=fun x=>m x.1.1 x.1.2.1.1,dflt:=default,out:=fun r=>(Sh.enc D (.int .i64) r,az.encs D [] ())}
def C5(cg:M.aa->(List Int)->Option (Bool)):Cx K:={aK with mode:=aF .plain [(190,.plain)],call:=callOf D [Hy (M.wJ cg)],loop:=aE [(2,Qh cg)]}
theorem Qi(cg:M.aa->(List Int)->Option (Bool))(iN:(jW cg).Ok D Tryz.prog):aD (C5 cg):=aL ak _ (ai (adO cg iN) (ax))
theorem adQ(cg:M.aa->(List Int)->Option (Bool))(iN:(jW cg).Ok D Tryz.prog):bC (C5 cg) (bF (bI Tryz.f161) 0) (Qh cg):=
 bN (cx:=C5 cg) (n:=19) (n0:=0) (ins:=[0,1,7,8]) (outs:=[4]) (sh:=⟨[.aj U.Type,.fn 190 [.rp U.lX 0],.int .i64,.int .i64],[]⟩) (run:=fun n x=>M.uf cg x.1.1 x.1.2.1.1 x.1.2.2.1 n x.1.2.2.2.1) (bG:=adP) (out:=Qg) ak (Qi cg iN) ay (aG (by kernel_rfl)) (fun _=>rfl) (fun m x=>by kernel_rfl) (ai ⟨dj,fun _ _ _=>rfl⟩ (ai ⟨bP,fun _ _ _=>rfl⟩ (ax))) false ah
theorem adR(cg:M.aa->(List Int)->Option (Bool))(iN:(jW cg).Ok D Tryz.prog):(Hz (M.zO cg)).Ok D Tryz.prog:=
 aI (cx:=C5 cg) (c:=Hz (M.zO cg)) (fz:=true) (fn:=Tryz.f161) ak (Qi cg iN) ay ⟨Tryz.func161,by kernel_rfl⟩ (aJ (bQ 1 (by kernel_rfl) (bR (.mk (by kernel_rfl) (adQ cg iN))))) ⟨⟨[.int .i64],[]⟩,fun x=>x.1.1⟩ (fun x=>rfl) (fun x=>by kernel_rfl)
def HA(m:(List M.aa)->(List Int)->Option (Bool)):aC K:={f:=134,sh:=⟨[.aj U.Type,.fn 190 [.rp U.lX 0]],[]⟩,R:=Bool,run:=fun x=>m x.1.1 x.1.2.1.1,dflt:=default,out:=fun r=>(Sh.enc D (.bool) r,az.encs D [] ())}
def Qj(cg:M.aa->(List Int)->Option (Bool)):Cx K:={aK with mode:=aF .plain [(161,.plain)],call:=callOf D [Hz (M.zO cg)],loop:=aE []}
theorem adS(cg:M.aa->(List Int)->Option (Bool))(iN:(jW cg).Ok D Tryz.prog):aD (Qj cg):=aL ak _ (ai (adR cg iN) (ax))
theorem adT(cg:M.aa->(List Int)->Option (Bool))(iN:(jW cg).Ok D Tryz.prog):(HA (M.wK cg)).Ok D Tryz.prog:=
 aI (cx:=Qj cg) (c:=HA (M.wK cg)) (fz:=true) (fn:=Tryz.f134) ak (adS cg iN) ay ⟨Tryz.func134,by kernel_rfl⟩ (aJ (aG (by kernel_rfl))) ⟨⟨[.bool],[]⟩,fun x=>x.1.1⟩ (fun x=>rfl) (fun x=>by kernel_rfl)
def Qk(cg:M.aa->(List Int)->Option (Bool)):Cx K:={aK with mode:=aF .plain [(189,.plain),(134,.plain)],call:=callOf D [Hw M.wI,HA (M.wK cg)],loop:=aE []}
theorem adU(cg:M.aa->(List Int)->Option (Bool))(iN:(jW cg).Ok D Tryz.prog):aD (Qk cg):=aL ak _ (ai adM (ai (adT cg iN) (ax)))
theorem adV(cg:M.aa->(List Int)->Option (Bool))(iN:(jW cg).Ok D Tryz.prog):(jW (M.zP cg)).Ok D Tryz.prog:=
 aI (cx:=Qk cg) (c:=jW (M.zP cg)) (fz:=true) (fn:=Tryz.f177) ak (adU cg iN) ay ⟨Tryz.func177,by kernel_rfl⟩ (aJ (aG (by kernel_rfl))) ⟨⟨[.bool],[]⟩,fun x=>x.1.1⟩ (fun x=>rfl) (fun x=>by kernel_rfl)
theorem Ql:∀n,(jW (M.nI n)).Ok D Tryz.prog
 |0=>ez fun _=>rfl
 |n+1=>adV (M.nI n) (Ql n)
theorem adW:(jW (M.ug)).Ok D Tryz.prog:=Ql ah
def Qm(cb:M.aa->Option (Bool)):Cx K:={aK with mode:=aF .plain [(134,.plain),(133,.plain),(174,.plain),(175,.plain),(176,.plain),(152,.plain),(138,.plain),(177,.plain)],call:=callOf D [He (M.ub cb),rB M.rC,Hk M.wG,CX M.rE,Ht M.pL,zK M.zL,wB M.wC,jW M.ug],loop:=aE []}
theorem adX(cb:M.aa->Option (Bool))(iM:(jV cb).Ok D Tryz.prog):aD (Qm cb):=aL ak _ (ai (adk cb iM) (ai wA (ai ady (ai PW (ai adH (ai Hm (ai CW (ai adW (ax)))))))))
theorem adY(cb:M.aa->Option (Bool))(iM:(jV cb).Ok D Tryz.prog):(jV (M.wL cb)).Ok D Tryz.prog:=
 aI (cx:=Qm cb) (c:=jV (M.wL cb)) (fz:=true) (fn:=Tryz.f164) ak (adX cb iM) ay ⟨Tryz.func164,by kernel_rfl⟩ (aJ (aG (by kernel_rfl))) ⟨⟨[.bool],[]⟩,fun x=>x.1.1⟩ (fun x=>rfl) (fun x=>by kernel_rfl)
theorem Qn:∀n,(jV (M.pM n)).Ok D Tryz.prog
 |0=>ez fun _=>rfl
 |n+1=>adY (M.pM n) (Qn n)
theorem adZ:(jV (M.C6)).Ok D Tryz.prog:=Qn ah
def HB(m:M.aa->Option (Bool)):aC K:={f:=121,sh:=⟨[.el U.Type],[]⟩,R:=Bool,run:=fun x=>m x.1.1,dflt:=default,out:=fun r=>(Sh.enc D (.bool) r,az.encs D [] ())}
def Qo:Cx K:={aK with mode:=aF .plain [(156,.plain),(157,.plain)],call:=callOf D [pF M.CG,pI M.CO],loop:=aE []}
theorem ad1:aD (Qo):=aL ak _ (ai acH (ai ac2 (ax)))
theorem ad2:(HB (M.wM)).Ok D Tryz.prog:=
 aI (cx:=Qo) (c:=HB (M.wM)) (fz:=true) (fn:=Tryz.f121) ak (ad1) ay ⟨Tryz.func121,by kernel_rfl⟩ (aJ (aG (by kernel_rfl))) ⟨⟨[.bool],[]⟩,fun x=>x.1.1⟩ (fun x=>rfl) (fun x=>by kernel_rfl)
def HC(m:M.aa->Option (Bool)):aC K:={f:=78,sh:=⟨[.el U.Type],[]⟩,R:=Bool,run:=fun x=>m x.1.1,dflt:=default,out:=fun r=>(Sh.enc D (.bool) r,az.encs D [] ())}
def Qp:Cx K:={aK with mode:=aF .plain [(121,.plain)],call:=callOf D [HB M.wM],loop:=aE []}
theorem ad3:aD (Qp):=aL ak _ (ai ad2 (ax))
theorem ad4:(HC (M.wN)).Ok D Tryz.prog:=
 aI (cx:=Qp) (c:=HC (M.wN)) (fz:=true) (fn:=Tryz.f78) ak (ad3) ay ⟨Tryz.func78,by kernel_rfl⟩ (aJ (aG (by kernel_rfl))) ⟨⟨[.bool],[]⟩,fun x=>x.1.1⟩ (fun x=>rfl) (fun x=>by kernel_rfl)
def iO(m:M.ae->M.aa->Option (Bool)):aC K:={f:=79,sh:=⟨[.el U.Value,.el U.Type],[]⟩,R:=Bool,run:=fun x=>m x.1.1 x.1.2.1,dflt:=default,out:=fun r=>(Sh.enc D (.bool) r,az.encs D [] ())}
def HD(m:(List M.ae)->M.aa->Option (Bool)):aC K:={f:=126,sh:=⟨[.aj U.Value,.el U.Type],[]⟩,R:=Bool,run:=fun x=>m x.1.1 x.1.2.1,dflt:=default,out:=fun r=>(Sh.enc D (.bool) r,az.encs D [] ())}
def Qq(bq:M.ae->M.aa->Option (Bool)):Cx K:={aK with mode:=aF .plain [(79,.plain)],call:=callOf D [iO bq],loop:=aE []}
theorem ad5(bq:M.ae->M.aa->Option (Bool))(fS:(iO bq).Ok D Tryz.prog):aD (Qq bq):=aL ak _ (ai fS (ax))
theorem ad6(bq:M.ae->M.aa->Option (Bool))(fS:(iO bq).Ok D Tryz.prog):(HD (M.uh bq)).Ok D Tryz.prog:=
 aI (cx:=Qq bq) (c:=HD (M.uh bq)) (fz:=true) (fn:=Tryz.f126) ak (ad5 bq fS) ay ⟨Tryz.func126,by kernel_rfl⟩ (aJ (aG (by kernel_rfl))) ⟨⟨[.bool],[]⟩,fun x=>x.1.1⟩ (fun x=>rfl) (fun x=>by kernel_rfl)
def Qr(y:(Bool)⊕(Unit)){R:Type}(k:Ex->List (AV K)->List (Ob K)->R):R:=match y with
 |.inl a0=>k Ex.ret (aw.aW D ⟨[.bool],[.dead]⟩ ((a0,()),((),()))) (aw.aX D ⟨[.bool],[.dead]⟩ ((a0,()),((),())))
 |.inr (a1)=>k (Ex.exit 0) (aw.aW D ⟨[.any],[.dead]⟩ (((),()),((),()))) (aw.aX D ⟨[.any],[.dead]⟩ (((),()),((),())))
def ad7:List (bH K ((Bool)⊕(Unit))):=[⟨Ex.ret,⟨[.bool],[.dead]⟩,fun x=>.inl x.1.1⟩,⟨(Ex.exit 0),⟨[.any],[.dead]⟩,fun x=>.inr (())⟩]
def Qs(bq:M.ae->M.aa->Option (Bool)):bA K:=bJ D false 25 1 [0,5,7] [6] ⟨[.aj U.Value,.ptr 0 0,.int .i64],[.el U.Type]⟩ (fun x=>M.nJ bq x.1.1 ah x.1.2.2.1 x.2.1) Qr
def HE(m:(List M.ae)->Int->M.aa->Option (Bool)):aC K:={f:=122,sh:=⟨[.aj U.Value,.int .i64,.el U.Type],[]⟩,R:=Bool,run:=fun x=>m x.1.1 x.1.2.1 x.1.2.2.1,dflt:=default,out:=fun r=>(Sh.enc D (.bool) r,az.encs D [] ())}
def C7(bq:M.ae->M.aa->Option (Bool)):Cx K:={aK with mode:=aF .plain [(79,.plain)],call:=callOf D [iO bq],loop:=aE [(4,Qs bq)]}
theorem Qu(bq:M.ae->M.aa->Option (Bool))(fS:(iO bq).Ok D Tryz.prog):aD (C7 bq):=aL ak _ (ai fS (ax))
theorem ad8(bq:M.ae->M.aa->Option (Bool))(fS:(iO bq).Ok D Tryz.prog):bC (C7 bq) (bF (bI Tryz.f122) 0) (Qs bq):=
 bN (cx:=C7 bq) (n:=25) (n0:=1) (ins:=[0,5,7]) (outs:=[6]) (sh:=⟨[.aj U.Value,.ptr 0 0,.int .i64],[.el U.Type]⟩) (run:=fun n x=>M.nJ bq x.1.1 n x.1.2.2.1 x.2.1) (bG:=ad7) (out:=Qr) ak (Qu bq fS) ay (aG (by kernel_rfl)) (fun _=>rfl) (fun m x=>by kernel_rfl) (ai ⟨dj,fun _ _ _=>rfl⟩ (ai ⟨bP,fun _ _ _=>rfl⟩ (ax))) false ah
theorem ad9(bq:M.ae->M.aa->Option (Bool))(fS:(iO bq).Ok D Tryz.prog):(HE (M.ui bq)).Ok D Tryz.prog:=
 aI (cx:=C7 bq) (c:=HE (M.ui bq)) (fz:=true) (fn:=Tryz.f122) ak (Qu bq fS) ay ⟨Tryz.func122,by kernel_rfl⟩ (aJ (bQ 1 (by kernel_rfl) (bR (.mk (by kernel_rfl) (ad8 bq fS))))) ⟨⟨[.bool],[]⟩,fun x=>x.1.1⟩ (fun x=>rfl) (fun x=>by kernel_rfl)
def C9(m:Int->Option (Bool)):aC K:={f:=123,sh:=⟨[.int .i64],[]⟩,R:=Bool,run:=fun x=>m x.1.1,dflt:=default,out:=fun r=>(Sh.enc D (.bool) r,az.encs D [] ())}
def Qv:Cx K:={aK with mode:=aF .plain [(120,.plain)],call:=callOf D [rl M.rm],loop:=aE []}
theorem aea:aD (Qv):=aL ak _ (ai wi (ax))
theorem Qw:(C9 (M.jz)).Ok D Tryz.prog:=
 aI (cx:=Qv) (c:=C9 (M.jz)) (fz:=true) (fn:=Tryz.f123) ak (aea) ay ⟨Tryz.func123,by kernel_rfl⟩ (aJ (aG (by kernel_rfl))) ⟨⟨[.bool],[]⟩,fun x=>x.1.1⟩ (fun x=>rfl) (fun x=>by kernel_rfl)
def Qx(y:(List UInt8)×Int×Int){R:Type}(k:Ex->List (AV K)->List (Ob K)->R):R:=match y with
 |a0=>k (Ex.exit 1) (aw.aW D ⟨[.str,.int .i64,.int .i64],[]⟩ ((a0.1,(a0.2.1,(a0.2.2,()))),())) (aw.aX D ⟨[.str,.int .i64,.int .i64],[]⟩ ((a0.1,(a0.2.1,(a0.2.2,()))),()))
def aeb:List (bH K ((List UInt8)×Int×Int)):=[⟨(Ex.exit 1),⟨[.str,.int .i64,.int .i64],[]⟩,fun x=>(x.1.1,x.1.2.1,x.1.2.2.1)⟩]
def Qy:bA K:=bJ D false 66 0 [0,4,5,6] [0,4,5] ⟨[.str,.int .i64,.int .i64,.int .i64],[]⟩ (fun x=>M.rG x.1.1 x.1.2.1 ah x.1.2.2.1 x.1.2.2.2.1) Qx
def HG(m:Int->Option ((List UInt8))):aC K:={f:=185,sh:=⟨[.int .i64],[]⟩,R:=(List UInt8),run:=fun x=>m x.1.1,dflt:=default,out:=fun r=>(Sh.enc D (.str) r,az.encs D [] ())}
def Qz:Cx K:={aK with mode:=aF .plain [],call:=callOf D [],loop:=aE []}
theorem aec:aD (Qz):=aL ak _ (ax)
theorem aed:(HG (M.pN)).Ok D Tryz.prog:=
 aI (cx:=Qz) (c:=HG (M.pN)) (fz:=true) (fn:=Tryz.f185) ak (aec) ay ⟨Tryz.func185,by kernel_rfl⟩ (aJ (aG (by kernel_rfl))) ⟨⟨[.str],[]⟩,fun x=>x.1.1⟩ (fun x=>rfl) (fun x=>by kernel_rfl)
def HH(m:(List UInt8)->Option (Int×Int)):aC K:={f:=171,sh:=⟨[.str],[]⟩,R:=Int×Int,run:=fun x=>m x.1.1,dflt:=default,out:=fun r=>(Sh.enc D (.aV [.int .i64,.int .i64]) (r.1,(r.2,())),az.encs D [] ())}
def Da:Cx K:={aK with mode:=aF .plain [(123,.plain),(185,.plain)],call:=callOf D [C9 M.jz,HG M.pN],loop:=aE [(13,Qy)]}
theorem QA:aD (Da):=aL ak _ (ai Qw (ai aed (ax)))
theorem aee:bC (Da) (bF (bI Tryz.f171) 0) (Qy):=
 bN (cx:=Da) (n:=66) (n0:=0) (ins:=[0,4,5,6]) (outs:=[0,4,5]) (sh:=⟨[.str,.int .i64,.int .i64,.int .i64],[]⟩) (run:=fun n x=>M.rG x.1.1 x.1.2.1 n x.1.2.2.1 x.1.2.2.2.1) (bG:=aeb) (out:=Qx) ak (QA) ay (aG (by kernel_rfl)) (fun _=>rfl) (fun m x=>by kernel_rfl) (ai ⟨bP,fun _ _ _=>rfl⟩ (ax)) false ah
theorem aef:(HH (M.wO)).Ok D Tryz.prog:=
 aI (cx:=Da) (c:=HH (M.wO)) (fz:=true) (fn:=Tryz.f171) ak (QA) ay ⟨Tryz.func171,by kernel_rfl⟩ (aJ (bQ 1 (by kernel_rfl) (bR (.mk (by kernel_rfl) (aee))))) ⟨⟨[.aV [.int .i64,.int .i64]],[]⟩,fun x=>(x.1.1.1,x.1.1.2.1)⟩ (fun x=>rfl) (fun x=>by kernel_rfl)
def QB(y:(Bool×(List Int))⊕((List Int))){R:Type}(k:Ex->List (AV K)->List (Ob K)->R):R:=match y with
 |.inl a0=>k Ex.ret (aw.aW D ⟨[.any,.own 2,.bool],[.dead,.dead,.arr U.i64]⟩ (((),((),(a0.1,()))),((),((),(a0.2,()))))) (aw.aX D ⟨[.any,.own 2,.bool],[.dead,.dead,.arr U.i64]⟩ (((),((),(a0.1,()))),((),((),(a0.2,())))))
 |.inr (a1)=>k (Ex.exit 0) (aw.aW D ⟨[.own 1,.any,.any],[.dead,.arr U.i64]⟩ (((),((),((),()))),((),(a1,())))) (aw.aX D ⟨[.own 1,.any,.any],[.dead,.arr U.i64]⟩ (((),((),((),()))),((),(a1,()))))
def aeg:List (bH K ((Bool×(List Int))⊕((List Int)))):=[⟨Ex.ret,⟨[.any,.own 2,.bool],[.dead,.dead,.arr U.i64]⟩,fun x=>.inl (x.1.2.2.1,x.2.2.2.1)⟩,⟨(Ex.exit 0),⟨[.own 1,.any,.any],[.dead,.arr U.i64]⟩,fun x=>.inr (x.2.2.1)⟩]
def QC:bA K:=bJ D false 26 1 [0,4] [4,2,3] ⟨[.str,.own 1],[.dead,.arr U.i64]⟩ (fun x=>M.pO ah x.1.1 x.2.2.1) QB
def Db(m:(List UInt8)->Option ((List Int)×Bool)):aC K:={f:=158,sh:=⟨[.str],[]⟩,R:=(List Int)×Bool,run:=fun x=>m x.1.1,dflt:=default,out:=fun r=>(Sh.enc D (.aV [.aj U.i64,.bool]) (r.1,(r.2,())),az.encs D [] ())}
def Dc:Cx K:={aK with mode:=aF .plain [(171,.plain)],call:=callOf D [HH M.wO],loop:=aE [(2,QC)]}
theorem QD:aD (Dc):=aL ak _ (ai aef (ax))
theorem aeh:bC (Dc) (bF (bI Tryz.f158) 0) (QC):=
 bN (cx:=Dc) (n:=26) (n0:=1) (ins:=[0,4]) (outs:=[4,2,3]) (sh:=⟨[.str,.own 1],[.dead,.arr U.i64]⟩) (run:=fun n x=>M.pO n x.1.1 x.2.2.1) (bG:=aeg) (out:=QB) ak (QD) ay (aG (by kernel_rfl)) (fun _=>rfl) (fun m x=>by kernel_rfl) (ai ⟨dj,fun _ _ _=>rfl⟩ (ai ⟨bP,fun _ _ _=>rfl⟩ (ax))) false ah
theorem QE:(Db (M.nK)).Ok D Tryz.prog:=
 aI (cx:=Dc) (c:=Db (M.nK)) (fz:=true) (fn:=Tryz.f158) ak (QD) ay ⟨Tryz.func158,by kernel_rfl⟩ (aJ (bQ 1 (by kernel_rfl) (bR (.mk (by kernel_rfl) (aeh))))) ⟨⟨[.aV [.aj U.i64,.bool]],[]⟩,fun x=>(x.1.1.1,x.1.1.2.1)⟩ (fun x=>rfl) (fun x=>by kernel_rfl)
def HJ(m:(List UInt8)->Option (Bool)):aC K:={f:=124,sh:=⟨[.str],[]⟩,R:=Bool,run:=fun x=>m x.1.1,dflt:=default,out:=fun r=>(Sh.enc D (.bool) r,az.encs D [] ())}
def QF:Cx K:={aK with mode:=aF .plain [(158,.dA)],call:=callOf D [Db M.nK],loop:=aE []}
theorem aei:aD (QF):=aL ak _ (ai QE (ax))
theorem aej:(HJ (M.wP)).Ok D Tryz.prog:=
 aI (cx:=QF) (c:=HJ (M.wP)) (fz:=true) (fn:=Tryz.f124) ak (aei) ay ⟨Tryz.func124,by kernel_rfl⟩ (aJ (aG (by kernel_rfl))) ⟨⟨[.bool],[]⟩,fun x=>x.1.1⟩ (fun x=>rfl) (fun x=>by kernel_rfl)
def QG(y:(Bool)⊕(Unit)){R:Type}(k:Ex->List (AV K)->List (Ob K)->R):R:=match y with
 |.inl a0=>k Ex.ret (aw.aW D ⟨[.bool],[]⟩ ((a0,()),())) (aw.aX D ⟨[.bool],[]⟩ ((a0,()),()))
 |.inr (a1)=>k (Ex.exit 0) (aw.aW D ⟨[.any],[]⟩ (((),()),())) (aw.aX D ⟨[.any],[]⟩ (((),()),()))
def aek:List (bH K ((Bool)⊕(Unit))):=[⟨Ex.ret,⟨[.bool],[]⟩,fun x=>.inl x.1.1⟩,⟨(Ex.exit 0),⟨[.any],[]⟩,fun x=>.inr (())⟩]
def QH(bq:M.ae->M.aa->Option (Bool)):bA K:=bJ D false 27 0 [0,1,5] [4] ⟨[.aj U.Value,.aj U.Type,.int .i64],[]⟩ (fun x=>M.nL bq x.1.1 x.1.2.1 ah x.1.2.2.1) QG
def HK(m:(List M.ae)->(List M.aa)->Option (Bool)):aC K:={f:=68,sh:=⟨[.aj U.Value,.aj U.Type],[]⟩,R:=Bool,run:=fun x=>m x.1.1 x.1.2.1,dflt:=default,out:=fun r=>(Sh.enc D (.bool) r,az.encs D [] ())}
def Df(bq:M.ae->M.aa->Option (Bool)):Cx K:={aK with mode:=aF .plain [(79,.plain)],call:=callOf D [iO bq],loop:=aE [(4,QH bq)]}
theorem QI(bq:M.ae->M.aa->Option (Bool))(fS:(iO bq).Ok D Tryz.prog):aD (Df bq):=aL ak _ (ai fS (ax))
theorem ael(bq:M.ae->M.aa->Option (Bool))(fS:(iO bq).Ok D Tryz.prog):bC (Df bq) (bF (bI Tryz.f68) 0) (QH bq):=
 bN (cx:=Df bq) (n:=27) (n0:=0) (ins:=[0,1,5]) (outs:=[4]) (sh:=⟨[.aj U.Value,.aj U.Type,.int .i64],[]⟩) (run:=fun n x=>M.nL bq x.1.1 x.1.2.1 n x.1.2.2.1) (bG:=aek) (out:=QG) ak (QI bq fS) ay (aG (by kernel_rfl)) (fun _=>rfl) (fun m x=>by kernel_rfl) (ai ⟨dj,fun _ _ _=>rfl⟩ (ai ⟨bP,fun _ _ _=>rfl⟩ (ax))) false ah
theorem aem(bq:M.ae->M.aa->Option (Bool))(fS:(iO bq).Ok D Tryz.prog):(HK (M.wQ bq)).Ok D Tryz.prog:=
 aI (cx:=Df bq) (c:=HK (M.wQ bq)) (fz:=true) (fn:=Tryz.f68) ak (QI bq fS) ay ⟨Tryz.func68,by kernel_rfl⟩ (aJ (bQ 1 (by kernel_rfl) (bR (.mk (by kernel_rfl) (ael bq fS))))) ⟨⟨[.bool],[]⟩,fun x=>x.1.1⟩ (fun x=>rfl) (fun x=>by kernel_rfl)
def HL(m:Int->Option (Int×Int×Bool)):aC K:={f:=125,sh:=⟨[.int .i64],[]⟩,R:=Int×Int×Bool,run:=fun x=>m x.1.1,dflt:=default,out:=fun r=>(Sh.enc D (.aV [.int .i64,.int .i64,.bool]) (r.1,(r.2.1,(r.2.2,()))),az.encs D [] ())}
def QJ:Cx K:={aK with mode:=aF .plain [],call:=callOf D [],loop:=aE []}
theorem aen:aD (QJ):=aL ak _ (ax)
theorem aeo:(HL (M.zQ)).Ok D Tryz.prog:=
 aI (cx:=QJ) (c:=HL (M.zQ)) (fz:=true) (fn:=Tryz.f125) ak (aen) ay ⟨Tryz.func125,by kernel_rfl⟩ (aJ (aG (by kernel_rfl))) ⟨⟨[.aV [.int .i64,.int .i64,.bool]],[]⟩,fun x=>(x.1.1.1,x.1.1.2.1,x.1.1.2.2.1)⟩ (fun x=>rfl) (fun x=>by kernel_rfl)
def QK(bq:M.ae->M.aa->Option (Bool)):Cx K:={aK with mode:=aF .plain [(122,.plain),(123,.plain),(124,.plain),(68,.plain),(125,.plain),(120,.plain),(126,.plain)],call:=callOf D [rl M.rm,HD (M.uh bq),HE (M.ui bq),C9 M.jz,HJ M.wP,HK (M.wQ bq),HL M.zQ],loop:=aE []}
theorem aep(bq:M.ae->M.aa->Option (Bool))(fS:(iO bq).Ok D Tryz.prog):aD (QK bq):=aL ak _ (ai wi (ai (ad6 bq fS) (ai (ad9 bq fS) (ai Qw (ai aej (ai (aem bq fS) (ai aeo (ax))))))))
theorem aeq(bq:M.ae->M.aa->Option (Bool))(fS:(iO bq).Ok D Tryz.prog):(iO (M.pP bq)).Ok D Tryz.prog:=
 aI (cx:=QK bq) (c:=iO (M.pP bq)) (fz:=true) (fn:=Tryz.f79) ak (aep bq fS) ay ⟨Tryz.func79,by kernel_rfl⟩ (aJ (aG (by kernel_rfl))) ⟨⟨[.bool],[]⟩,fun x=>x.1.1⟩ (fun x=>rfl) (fun x=>by kernel_rfl)
theorem QL:∀n,(iO (M.uj n)).Ok D Tryz.prog
 |0=>ez fun _=>rfl
 |n+1=>aeq (M.uj n) (QL n)
theorem aer:(iO (M.Dh)).Ok D Tryz.prog:=QL ah
def HM(m:M.aa->Option (Bool)):aC K:={f:=136,sh:=⟨[.el U.Type],[]⟩,R:=Bool,run:=fun x=>m x.1.1,dflt:=default,out:=fun r=>(Sh.enc D (.bool) r,az.encs D [] ())}
def QM:Cx K:={aK with mode:=aF .plain [(162,.plain),(163,.plain),(164,.plain)],call:=callOf D [pJ M.CQ,pK M.CU,jV M.C6],loop:=aE []}
theorem aes:aD (QM):=aL ak _ (ai ac6 (ai ada (ai adZ (ax))))
theorem aet:(HM (M.wR)).Ok D Tryz.prog:=
 aI (cx:=QM) (c:=HM (M.wR)) (fz:=true) (fn:=Tryz.f136) ak (aes) ay ⟨Tryz.func136,by kernel_rfl⟩ (aJ (aG (by kernel_rfl))) ⟨⟨[.bool],[]⟩,fun x=>x.1.1⟩ (fun x=>rfl) (fun x=>by kernel_rfl)
def Di(m:(List M.ae)->Option (Int)):aC K:={f:=150,sh:=⟨[.aj U.Value],[]⟩,R:=Int,run:=fun x=>m x.1.1,dflt:=default,out:=fun r=>(Sh.enc D (.int .i64) r,az.encs D [] ())}
def QN:Cx K:={aK with mode:=aF .plain [],call:=callOf D [],loop:=aE []}
theorem aeu:aD (QN):=aL ak _ (ax)
theorem QO:(Di (M.Dj)).Ok D Tryz.prog:=
 aI (cx:=QN) (c:=Di (M.Dj)) (fz:=true) (fn:=Tryz.f150) ak (aeu) ay ⟨Tryz.func150,by kernel_rfl⟩ (aJ (aG (by kernel_rfl))) ⟨⟨[.int .i64],[]⟩,fun x=>x.1.1⟩ (fun x=>rfl) (fun x=>by kernel_rfl)
def Dk(m:Int->Option (Int×Int×Bool)):aC K:={f:=108,sh:=⟨[.int .i64],[]⟩,R:=Int×Int×Bool,run:=fun x=>m x.1.1,dflt:=default,out:=fun r=>(Sh.enc D (.aV [.int .i64,.int .i64,.bool]) (r.1,(r.2.1,(r.2.2,()))),az.encs D [] ())}
def QP:Cx K:={aK with mode:=aF .plain [],call:=callOf D [],loop:=aE []}
theorem aev:aD (QP):=aL ak _ (ax)
theorem QQ:(Dk (M.nM)).Ok D Tryz.prog:=
 aI (cx:=QP) (c:=Dk (M.nM)) (fz:=true) (fn:=Tryz.f108) ak (aev) ay ⟨Tryz.func108,by kernel_rfl⟩ (aJ (aG (by kernel_rfl))) ⟨⟨[.aV [.int .i64,.int .i64,.bool]],[]⟩,fun x=>(x.1.1.1,x.1.1.2.1,x.1.1.2.2.1)⟩ (fun x=>rfl) (fun x=>by kernel_rfl)
def HN(m:Int->Option (Bool)):aC K:={f:=137,sh:=⟨[.int .i64],[]⟩,R:=Bool,run:=fun x=>m x.1.1,dflt:=default,out:=fun r=>(Sh.enc D (.bool) r,az.encs D [] ())}
def QR:Cx K:={aK with mode:=aF .plain [(133,.plain)],call:=callOf D [rB M.rC],loop:=aE []}
theorem aew:aD (QR):=aL ak _ (ai wA (ax))
theorem aex:(HN (M.Dl)).Ok D Tryz.prog:=
 aI (cx:=QR) (c:=HN (M.Dl)) (fz:=true) (fn:=Tryz.f137) ak (aew) ay ⟨Tryz.func137,by kernel_rfl⟩ (aJ (aG (by kernel_rfl))) ⟨⟨[.bool],[]⟩,fun x=>x.1.1⟩ (fun x=>rfl) (fun x=>by kernel_rfl)
def HO(m:M.ae->M.aa->Option (Bool)):aC K:={f:=91,sh:=⟨[.el U.Value,.el U.Type],[]⟩,R:=Bool,run:=fun x=>m x.1.1 x.1.2.1,dflt:=default,out:=fun r=>(Sh.enc D (.bool) r,az.encs D [] ())}
def QS:Cx K:={aK with mode:=aF .plain [(108,.plain),(137,.plain),(138,.plain),(133,.plain)],call:=callOf D [rB M.rC,Dk M.nM,HN M.Dl,wB M.wC],loop:=aE []}
theorem aey:aD (QS):=aL ak _ (ai wA (ai QQ (ai aex (ai CW (ax)))))
theorem aez:(HO (M.wS)).Ok D Tryz.prog:=
 aI (cx:=QS) (c:=HO (M.wS)) (fz:=true) (fn:=Tryz.f91) ak (aey) ay ⟨Tryz.func91,by kernel_rfl⟩ (aJ (aG (by kernel_rfl))) ⟨⟨[.bool],[]⟩,fun x=>x.1.1⟩ (fun x=>rfl) (fun x=>by kernel_rfl)
def HQ(m:(List UInt8)->Option (Bool)):aC K:={f:=92,sh:=⟨[.str],[]⟩,R:=Bool,run:=fun x=>m x.1.1,dflt:=default,out:=fun r=>(Sh.enc D (.bool) r,az.encs D [] ())}
def QT:Cx K:={aK with mode:=aF .plain [(139,.plain)],call:=callOf D [HS M.rH],loop:=aE []}
theorem aeA:aD (QT):=aL ak _ (ai aeB (ax))
theorem aeC:(HQ (M.wT)).Ok D Tryz.prog:=
 aI (cx:=QT) (c:=HQ (M.wT)) (fz:=true) (fn:=Tryz.f92) ak (aeA) ay ⟨Tryz.func92,by kernel_rfl⟩ (aJ (aG (by kernel_rfl))) ⟨⟨[.bool],[]⟩,fun x=>x.1.1⟩ (fun x=>rfl) (fun x=>by kernel_rfl)
def zR(m:M.aa->Int->Option (M.aa×Bool)):aC K:={f:=102,sh:=⟨[.el U.Type,.int .i64],[]⟩,R:=M.aa×Bool,run:=fun x=>m x.1.1 x.1.2.1,dflt:=default,out:=fun r=>(Sh.enc D (.aV [.el U.Type,.bool]) (r.1,(r.2,())),az.encs D [] ())}
def QU:Cx K:={aK with mode:=aF .plain [(152,.plain),(133,.plain)],call:=callOf D [zK M.zL,rB M.rC],loop:=aE []}
theorem aeD:aD (QU):=aL ak _ (ai Hm (ai wA (ax)))
theorem HT:(zR (M.lh)).Ok D Tryz.prog:=
 aI (cx:=QU) (c:=zR (M.lh)) (fz:=true) (fn:=Tryz.f102) ak (aeD) ay ⟨Tryz.func102,by kernel_rfl⟩ (aJ (aG (by kernel_rfl))) ⟨⟨[.aV [.el U.Type,.bool]],[]⟩,fun x=>(x.1.1.1,x.1.1.2.1)⟩ (fun x=>rfl) (fun x=>by kernel_rfl)
def HU(m:M.ae->M.aa->Option ((List M.aa)×Bool)):aC K:={f:=93,sh:=⟨[.el U.Value,.el U.Type],[]⟩,R:=(List M.aa)×Bool,run:=fun x=>m x.1.1 x.1.2.1,dflt:=default,out:=fun r=>(Sh.enc D (.aV [.aj U.Type,.bool]) (r.1,(r.2,())),az.encs D [] ())}
def QV:Cx K:={aK with mode:=aF .plain [(140,.dA),(102,.dA),(141,.plain)],call:=callOf D [HV M.rI,zR M.lh,C0 M.C2],loop:=aE []}
theorem aeE:aD (QV):=aL ak _ (ai aeF (ai HT (ai P5 (ax))))
theorem aeG:(HU (M.wU)).Ok D Tryz.prog:=
 aI (cx:=QV) (c:=HU (M.wU)) (fz:=true) (fn:=Tryz.f93) ak (aeE) ay ⟨Tryz.func93,by kernel_rfl⟩ (aJ (aG (by kernel_rfl))) ⟨⟨[.aV [.aj U.Type,.bool]],[]⟩,fun x=>(x.1.1.1,x.1.1.2.1)⟩ (fun x=>rfl) (fun x=>by kernel_rfl)
def pQ(m:M.ae->M.aa->Option (Bool)):aC K:={f:=50,sh:=⟨[.el U.Value,.el U.Type],[]⟩,R:=Bool,run:=fun x=>m x.1.1 x.1.2.1,dflt:=default,out:=fun r=>(Sh.enc D (.bool) r,az.encs D [] ())}
def QW(y:(Bool)⊕(Unit)){R:Type}(k:Ex->List (AV K)->List (Ob K)->R):R:=match y with
 |.inl a0=>k Ex.ret (aw.aW D ⟨[.bool],[]⟩ ((a0,()),())) (aw.aX D ⟨[.bool],[]⟩ ((a0,()),()))
 |.inr (a1)=>k (Ex.exit 0) (aw.aW D ⟨[.any],[]⟩ (((),()),())) (aw.aX D ⟨[.any],[]⟩ (((),()),()))
def aeH:List (bH K ((Bool)⊕(Unit))):=[⟨Ex.ret,⟨[.bool],[]⟩,fun x=>.inl x.1.1⟩,⟨(Ex.exit 0),⟨[.any],[]⟩,fun x=>.inr (())⟩]
def QX(eO:M.ae->M.aa->Option (Bool)):bA K:=bJ D false 68 0 [5,53,54,55] [4] ⟨[.aj U.Type,.aj U.Value,.int .i64,.int .i64],[]⟩ (fun x=>M.nN eO x.1.1 x.1.2.1 x.1.2.2.1 ah x.1.2.2.2.1) QW
def Dm(eO:M.ae->M.aa->Option (Bool)):Cx K:={aK with mode:=aF .plain [(91,.plain),(92,.plain),(93,.dA),(50,.plain)],call:=callOf D [HO M.wS,HQ M.wT,HU M.wU,pQ eO],loop:=aE [(7,QX eO)]}
theorem QY(eO:M.ae->M.aa->Option (Bool))(wV:(pQ eO).Ok D Tryz.prog):aD (Dm eO):=aL ak _ (ai aez (ai aeC (ai aeG (ai wV (ax)))))
theorem aeI(eO:M.ae->M.aa->Option (Bool))(wV:(pQ eO).Ok D Tryz.prog):bC (Dm eO) (bF (bI Tryz.f50) 0) (QX eO):=
 bN (cx:=Dm eO) (n:=68) (n0:=0) (ins:=[5,53,54,55]) (outs:=[4]) (sh:=⟨[.aj U.Type,.aj U.Value,.int .i64,.int .i64],[]⟩) (run:=fun n x=>M.nN eO x.1.1 x.1.2.1 x.1.2.2.1 n x.1.2.2.2.1) (bG:=aeH) (out:=QW) ak (QY eO wV) ay (aG (by kernel_rfl)) (fun _=>rfl) (fun m x=>by kernel_rfl) (ai ⟨dj,fun _ _ _=>rfl⟩ (ai ⟨bP,fun _ _ _=>rfl⟩ (ax))) false ah
theorem aeJ(eO:M.ae->M.aa->Option (Bool))(wV:(pQ eO).Ok D Tryz.prog):(pQ (M.zS eO)).Ok D Tryz.prog:=
 aI (cx:=Dm eO) (c:=pQ (M.zS eO)) (fz:=true) (fn:=Tryz.f50) ak (QY eO wV) ay ⟨Tryz.func50,by kernel_rfl⟩ (aJ (bQ 1 (by kernel_rfl) (bR (.mk (by kernel_rfl) (aeI eO wV))))) ⟨⟨[.bool],[]⟩,fun x=>x.1.1⟩ (fun x=>rfl) (fun x=>by kernel_rfl)
theorem QZ:∀n,(pQ (M.nO n)).Ok D Tryz.prog
 |0=>ez fun _=>rfl
 |n+1=>aeJ (M.nO n) (QZ n)
theorem aeK:(pQ (M.zT)).Ok D Tryz.prog:=QZ ah
def Q0(y:(List UInt8)){R:Type}(k:Ex->List (AV K)->List (Ob K)->R):R:=match y with
 |a0=>k (Ex.exit 0) (aw.aW D ⟨[.str],[]⟩ ((a0,()),())) (aw.aX D ⟨[.str],[]⟩ ((a0,()),()))
def aeL:List (bH K ((List UInt8))):=[⟨(Ex.exit 0),⟨[.str],[]⟩,fun x=>x.1.1⟩]
def Q1:bA K:=bJ D false 20 0 [0,3] [3] ⟨[.int .i64,.str],[]⟩ (fun x=>M.uk ah x.1.1 x.1.2.1) Q0
def zU(m:Int->Option ((List UInt8))):aC K:={f:=75,sh:=⟨[.int .i64],[]⟩,R:=(List UInt8),run:=fun x=>m x.1.1,dflt:=default,out:=fun r=>(Sh.enc D (.str) r,az.encs D [] ())}
def Dn:Cx K:={aK with mode:=aF .plain [],deep:=fun c=>dy (D.cells c (K.zero c)),call:=callOf D [],loop:=aE [(4,Q1)]}
theorem Q2:aD (Dn):=aL ak _ (ax)
theorem aeM:bC (Dn) (bF (bI Tryz.f75) 0) (Q1):=
 bN (cx:=Dn) (n:=20) (n0:=0) (ins:=[0,3]) (outs:=[3]) (sh:=⟨[.int .i64,.str],[]⟩) (run:=fun n x=>M.uk n x.1.1 x.1.2.1) (bG:=aeL) (out:=Q0) ak (Q2) ay (aG (by kernel_rfl)) (fun _=>rfl) (fun m x=>by kernel_rfl) (ai ⟨bP,fun _ _ _=>rfl⟩ (ax)) false ah
theorem HW:(zU (M.lZ)).Ok D Tryz.prog:=
 aI (cx:=Dn) (c:=zU (M.lZ)) (fz:=true) (fn:=Tryz.f75) ak (Q2) ay ⟨Tryz.func75,by kernel_rfl⟩ (aJ (bQ 1 (by kernel_rfl) (bR (.mk (by kernel_rfl) (aeM))))) ⟨⟨[.str],[]⟩,fun x=>x.1.1⟩ (fun x=>rfl) (fun x=>by kernel_rfl)
def Q3(y:Int×(List (List UInt8))){R:Type}(k:Ex->List (AV K)->List (Ob K)->R):R:=match y with
 |a0=>k (Ex.exit 0) (aw.aW D ⟨[.int .i64],[.arr U.str]⟩ ((a0.1,()),(a0.2,()))) (aw.aX D ⟨[.int .i64],[.arr U.str]⟩ ((a0.1,()),(a0.2,())))
def aeN:List (bH K (Int×(List (List UInt8)))):=[⟨(Ex.exit 0),⟨[.int .i64],[.arr U.str]⟩,fun x=>(x.1.1,x.2.1)⟩]
def Q4:bA K:=bJ D true 20 1 [0,1,5] [1] ⟨[.own 0,.int .i64,.int .i64],[.arr U.str]⟩ (fun x=>M.um ah x.1.2.1 x.1.2.2.1 x.2.1) Q3
def HY(m:Int->(List (List UInt8))->Option (Int×(List (List UInt8)))):aC K:={f:=58,sh:=⟨[.own 0,.int .i64],[.arr U.str]⟩,R:=Int×(List (List UInt8)),run:=fun x=>m x.1.2.1 x.2.1,dflt:=default,out:=fun r=>(Sh.enc D (.int .i64) r.1,az.encs D [.arr U.str] (r.2,()))}
def Dp:Cx K:={aK with mode:=aF .plain [(75,.plain)],deep:=fun c=>dy (D.cells c (K.zero c)),opn:=true,call:=callOf D [zU M.lZ],loop:=aE [(2,Q4)]}
theorem Q5:aD (Dp):=aL ak _ (ai HW (ax))
theorem aeO:bC (Dp) (bF (bI Tryz.f58) 0) (Q4):=
 bN (cx:=Dp) (n:=20) (n0:=1) (ins:=[0,1,5]) (outs:=[1]) (sh:=⟨[.own 0,.int .i64,.int .i64],[.arr U.str]⟩) (run:=fun n x=>M.um n x.1.2.1 x.1.2.2.1 x.2.1) (bG:=aeN) (out:=Q3) ak (Q5) ay (aG (by kernel_rfl)) (fun _=>rfl) (fun m x=>by kernel_rfl) (ai ⟨bP,fun _ _ _=>rfl⟩ (ax)) true ah
theorem aeP:(HY (M.wW)).Ok D Tryz.prog:=
 aI (cx:=Dp) (c:=HY (M.wW)) (fz:=true) (fn:=Tryz.f58) ak (Q5) ay ⟨Tryz.func58,by kernel_rfl⟩ (aJ (bQ 1 (by kernel_rfl) (bR (.mk (by kernel_rfl) (aeO))))) ⟨⟨[.int .i64],[.arr U.str]⟩,fun x=>(x.1.1,x.2.1)⟩ (fun x=>rfl) (fun x=>by kernel_rfl)
def pR(m:Int->(List M.aa)->Option (Int×(List M.aa))):aC K:={f:=37,sh:=⟨[.own 0,.int .i64],[.tree U.Type]⟩,R:=Int×(List M.aa),run:=fun x=>m x.1.2.1 x.2.1,dflt:=default,out:=fun r=>(Sh.enc D (.int .i64) r.1,az.encs D [.tree U.Type] (r.2,()))}
def Q6(y:Int×(List M.aa)){R:Type}(k:Ex->List (AV K)->List (Ob K)->R):R:=match y with
 |a0=>k (Ex.exit 0) (aw.aW D ⟨[.int .i64],[.tree U.Type]⟩ ((a0.1,()),(a0.2,()))) (aw.aX D ⟨[.int .i64],[.tree U.Type]⟩ ((a0.1,()),(a0.2,())))
def aeQ:List (bH K (Int×(List M.aa))):=[⟨(Ex.exit 0),⟨[.int .i64],[.tree U.Type]⟩,fun x=>(x.1.1,x.2.1)⟩]
def Q7(fg:Int->(List M.aa)->Option (Int×(List M.aa))):bA K:=bJ D true 42 1 [0,1,5] [1] ⟨[.own 0,.int .i64,.int .i64],[.tree U.Type]⟩ (fun x=>M.uo fg ah x.1.2.1 x.1.2.2.1 x.2.1) Q6
def Dq(fg:Int->(List M.aa)->Option (Int×(List M.aa))):Cx K:={aK with mode:=aF .plain [(75,.plain),(58,.pass),(37,.pass)],deep:=fun c=>dy (D.cells c (K.zero c)),opn:=true,call:=callOf D [zU M.lZ,HY M.wW,pR fg],loop:=aE [(2,Q7 fg)]}
theorem Q8(fg:Int->(List M.aa)->Option (Int×(List M.aa)))(wX:(pR fg).Ok D Tryz.prog):aD (Dq fg):=aL ak _ (ai HW (ai aeP (ai wX (ax))))
theorem aeR(fg:Int->(List M.aa)->Option (Int×(List M.aa)))(wX:(pR fg).Ok D Tryz.prog):bC (Dq fg) (bF (bI Tryz.f37) 0) (Q7 fg):=
 bN (cx:=Dq fg) (n:=42) (n0:=1) (ins:=[0,1,5]) (outs:=[1]) (sh:=⟨[.own 0,.int .i64,.int .i64],[.tree U.Type]⟩) (run:=fun n x=>M.uo fg n x.1.2.1 x.1.2.2.1 x.2.1) (bG:=aeQ) (out:=Q6) ak (Q8 fg wX) ay (aG (by kernel_rfl)) (fun _=>rfl) (fun m x=>by kernel_rfl) (ai ⟨bP,fun _ _ _=>rfl⟩ (ax)) true ah
theorem aeS(fg:Int->(List M.aa)->Option (Int×(List M.aa)))(wX:(pR fg).Ok D Tryz.prog):(pR (M.zV fg)).Ok D Tryz.prog:=
 aI (cx:=Dq fg) (c:=pR (M.zV fg)) (fz:=true) (fn:=Tryz.f37) ak (Q8 fg wX) ay ⟨Tryz.func37,by kernel_rfl⟩ (aJ (bQ 1 (by kernel_rfl) (bR (.mk (by kernel_rfl) (aeR fg wX))))) ⟨⟨[.int .i64],[.tree U.Type]⟩,fun x=>(x.1.1,x.2.1)⟩ (fun x=>rfl) (fun x=>by kernel_rfl)
theorem Q9:∀n,(pR (M.uu n)).Ok D Tryz.prog
 |0=>ez fun _=>rfl
 |n+1=>aeS (M.uu n) (Q9 n)
theorem aeT:(pR (M.Ds)).Ok D Tryz.prog:=Q9 ah
def pS(m:Int->(List M.ae)->Option (Int×(List M.ae))):aC K:={f:=38,sh:=⟨[.own 0,.int .i64],[.tree U.Value]⟩,R:=Int×(List M.ae),run:=fun x=>m x.1.2.1 x.2.1,dflt:=default,out:=fun r=>(Sh.enc D (.int .i64) r.1,az.encs D [.tree U.Value] (r.2,()))}
def Rb(y:Int×(List M.ae)){R:Type}(k:Ex->List (AV K)->List (Ob K)->R):R:=match y with
 |a0=>k (Ex.exit 0) (aw.aW D ⟨[.int .i64],[.tree U.Value]⟩ ((a0.1,()),(a0.2,()))) (aw.aX D ⟨[.int .i64],[.tree U.Value]⟩ ((a0.1,()),(a0.2,())))
def aeU:List (bH K (Int×(List M.ae))):=[⟨(Ex.exit 0),⟨[.int .i64],[.tree U.Value]⟩,fun x=>(x.1.1,x.2.1)⟩]
def Re(fh:Int->(List M.ae)->Option (Int×(List M.ae))):bA K:=bJ D true 42 1 [0,1,5] [1] ⟨[.own 0,.int .i64,.int .i64],[.tree U.Value]⟩ (fun x=>M.uv fh ah x.1.2.1 x.1.2.2.1 x.2.1) Rb
def Dt(fh:Int->(List M.ae)->Option (Int×(List M.ae))):Cx K:={aK with mode:=aF .plain [(75,.plain),(38,.pass)],deep:=fun c=>dy (D.cells c (K.zero c)),opn:=true,call:=callOf D [zU M.lZ,pS fh],loop:=aE [(2,Re fh)]}
theorem Rf(fh:Int->(List M.ae)->Option (Int×(List M.ae)))(wY:(pS fh).Ok D Tryz.prog):aD (Dt fh):=aL ak _ (ai HW (ai wY (ax)))
theorem aeV(fh:Int->(List M.ae)->Option (Int×(List M.ae)))(wY:(pS fh).Ok D Tryz.prog):bC (Dt fh) (bF (bI Tryz.f38) 0) (Re fh):=
 bN (cx:=Dt fh) (n:=42) (n0:=1) (ins:=[0,1,5]) (outs:=[1]) (sh:=⟨[.own 0,.int .i64,.int .i64],[.tree U.Value]⟩) (run:=fun n x=>M.uv fh n x.1.2.1 x.1.2.2.1 x.2.1) (bG:=aeU) (out:=Rb) ak (Rf fh wY) ay (aG (by kernel_rfl)) (fun _=>rfl) (fun m x=>by kernel_rfl) (ai ⟨bP,fun _ _ _=>rfl⟩ (ax)) true ah
theorem aeW(fh:Int->(List M.ae)->Option (Int×(List M.ae)))(wY:(pS fh).Ok D Tryz.prog):(pS (M.zW fh)).Ok D Tryz.prog:=
 aI (cx:=Dt fh) (c:=pS (M.zW fh)) (fz:=true) (fn:=Tryz.f38) ak (Rf fh wY) ay ⟨Tryz.func38,by kernel_rfl⟩ (aJ (bQ 1 (by kernel_rfl) (bR (.mk (by kernel_rfl) (aeV fh wY))))) ⟨⟨[.int .i64],[.tree U.Value]⟩,fun x=>(x.1.1,x.2.1)⟩ (fun x=>rfl) (fun x=>by kernel_rfl)
theorem Rh:∀n,(pS (M.uw n)).Ok D Tryz.prog
 |0=>ez fun _=>rfl
 |n+1=>aeW (M.uw n) (Rh n)
theorem aeX:(pS (M.Du)).Ok D Tryz.prog:=Rh ah
def mI(m:M.ae->Int->Option (Int)):aC K:={f:=9,sh:=⟨[.el U.Value,.int .i64],[]⟩,R:=Int,run:=fun x=>m x.1.1 x.1.2.1,dflt:=default,out:=fun r=>(Sh.enc D (.int .i64) r,az.encs D [] ())}
def Ri(y:(Int)⊕(Int)){R:Type}(k:Ex->List (AV K)->List (Ob K)->R):R:=match y with
 |.inl a0=>k Ex.ret (aw.aW D ⟨[.any,.int .i64],[]⟩ (((),(a0,())),())) (aw.aX D ⟨[.any,.int .i64],[]⟩ (((),(a0,())),()))
 |.inr (a1)=>k (Ex.exit 0) (aw.aW D ⟨[.int .i64,.any],[]⟩ ((a1,((),())),())) (aw.aX D ⟨[.int .i64,.any],[]⟩ ((a1,((),())),()))
def aeY:List (bH K ((Int)⊕(Int))):=[⟨Ex.ret,⟨[.any,.int .i64],[]⟩,fun x=>.inl x.1.2.1⟩,⟨(Ex.exit 0),⟨[.int .i64,.any],[]⟩,fun x=>.inr (x.1.1)⟩]
def Rj(df:M.ae->Int->Option (Int)):bA K:=bJ D false 27 0 [0,1,5] [1,4] ⟨[.aj U.Value,.int .i64,.int .i64],[]⟩ (fun x=>M.pT df x.1.1 ah x.1.2.1 x.1.2.2.1) Ri
def HZ(m:(List M.ae)->Int->Option (Int)):aC K:={f:=30,sh:=⟨[.aj U.Value,.int .i64],[]⟩,R:=Int,run:=fun x=>m x.1.1 x.1.2.1,dflt:=default,out:=fun r=>(Sh.enc D (.int .i64) r,az.encs D [] ())}
def Dv(df:M.ae->Int->Option (Int)):Cx K:={aK with mode:=aF .plain [(9,.plain)],call:=callOf D [mI df],loop:=aE [(5,Rj df)]}
theorem Rk(df:M.ae->Int->Option (Int))(nP:(mI df).Ok D Tryz.prog):aD (Dv df):=aL ak _ (ai nP (ax))
theorem aeZ(df:M.ae->Int->Option (Int))(nP:(mI df).Ok D Tryz.prog):bC (Dv df) (bF (bI Tryz.f30) 0) (Rj df):=
 bN (cx:=Dv df) (n:=27) (n0:=0) (ins:=[0,1,5]) (outs:=[1,4]) (sh:=⟨[.aj U.Value,.int .i64,.int .i64],[]⟩) (run:=fun n x=>M.pT df x.1.1 n x.1.2.1 x.1.2.2.1) (bG:=aeY) (out:=Ri) ak (Rk df nP) ay (aG (by kernel_rfl)) (fun _=>rfl) (fun m x=>by kernel_rfl) (ai ⟨dj,fun _ _ _=>rfl⟩ (ai ⟨bP,fun _ _ _=>rfl⟩ (ax))) false ah
theorem ae0(df:M.ae->Int->Option (Int))(nP:(mI df).Ok D Tryz.prog):(HZ (M.pU df)).Ok D Tryz.prog:=
 aI (cx:=Dv df) (c:=HZ (M.pU df)) (fz:=true) (fn:=Tryz.f30) ak (Rk df nP) ay ⟨Tryz.func30,by kernel_rfl⟩ (aJ (bQ 1 (by kernel_rfl) (bR (.mk (by kernel_rfl) (aeZ df nP))))) ⟨⟨[.int .i64],[]⟩,fun x=>x.1.1⟩ (fun x=>rfl) (fun x=>by kernel_rfl)
def Rl(df:M.ae->Int->Option (Int)):Cx K:={aK with mode:=aF .plain [(30,.plain)],call:=callOf D [HZ (M.pU df)],loop:=aE []}
theorem ae1(df:M.ae->Int->Option (Int))(nP:(mI df).Ok D Tryz.prog):aD (Rl df):=aL ak _ (ai (ae0 df nP) (ax))
theorem ae2(df:M.ae->Int->Option (Int))(nP:(mI df).Ok D Tryz.prog):(mI (M.zX df)).Ok D Tryz.prog:=
 aI (cx:=Rl df) (c:=mI (M.zX df)) (fz:=true) (fn:=Tryz.f9) ak (ae1 df nP) ay ⟨Tryz.func9,by kernel_rfl⟩ (aJ (aG (by kernel_rfl))) ⟨⟨[.int .i64],[]⟩,fun x=>x.1.1⟩ (fun x=>rfl) (fun x=>by kernel_rfl)
theorem Rm:∀n,(mI (M.ux n)).Ok D Tryz.prog
 |0=>ez fun _=>rfl
 |n+1=>ae2 (M.ux n) (Rm n)
theorem ae3:(mI (M.uy)).Ok D Tryz.prog:=Rm ah
def mJ(m:M.ae->Option (Int×Int×(List UInt8)×(List M.ae))):aC K:={f:=13,sh:=⟨[.el U.Value],[]⟩,R:=Int×Int×(List UInt8)×(List M.ae),run:=fun x=>m x.1.1,dflt:=default,out:=fun r=>(Sh.enc D (.agg [.int .i64,.int .i64,.str,.own 0]) (r.1,(r.2.1,(r.2.2.1,((),())))),az.encs D [.tree U.Value] (r.2.2.2,()))}
def Rn(y:(List M.ae)){R:Type}(k:Ex->List (AV K)->List (Ob K)->R):R:=match y with
 |a0=>k (Ex.exit 0) (aw.aW D ⟨[.own 1],[.dead,.tree U.Value]⟩ (((),()),((),(a0,())))) (aw.aX D ⟨[.own 1],[.dead,.tree U.Value]⟩ (((),()),((),(a0,()))))
def ae4:List (bH K ((List M.ae))):=[⟨(Ex.exit 0),⟨[.own 1],[.dead,.tree U.Value]⟩,fun x=>x.2.2.1⟩]
def Ro(dm:M.ae->Option (Int×Int×(List UInt8)×(List M.ae))):bA K:=bJ D false 23 1 [0,3,4] [3] ⟨[.aj U.Value,.own 1,.int .i64],[.dead,.tree U.Value]⟩ (fun x=>M.nQ dm x.1.1 ah x.1.2.2.1 x.2.2.1) Rn
def H3(m:(List M.ae)->Option ((List M.ae))):aC K:={f:=33,sh:=⟨[.aj U.Value],[]⟩,R:=(List M.ae),run:=fun x=>m x.1.1,dflt:=default,out:=fun r=>(Sh.enc D (.own 0) (),az.encs D [.tree U.Value] (r,()))}
def Dw(dm:M.ae->Option (Int×Int×(List UInt8)×(List M.ae))):Cx K:={aK with mode:=aF .plain [(13,.fresh)],fq:=[[some U.Value]],deep:=fun c=>dy (D.cells c (K.zero c)),call:=callOf D [mJ dm],loop:=aE [(3,Ro dm)]}
theorem Rq(dm:M.ae->Option (Int×Int×(List UInt8)×(List M.ae)))(nR:(mJ dm).Ok D Tryz.prog):aD (Dw dm):=aL ak _ (ai nR (ax))
theorem ae5(dm:M.ae->Option (Int×Int×(List UInt8)×(List M.ae)))(nR:(mJ dm).Ok D Tryz.prog):bC (Dw dm) (bF (bI Tryz.f33) 0) (Ro dm):=
 bN (cx:=Dw dm) (n:=23) (n0:=1) (ins:=[0,3,4]) (outs:=[3]) (sh:=⟨[.aj U.Value,.own 1,.int .i64],[.dead,.tree U.Value]⟩) (run:=fun n x=>M.nQ dm x.1.1 n x.1.2.2.1 x.2.2.1) (bG:=ae4) (out:=Rn) ak (Rq dm nR) ay (aG (by kernel_rfl)) (fun _=>rfl) (fun m x=>by kernel_rfl) (ai ⟨bP,fun _ _ _=>rfl⟩ (ax)) false ah
theorem ae6(dm:M.ae->Option (Int×Int×(List UInt8)×(List M.ae)))(nR:(mJ dm).Ok D Tryz.prog):(H3 (M.pV dm)).Ok D Tryz.prog:=
 aI (cx:=Dw dm) (c:=H3 (M.pV dm)) (fz:=false) (fn:=Tryz.f33) ak (Rq dm nR) ay ⟨Tryz.func33,by kernel_rfl⟩ (aJ (bQ 1 (by kernel_rfl) (bR (.mk (by kernel_rfl) (ae5 dm nR))))) ⟨⟨[.own 0],[.tree U.Value]⟩,fun x=>x.2.1⟩ (fun x=>rfl) (fun x=>by kernel_rfl)
def Rr(dm:M.ae->Option (Int×Int×(List UInt8)×(List M.ae))):Cx K:={aK with mode:=aF .plain [(33,.fresh)],fq:=[[none,none,none,some U.Value]],deep:=fun c=>dy (D.cells c (K.zero c)),call:=callOf D [H3 (M.pV dm)],loop:=aE []}
theorem ae7(dm:M.ae->Option (Int×Int×(List UInt8)×(List M.ae)))(nR:(mJ dm).Ok D Tryz.prog):aD (Rr dm):=aL ak _ (ai (ae6 dm nR) (ax))
theorem ae8(dm:M.ae->Option (Int×Int×(List UInt8)×(List M.ae)))(nR:(mJ dm).Ok D Tryz.prog):(mJ (M.zY dm)).Ok D Tryz.prog:=
 aI (cx:=Rr dm) (c:=mJ (M.zY dm)) (fz:=false) (fn:=Tryz.f13) ak (ae7 dm nR) ay ⟨Tryz.func13,by kernel_rfl⟩ (aJ (aG (by kernel_rfl))) ⟨⟨[.agg [.int .i64,.int .i64,.str,.own 0]],[.tree U.Value]⟩,fun x=>(x.1.1.1,x.1.1.2.1,x.1.1.2.2.1,x.2.1)⟩ (fun x=>rfl) (fun x=>by kernel_rfl)
theorem Rt:∀n,(mJ (M.uz n)).Ok D Tryz.prog
 |0=>ez fun _=>rfl
 |n+1=>ae8 (M.uz n) (Rt n)
theorem ae9:(mJ (M.uA)).Ok D Tryz.prog:=Rt ah
def Ru(y:(Bool)⊕(Unit)){R:Type}(k:Ex->List (AV K)->List (Ob K)->R):R:=match y with
 |.inl a0=>k Ex.ret (aw.aW D ⟨[.bool],[.dead]⟩ ((a0,()),((),()))) (aw.aX D ⟨[.bool],[.dead]⟩ ((a0,()),((),())))
 |.inr (a1)=>k (Ex.exit 0) (aw.aW D ⟨[.any],[.dead]⟩ (((),()),((),()))) (aw.aX D ⟨[.any],[.dead]⟩ (((),()),((),())))
def afa:List (bH K ((Bool)⊕(Unit))):=[⟨Ex.ret,⟨[.bool],[.dead]⟩,fun x=>.inl x.1.1⟩,⟨(Ex.exit 0),⟨[.any],[.dead]⟩,fun x=>.inr (())⟩]
def Rw:bA K:=bJ D false 59 1 [1,3,4,5] [2] ⟨[.ptr 0 0,.int .i64,.int .i64,.int .i64],[.el U.dR]⟩ (fun x=>M.nS x.1.2.1 x.2.1 ah x.1.2.2.1 x.1.2.2.2.1) Ru
def H4(m:M.aB->Option (Bool)):aC K:={f:=76,sh:=⟨[.el U.dR],[]⟩,R:=Bool,run:=fun x=>m x.1.1,dflt:=default,out:=fun r=>(Sh.enc D (.bool) r,az.encs D [] ())}
def Dx:Cx K:={aK with mode:=aF .plain [],call:=callOf D [],loop:=aE [(6,Rw)]}
theorem Rx:aD (Dx):=aL ak _ (ax)
theorem afb:bC (Dx) (bF (bI Tryz.f76) 0) (Rw):=
 bN (cx:=Dx) (n:=59) (n0:=1) (ins:=[1,3,4,5]) (outs:=[2]) (sh:=⟨[.ptr 0 0,.int .i64,.int .i64,.int .i64],[.el U.dR]⟩) (run:=fun n x=>M.nS x.1.2.1 x.2.1 n x.1.2.2.1 x.1.2.2.2.1) (bG:=afa) (out:=Ru) ak (Rx) ay (aG (by kernel_rfl)) (fun _=>rfl) (fun m x=>by kernel_rfl) (ai ⟨dj,fun _ _ _=>rfl⟩ (ai ⟨bP,fun _ _ _=>rfl⟩ (ax))) false ah
theorem afc:(H4 (M.wZ)).Ok D Tryz.prog:=
 aI (cx:=Dx) (c:=H4 (M.wZ)) (fz:=true) (fn:=Tryz.f76) ak (Rx) ay ⟨Tryz.func76,by kernel_rfl⟩ (aJ (bQ 1 (by kernel_rfl) (bR (.mk (by kernel_rfl) (afb))))) ⟨⟨[.bool],[]⟩,fun x=>x.1.1⟩ (fun x=>rfl) (fun x=>by kernel_rfl)
def H5(m:Int->Option (Bool)):aC K:={f:=77,sh:=⟨[.int .i64],[]⟩,R:=Bool,run:=fun x=>m x.1.1,dflt:=default,out:=fun r=>(Sh.enc D (.bool) r,az.encs D [] ())}
def Ry:Cx K:={aK with mode:=aF .plain [(120,.plain)],call:=callOf D [rl M.rm],loop:=aE []}
theorem afd:aD (Ry):=aL ak _ (ai wi (ax))
theorem afe:(H5 (M.H6)).Ok D Tryz.prog:=
 aI (cx:=Ry) (c:=H5 (M.H6)) (fz:=true) (fn:=Tryz.f77) ak (afd) ay ⟨Tryz.func77,by kernel_rfl⟩ (aJ (aG (by kernel_rfl))) ⟨⟨[.bool],[]⟩,fun x=>x.1.1⟩ (fun x=>rfl) (fun x=>by kernel_rfl)
def zZ(m:M.aB->Int->Option (Bool)):aC K:={f:=41,sh:=⟨[.el U.dR,.int .i64],[]⟩,R:=Bool,run:=fun x=>m x.1.1 x.1.2.1,dflt:=default,out:=fun r=>(Sh.enc D (.bool) r,az.encs D [] ())}
def Rz:Cx K:={aK with mode:=aF .plain [(76,.plain),(77,.plain)],call:=callOf D [H4 M.wZ,H5 M.H6],loop:=aE []}
theorem aff:aD (Rz):=aL ak _ (ai afc (ai afe (ax)))
theorem H7:(zZ (M.rJ)).Ok D Tryz.prog:=
 aI (cx:=Rz) (c:=zZ (M.rJ)) (fz:=true) (fn:=Tryz.f41) ak (aff) ay ⟨Tryz.func41,by kernel_rfl⟩ (aJ (aG (by kernel_rfl))) ⟨⟨[.bool],[]⟩,fun x=>x.1.1⟩ (fun x=>rfl) (fun x=>by kernel_rfl)
def H8(m:Int->Option (Int)):aC K:={f:=80,sh:=⟨[.int .i64],[]⟩,R:=Int,run:=fun x=>m x.1.1,dflt:=default,out:=fun r=>(Sh.enc D (.int .i64) r,az.encs D [] ())}
def RB:Cx K:={aK with mode:=aF .plain [],call:=callOf D [],loop:=aE []}
theorem afg:aD (RB):=aL ak _ (ax)
theorem afh:(H8 (M.w8)).Ok D Tryz.prog:=
 aI (cx:=RB) (c:=H8 (M.w8)) (fz:=true) (fn:=Tryz.f80) ak (afg) ay ⟨Tryz.func80,by kernel_rfl⟩ (aJ (aG (by kernel_rfl))) ⟨⟨[.int .i64],[]⟩,fun x=>x.1.1⟩ (fun x=>rfl) (fun x=>by kernel_rfl)
def iP(m:M.aa->Option (Int×Int)):aC K:={f:=43,sh:=⟨[.el U.Type],[]⟩,R:=Int×Int,run:=fun x=>m x.1.1,dflt:=default,out:=fun r=>(Sh.enc D (.aV [.int .i64,.int .i64]) (r.1,(r.2,())),az.encs D [] ())}
def uB(m:Int->Int->Option (Int)):aC K:={f:=83,sh:=⟨[.int .i64,.int .i64],[]⟩,R:=Int,run:=fun x=>m x.1.1 x.1.2.1,dflt:=default,out:=fun r=>(Sh.enc D (.int .i64) r,az.encs D [] ())}
def RD:Cx K:={aK with mode:=aF .plain [],call:=callOf D [],loop:=aE []}
theorem afi:aD (RD):=aL ak _ (ax)
theorem Aa:(uB (M.iQ)).Ok D Tryz.prog:=
 aI (cx:=RD) (c:=uB (M.iQ)) (fz:=true) (fn:=Tryz.f83) ak (afi) ay ⟨Tryz.func83,by kernel_rfl⟩ (aJ (aG (by kernel_rfl))) ⟨⟨[.int .i64],[]⟩,fun x=>x.1.1⟩ (fun x=>rfl) (fun x=>by kernel_rfl)
def RE(y:Int×Int×(List Int)){R:Type}(k:Ex->List (AV K)->List (Ob K)->R):R:=match y with
 |a0=>k (Ex.exit 0) (aw.aW D ⟨[.int .i64,.int .i64,.own 1],[.dead,.arr U.i64]⟩ ((a0.1,(a0.2.1,((),()))),((),(a0.2.2,())))) (aw.aX D ⟨[.int .i64,.int .i64,.own 1],[.dead,.arr U.i64]⟩ ((a0.1,(a0.2.1,((),()))),((),(a0.2.2,()))))
def afj:List (bH K (Int×Int×(List Int))):=[⟨(Ex.exit 0),⟨[.int .i64,.int .i64,.own 1],[.dead,.arr U.i64]⟩,fun x=>(x.1.1,x.1.2.1,x.2.2.1)⟩]
def RF(ca:M.aa->Option (Int×Int)):bA K:=bJ D false 44 1 [0,5,6,7,8] [5,6,7] ⟨[.aj U.Type,.int .i64,.int .i64,.own 1,.int .i64],[.dead,.arr U.i64]⟩ (fun x=>M.l4 ca x.1.1 ah x.1.2.1 x.1.2.2.1 x.1.2.2.2.2.1 x.2.2.1) RE
def Dy(m:(List M.aa)->Option ((List Int)×Int×Int)):aC K:={f:=71,sh:=⟨[.aj U.Type],[]⟩,R:=(List Int)×Int×Int,run:=fun x=>m x.1.1,dflt:=default,out:=fun r=>(Sh.enc D (.aV [.aj U.i64,.int .i64,.int .i64]) (r.1,(r.2.1,(r.2.2,()))),az.encs D [] ())}
def Dz(ca:M.aa->Option (Int×Int)):Cx K:={aK with mode:=aF .plain [(43,.plain),(83,.plain),(115,.plain)],call:=callOf D [iP ca,uB M.iQ,tX M.gQ],loop:=aE [(4,RF ca)]}
theorem RG(ca:M.aa->Option (Int×Int))(iR:(iP ca).Ok D Tryz.prog):aD (Dz ca):=aL ak _ (ai iR (ai Aa (ai zC (ax))))
theorem afk(ca:M.aa->Option (Int×Int))(iR:(iP ca).Ok D Tryz.prog):bC (Dz ca) (bF (bI Tryz.f71) 0) (RF ca):=
 bN (cx:=Dz ca) (n:=44) (n0:=1) (ins:=[0,5,6,7,8]) (outs:=[5,6,7]) (sh:=⟨[.aj U.Type,.int .i64,.int .i64,.own 1,.int .i64],[.dead,.arr U.i64]⟩) (run:=fun n x=>M.l4 ca x.1.1 n x.1.2.1 x.1.2.2.1 x.1.2.2.2.2.1 x.2.2.1) (bG:=afj) (out:=RE) ak (RG ca iR) ay (aG (by kernel_rfl)) (fun _=>rfl) (fun m x=>by kernel_rfl) (ai ⟨bP,fun _ _ _=>rfl⟩ (ax)) false ah
theorem RH(ca:M.aa->Option (Int×Int))(iR:(iP ca).Ok D Tryz.prog):(Dy (M.mK ca)).Ok D Tryz.prog:=
 aI (cx:=Dz ca) (c:=Dy (M.mK ca)) (fz:=true) (fn:=Tryz.f71) ak (RG ca iR) ay ⟨Tryz.func71,by kernel_rfl⟩ (aJ (bQ 1 (by kernel_rfl) (bR (.mk (by kernel_rfl) (afk ca iR))))) ⟨⟨[.aV [.aj U.i64,.int .i64,.int .i64]],[]⟩,fun x=>(x.1.1.1,x.1.1.2.1,x.1.1.2.2.1)⟩ (fun x=>rfl) (fun x=>by kernel_rfl)
def uC(m:M.aa->Option ((List M.aa))):aC K:={f:=82,sh:=⟨[.el U.Type],[]⟩,R:=(List M.aa),run:=fun x=>m x.1.1,dflt:=default,out:=fun r=>(Sh.enc D (.aj U.Type) r,az.encs D [] ())}
def RI:Cx K:={aK with mode:=aF .plain [],call:=callOf D [],loop:=aE []}
theorem afl:aD (RI):=aL ak _ (ax)
theorem Ab:(uC (M.kA)).Ok D Tryz.prog:=
 aI (cx:=RI) (c:=uC (M.kA)) (fz:=true) (fn:=Tryz.f82) ak (afl) ay ⟨Tryz.func82,by kernel_rfl⟩ (aJ (aG (by kernel_rfl))) ⟨⟨[.aj U.Type],[]⟩,fun x=>x.1.1⟩ (fun x=>rfl) (fun x=>by kernel_rfl)
def RJ(y:Int×Int){R:Type}(k:Ex->List (AV K)->List (Ob K)->R):R:=match y with
 |a0=>k (Ex.exit 0) (aw.aW D ⟨[.int .i64,.int .i64],[]⟩ ((a0.1,(a0.2,())),())) (aw.aX D ⟨[.int .i64,.int .i64],[]⟩ ((a0.1,(a0.2,())),()))
def afm:List (bH K (Int×Int)):=[⟨(Ex.exit 0),⟨[.int .i64,.int .i64],[]⟩,fun x=>(x.1.1,x.1.2.1)⟩]
def RL(ca:M.aa->Option (Int×Int)):bA K:=bJ D false 31 0 [0,4,5,6] [4,5] ⟨[.aj U.Type,.int .i64,.int .i64,.int .i64],[]⟩ (fun x=>M.nU ca x.1.1 ah x.1.2.1 x.1.2.2.1 x.1.2.2.2.1) RJ
def DC(m:(List M.aa)->Option (Int×Int)):aC K:={f:=81,sh:=⟨[.aj U.Type],[]⟩,R:=Int×Int,run:=fun x=>m x.1.1,dflt:=default,out:=fun r=>(Sh.enc D (.aV [.int .i64,.int .i64]) (r.1,(r.2,())),az.encs D [] ())}
def DD(ca:M.aa->Option (Int×Int)):Cx K:={aK with mode:=aF .plain [(43,.plain),(115,.plain)],call:=callOf D [iP ca,tX M.gQ],loop:=aE [(3,RL ca)]}
theorem RN(ca:M.aa->Option (Int×Int))(iR:(iP ca).Ok D Tryz.prog):aD (DD ca):=aL ak _ (ai iR (ai zC (ax)))
theorem afn(ca:M.aa->Option (Int×Int))(iR:(iP ca).Ok D Tryz.prog):bC (DD ca) (bF (bI Tryz.f81) 0) (RL ca):=
 bN (cx:=DD ca) (n:=31) (n0:=0) (ins:=[0,4,5,6]) (outs:=[4,5]) (sh:=⟨[.aj U.Type,.int .i64,.int .i64,.int .i64],[]⟩) (run:=fun n x=>M.nU ca x.1.1 n x.1.2.1 x.1.2.2.1 x.1.2.2.2.1) (bG:=afm) (out:=RJ) ak (RN ca iR) ay (aG (by kernel_rfl)) (fun _=>rfl) (fun m x=>by kernel_rfl) (ai ⟨bP,fun _ _ _=>rfl⟩ (ax)) false ah
theorem RO(ca:M.aa->Option (Int×Int))(iR:(iP ca).Ok D Tryz.prog):(DC (M.rK ca)).Ok D Tryz.prog:=
 aI (cx:=DD ca) (c:=DC (M.rK ca)) (fz:=true) (fn:=Tryz.f81) ak (RN ca iR) ay ⟨Tryz.func81,by kernel_rfl⟩ (aJ (bQ 1 (by kernel_rfl) (bR (.mk (by kernel_rfl) (afn ca iR))))) ⟨⟨[.aV [.int .i64,.int .i64]],[]⟩,fun x=>(x.1.1.1,x.1.1.2.1)⟩ (fun x=>rfl) (fun x=>by kernel_rfl)
def RP(ca:M.aa->Option (Int×Int)):Cx K:={aK with mode:=aF .plain [(80,.plain),(71,.dA),(82,.dA),(81,.plain),(83,.plain)],call:=callOf D [H8 M.w8,Dy (M.mK ca),uC M.kA,DC (M.rK ca),uB M.iQ],loop:=aE []}
theorem afo(ca:M.aa->Option (Int×Int))(iR:(iP ca).Ok D Tryz.prog):aD (RP ca):=aL ak _ (ai afh (ai (RH ca iR) (ai Ab (ai (RO ca iR) (ai Aa (ax))))))
theorem afp(ca:M.aa->Option (Int×Int))(iR:(iP ca).Ok D Tryz.prog):(iP (M.Ac ca)).Ok D Tryz.prog:=
 aI (cx:=RP ca) (c:=iP (M.Ac ca)) (fz:=true) (fn:=Tryz.f43) ak (afo ca iR) ay ⟨Tryz.func43,by kernel_rfl⟩ (aJ (aG (by kernel_rfl))) ⟨⟨[.aV [.int .i64,.int .i64]],[]⟩,fun x=>(x.1.1.1,x.1.1.2.1)⟩ (fun x=>rfl) (fun x=>by kernel_rfl)
theorem RQ:∀n,(iP (M.pW n)).Ok D Tryz.prog
 |0=>ez fun _=>rfl
 |n+1=>afp (M.pW n) (RQ n)
theorem w9:(iP (M.gR)).Ok D Tryz.prog:=RQ ah
def H9(m:M.aB->Int->Int->Option (Bool)):aC K:={f:=44,sh:=⟨[.el U.dR,.int .i64,.int .i64],[]⟩,R:=Bool,run:=fun x=>m x.1.1 x.1.2.1 x.1.2.2.1,dflt:=default,out:=fun r=>(Sh.enc D (.bool) r,az.encs D [] ())}
def RR:Cx K:={aK with mode:=aF .plain [],call:=callOf D [],loop:=aE []}
theorem afq:aD (RR):=aL ak _ (ax)
theorem afr:(H9 (M.xa)).Ok D Tryz.prog:=
 aI (cx:=RR) (c:=H9 (M.xa)) (fz:=true) (fn:=Tryz.f44) ak (afq) ay ⟨Tryz.func44,by kernel_rfl⟩ (aJ (aG (by kernel_rfl))) ⟨⟨[.bool],[]⟩,fun x=>x.1.1⟩ (fun x=>rfl) (fun x=>by kernel_rfl)
def uD(m:M.aB->Option ((List UInt8)×(List M.af))):aC K:={f:=45,sh:=⟨[.el U.dR],[]⟩,R:=(List UInt8)×(List M.af),run:=fun x=>m x.1.1,dflt:=default,out:=fun r=>(Sh.enc D (.agg [.str,.own 0]) (r.1,((),())),az.encs D [.arr U.Block] (r.2,()))}
def RS:Cx K:={aK with mode:=aF .plain [],fq:=[[none,some U.Block]],call:=callOf D [],loop:=aE []}
theorem afs:aD (RS):=aL ak _ (ax)
theorem Ad:(uD (M.jm)).Ok D Tryz.prog:=
 aI (cx:=RS) (c:=uD (M.jm)) (fz:=false) (fn:=Tryz.f45) ak (afs) ay ⟨Tryz.func45,by kernel_rfl⟩ (aJ (aG (by kernel_rfl))) ⟨⟨[.agg [.str,.own 0]],[.arr U.Block]⟩,fun x=>(x.1.1.1,x.2.1)⟩ (fun x=>rfl) (fun x=>by kernel_rfl)
def RU(y:(List UInt8)){R:Type}(k:Ex->List (AV K)->List (Ob K)->R):R:=match y with
 |a0=>k (Ex.exit 0) (aw.aW D ⟨[.own 1],[.dead,.arr U.u8]⟩ (((),()),((),(a0,())))) (aw.aX D ⟨[.own 1],[.dead,.arr U.u8]⟩ (((),()),((),(a0,()))))
def aft:List (bH K ((List UInt8))):=[⟨(Ex.exit 0),⟨[.own 1],[.dead,.arr U.u8]⟩,fun x=>x.2.2.1⟩]
def RV:bA K:=bJ D false 27 1 [0,1,5,6] [5] ⟨[.int .i64,.int .i64,.own 1,.int .i64],[.dead,.arr U.u8]⟩ (fun x=>M.nV x.1.2.1 ah x.1.1 x.1.2.2.2.1 x.2.2.1) RU
def DF(m:Int->Int->Option ((List UInt8))):aC K:={f:=130,sh:=⟨[.int .i64,.int .i64],[]⟩,R:=(List UInt8),run:=fun x=>m x.1.1 x.1.2.1,dflt:=default,out:=fun r=>(Sh.enc D (.str) r,az.encs D [] ())}
def DG:Cx K:={aK with mode:=aF .plain [(120,.plain)],call:=callOf D [rl M.rm],loop:=aE [(3,RV)]}
theorem RX:aD (DG):=aL ak _ (ai wi (ax))
theorem afu:bC (DG) (bF (bI Tryz.f130) 0) (RV):=
 bN (cx:=DG) (n:=27) (n0:=1) (ins:=[0,1,5,6]) (outs:=[5]) (sh:=⟨[.int .i64,.int .i64,.own 1,.int .i64],[.dead,.arr U.u8]⟩) (run:=fun n x=>M.nV x.1.2.1 n x.1.1 x.1.2.2.2.1 x.2.2.1) (bG:=aft) (out:=RU) ak (RX) ay (aG (by kernel_rfl)) (fun _=>rfl) (fun m x=>by kernel_rfl) (ai ⟨bP,fun _ _ _=>rfl⟩ (ax)) false ah
theorem RY:(DF (M.nW)).Ok D Tryz.prog:=
 aI (cx:=DG) (c:=DF (M.nW)) (fz:=true) (fn:=Tryz.f130) ak (RX) ay ⟨Tryz.func130,by kernel_rfl⟩ (aJ (bQ 1 (by kernel_rfl) (bR (.mk (by kernel_rfl) (afu))))) ⟨⟨[.str],[]⟩,fun x=>x.1.1⟩ (fun x=>rfl) (fun x=>by kernel_rfl)
def Ia(m:Int->Option ((List UInt8))):aC K:={f:=172,sh:=⟨[.int .i64],[]⟩,R:=(List UInt8),run:=fun x=>m x.1.1,dflt:=default,out:=fun r=>(Sh.enc D (.str) r,az.encs D [] ())}
def RZ:Cx K:={aK with mode:=aF .plain [(130,.plain)],call:=callOf D [DF M.nW],loop:=aE []}
theorem afv:aD (RZ):=aL ak _ (ai RY (ax))
theorem afw:(Ia (M.xb)).Ok D Tryz.prog:=
 aI (cx:=RZ) (c:=Ia (M.xb)) (fz:=true) (fn:=Tryz.f172) ak (afv) ay ⟨Tryz.func172,by kernel_rfl⟩ (aJ (aG (by kernel_rfl))) ⟨⟨[.str],[]⟩,fun x=>x.1.1⟩ (fun x=>rfl) (fun x=>by kernel_rfl)
def R7(y:((List UInt8)×Int)⊕((List UInt8))){R:Type}(k:Ex->List (AV K)->List (Ob K)->R):R:=match y with
 |.inl a0=>k Ex.ret (aw.aW D ⟨[.any,.str,.int .i64],[]⟩ (((),(a0.1,(a0.2,()))),())) (aw.aX D ⟨[.any,.str,.int .i64],[]⟩ (((),(a0.1,(a0.2,()))),()))
 |.inr (a1)=>k (Ex.exit 0) (aw.aW D ⟨[.str,.any,.any],[]⟩ ((a1,((),((),()))),())) (aw.aX D ⟨[.str,.any,.any],[]⟩ ((a1,((),((),()))),()))
def afx:List (bH K (((List UInt8)×Int)⊕((List UInt8)))):=[⟨Ex.ret,⟨[.any,.str,.int .i64],[]⟩,fun x=>.inl (x.1.2.1,x.1.2.2.1)⟩,⟨(Ex.exit 0),⟨[.str,.any,.any],[]⟩,fun x=>.inr (x.1.1)⟩]
def R9:bA K:=bJ D false 50 0 [0,6,8,9] [8,4,5] ⟨[.int .i64,.aj U.i64,.str,.int .i64],[]⟩ (fun x=>M.mL x.1.1 x.1.2.1 ah x.1.2.2.1 x.1.2.2.2.1) R7
def Ib(m:Int->(List UInt8)->Option ((List UInt8)×Int)):aC K:={f:=159,sh:=⟨[.int .i64,.str],[]⟩,R:=(List UInt8)×Int,run:=fun x=>m x.1.1 x.1.2.1,dflt:=default,out:=fun r=>(Sh.enc D (.aV [.str,.int .i64]) (r.1,(r.2,())),az.encs D [] ())}
def DI:Cx K:={aK with mode:=aF .plain [(158,.dA),(172,.plain)],call:=callOf D [Db M.nK,Ia M.xb],loop:=aE [(6,R9)]}
theorem Si:aD (DI):=aL ak _ (ai QE (ai afw (ax)))
theorem afy:bC (DI) (bF (bI Tryz.f159) 0) (R9):=
 bN (cx:=DI) (n:=50) (n0:=0) (ins:=[0,6,8,9]) (outs:=[8,4,5]) (sh:=⟨[.int .i64,.aj U.i64,.str,.int .i64],[]⟩) (run:=fun n x=>M.mL x.1.1 x.1.2.1 n x.1.2.2.1 x.1.2.2.2.1) (bG:=afx) (out:=R7) ak (Si) ay (aG (by kernel_rfl)) (fun _=>rfl) (fun m x=>by kernel_rfl) (ai ⟨dj,fun _ _ _=>rfl⟩ (ai ⟨bP,fun _ _ _=>rfl⟩ (ax))) false ah
theorem afz:(Ib (M.xc)).Ok D Tryz.prog:=
 aI (cx:=DI) (c:=Ib (M.xc)) (fz:=true) (fn:=Tryz.f159) ak (Si) ay ⟨Tryz.func159,by kernel_rfl⟩ (aJ (bQ 1 (by kernel_rfl) (bR (.mk (by kernel_rfl) (afy))))) ⟨⟨[.aV [.str,.int .i64]],[]⟩,fun x=>(x.1.1.1,x.1.1.2.1)⟩ (fun x=>rfl) (fun x=>by kernel_rfl)
def Ic(m:Int->Option (Int)):aC K:={f:=160,sh:=⟨[.int .i64],[]⟩,R:=Int,run:=fun x=>m x.1.1,dflt:=default,out:=fun r=>(Sh.enc D (.int .i64) r,az.encs D [] ())}
def Sj:Cx K:={aK with mode:=aF .plain [],call:=callOf D [],loop:=aE []}
theorem afA:aD (Sj):=aL ak _ (ax)
theorem afB:(Ic (M.Ae)).Ok D Tryz.prog:=
 aI (cx:=Sj) (c:=Ic (M.Ae)) (fz:=true) (fn:=Tryz.f160) ak (afA) ay ⟨Tryz.func160,by kernel_rfl⟩ (aJ (aG (by kernel_rfl))) ⟨⟨[.int .i64],[]⟩,fun x=>x.1.1⟩ (fun x=>rfl) (fun x=>by kernel_rfl)
def Sl(y:(Int×Int×(List UInt8)×(List M.af))⊕((List UInt8)×(List M.af))){R:Type}(k:Ex->List (AV K)->List (Ob K)->R):R:=match y with
 |.inl a0=>k Ex.ret (aw.aW D ⟨[.ptr 1 0,.int .i64,.int .i64],[.dead,.box [.str,.own 3],.dead,.arr U.Block]⟩ (((),(a0.1,(a0.2.1,()))),((),((a0.2.2.1,((),())),((),(a0.2.2.2,())))))) (aw.aX D ⟨[.ptr 1 0,.int .i64,.int .i64],[.dead,.box [.str,.own 3],.dead,.arr U.Block]⟩ (((),(a0.1,(a0.2.1,()))),((),((a0.2.2.1,((),())),((),(a0.2.2.2,()))))))
 |.inr (a1)=>k (Ex.exit 0) (aw.aW D ⟨[.ptr 1 0,.any,.any],[.dead,.box [.str,.own 3],.dead,.arr U.Block]⟩ (((),((),((),()))),((),((a1.1,((),())),((),(a1.2,())))))) (aw.aX D ⟨[.ptr 1 0,.any,.any],[.dead,.box [.str,.own 3],.dead,.arr U.Block]⟩ (((),((),((),()))),((),((a1.1,((),())),((),(a1.2,()))))))
def afC:List (bH K ((Int×Int×(List UInt8)×(List M.af))⊕((List UInt8)×(List M.af)))):=[⟨Ex.ret,⟨[.ptr 1 0,.int .i64,.int .i64],[.dead,.box [.str,.own 3],.dead,.arr U.Block]⟩,fun x=>.inl (x.1.2.1,x.1.2.2.1,x.2.2.1.1,x.2.2.2.2.1)⟩,⟨(Ex.exit 0),⟨[.ptr 1 0,.any,.any],[.dead,.box [.str,.own 3],.dead,.arr U.Block]⟩,fun x=>.inr ((x.2.2.1.1,x.2.2.2.2.1))⟩]
def Sm:bA K:=bJ D false 100 3 [1,2,3,6,9] [6,7,8] ⟨[.int .i64,.int .i64,.ptr 0 0,.ptr 1 0,.int .i64],[.el U.dR,.box [.str,.own 3],.dead,.arr U.Block]⟩ (fun x=>M.nX x.1.1 x.1.2.1 x.2.1 x.2.2.1.1 x.2.2.2.2.1 ah x.1.2.2.2.2.1) Sl
def Ie(m:M.aB->Int->Int->Option ((List UInt8)×Int×Int×(List M.af))):aC K:={f:=112,sh:=⟨[.el U.dR,.int .i64,.int .i64],[]⟩,R:=(List UInt8)×Int×Int×(List M.af),run:=fun x=>m x.1.1 x.1.2.1 x.1.2.2.1,dflt:=default,out:=fun r=>(Sh.enc D (.aV [.agg [.str,.own 0],.int .i64,.int .i64]) ((r.1,((),())),(r.2.1,(r.2.2.1,()))),az.encs D [.arr U.Block] (r.2.2.2,()))}
def DJ:Cx K:={aK with mode:=aF .plain [(45,.fresh),(83,.plain)],fq:=[[none,some U.Block],[],[]],call:=callOf D [uD M.jm,uB M.iQ],loop:=aE [(4,Sm)]}
theorem Sr:aD (DJ):=aL ak _ (ai Ad (ai Aa (ax)))
theorem afD:bC (DJ) (bF (bI Tryz.f112) 0) (Sm):=
 bN (cx:=DJ) (n:=100) (n0:=3) (ins:=[1,2,3,6,9]) (outs:=[6,7,8]) (sh:=⟨[.int .i64,.int .i64,.ptr 0 0,.ptr 1 0,.int .i64],[.el U.dR,.box [.str,.own 3],.dead,.arr U.Block]⟩) (run:=fun n x=>M.nX x.1.1 x.1.2.1 x.2.1 x.2.2.1.1 x.2.2.2.2.1 n x.1.2.2.2.2.1) (bG:=afC) (out:=Sl) ak (Sr) ay (aG (by kernel_rfl)) (fun _=>rfl) (fun m x=>by kernel_rfl) (ai ⟨dj,fun _ _ _=>rfl⟩ (ai ⟨bP,fun _ _ _=>rfl⟩ (ax))) false ah
theorem afE:(Ie (M.xd)).Ok D Tryz.prog:=
 aI (cx:=DJ) (c:=Ie (M.xd)) (fz:=false) (fn:=Tryz.f112) ak (Sr) ay ⟨Tryz.func112,by kernel_rfl⟩ (aJ (bQ 1 (by kernel_rfl) (bR (.mk (by kernel_rfl) (afD))))) ⟨⟨[.aV [.agg [.str,.own 0],.int .i64,.int .i64]],[.arr U.Block]⟩,fun x=>(x.1.1.1.1,x.1.1.2.1,x.1.1.2.2.1,x.2.1)⟩ (fun x=>rfl) (fun x=>by kernel_rfl)
def rL(m:Int->Int->(List UInt8)->Int->Int->(List M.af)->Option (Int×(List UInt8)×Int×Int×(List M.af))):aC K:={f:=64,sh:=⟨[.ptr 0 0,.int .i64,.int .i64],[.box [.str,.own 1,.int .i64,.int .i64],.arr U.Block]⟩,R:=Int×(List UInt8)×Int×Int×(List M.af),run:=fun x=>m x.1.2.1 x.1.2.2.1 x.2.1.1 x.2.1.2.2.1 x.2.1.2.2.2.1 x.2.2.1,dflt:=default,out:=fun r=>(Sh.enc D (.int .i64) r.1,az.encs D [.box [.str,.own 2,.int .i64,.int .i64],.dead,.arr U.Block] ((r.2.1,((),(r.2.2.1,(r.2.2.2.1,())))),((),(r.2.2.2.2,()))))}
def Ss:Cx K:={aK with mode:=aF .plain [(112,.fresh)],mv:=true,call:=callOf D [Ie M.xd],loop:=aE []}
theorem afF:aD (Ss):=aL ak _ (ai afE (ax))
theorem xe:(rL (M.jX)).Ok D Tryz.prog:=
 aI (cx:=Ss) (c:=rL (M.jX)) (fz:=true) (fn:=Tryz.f64) ak (afF) ay ⟨Tryz.func64,by kernel_rfl⟩ (aJ (aG (by kernel_rfl))) ⟨⟨[.int .i64],[.box [.str,.own 2,.int .i64,.int .i64],.dead,.arr U.Block]⟩,fun x=>(x.1.1,x.2.1.1,x.2.1.2.2.1,x.2.1.2.2.2.1,x.2.2.2.1)⟩ (fun x=>rfl) (fun x=>by kernel_rfl)
def DK(m:M.aB->Int->(List UInt8)->Option ((List UInt8)×Int×(List M.af))):aC K:={f:=129,sh:=⟨[.el U.dR,.int .i64,.str],[]⟩,R:=(List UInt8)×Int×(List M.af),run:=fun x=>m x.1.1 x.1.2.1 x.1.2.2.1,dflt:=default,out:=fun r=>(Sh.enc D (.aV [.agg [.str,.own 0],.int .i64]) ((r.1,((),())),(r.2.1,())),az.encs D [.arr U.Block] (r.2.2,()))}
def Su:Cx K:={aK with mode:=aF .plain [(44,.plain),(45,.fresh)],fq:=[[none,some U.Block],[]],call:=callOf D [H9 M.xa,uD M.jm],loop:=aE []}
theorem afG:aD (Su):=aL ak _ (ai afr (ai Ad (ax)))
theorem Sv:(DK (M.rM)).Ok D Tryz.prog:=
 aI (cx:=Su) (c:=DK (M.rM)) (fz:=false) (fn:=Tryz.f129) ak (afG) ay ⟨Tryz.func129,by kernel_rfl⟩ (aJ (aG (by kernel_rfl))) ⟨⟨[.aV [.agg [.str,.own 0],.int .i64]],[.arr U.Block]⟩,fun x=>(x.1.1.1.1,x.1.1.2.1,x.2.1)⟩ (fun x=>rfl) (fun x=>by kernel_rfl)
def DL(m:(List UInt8)->(List UInt8)->Int->Int->(List M.af)->Option (Int×Int×(List UInt8)×Int×Int×(List M.af))):aC K:={f:=127,sh:=⟨[.ptr 0 0,.str],[.box [.str,.own 1,.int .i64,.int .i64],.arr U.Block]⟩,R:=Int×Int×(List UInt8)×Int×Int×(List M.af),run:=fun x=>m x.1.2.1 x.2.1.1 x.2.1.2.2.1 x.2.1.2.2.2.1 x.2.2.1,dflt:=default,out:=fun r=>(Sh.enc D (.aV [.int .i64,.int .i64]) (r.1,(r.2.1,())),az.encs D [.box [.str,.own 2,.int .i64,.int .i64],.dead,.arr U.Block] ((r.2.2.1,((),(r.2.2.2.1,(r.2.2.2.2.1,())))),((),(r.2.2.2.2.2,()))))}
def Sz:Cx K:={aK with mode:=aF .plain [(159,.plain),(160,.plain),(64,.cT),(129,.fresh)],mv:=true,call:=callOf D [Ib M.xc,Ic M.Ae,rL M.jX,DK M.rM],loop:=aE []}
theorem afH:aD (Sz):=aL ak _ (ai afz (ai afB (ai xe (ai Sv (ax)))))
theorem SA:(DL (M.rN)).Ok D Tryz.prog:=
 aI (cx:=Sz) (c:=DL (M.rN)) (fz:=true) (fn:=Tryz.f127) ak (afH) ay ⟨Tryz.func127,by kernel_rfl⟩ (aJ (aG (by kernel_rfl))) ⟨⟨[.aV [.int .i64,.int .i64]],[.box [.str,.own 2,.int .i64,.int .i64],.dead,.arr U.Block]⟩,fun x=>(x.1.1.1,x.1.1.2.1,x.2.1.1,x.2.1.2.2.1,x.2.1.2.2.2.1,x.2.2.2.1)⟩ (fun x=>rfl) (fun x=>by kernel_rfl)
def iD(m:M.aa->M.ae->Int->(List UInt8)->Int->Int->(List M.af)->Option ((List UInt8)×Int×Int×(List M.af))):aC K:={f:=46,sh:=⟨[.ptr 0 0,.el U.Type,.el U.Value,.int .i64],[.box [.str,.own 1,.int .i64,.int .i64],.arr U.Block]⟩,R:=(List UInt8)×Int×Int×(List M.af),run:=fun x=>m x.1.2.1 x.1.2.2.1 x.1.2.2.2.1 x.2.1.1 x.2.1.2.2.1 x.2.1.2.2.2.1 x.2.2.1,dflt:=default,out:=fun r=>(Sh.enc D (.aV []) (),az.encs D [.box [.str,.own 2,.int .i64,.int .i64],.dead,.arr U.Block] ((r.1,((),(r.2.1,(r.2.2.1,())))),((),(r.2.2.2,()))))}
def SB(y:Int×Int×(List UInt8)×Int×Int×(List M.af)){R:Type}(k:Ex->List (AV K)->List (Ob K)->R):R:=match y with
 |a0=>k (Ex.exit 0) (aw.aW D ⟨[.int .i64,.int .i64],[.box [.str,.own 3,.int .i64,.int .i64],.dead,.dead,.arr U.Block]⟩ ((a0.1,(a0.2.1,())),((a0.2.2.1,((),(a0.2.2.2.1,(a0.2.2.2.2.1,())))),((),((),(a0.2.2.2.2.2,())))))) (aw.aX D ⟨[.int .i64,.int .i64],[.box [.str,.own 3,.int .i64,.int .i64],.dead,.dead,.arr U.Block]⟩ ((a0.1,(a0.2.1,())),((a0.2.2.1,((),(a0.2.2.2.1,(a0.2.2.2.2.1,())))),((),((),(a0.2.2.2.2.2,()))))))
def afI:List (bH K (Int×Int×(List UInt8)×Int×Int×(List M.af))):=[⟨(Ex.exit 0),⟨[.int .i64,.int .i64],[.box [.str,.own 3,.int .i64,.int .i64],.dead,.dead,.arr U.Block]⟩,fun x=>(x.1.1,x.1.2.1,x.2.1.1,x.2.1.2.2.1,x.2.1.2.2.2.1,x.2.2.2.2.1)⟩]
def SC(bE:M.aa->M.ae->Int->(List UInt8)->Int->Int->(List M.af)->Option ((List UInt8)×Int×Int×(List M.af))):bA K:=bJ D false 52 3 [0,2,4,8,10,11,12] [10,11] ⟨[.ptr 0 0,.aj U.Value,.ptr 1 0,.int .i64,.int .i64,.int .i64,.int .i64],[.box [.str,.own 3,.int .i64,.int .i64],.el U.Type,.dead,.arr U.Block]⟩ (fun x=>M.l5 bE x.1.2.1 x.1.2.2.2.1 x.1.2.2.2.2.1 x.1.2.2.2.2.2.1 ah x.1.2.2.2.2.2.2.1 x.2.1.1 x.2.1.2.2.1 x.2.1.2.2.2.1 x.2.2.1 x.2.2.2.2.1) SB
def Ig(m:M.aa->(List M.ae)->(List UInt8)->Int->Int->(List M.af)->Option (Int×Int×(List UInt8)×Int×Int×(List M.af))):aC K:={f:=128,sh:=⟨[.ptr 0 0,.el U.Type,.aj U.Value],[.box [.str,.own 1,.int .i64,.int .i64],.arr U.Block]⟩,R:=Int×Int×(List UInt8)×Int×Int×(List M.af),run:=fun x=>m x.1.2.1 x.1.2.2.1 x.2.1.1 x.2.1.2.2.1 x.2.1.2.2.2.1 x.2.2.1,dflt:=default,out:=fun r=>(Sh.enc D (.aV [.int .i64,.int .i64]) (r.1,(r.2.1,())),az.encs D [.box [.str,.own 2,.int .i64,.int .i64],.dead,.arr U.Block] ((r.2.2.1,((),(r.2.2.2.1,(r.2.2.2.2.1,())))),((),(r.2.2.2.2.2,()))))}
def DN(bE:M.aa->M.ae->Int->(List UInt8)->Int->Int->(List M.af)->Option ((List UInt8)×Int×Int×(List M.af))):Cx K:={aK with mode:=aF .plain [(43,.plain),(64,.cT),(46,.cT)],mv:=true,call:=callOf D [iP M.gR,rL M.jX,iD bE],loop:=aE [(5,SC bE)]}
theorem SD(bE:M.aa->M.ae->Int->(List UInt8)->Int->Int->(List M.af)->Option ((List UInt8)×Int×Int×(List M.af)))(fU:(iD bE).Ok D Tryz.prog):aD (DN bE):=aL ak _ (ai w9 (ai xe (ai fU (ax))))
theorem afJ(bE:M.aa->M.ae->Int->(List UInt8)->Int->Int->(List M.af)->Option ((List UInt8)×Int×Int×(List M.af)))(fU:(iD bE).Ok D Tryz.prog):bC (DN bE) (bF (bI Tryz.f128) 0) (SC bE):=
 bN (cx:=DN bE) (n:=52) (n0:=3) (ins:=[0,2,4,8,10,11,12]) (outs:=[10,11]) (sh:=⟨[.ptr 0 0,.aj U.Value,.ptr 1 0,.int .i64,.int .i64,.int .i64,.int .i64],[.box [.str,.own 3,.int .i64,.int .i64],.el U.Type,.dead,.arr U.Block]⟩) (run:=fun n x=>M.l5 bE x.1.2.1 x.1.2.2.2.1 x.1.2.2.2.2.1 x.1.2.2.2.2.2.1 n x.1.2.2.2.2.2.2.1 x.2.1.1 x.2.1.2.2.1 x.2.1.2.2.2.1 x.2.2.1 x.2.2.2.2.1) (bG:=afI) (out:=SB) ak (SD bE fU) ay (aG (by kernel_rfl)) (fun _=>rfl) (fun m x=>by kernel_rfl) (ai ⟨bP,fun _ _ _=>rfl⟩ (ax)) false ah
theorem afK(bE:M.aa->M.ae->Int->(List UInt8)->Int->Int->(List M.af)->Option ((List UInt8)×Int×Int×(List M.af)))(fU:(iD bE).Ok D Tryz.prog):(Ig (M.uE bE)).Ok D Tryz.prog:=
 aI (cx:=DN bE) (c:=Ig (M.uE bE)) (fz:=true) (fn:=Tryz.f128) ak (SD bE fU) ay ⟨Tryz.func128,by kernel_rfl⟩ (aJ (bQ 1 (by kernel_rfl) (bR (.mk (by kernel_rfl) (afJ bE fU))))) ⟨⟨[.aV [.int .i64,.int .i64]],[.box [.str,.own 2,.int .i64,.int .i64],.dead,.arr U.Block]⟩,fun x=>(x.1.1.1,x.1.1.2.1,x.2.1.1,x.2.1.2.2.1,x.2.1.2.2.2.1,x.2.2.2.1)⟩ (fun x=>rfl) (fun x=>by kernel_rfl)
def Ih(m:M.aa->M.ae->(List UInt8)->Int->Int->(List M.af)->Option (Int×Int×(List UInt8)×Int×Int×(List M.af))):aC K:={f:=84,sh:=⟨[.ptr 0 0,.el U.Type,.el U.Value],[.box [.str,.own 1,.int .i64,.int .i64],.arr U.Block]⟩,R:=Int×Int×(List UInt8)×Int×Int×(List M.af),run:=fun x=>m x.1.2.1 x.1.2.2.1 x.2.1.1 x.2.1.2.2.1 x.2.1.2.2.2.1 x.2.2.1,dflt:=default,out:=fun r=>(Sh.enc D (.aV [.int .i64,.int .i64]) (r.1,(r.2.1,())),az.encs D [.box [.str,.own 2,.int .i64,.int .i64],.dead,.arr U.Block] ((r.2.2.1,((),(r.2.2.2.1,(r.2.2.2.2.1,())))),((),(r.2.2.2.2.2,()))))}
def SE(bE:M.aa->M.ae->Int->(List UInt8)->Int->Int->(List M.af)->Option ((List UInt8)×Int×Int×(List M.af))):Cx K:={aK with mode:=aF .plain [(127,.cT),(128,.cT)],mv:=true,call:=callOf D [DL M.rN,Ig (M.uE bE)],loop:=aE []}
theorem afL(bE:M.aa->M.ae->Int->(List UInt8)->Int->Int->(List M.af)->Option ((List UInt8)×Int×Int×(List M.af)))(fU:(iD bE).Ok D Tryz.prog):aD (SE bE):=aL ak _ (ai SA (ai (afK bE fU) (ax)))
theorem afM(bE:M.aa->M.ae->Int->(List UInt8)->Int->Int->(List M.af)->Option ((List UInt8)×Int×Int×(List M.af)))(fU:(iD bE).Ok D Tryz.prog):(Ih (M.rO bE)).Ok D Tryz.prog:=
 aI (cx:=SE bE) (c:=Ih (M.rO bE)) (fz:=true) (fn:=Tryz.f84) ak (afL bE fU) ay ⟨Tryz.func84,by kernel_rfl⟩ (aJ (aG (by kernel_rfl))) ⟨⟨[.aV [.int .i64,.int .i64]],[.box [.str,.own 2,.int .i64,.int .i64],.dead,.arr U.Block]⟩,fun x=>(x.1.1.1,x.1.1.2.1,x.2.1.1,x.2.1.2.2.1,x.2.1.2.2.2.1,x.2.2.2.1)⟩ (fun x=>rfl) (fun x=>by kernel_rfl)
def Ii(m:Int->Int->Int->(List UInt8)->Int->Int->(List M.af)->Option ((List UInt8)×Int×Int×(List M.af))):aC K:={f:=85,sh:=⟨[.ptr 0 0,.int .i64,.int .i64,.int .i64],[.box [.str,.own 1,.int .i64,.int .i64],.arr U.Block]⟩,R:=(List UInt8)×Int×Int×(List M.af),run:=fun x=>m x.1.2.1 x.1.2.2.1 x.1.2.2.2.1 x.2.1.1 x.2.1.2.2.1 x.2.1.2.2.2.1 x.2.2.1,dflt:=default,out:=fun r=>(Sh.enc D (.aV []) (),az.encs D [.box [.str,.own 2,.int .i64,.int .i64],.dead,.arr U.Block] ((r.1,((),(r.2.1,(r.2.2.1,())))),((),(r.2.2.2,()))))}
def SG:Cx K:={aK with mode:=aF .plain [(130,.plain),(129,.fresh)],mv:=true,call:=callOf D [DF M.nW,DK M.rM],loop:=aE []}
theorem afN:aD (SG):=aL ak _ (ai RY (ai Sv (ax)))
theorem afO:(Ii (M.mM)).Ok D Tryz.prog:=
 aI (cx:=SG) (c:=Ii (M.mM)) (fz:=true) (fn:=Tryz.f85) ak (afN) ay ⟨Tryz.func85,by kernel_rfl⟩ (aJ (aG (by kernel_rfl))) ⟨⟨[.aV []],[.box [.str,.own 2,.int .i64,.int .i64],.dead,.arr U.Block]⟩,fun x=>(x.2.1.1,x.2.1.2.2.1,x.2.1.2.2.2.1,x.2.2.2.1)⟩ (fun x=>rfl) (fun x=>by kernel_rfl)
def SH(y:(List UInt8)×Int×Int×(List M.af)){R:Type}(k:Ex->List (AV K)->List (Ob K)->R):R:=match y with
 |a0=>k (Ex.exit 0) (aw.aW D ⟨[],[.box [.str,.own 2,.int .i64,.int .i64],.dead,.arr U.Block]⟩ ((),((a0.1,((),(a0.2.1,(a0.2.2.1,())))),((),(a0.2.2.2,()))))) (aw.aX D ⟨[],[.box [.str,.own 2,.int .i64,.int .i64],.dead,.arr U.Block]⟩ ((),((a0.1,((),(a0.2.1,(a0.2.2.1,())))),((),(a0.2.2.2,())))))
def afP:List (bH K ((List UInt8)×Int×Int×(List M.af))):=[⟨(Ex.exit 0),⟨[],[.box [.str,.own 2,.int .i64,.int .i64],.dead,.arr U.Block]⟩,fun x=>(x.2.1.1,x.2.1.2.2.1,x.2.1.2.2.2.1,x.2.2.2.1)⟩]
def SI(bE:M.aa->M.ae->Int->(List UInt8)->Int->Int->(List M.af)->Option ((List UInt8)×Int×Int×(List M.af))):bA K:=bJ D false 47 2 [0,1,2,3,8,11] [] ⟨[.ptr 0 0,.aj U.Type,.aj U.Value,.int .i64,.aj U.i64,.int .i64],[.box [.str,.own 2,.int .i64,.int .i64],.dead,.arr U.Block]⟩ (fun x=>M.lj bE x.1.2.1 x.1.2.2.1 x.1.2.2.2.1 x.1.2.2.2.2.1 ah x.1.2.2.2.2.2.1 x.2.1.1 x.2.1.2.2.1 x.2.1.2.2.2.1 x.2.2.2.1) SH
def Ij(m:(List M.aa)->(List M.ae)->Int->(List UInt8)->Int->Int->(List M.af)->Option ((List UInt8)×Int×Int×(List M.af))):aC K:={f:=72,sh:=⟨[.ptr 0 0,.aj U.Type,.aj U.Value,.int .i64],[.box [.str,.own 1,.int .i64,.int .i64],.arr U.Block]⟩,R:=(List UInt8)×Int×Int×(List M.af),run:=fun x=>m x.1.2.1 x.1.2.2.1 x.1.2.2.2.1 x.2.1.1 x.2.1.2.2.1 x.2.1.2.2.2.1 x.2.2.1,dflt:=default,out:=fun r=>(Sh.enc D (.aV []) (),az.encs D [.box [.str,.own 2,.int .i64,.int .i64],.dead,.arr U.Block] ((r.1,((),(r.2.1,(r.2.2.1,())))),((),(r.2.2.2,()))))}
def DO(bE:M.aa->M.ae->Int->(List UInt8)->Int->Int->(List M.af)->Option ((List UInt8)×Int×Int×(List M.af))):Cx K:={aK with mode:=aF .plain [(71,.dA),(46,.cT)],mv:=true,call:=callOf D [Dy (M.mK M.gR),iD bE],loop:=aE [(2,SI bE)]}
theorem SJ(bE:M.aa->M.ae->Int->(List UInt8)->Int->Int->(List M.af)->Option ((List UInt8)×Int×Int×(List M.af)))(fU:(iD bE).Ok D Tryz.prog):aD (DO bE):=aL ak _ (ai (RH M.gR w9) (ai fU (ax)))
theorem afQ(bE:M.aa->M.ae->Int->(List UInt8)->Int->Int->(List M.af)->Option ((List UInt8)×Int×Int×(List M.af)))(fU:(iD bE).Ok D Tryz.prog):bC (DO bE) (bF (bI Tryz.f72) 0) (SI bE):=
 bN (cx:=DO bE) (n:=47) (n0:=2) (ins:=[0,1,2,3,8,11]) (outs:=[]) (sh:=⟨[.ptr 0 0,.aj U.Type,.aj U.Value,.int .i64,.aj U.i64,.int .i64],[.box [.str,.own 2,.int .i64,.int .i64],.dead,.arr U.Block]⟩) (run:=fun n x=>M.lj bE x.1.2.1 x.1.2.2.1 x.1.2.2.2.1 x.1.2.2.2.2.1 n x.1.2.2.2.2.2.1 x.2.1.1 x.2.1.2.2.1 x.2.1.2.2.2.1 x.2.2.2.1) (bG:=afP) (out:=SH) ak (SJ bE fU) ay (aG (by kernel_rfl)) (fun _=>rfl) (fun m x=>by kernel_rfl) (ai ⟨bP,fun _ _ _=>rfl⟩ (ax)) false ah
theorem afR(bE:M.aa->M.ae->Int->(List UInt8)->Int->Int->(List M.af)->Option ((List UInt8)×Int×Int×(List M.af)))(fU:(iD bE).Ok D Tryz.prog):(Ij (M.pX bE)).Ok D Tryz.prog:=
 aI (cx:=DO bE) (c:=Ij (M.pX bE)) (fz:=true) (fn:=Tryz.f72) ak (SJ bE fU) ay ⟨Tryz.func72,by kernel_rfl⟩ (aJ (bQ 1 (by kernel_rfl) (bR (.mk (by kernel_rfl) (afQ bE fU))))) ⟨⟨[.aV []],[.box [.str,.own 2,.int .i64,.int .i64],.dead,.arr U.Block]⟩,fun x=>(x.2.1.1,x.2.1.2.2.1,x.2.1.2.2.2.1,x.2.2.2.1)⟩ (fun x=>rfl) (fun x=>by kernel_rfl)
def Ik(m:M.aa->Option (Int)):aC K:={f:=86,sh:=⟨[.el U.Type],[]⟩,R:=Int,run:=fun x=>m x.1.1,dflt:=default,out:=fun r=>(Sh.enc D (.int .i64) r,az.encs D [] ())}
def SK:Cx K:={aK with mode:=aF .plain [(82,.dA),(81,.plain),(83,.plain)],call:=callOf D [uC M.kA,DC (M.rK M.gR),uB M.iQ],loop:=aE []}
theorem afS:aD (SK):=aL ak _ (ai Ab (ai (RO M.gR w9) (ai Aa (ax))))
theorem afT:(Ik (M.xf)).Ok D Tryz.prog:=
 aI (cx:=SK) (c:=Ik (M.xf)) (fz:=true) (fn:=Tryz.f86) ak (afS) ay ⟨Tryz.func86,by kernel_rfl⟩ (aJ (aG (by kernel_rfl))) ⟨⟨[.int .i64],[]⟩,fun x=>x.1.1⟩ (fun x=>rfl) (fun x=>by kernel_rfl)
def SL(bE:M.aa->M.ae->Int->(List UInt8)->Int->Int->(List M.af)->Option ((List UInt8)×Int×Int×(List M.af))):Cx K:={aK with mode:=aF .plain [(84,.cT),(85,.cT),(72,.cT),(82,.dA),(86,.plain),(46,.cT),(43,.plain)],mv:=true,call:=callOf D [Ih (M.rO bE),Ii M.mM,Ij (M.pX bE),uC M.kA,Ik M.xf,iD bE,iP M.gR],loop:=aE []}
theorem afU(bE:M.aa->M.ae->Int->(List UInt8)->Int->Int->(List M.af)->Option ((List UInt8)×Int×Int×(List M.af)))(fU:(iD bE).Ok D Tryz.prog):aD (SL bE):=aL ak _ (ai (afM bE fU) (ai afO (ai (afR bE fU) (ai Ab (ai afT (ai fU (ai w9 (ax))))))))
theorem afV(bE:M.aa->M.ae->Int->(List UInt8)->Int->Int->(List M.af)->Option ((List UInt8)×Int×Int×(List M.af)))(fU:(iD bE).Ok D Tryz.prog):(iD (M.Af bE)).Ok D Tryz.prog:=
 aI (cx:=SL bE) (c:=iD (M.Af bE)) (fz:=true) (fn:=Tryz.f46) ak (afU bE fU) ay ⟨Tryz.func46,by kernel_rfl⟩ (aJ (aG (by kernel_rfl))) ⟨⟨[.aV []],[.box [.str,.own 2,.int .i64,.int .i64],.dead,.arr U.Block]⟩,fun x=>(x.2.1.1,x.2.1.2.2.1,x.2.1.2.2.2.1,x.2.2.2.1)⟩ (fun x=>rfl) (fun x=>by kernel_rfl)
theorem SN:∀n,(iD (M.rP n)).Ok D Tryz.prog
 |0=>ez fun _=>rfl
 |n+1=>afV (M.rP n) (SN n)
theorem SO:(iD (M.ln)).Ok D Tryz.prog:=SN ah
def xg(m:(List UInt8)->Option (Int)):aC K:={f:=132,sh:=⟨[.str],[]⟩,R:=Int,run:=fun x=>m x.1.1,dflt:=default,out:=fun r=>(Sh.enc D (.int .i64) r,az.encs D [] ())}
def SQ:Cx K:={aK with mode:=aF .plain [],call:=callOf D [],loop:=aE []}
theorem afW:aD (SQ):=aL ak _ (ax)
theorem DR:(xg (M.xh)).Ok D Tryz.prog:=
 aI (cx:=SQ) (c:=xg (M.xh)) (fz:=true) (fn:=Tryz.f132) ak (afW) ay ⟨Tryz.func132,by kernel_rfl⟩ (aJ (aG (by kernel_rfl))) ⟨⟨[.int .i64],[]⟩,fun x=>x.1.1⟩ (fun x=>rfl) (fun x=>by kernel_rfl)
def SR(y:(Bool)⊕(Unit)){R:Type}(k:Ex->List (AV K)->List (Ob K)->R):R:=match y with
 |.inl a0=>k Ex.ret (aw.aW D ⟨[.bool],[]⟩ ((a0,()),())) (aw.aX D ⟨[.bool],[]⟩ ((a0,()),()))
 |.inr (a1)=>k (Ex.exit 0) (aw.aW D ⟨[.any],[]⟩ (((),()),())) (aw.aX D ⟨[.any],[]⟩ (((),()),()))
def afX:List (bH K ((Bool)⊕(Unit))):=[⟨Ex.ret,⟨[.bool],[]⟩,fun x=>.inl x.1.1⟩,⟨(Ex.exit 0),⟨[.any],[]⟩,fun x=>.inr (())⟩]
def SS:bA K:=bJ D false 44 0 [1,5,8,9,10] [4] ⟨[.int .i64,.int .i64,.aj U.Block,.int .i64,.int .i64],[]⟩ (fun x=>M.nY x.1.1 x.1.2.2.1 x.1.2.2.2.1 ah x.1.2.1 x.1.2.2.2.2.1) SR
def Il(m:(List M.af)->Int->Option (Bool)):aC K:={f:=131,sh:=⟨[.aj U.Block,.int .i64],[]⟩,R:=Bool,run:=fun x=>m x.1.1 x.1.2.1,dflt:=default,out:=fun r=>(Sh.enc D (.bool) r,az.encs D [] ())}
def DT:Cx K:={aK with mode:=aF .plain [],call:=callOf D [],loop:=aE [(3,SS)]}
theorem SU:aD (DT):=aL ak _ (ax)
theorem afY:bC (DT) (bF (bI Tryz.f131) 0) (SS):=
 bN (cx:=DT) (n:=44) (n0:=0) (ins:=[1,5,8,9,10]) (outs:=[4]) (sh:=⟨[.int .i64,.int .i64,.aj U.Block,.int .i64,.int .i64],[]⟩) (run:=fun n x=>M.nY x.1.1 x.1.2.2.1 x.1.2.2.2.1 n x.1.2.1 x.1.2.2.2.2.1) (bG:=afX) (out:=SR) ak (SU) ay (aG (by kernel_rfl)) (fun _=>rfl) (fun m x=>by kernel_rfl) (ai ⟨dj,fun _ _ _=>rfl⟩ (ai ⟨bP,fun _ _ _=>rfl⟩ (ax))) false ah
theorem afZ:(Il (M.xi)).Ok D Tryz.prog:=
 aI (cx:=DT) (c:=Il (M.xi)) (fz:=true) (fn:=Tryz.f131) ak (SU) ay ⟨Tryz.func131,by kernel_rfl⟩ (aJ (bQ 1 (by kernel_rfl) (bR (.mk (by kernel_rfl) (afY))))) ⟨⟨[.bool],[]⟩,fun x=>x.1.1⟩ (fun x=>rfl) (fun x=>by kernel_rfl)
def Im(m:M.aB->Option (Bool)):aC K:={f:=88,sh:=⟨[.el U.dR],[]⟩,R:=Bool,run:=fun x=>m x.1.1,dflt:=default,out:=fun r=>(Sh.enc D (.bool) r,az.encs D [] ())}
def SV:Cx K:={aK with mode:=aF .plain [(132,.plain),(131,.plain)],call:=callOf D [xg M.xh,Il M.xi],loop:=aE []}
theorem af0:aD (SV):=aL ak _ (ai DR (ai afZ (ax)))
theorem af1:(Im (M.xj)).Ok D Tryz.prog:=
 aI (cx:=SV) (c:=Im (M.xj)) (fz:=true) (fn:=Tryz.f88) ak (af0) ay ⟨Tryz.func88,by kernel_rfl⟩ (aJ (aG (by kernel_rfl))) ⟨⟨[.bool],[]⟩,fun x=>x.1.1⟩ (fun x=>rfl) (fun x=>by kernel_rfl)
def Io(m:Int->Option (Bool)):aC K:={f:=89,sh:=⟨[.int .i64],[]⟩,R:=Bool,run:=fun x=>m x.1.1,dflt:=default,out:=fun r=>(Sh.enc D (.bool) r,az.encs D [] ())}
def SX:Cx K:={aK with mode:=aF .plain [(133,.plain)],call:=callOf D [rB M.rC],loop:=aE []}
theorem af2:aD (SX):=aL ak _ (ai wA (ax))
theorem af4:(Io (M.Ip)).Ok D Tryz.prog:=
 aI (cx:=SX) (c:=Io (M.Ip)) (fz:=true) (fn:=Tryz.f89) ak (af2) ay ⟨Tryz.func89,by kernel_rfl⟩ (aJ (aG (by kernel_rfl))) ⟨⟨[.bool],[]⟩,fun x=>x.1.1⟩ (fun x=>rfl) (fun x=>by kernel_rfl)
def Iq(m:M.aa->Option (Bool)):aC K:={f:=135,sh:=⟨[.el U.Type],[]⟩,R:=Bool,run:=fun x=>m x.1.1,dflt:=default,out:=fun r=>(Sh.enc D (.bool) r,az.encs D [] ())}
def SY:Cx K:={aK with mode:=aF .plain [(136,.plain)],call:=callOf D [HM M.wR],loop:=aE []}
theorem af5:aD (SY):=aL ak _ (ai aet (ax))
theorem af6:(Iq (M.xk)).Ok D Tryz.prog:=
 aI (cx:=SY) (c:=Iq (M.xk)) (fz:=true) (fn:=Tryz.f135) ak (af5) ay ⟨Tryz.func135,by kernel_rfl⟩ (aJ (aG (by kernel_rfl))) ⟨⟨[.bool],[]⟩,fun x=>x.1.1⟩ (fun x=>rfl) (fun x=>by kernel_rfl)
def SZ(y:(Int)⊕(Unit)){R:Type}(k:Ex->List (AV K)->List (Ob K)->R):R:=match y with
 |.inl a0=>k Ex.ret (aw.aW D ⟨[.int .i64],[]⟩ ((a0,()),())) (aw.aX D ⟨[.int .i64],[]⟩ ((a0,()),()))
 |.inr (a1)=>k (Ex.exit 0) (aw.aW D ⟨[.any],[]⟩ (((),()),())) (aw.aX D ⟨[.any],[]⟩ (((),()),()))
def af7:List (bH K ((Int)⊕(Unit))):=[⟨Ex.ret,⟨[.int .i64],[]⟩,fun x=>.inl x.1.1⟩,⟨(Ex.exit 0),⟨[.any],[]⟩,fun x=>.inr (())⟩]
def S3:bA K:=bJ D false 19 0 [0,1,7,8] [4] ⟨[.aj U.Type,.fn 135 [],.int .i64,.int .i64],[]⟩ (fun x=>M.uF x.1.1 x.1.2.2.1 ah x.1.2.2.2.1) SZ
def Ir(m:(List M.aa)->Option (Int)):aC K:={f:=161,sh:=⟨[.aj U.Type,.fn 135 []],[]⟩,R:=Int,run:=fun x=>m x.1.1,dflt:=default,out:=fun r=>(Sh.enc D (.int .i64) r,az.encs D [] ())}
def DU:Cx K:={aK with mode:=aF .plain [(135,.plain)],call:=callOf D [Iq M.xk],loop:=aE [(2,S3)]}
theorem S4:aD (DU):=aL ak _ (ai af6 (ax))
theorem af8:bC (DU) (bF (bI Tryz.f161) 0) (S3):=
 bN (cx:=DU) (n:=19) (n0:=0) (ins:=[0,1,7,8]) (outs:=[4]) (sh:=⟨[.aj U.Type,.fn 135 [],.int .i64,.int .i64],[]⟩) (run:=fun n x=>M.uF x.1.1 x.1.2.2.1 n x.1.2.2.2.1) (bG:=af7) (out:=SZ) ak (S4) ay (aG (by kernel_rfl)) (fun _=>rfl) (fun m x=>by kernel_rfl) (ai ⟨dj,fun _ _ _=>rfl⟩ (ai ⟨bP,fun _ _ _=>rfl⟩ (ax))) false ah
theorem af9:(Ir (M.Ag)).Ok D Tryz.prog:=
 aI (cx:=DU) (c:=Ir (M.Ag)) (fz:=true) (fn:=Tryz.f161) ak (S4) ay ⟨Tryz.func161,by kernel_rfl⟩ (aJ (bQ 1 (by kernel_rfl) (bR (.mk (by kernel_rfl) (af8))))) ⟨⟨[.int .i64],[]⟩,fun x=>x.1.1⟩ (fun x=>rfl) (fun x=>by kernel_rfl)
def Is(m:(List M.aa)->Option (Bool)):aC K:={f:=134,sh:=⟨[.aj U.Type,.fn 135 []],[]⟩,R:=Bool,run:=fun x=>m x.1.1,dflt:=default,out:=fun r=>(Sh.enc D (.bool) r,az.encs D [] ())}
def S5:Cx K:={aK with mode:=aF .plain [(161,.plain)],call:=callOf D [Ir M.Ag],loop:=aE []}
theorem aga:aD (S5):=aL ak _ (ai af9 (ax))
theorem agb:(Is (M.xl)).Ok D Tryz.prog:=
 aI (cx:=S5) (c:=Is (M.xl)) (fz:=true) (fn:=Tryz.f134) ak (aga) ay ⟨Tryz.func134,by kernel_rfl⟩ (aJ (aG (by kernel_rfl))) ⟨⟨[.bool],[]⟩,fun x=>x.1.1⟩ (fun x=>rfl) (fun x=>by kernel_rfl)
def It(m:(List M.aa)->Option (Bool)):aC K:={f:=90,sh:=⟨[.aj U.Type],[]⟩,R:=Bool,run:=fun x=>m x.1.1,dflt:=default,out:=fun r=>(Sh.enc D (.bool) r,az.encs D [] ())}
def S7:Cx K:={aK with mode:=aF .plain [(134,.plain)],call:=callOf D [Is M.xl],loop:=aE []}
theorem agc:aD (S7):=aL ak _ (ai agb (ax))
theorem agd:(It (M.xm)).Ok D Tryz.prog:=
 aI (cx:=S7) (c:=It (M.xm)) (fz:=true) (fn:=Tryz.f90) ak (agc) ay ⟨Tryz.func90,by kernel_rfl⟩ (aJ (aG (by kernel_rfl))) ⟨⟨[.bool],[]⟩,fun x=>x.1.1⟩ (fun x=>rfl) (fun x=>by kernel_rfl)
def Iu(m:M.aB->Int->(List M.aa)->Option (Bool)):aC K:={f:=49,sh:=⟨[.el U.dR,.int .i64,.aj U.Type],[]⟩,R:=Bool,run:=fun x=>m x.1.1 x.1.2.1 x.1.2.2.1,dflt:=default,out:=fun r=>(Sh.enc D (.bool) r,az.encs D [] ())}
def S8:Cx K:={aK with mode:=aF .plain [(88,.plain),(89,.plain),(90,.plain)],call:=callOf D [Im M.xj,Io M.Ip,It M.xm],loop:=aE []}
theorem age:aD (S8):=aL ak _ (ai af1 (ai af4 (ai agd (ax))))
theorem agf:(Iu (M.xn)).Ok D Tryz.prog:=
 aI (cx:=S8) (c:=Iu (M.xn)) (fz:=true) (fn:=Tryz.f49) ak (age) ay ⟨Tryz.func49,by kernel_rfl⟩ (aJ (aG (by kernel_rfl))) ⟨⟨[.bool],[]⟩,fun x=>x.1.1⟩ (fun x=>rfl) (fun x=>by kernel_rfl)
def Iw(m:M.aB->Option ((List UInt8)×(List M.af))):aC K:={f:=51,sh:=⟨[.el U.dR],[]⟩,R:=(List UInt8)×(List M.af),run:=fun x=>m x.1.1,dflt:=default,out:=fun r=>(Sh.enc D (.ptr 0 0) (),az.encs D [.box [.own 1,.own 2],.arr U.u8,.arr U.Block] (((),((),())),(r.1,(r.2,()))))}
def S9:Cx K:={aK with mode:=aF .plain [(94,.fresh)],call:=callOf D [DV M.mN],loop:=aE []}
theorem agh:aD (S9):=aL ak _ (ai Ta (ax))
theorem agi:(Iw (M.xo)).Ok D Tryz.prog:=
 aI (cx:=S9) (c:=Iw (M.xo)) (fz:=true) (fn:=Tryz.f51) ak (agh) ay ⟨Tryz.func51,by kernel_rfl⟩ (aJ (aG (by kernel_rfl))) ⟨⟨[.ptr 0 0],[.box [.own 1,.own 2],.arr U.u8,.arr U.Block]⟩,fun x=>(x.2.2.1,x.2.2.2.1)⟩ (fun x=>rfl) (fun x=>by kernel_rfl)
def DW(m:M.aa->Option (Int)):aC K:={f:=142,sh:=⟨[.el U.Type],[]⟩,R:=Int,run:=fun x=>m x.1.1,dflt:=default,out:=fun r=>(Sh.enc D (.int .i64) r,az.encs D [] ())}
def Tc:Cx K:={aK with mode:=aF .plain [(138,.plain)],call:=callOf D [wB M.wC],loop:=aE []}
theorem agj:aD (Tc):=aL ak _ (ai CW (ax))
theorem Td:(DW (M.rQ)).Ok D Tryz.prog:=
 aI (cx:=Tc) (c:=DW (M.rQ)) (fz:=true) (fn:=Tryz.f142) ak (agj) ay ⟨Tryz.func142,by kernel_rfl⟩ (aJ (aG (by kernel_rfl))) ⟨⟨[.int .i64],[]⟩,fun x=>x.1.1⟩ (fun x=>rfl) (fun x=>by kernel_rfl)
def jA(m:M.aa->Option (Int)):aC K:={f:=95,sh:=⟨[.el U.Type],[]⟩,R:=Int,run:=fun x=>m x.1.1,dflt:=default,out:=fun r=>(Sh.enc D (.int .i64) r,az.encs D [] ())}
def Tf(y:Int){R:Type}(k:Ex->List (AV K)->List (Ob K)->R):R:=match y with
 |a0=>k (Ex.exit 0) (aw.aW D ⟨[.int .i64],[]⟩ ((a0,()),())) (aw.aX D ⟨[.int .i64],[]⟩ ((a0,()),()))
def agk:List (bH K (Int)):=[⟨(Ex.exit 0),⟨[.int .i64],[]⟩,fun x=>x.1.1⟩]
def Ti(dh:M.aa->Option (Int)):bA K:=bJ D false 18 0 [3,6,7,8] [3] ⟨[.int .i64,.aj U.Type,.int .i64,.int .i64],[]⟩ (fun x=>M.l6 dh x.1.2.1 x.1.2.2.1 ah x.1.1 x.1.2.2.2.1) Tf
def Ah(m:(List M.aa)->Option (Int)):aC K:={f:=118,sh:=⟨[.aj U.Type],[]⟩,R:=Int,run:=fun x=>m x.1.1,dflt:=default,out:=fun r=>(Sh.enc D (.int .i64) r,az.encs D [] ())}
def DX(dh:M.aa->Option (Int)):Cx K:={aK with mode:=aF .plain [(95,.plain)],call:=callOf D [jA dh],loop:=aE [(3,Ti dh)]}
theorem Tj(dh:M.aa->Option (Int))(nZ:(jA dh).Ok D Tryz.prog):aD (DX dh):=aL ak _ (ai nZ (ax))
theorem agl(dh:M.aa->Option (Int))(nZ:(jA dh).Ok D Tryz.prog):bC (DX dh) (bF (bI Tryz.f118) 0) (Ti dh):=
 bN (cx:=DX dh) (n:=18) (n0:=0) (ins:=[3,6,7,8]) (outs:=[3]) (sh:=⟨[.int .i64,.aj U.Type,.int .i64,.int .i64],[]⟩) (run:=fun n x=>M.l6 dh x.1.2.1 x.1.2.2.1 n x.1.1 x.1.2.2.2.1) (bG:=agk) (out:=Tf) ak (Tj dh nZ) ay (aG (by kernel_rfl)) (fun _=>rfl) (fun m x=>by kernel_rfl) (ai ⟨bP,fun _ _ _=>rfl⟩ (ax)) false ah
theorem Ix(dh:M.aa->Option (Int))(nZ:(jA dh).Ok D Tryz.prog):(Ah (M.jY dh)).Ok D Tryz.prog:=
 aI (cx:=DX dh) (c:=Ah (M.jY dh)) (fz:=true) (fn:=Tryz.f118) ak (Tj dh nZ) ay ⟨Tryz.func118,by kernel_rfl⟩ (aJ (bQ 1 (by kernel_rfl) (bR (.mk (by kernel_rfl) (agl dh nZ))))) ⟨⟨[.int .i64],[]⟩,fun x=>x.1.1⟩ (fun x=>rfl) (fun x=>by kernel_rfl)
def xp(m:M.aa->Option ((List M.aa))):aC K:={f:=143,sh:=⟨[.el U.Type],[]⟩,R:=(List M.aa),run:=fun x=>m x.1.1,dflt:=default,out:=fun r=>(Sh.enc D (.aj U.Type) r,az.encs D [] ())}
def Tm:Cx K:={aK with mode:=aF .plain [],call:=callOf D [],loop:=aE []}
theorem agm:aD (Tm):=aL ak _ (ax)
theorem DY:(xp (M.l7)).Ok D Tryz.prog:=
 aI (cx:=Tm) (c:=xp (M.l7)) (fz:=true) (fn:=Tryz.f143) ak (agm) ay ⟨Tryz.func143,by kernel_rfl⟩ (aJ (aG (by kernel_rfl))) ⟨⟨[.aj U.Type],[]⟩,fun x=>x.1.1⟩ (fun x=>rfl) (fun x=>by kernel_rfl)
def DZ(m:Int->Option (Int)):aC K:={f:=144,sh:=⟨[.int .i64],[]⟩,R:=Int,run:=fun x=>m x.1.1,dflt:=default,out:=fun r=>(Sh.enc D (.int .i64) r,az.encs D [] ())}
def Tn:Cx K:={aK with mode:=aF .plain [],call:=callOf D [],loop:=aE []}
theorem agn:aD (Tn):=aL ak _ (ax)
theorem To:(DZ (M.uG)).Ok D Tryz.prog:=
 aI (cx:=Tn) (c:=DZ (M.uG)) (fz:=true) (fn:=Tryz.f144) ak (agn) ay ⟨Tryz.func144,by kernel_rfl⟩ (aJ (aG (by kernel_rfl))) ⟨⟨[.int .i64],[]⟩,fun x=>x.1.1⟩ (fun x=>rfl) (fun x=>by kernel_rfl)
def Tq(dh:M.aa->Option (Int)):Cx K:={aK with mode:=aF .plain [(142,.plain),(118,.plain),(143,.dA),(144,.plain)],call:=callOf D [DW M.rQ,Ah (M.jY dh),xp M.l7,DZ M.uG],loop:=aE []}
theorem agp(dh:M.aa->Option (Int))(nZ:(jA dh).Ok D Tryz.prog):aD (Tq dh):=aL ak _ (ai Td (ai (Ix dh nZ) (ai DY (ai To (ax)))))
theorem agq(dh:M.aa->Option (Int))(nZ:(jA dh).Ok D Tryz.prog):(jA (M.Ai dh)).Ok D Tryz.prog:=
 aI (cx:=Tq dh) (c:=jA (M.Ai dh)) (fz:=true) (fn:=Tryz.f95) ak (agp dh nZ) ay ⟨Tryz.func95,by kernel_rfl⟩ (aJ (aG (by kernel_rfl))) ⟨⟨[.int .i64],[]⟩,fun x=>x.1.1⟩ (fun x=>rfl) (fun x=>by kernel_rfl)
theorem Tt:∀n,(jA (M.pY n)).Ok D Tryz.prog
 |0=>ez fun _=>rfl
 |n+1=>agq (M.pY n) (Tt n)
theorem rR:(jA (M.fE)).Ok D Tryz.prog:=Tt ah
def pZ(m:Int->Int->Option (Int)):aC K:={f:=146,sh:=⟨[.int .i64,.int .i64],[]⟩,R:=Int,run:=fun x=>m x.1.1 x.1.2.1,dflt:=default,out:=fun r=>(Sh.enc D (.int .i64) r,az.encs D [] ())}
def Tu:Cx K:={aK with mode:=aF .plain [],call:=callOf D [],loop:=aE []}
theorem agr:aD (Tu):=aL ak _ (ax)
theorem uH:(pZ (M.ib)).Ok D Tryz.prog:=
 aI (cx:=Tu) (c:=pZ (M.ib)) (fz:=true) (fn:=Tryz.f146) ak (agr) ay ⟨Tryz.func146,by kernel_rfl⟩ (aJ (aG (by kernel_rfl))) ⟨⟨[.int .i64],[]⟩,fun x=>x.1.1⟩ (fun x=>rfl) (fun x=>by kernel_rfl)
def ic(m:M.aa->Option (Int)):aC K:={f:=97,sh:=⟨[.el U.Type],[]⟩,R:=Int,run:=fun x=>m x.1.1,dflt:=default,out:=fun r=>(Sh.enc D (.int .i64) r,az.encs D [] ())}
def Tv(y:Int×(List Int)){R:Type}(k:Ex->List (AV K)->List (Ob K)->R):R:=match y with
 |a0=>k (Ex.exit 0) (aw.aW D ⟨[.own 1,.int .i64],[.dead,.arr U.i64]⟩ (((),(a0.1,())),((),(a0.2,())))) (aw.aX D ⟨[.own 1,.int .i64],[.dead,.arr U.i64]⟩ (((),(a0.1,())),((),(a0.2,()))))
def ags:List (bH K (Int×(List Int))):=[⟨(Ex.exit 0),⟨[.own 1,.int .i64],[.dead,.arr U.i64]⟩,fun x=>(x.1.2.1,x.2.2.1)⟩]
def Tz(bK:M.aa->Option (Int)):bA K:=bJ D false 31 1 [4,5,10,11,12] [4,5] ⟨[.own 1,.int .i64,.aj U.Type,.int .i64,.int .i64],[.dead,.arr U.i64]⟩ (fun x=>M.l9 bK x.1.2.2.1 x.1.2.2.2.1 ah x.1.2.1 x.1.2.2.2.2.1 x.2.2.1) Tv
def D1(m:(List M.aa)->Option ((List Int)×Int)):aC K:={f:=101,sh:=⟨[.aj U.Type],[]⟩,R:=(List Int)×Int,run:=fun x=>m x.1.1,dflt:=default,out:=fun r=>(Sh.enc D (.aV [.aj U.i64,.int .i64]) (r.1,(r.2,())),az.encs D [] ())}
def D2(bK:M.aa->Option (Int)):Cx K:={aK with mode:=aF .plain [(95,.plain),(146,.plain),(97,.plain)],call:=callOf D [jA M.fE,pZ M.ib,ic bK],loop:=aE [(3,Tz bK)]}
theorem TA(bK:M.aa->Option (Int))(gh:(ic bK).Ok D Tryz.prog):aD (D2 bK):=aL ak _ (ai rR (ai uH (ai gh (ax))))
theorem agt(bK:M.aa->Option (Int))(gh:(ic bK).Ok D Tryz.prog):bC (D2 bK) (bF (bI Tryz.f101) 0) (Tz bK):=
 bN (cx:=D2 bK) (n:=31) (n0:=1) (ins:=[4,5,10,11,12]) (outs:=[4,5]) (sh:=⟨[.own 1,.int .i64,.aj U.Type,.int .i64,.int .i64],[.dead,.arr U.i64]⟩) (run:=fun n x=>M.l9 bK x.1.2.2.1 x.1.2.2.2.1 n x.1.2.1 x.1.2.2.2.2.1 x.2.2.1) (bG:=ags) (out:=Tv) ak (TA bK gh) ay (aG (by kernel_rfl)) (fun _=>rfl) (fun m x=>by kernel_rfl) (ai ⟨bP,fun _ _ _=>rfl⟩ (ax)) false ah
theorem TB(bK:M.aa->Option (Int))(gh:(ic bK).Ok D Tryz.prog):(D1 (M.od bK)).Ok D Tryz.prog:=
 aI (cx:=D2 bK) (c:=D1 (M.od bK)) (fz:=true) (fn:=Tryz.f101) ak (TA bK gh) ay ⟨Tryz.func101,by kernel_rfl⟩ (aJ (bQ 1 (by kernel_rfl) (bR (.mk (by kernel_rfl) (agt bK gh))))) ⟨⟨[.aV [.aj U.i64,.int .i64]],[]⟩,fun x=>(x.1.1.1,x.1.1.2.1)⟩ (fun x=>rfl) (fun x=>by kernel_rfl)
def Iy(m:(List M.aa)->Option (Int)):aC K:={f:=117,sh:=⟨[.aj U.Type],[]⟩,R:=Int,run:=fun x=>m x.1.1,dflt:=default,out:=fun r=>(Sh.enc D (.int .i64) r,az.encs D [] ())}
def TC(bK:M.aa->Option (Int)):Cx K:={aK with mode:=aF .plain [(101,.dA),(118,.plain),(146,.plain)],call:=callOf D [D1 (M.od bK),Ah (M.jY M.fE),pZ M.ib],loop:=aE []}
theorem agu(bK:M.aa->Option (Int))(gh:(ic bK).Ok D Tryz.prog):aD (TC bK):=aL ak _ (ai (TB bK gh) (ai (Ix M.fE rR) (ai uH (ax))))
theorem agv(bK:M.aa->Option (Int))(gh:(ic bK).Ok D Tryz.prog):(Iy (M.qa bK)).Ok D Tryz.prog:=
 aI (cx:=TC bK) (c:=Iy (M.qa bK)) (fz:=true) (fn:=Tryz.f117) ak (agu bK gh) ay ⟨Tryz.func117,by kernel_rfl⟩ (aJ (aG (by kernel_rfl))) ⟨⟨[.int .i64],[]⟩,fun x=>x.1.1⟩ (fun x=>rfl) (fun x=>by kernel_rfl)
def D3(m:M.aa->Option (Int)):aC K:={f:=103,sh:=⟨[.el U.Type],[]⟩,R:=Int,run:=fun x=>m x.1.1,dflt:=default,out:=fun r=>(Sh.enc D (.int .i64) r,az.encs D [] ())}
def TD:Cx K:={aK with mode:=aF .plain [(143,.dA),(118,.plain),(146,.plain)],call:=callOf D [xp M.l7,Ah (M.jY M.fE),pZ M.ib],loop:=aE []}
theorem agw:aD (TD):=aL ak _ (ai DY (ai (Ix M.fE rR) (ai uH (ax))))
theorem TE:(D3 (M.qb)).Ok D Tryz.prog:=
 aI (cx:=TD) (c:=D3 (M.qb)) (fz:=true) (fn:=Tryz.f103) ak (agw) ay ⟨Tryz.func103,by kernel_rfl⟩ (aJ (aG (by kernel_rfl))) ⟨⟨[.int .i64],[]⟩,fun x=>x.1.1⟩ (fun x=>rfl) (fun x=>by kernel_rfl)
def TF(y:Int){R:Type}(k:Ex->List (AV K)->List (Ob K)->R):R:=match y with
 |a0=>k (Ex.exit 0) (aw.aW D ⟨[.int .i64],[]⟩ ((a0,()),())) (aw.aX D ⟨[.int .i64],[]⟩ ((a0,()),()))
def agx:List (bH K (Int)):=[⟨(Ex.exit 0),⟨[.int .i64],[]⟩,fun x=>x.1.1⟩]
def TG(bK:M.aa->Option (Int)):bA K:=bJ D false 18 0 [3,6,7,8] [3] ⟨[.int .i64,.aj U.Type,.int .i64,.int .i64],[]⟩ (fun x=>M.oe bK x.1.2.1 x.1.2.2.1 ah x.1.1 x.1.2.2.2.1) TF
def Iz(m:(List M.aa)->Option (Int)):aC K:={f:=147,sh:=⟨[.aj U.Type],[]⟩,R:=Int,run:=fun x=>m x.1.1,dflt:=default,out:=fun r=>(Sh.enc D (.int .i64) r,az.encs D [] ())}
def D4(bK:M.aa->Option (Int)):Cx K:={aK with mode:=aF .plain [(97,.plain)],call:=callOf D [ic bK],loop:=aE [(3,TG bK)]}
theorem TI(bK:M.aa->Option (Int))(gh:(ic bK).Ok D Tryz.prog):aD (D4 bK):=aL ak _ (ai gh (ax))
theorem agy(bK:M.aa->Option (Int))(gh:(ic bK).Ok D Tryz.prog):bC (D4 bK) (bF (bI Tryz.f147) 0) (TG bK):=
 bN (cx:=D4 bK) (n:=18) (n0:=0) (ins:=[3,6,7,8]) (outs:=[3]) (sh:=⟨[.int .i64,.aj U.Type,.int .i64,.int .i64],[]⟩) (run:=fun n x=>M.oe bK x.1.2.1 x.1.2.2.1 n x.1.1 x.1.2.2.2.1) (bG:=agx) (out:=TF) ak (TI bK gh) ay (aG (by kernel_rfl)) (fun _=>rfl) (fun m x=>by kernel_rfl) (ai ⟨bP,fun _ _ _=>rfl⟩ (ax)) false ah
theorem agz(bK:M.aa->Option (Int))(gh:(ic bK).Ok D Tryz.prog):(Iz (M.rS bK)).Ok D Tryz.prog:=
 aI (cx:=D4 bK) (c:=Iz (M.rS bK)) (fz:=true) (fn:=Tryz.f147) ak (TI bK gh) ay ⟨Tryz.func147,by kernel_rfl⟩ (aJ (bQ 1 (by kernel_rfl) (bR (.mk (by kernel_rfl) (agy bK gh))))) ⟨⟨[.int .i64],[]⟩,fun x=>x.1.1⟩ (fun x=>rfl) (fun x=>by kernel_rfl)
def TJ(bK:M.aa->Option (Int)):Cx K:={aK with mode:=aF .plain [(142,.plain),(117,.plain),(103,.plain),(143,.dA),(147,.plain),(95,.plain),(146,.plain),(144,.plain)],call:=callOf D [DW M.rQ,Iy (M.qa bK),D3 M.qb,xp M.l7,Iz (M.rS bK),jA M.fE,pZ M.ib,DZ M.uG],loop:=aE []}
theorem agA(bK:M.aa->Option (Int))(gh:(ic bK).Ok D Tryz.prog):aD (TJ bK):=aL ak _ (ai Td (ai (agv bK gh) (ai TE (ai DY (ai (agz bK gh) (ai rR (ai uH (ai To (ax)))))))))
theorem agB(bK:M.aa->Option (Int))(gh:(ic bK).Ok D Tryz.prog):(ic (M.Aj bK)).Ok D Tryz.prog:=
 aI (cx:=TJ bK) (c:=ic (M.Aj bK)) (fz:=true) (fn:=Tryz.f97) ak (agA bK gh) ay ⟨Tryz.func97,by kernel_rfl⟩ (aJ (aG (by kernel_rfl))) ⟨⟨[.int .i64],[]⟩,fun x=>x.1.1⟩ (fun x=>rfl) (fun x=>by kernel_rfl)
theorem TK:∀n,(ic (M.oh n)).Ok D Tryz.prog
 |0=>ez fun _=>rfl
 |n+1=>agB (M.oh n) (TK n)
theorem Ak:(ic (M.ie)).Ok D Tryz.prog:=TK ah
def IA(m:(List UInt8)->Option (Int)):aC K:={f:=145,sh:=⟨[.aj U.u8],[]⟩,R:=Int,run:=fun x=>m x.1.1,dflt:=default,out:=fun r=>(Sh.enc D (.int .i64) r,az.encs D [] ())}
def TL:Cx K:={aK with mode:=aF .plain [],call:=callOf D [],loop:=aE []}
theorem agC:aD (TL):=aL ak _ (ax)
theorem agD:(IA (M.IB)).Ok D Tryz.prog:=
 aI (cx:=TL) (c:=IA (M.IB)) (fz:=true) (fn:=Tryz.f145) ak (agC) ay ⟨Tryz.func145,by kernel_rfl⟩ (aJ (aG (by kernel_rfl))) ⟨⟨[.int .i64],[]⟩,fun x=>x.1.1⟩ (fun x=>rfl) (fun x=>by kernel_rfl)
def IC(m:M.ig->Int->Int->Option (Bool)):aC K:={f:=96,sh:=⟨[.rp U.store 0,.int .i64,.int .i64],[]⟩,R:=Bool,run:=fun x=>m x.1.1 x.1.2.1 x.1.2.2.1,dflt:=default,out:=fun r=>(Sh.enc D (.bool) r,az.encs D [] ())}
def TM:Cx K:={aK with mode:=aF .plain [(145,.plain)],call:=callOf D [IA M.IB],loop:=aE []}
theorem agE:aD (TM):=aL ak _ (ai agD (ax))
theorem agF:(IC (M.uI)).Ok D Tryz.prog:=
 aI (cx:=TM) (c:=IC (M.uI)) (fz:=true) (fn:=Tryz.f96) ak (agE) ay ⟨Tryz.func96,by kernel_rfl⟩ (aJ (aG (by kernel_rfl))) ⟨⟨[.bool],[]⟩,fun x=>x.1.1⟩ (fun x=>rfl) (fun x=>by kernel_rfl)
def TN(y:(List UInt8)){R:Type}(k:Ex->List (AV K)->List (Ob K)->R):R:=match y with
 |a0=>k (Ex.exit 0) (aw.aW D ⟨[.own 1],[.dead,.arr U.u8]⟩ (((),()),((),(a0,())))) (aw.aX D ⟨[.own 1],[.dead,.arr U.u8]⟩ (((),()),((),(a0,()))))
def agG:List (bH K ((List UInt8))):=[⟨(Ex.exit 0),⟨[.own 1],[.dead,.arr U.u8]⟩,fun x=>x.2.2.1⟩]
def TP:bA K:=bJ D false 20 1 [0,5,7,8] [5] ⟨[.int .i64,.own 1,.int .i64,.int .i64],[.dead,.arr U.u8]⟩ (fun x=>M.oi x.1.2.2.1 ah x.1.1 x.1.2.2.2.1 x.2.2.1) TN
def Am(m:Int->Int->Option ((List UInt8))):aC K:={f:=100,sh:=⟨[.int .i64,.int .i64],[]⟩,R:=(List UInt8),run:=fun x=>m x.1.1 x.1.2.1,dflt:=default,out:=fun r=>(Sh.enc D (.str) r,az.encs D [] ())}
def D5:Cx K:={aK with mode:=aF .plain [],call:=callOf D [],loop:=aE [(3,TP)]}
theorem TQ:aD (D5):=aL ak _ (ax)
theorem agH:bC (D5) (bF (bI Tryz.f100) 0) (TP):=
 bN (cx:=D5) (n:=20) (n0:=1) (ins:=[0,5,7,8]) (outs:=[5]) (sh:=⟨[.int .i64,.own 1,.int .i64,.int .i64],[.dead,.arr U.u8]⟩) (run:=fun n x=>M.oi x.1.2.2.1 n x.1.1 x.1.2.2.2.1 x.2.2.1) (bG:=agG) (out:=TN) ak (TQ) ay (aG (by kernel_rfl)) (fun _=>rfl) (fun m x=>by kernel_rfl) (ai ⟨bP,fun _ _ _=>rfl⟩ (ax)) false ah
theorem ID:(Am (M.jn)).Ok D Tryz.prog:=
 aI (cx:=D5) (c:=Am (M.jn)) (fz:=true) (fn:=Tryz.f100) ak (TQ) ay ⟨Tryz.func100,by kernel_rfl⟩ (aJ (bQ 1 (by kernel_rfl) (bR (.mk (by kernel_rfl) (agH))))) ⟨⟨[.str],[]⟩,fun x=>x.1.1⟩ (fun x=>rfl) (fun x=>by kernel_rfl)
def IE(m:Int->Option ((List UInt8))):aC K:={f:=168,sh:=⟨[.int .i64],[]⟩,R:=(List UInt8),run:=fun x=>m x.1.1,dflt:=default,out:=fun r=>(Sh.enc D (.str) r,az.encs D [] ())}
def TR:Cx K:={aK with mode:=aF .plain [(100,.plain)],call:=callOf D [Am M.jn],loop:=aE []}
theorem agI:aD (TR):=aL ak _ (ai ID (ax))
theorem agJ:(IE (M.xq)).Ok D Tryz.prog:=
 aI (cx:=TR) (c:=IE (M.xq)) (fz:=true) (fn:=Tryz.f168) ak (agI) ay ⟨Tryz.func168,by kernel_rfl⟩ (aJ (aG (by kernel_rfl))) ⟨⟨[.str],[]⟩,fun x=>x.1.1⟩ (fun x=>rfl) (fun x=>by kernel_rfl)
def TS(y:((List UInt8)×Int)⊕((List UInt8))){R:Type}(k:Ex->List (AV K)->List (Ob K)->R):R:=match y with
 |.inl a0=>k Ex.ret (aw.aW D ⟨[.any,.str,.int .i64],[.dead]⟩ (((),(a0.1,(a0.2,()))),((),()))) (aw.aX D ⟨[.any,.str,.int .i64],[.dead]⟩ (((),(a0.1,(a0.2,()))),((),())))
 |.inr (a1)=>k (Ex.exit 0) (aw.aW D ⟨[.str,.any,.any],[.dead]⟩ ((a1,((),((),()))),((),()))) (aw.aX D ⟨[.str,.any,.any],[.dead]⟩ ((a1,((),((),()))),((),())))
def agK:List (bH K (((List UInt8)×Int)⊕((List UInt8)))):=[⟨Ex.ret,⟨[.any,.str,.int .i64],[.dead]⟩,fun x=>.inl (x.1.2.1,x.1.2.2.1)⟩,⟨(Ex.exit 0),⟨[.str,.any,.any],[.dead]⟩,fun x=>.inr (x.1.1)⟩]
def TU:bA K:=bJ D false 35 1 [0,6,13,14,15] [6,4,5] ⟨[.int .i64,.str,.own 1,.int .i64,.int .i64],[.dead,.arr U.i64]⟩ (fun x=>M.mO x.1.1 x.1.2.2.2.1 x.2.2.1 ah x.1.2.1 x.1.2.2.2.2.1) TS
def D6(m:Int->(List UInt8)->Option ((List UInt8)×Int)):aC K:={f:=148,sh:=⟨[.int .i64,.str],[]⟩,R:=(List UInt8)×Int,run:=fun x=>m x.1.1 x.1.2.1,dflt:=default,out:=fun r=>(Sh.enc D (.aV [.str,.int .i64]) (r.1,(r.2,())),az.encs D [] ())}
def D7:Cx K:={aK with mode:=aF .plain [(167,.fresh),(168,.plain),(100,.plain)],call:=callOf D [IF M.rT,IE M.xq,Am M.jn],loop:=aE [(5,TU)]}
theorem TV:aD (D7):=aL ak _ (ai agL (ai agJ (ai ID (ax))))
theorem agM:bC (D7) (bF (bI Tryz.f148) 0) (TU):=
 bN (cx:=D7) (n:=35) (n0:=1) (ins:=[0,6,13,14,15]) (outs:=[6,4,5]) (sh:=⟨[.int .i64,.str,.own 1,.int .i64,.int .i64],[.dead,.arr U.i64]⟩) (run:=fun n x=>M.mO x.1.1 x.1.2.2.2.1 x.2.2.1 n x.1.2.1 x.1.2.2.2.2.1) (bG:=agK) (out:=TS) ak (TV) ay (aG (by kernel_rfl)) (fun _=>rfl) (fun m x=>by kernel_rfl) (ai ⟨dj,fun _ _ _=>rfl⟩ (ai ⟨bP,fun _ _ _=>rfl⟩ (ax))) false ah
theorem TW:(D6 (M.rU)).Ok D Tryz.prog:=
 aI (cx:=D7) (c:=D6 (M.rU)) (fz:=true) (fn:=Tryz.f148) ak (TV) ay ⟨Tryz.func148,by kernel_rfl⟩ (aJ (bQ 1 (by kernel_rfl) (bR (.mk (by kernel_rfl) (agM))))) ⟨⟨[.aV [.str,.int .i64]],[]⟩,fun x=>(x.1.1.1,x.1.1.2.1)⟩ (fun x=>rfl) (fun x=>by kernel_rfl)
def D8(m:Int->Option (Int)):aC K:={f:=149,sh:=⟨[.int .i64],[]⟩,R:=Int,run:=fun x=>m x.1.1,dflt:=default,out:=fun r=>(Sh.enc D (.int .i64) r,az.encs D [] ())}
def TX:Cx K:={aK with mode:=aF .plain [],call:=callOf D [],loop:=aE []}
theorem agN:aD (TX):=aL ak _ (ax)
theorem TY:(D8 (M.oj)).Ok D Tryz.prog:=
 aI (cx:=TX) (c:=D8 (M.oj)) (fz:=true) (fn:=Tryz.f149) ak (agN) ay ⟨Tryz.func149,by kernel_rfl⟩ (aJ (aG (by kernel_rfl))) ⟨⟨[.int .i64],[]⟩,fun x=>x.1.1⟩ (fun x=>rfl) (fun x=>by kernel_rfl)
def TZ(y:(List (List M.af))×Int){R:Type}(k:Ex->List (AV K)->List (Ob K)->R):R:=match y with
 |a0=>k (Ex.exit 0) (aw.aW D ⟨[.aj U.ia,.int .i64],[]⟩ ((a0.1,(a0.2,())),())) (aw.aX D ⟨[.aj U.ia,.int .i64],[]⟩ ((a0.1,(a0.2,())),()))
def agO:List (bH K ((List (List M.af))×Int)):=[⟨(Ex.exit 0),⟨[.aj U.ia,.int .i64],[]⟩,fun x=>(x.1.1,x.1.2.1)⟩]
def T0:bA K:=bJ D false 36 0 [0,3,9,10,11] [0,3] ⟨[.aj U.ia,.int .i64,.aj U.ia,.int .i64,.int .i64],[]⟩ (fun x=>M.qc x.1.1 x.1.2.2.1 x.1.2.2.2.1 ah x.1.2.1 x.1.2.2.2.2.1) TZ
def T8(y:(List M.af)){R:Type}(k:Ex->List (AV K)->List (Ob K)->R):R:=match y with
 |a0=>k (Ex.exit 2) (aw.aW D ⟨[.own 1],[.dead,.arr U.Block]⟩ (((),()),((),(a0,())))) (aw.aX D ⟨[.own 1],[.dead,.arr U.Block]⟩ (((),()),((),(a0,()))))
def agP:List (bH K ((List M.af))):=[⟨(Ex.exit 2),⟨[.own 1],[.dead,.arr U.Block]⟩,fun x=>x.2.2.1⟩]
def T9:bA K:=bJ D false 36 1 [6,25,26,27] [6] ⟨[.own 1,.aj U.ia,.int .i64,.int .i64],[.dead,.arr U.Block]⟩ (fun x=>M.qd x.1.2.1 x.1.2.2.1 ah x.1.2.2.2.1 x.2.2.1) T8
def IG(m:(List (List M.af))->Option ((List M.af))):aC K:={f:=169,sh:=⟨[.aj U.ia],[]⟩,R:=(List M.af),run:=fun x=>m x.1.1,dflt:=default,out:=fun r=>(Sh.enc D (.own 0) (),az.encs D [.arr U.Block] (r,()))}
def xr:Cx K:={aK with mode:=aF .plain [(180,.fresh)],fq:=[[some U.Block]],deep:=fun c=>dy (D.cells c (K.zero c)),call:=callOf D [IH M.rV],loop:=aE [(3,T0),(11,T9)]}
theorem II:aD (xr):=aL ak _ (ai agQ (ax))
theorem agR:bC (xr) (bF (bI Tryz.f169) 0) (T0):=
 bN (cx:=xr) (n:=36) (n0:=0) (ins:=[0,3,9,10,11]) (outs:=[0,3]) (sh:=⟨[.aj U.ia,.int .i64,.aj U.ia,.int .i64,.int .i64],[]⟩) (run:=fun n x=>M.qc x.1.1 x.1.2.2.1 x.1.2.2.2.1 n x.1.2.1 x.1.2.2.2.2.1) (bG:=agO) (out:=TZ) ak (II) ay (aG (by kernel_rfl)) (fun _=>rfl) (fun m x=>by kernel_rfl) (ai ⟨bP,fun _ _ _=>rfl⟩ (ax)) false ah
theorem agS:bC (xr) (bF (bI Tryz.f169) 1) (T9):=
 bN (cx:=xr) (n:=36) (n0:=1) (ins:=[6,25,26,27]) (outs:=[6]) (sh:=⟨[.own 1,.aj U.ia,.int .i64,.int .i64],[.dead,.arr U.Block]⟩) (run:=fun n x=>M.qd x.1.2.1 x.1.2.2.1 n x.1.2.2.2.1 x.2.2.1) (bG:=agP) (out:=T8) ak (II) ay (aG (by kernel_rfl)) (fun _=>rfl) (fun m x=>by kernel_rfl) (ai ⟨bP,fun _ _ _=>rfl⟩ (ax)) false ah
theorem agT:(IG (M.qe)).Ok D Tryz.prog:=
 aI (cx:=xr) (c:=IG (M.qe)) (fz:=false) (fn:=Tryz.f169) ak (II) ay ⟨Tryz.func169,by kernel_rfl⟩ (aJ (bQ 2 (by kernel_rfl) (lt_succ (bR (.mk (by kernel_rfl) (agR))) (.mk (by kernel_rfl) (agS))))) ⟨⟨[.own 0],[.arr U.Block]⟩,fun x=>x.2.1⟩ (fun x=>rfl) (fun x=>by kernel_rfl)
def Ua(y:(Int×Int×(List UInt8)×(List M.af))⊕((List UInt8)×(List M.af))){R:Type}(k:Ex->List (AV K)->List (Ob K)->R):R:=match y with
 |.inl a0=>k Ex.ret (aw.aW D ⟨[.int .i64,.int .i64],[.box [.own 3,.own 4],.dead,.dead,.arr U.u8,.arr U.Block]⟩ ((a0.1,(a0.2.1,())),(((),((),())),((),((),(a0.2.2.1,(a0.2.2.2,()))))))) (aw.aX D ⟨[.int .i64,.int .i64],[.box [.own 3,.own 4],.dead,.dead,.arr U.u8,.arr U.Block]⟩ ((a0.1,(a0.2.1,())),(((),((),())),((),((),(a0.2.2.1,(a0.2.2.2,())))))))
 |.inr (a1)=>k (Ex.exit 0) (aw.aW D ⟨[.any,.any],[.box [.own 3,.own 4],.dead,.dead,.arr U.u8,.arr U.Block]⟩ (((),((),())),(((),((),())),((),((),(a1.1,(a1.2,()))))))) (aw.aX D ⟨[.any,.any],[.box [.own 3,.own 4],.dead,.dead,.arr U.u8,.arr U.Block]⟩ (((),((),())),(((),((),())),((),((),(a1.1,(a1.2,())))))))
def agU:List (bH K ((Int×Int×(List UInt8)×(List M.af))⊕((List UInt8)×(List M.af)))):=[⟨Ex.ret,⟨[.int .i64,.int .i64],[.box [.own 3,.own 4],.dead,.dead,.arr U.u8,.arr U.Block]⟩,fun x=>.inl (x.1.1,x.1.2.1,x.2.2.2.2.1,x.2.2.2.2.2.1)⟩,⟨(Ex.exit 0),⟨[.any,.any],[.box [.own 3,.own 4],.dead,.dead,.arr U.u8,.arr U.Block]⟩,fun x=>.inr ((x.2.2.2.2.1,x.2.2.2.2.2.1))⟩]
def Ub:bA K:=bJ D false 90 3 [0,1,2,19,20,21] [6,7] ⟨[.ptr 0 0,.int .i64,.int .i64,.own 3,.int .i64,.int .i64],[.box [.own 4,.own 3],.dead,.dead,.arr U.Block,.arr U.u8]⟩ (fun x=>M.om x.1.2.1 x.1.2.2.1 x.1.2.2.2.2.1 x.2.2.2.2.1 x.2.2.2.2.2.1 ah x.1.2.2.2.2.2.1) Ua
def IJ(m:Int->Int->(List UInt8)->(List M.af)->Option (Int×Int×(List UInt8)×(List M.af))):aC K:={f:=155,sh:=⟨[.ptr 0 0,.int .i64,.int .i64],[.box [.own 1,.own 2],.arr U.u8,.arr U.Block]⟩,R:=Int×Int×(List UInt8)×(List M.af),run:=fun x=>m x.1.2.1 x.1.2.2.1 x.2.2.1 x.2.2.2.1,dflt:=default,out:=fun r=>(Sh.enc D (.aV [.int .i64,.int .i64]) (r.1,(r.2.1,())),az.encs D [.box [.own 3,.own 4],.dead,.dead,.arr U.u8,.arr U.Block] (((),((),())),((),((),(r.2.2.1,(r.2.2.2,()))))))}
def D9:Cx K:={aK with mode:=aF .plain [(146,.plain),(169,.fresh)],IK:=true,mv:=true,call:=callOf D [pZ M.ib,IG M.qe],loop:=aE [(4,Ub)]}
theorem Uc:aD (D9):=aL ak _ (ai uH (ai agT (ax)))
theorem agV:bC (D9) (bF (bI Tryz.f155) 0) (Ub):=
 bN (cx:=D9) (n:=90) (n0:=3) (ins:=[0,1,2,19,20,21]) (outs:=[6,7]) (sh:=⟨[.ptr 0 0,.int .i64,.int .i64,.own 3,.int .i64,.int .i64],[.box [.own 4,.own 3],.dead,.dead,.arr U.Block,.arr U.u8]⟩) (run:=fun n x=>M.om x.1.2.1 x.1.2.2.1 x.1.2.2.2.2.1 x.2.2.2.2.1 x.2.2.2.2.2.1 n x.1.2.2.2.2.2.1) (bG:=agU) (out:=Ua) ak (Uc) ay (aG (by kernel_rfl)) (fun _=>rfl) (fun m x=>by kernel_rfl) (ai ⟨dj,fun _ _ _=>rfl⟩ (ai ⟨bP,fun _ _ _=>rfl⟩ (ax))) false ah
theorem agW:(IJ (M.xt)).Ok D Tryz.prog:=
 aI (cx:=D9) (c:=IJ (M.xt)) (fz:=true) (fn:=Tryz.f155) ak (Uc) ay ⟨Tryz.func155,by kernel_rfl⟩ (aJ (bQ 1 (by kernel_rfl) (bR (.mk (by kernel_rfl) (agV))))) ⟨⟨[.aV [.int .i64,.int .i64]],[.box [.own 3,.own 4],.dead,.dead,.arr U.u8,.arr U.Block]⟩,fun x=>(x.1.1.1,x.1.1.2.1,x.2.2.2.2.1,x.2.2.2.2.2.1)⟩ (fun x=>rfl) (fun x=>by kernel_rfl)
def An(m:Int->Int->Int->Int->(List UInt8)->(List M.af)->Option (Int×Int×Int×(List UInt8)×(List M.af))):aC K:={f:=113,sh:=⟨[.ptr 0 0,.int .i64,.int .i64],[.box [.ptr 1 0,.int .i64,.int .i64],.box [.own 2,.own 3],.arr U.u8,.arr U.Block]⟩,R:=Int×Int×Int×(List UInt8)×(List M.af),run:=fun x=>m x.1.2.1 x.1.2.2.1 x.2.1.2.1 x.2.1.2.2.1 x.2.2.2.1 x.2.2.2.2.1,dflt:=default,out:=fun r=>(Sh.enc D (.int .i64) r.1,az.encs D [.box [.ptr 1 0,.int .i64,.int .i64],.box [.own 4,.own 5],.dead,.dead,.arr U.u8,.arr U.Block] (((),(r.2.1,(r.2.2.1,()))),(((),((),())),((),((),(r.2.2.2.1,(r.2.2.2.2,())))))))}
def Ud:Cx K:={aK with mode:=aF .plain [(155,.cT)],mv:=true,call:=callOf D [IJ M.xt],loop:=aE []}
theorem agX:aD (Ud):=aL ak _ (ai agW (ax))
theorem IL:(An (M.jZ)).Ok D Tryz.prog:=
 aI (cx:=Ud) (c:=An (M.jZ)) (fz:=true) (fn:=Tryz.f113) ak (agX) ay ⟨Tryz.func113,by kernel_rfl⟩ (aJ (aG (by kernel_rfl))) ⟨⟨[.int .i64],[.box [.ptr 1 0,.int .i64,.int .i64],.box [.own 4,.own 5],.dead,.dead,.arr U.u8,.arr U.Block]⟩,fun x=>(x.1.1,x.2.1.2.1,x.2.1.2.2.1,x.2.2.2.2.2.1,x.2.2.2.2.2.2.1)⟩ (fun x=>rfl) (fun x=>by kernel_rfl)
def IM(m:Int->(List UInt8)->(List UInt8)->(List M.af)->Option (Bool×(List UInt8)×(List M.af))):aC K:={f:=151,sh:=⟨[.ptr 0 0,.int .i64,.str],[.box [.own 1,.own 2],.arr U.u8,.arr U.Block]⟩,R:=Bool×(List UInt8)×(List M.af),run:=fun x=>m x.1.2.1 x.1.2.2.1 x.2.2.1 x.2.2.2.1,dflt:=default,out:=fun r=>(Sh.enc D (.bool) r.1,az.encs D [.box [.own 3,.own 4],.dead,.dead,.arr U.u8,.arr U.Block] (((),((),())),((),((),(r.2.1,(r.2.2,()))))))}
def Ue:Cx K:={aK with mode:=aF .plain [(132,.plain),(96,.plain)],IK:=true,mv:=true,call:=callOf D [xg M.xh,IC M.uI],loop:=aE []}
theorem agY:aD (Ue):=aL ak _ (ai DR (ai agF (ax)))
theorem agZ:(IM (M.xu)).Ok D Tryz.prog:=
 aI (cx:=Ue) (c:=IM (M.xu)) (fz:=true) (fn:=Tryz.f151) ak (agY) ay ⟨Tryz.func151,by kernel_rfl⟩ (aJ (aG (by kernel_rfl))) ⟨⟨[.bool],[.box [.own 3,.own 4],.dead,.dead,.arr U.u8,.arr U.Block]⟩,fun x=>(x.1.1,x.2.2.2.2.1,x.2.2.2.2.2.1)⟩ (fun x=>rfl) (fun x=>by kernel_rfl)
def Ao(m:Int->(List UInt8)->Int->Int->(List UInt8)->(List M.af)->Option (Int×Int×(List UInt8)×(List M.af))):aC K:={f:=99,sh:=⟨[.ptr 0 0,.int .i64,.str],[.box [.ptr 1 0,.int .i64,.int .i64],.box [.own 2,.own 3],.arr U.u8,.arr U.Block]⟩,R:=Int×Int×(List UInt8)×(List M.af),run:=fun x=>m x.1.2.1 x.1.2.2.1 x.2.1.2.1 x.2.1.2.2.1 x.2.2.2.1 x.2.2.2.2.1,dflt:=default,out:=fun r=>(Sh.enc D (.aV []) (),az.encs D [.box [.ptr 1 0,.int .i64,.int .i64],.box [.own 4,.own 5],.dead,.dead,.arr U.u8,.arr U.Block] (((),(r.1,(r.2.1,()))),(((),((),())),((),((),(r.2.2.1,(r.2.2.2,())))))))}
def Uf:Cx K:={aK with mode:=aF .plain [(151,.cT)],mv:=true,call:=callOf D [IM M.xu],loop:=aE []}
theorem ag0:aD (Uf):=aL ak _ (ai agZ (ax))
theorem IN:(Ao (M.j0)).Ok D Tryz.prog:=
 aI (cx:=Uf) (c:=Ao (M.j0)) (fz:=true) (fn:=Tryz.f99) ak (ag0) ay ⟨Tryz.func99,by kernel_rfl⟩ (aJ (aG (by kernel_rfl))) ⟨⟨[.aV []],[.box [.ptr 1 0,.int .i64,.int .i64],.box [.own 4,.own 5],.dead,.dead,.arr U.u8,.arr U.Block]⟩,fun x=>(x.2.1.2.1,x.2.1.2.2.1,x.2.2.2.2.2.1,x.2.2.2.2.2.2.1)⟩ (fun x=>rfl) (fun x=>by kernel_rfl)
def kB(m:M.aa->M.ae->Int->Int->Int->(List UInt8)->(List M.af)->Option (Int×Int×(List UInt8)×(List M.af))):aC K:={f:=53,sh:=⟨[.ptr 0 0,.el U.Type,.el U.Value,.int .i64],[.box [.ptr 1 0,.int .i64,.int .i64],.box [.own 2,.own 3],.arr U.u8,.arr U.Block]⟩,R:=Int×Int×(List UInt8)×(List M.af),run:=fun x=>m x.1.2.1 x.1.2.2.1 x.1.2.2.2.1 x.2.1.2.1 x.2.1.2.2.1 x.2.2.2.1 x.2.2.2.2.1,dflt:=default,out:=fun r=>(Sh.enc D (.aV []) (),az.encs D [.box [.ptr 1 0,.int .i64,.int .i64],.box [.own 4,.own 5],.dead,.dead,.arr U.u8,.arr U.Block] (((),(r.1,(r.2.1,()))),(((),((),())),((),((),(r.2.2.1,(r.2.2.2,())))))))}
def Ug(y:Int×Int×Int×M.ae×(List UInt8)×(List M.af)){R:Type}(k:Ex->List (AV K)->List (Ob K)->R):R:=match y with
 |a0=>k (Ex.exit 0) (aw.aW D ⟨[.ptr 1 0,.int .i64],[.box [.ptr 3 0,.int .i64,.int .i64],.el U.Value,.dead,.box [.own 6,.own 7],.dead,.dead,.arr U.u8,.arr U.Block]⟩ (((),(a0.1,())),(((),(a0.2.1,(a0.2.2.1,()))),(a0.2.2.2.1,((),(((),((),())),((),((),(a0.2.2.2.2.1,(a0.2.2.2.2.2,())))))))))) (aw.aX D ⟨[.ptr 1 0,.int .i64],[.box [.ptr 3 0,.int .i64,.int .i64],.el U.Value,.dead,.box [.own 6,.own 7],.dead,.dead,.arr U.u8,.arr U.Block]⟩ (((),(a0.1,())),(((),(a0.2.1,(a0.2.2.1,()))),(a0.2.2.2.1,((),(((),((),())),((),((),(a0.2.2.2.2.1,(a0.2.2.2.2.2,()))))))))))
def ag1:List (bH K (Int×Int×Int×M.ae×(List UInt8)×(List M.af))):=[⟨(Ex.exit 0),⟨[.ptr 1 0,.int .i64],[.box [.ptr 3 0,.int .i64,.int .i64],.el U.Value,.dead,.box [.own 6,.own 7],.dead,.dead,.arr U.u8,.arr U.Block]⟩,fun x=>(x.1.2.1,x.2.1.2.1,x.2.1.2.2.1,x.2.2.1,x.2.2.2.2.2.2.2.1,x.2.2.2.2.2.2.2.2.1)⟩]
def Uh(cA:M.aa->M.ae->Int->Int->Int->(List UInt8)->(List M.af)->Option (Int×Int×(List UInt8)×(List M.af))):bA K:=bJ D false 96 6 [0,5,11,12,74,75,76] [5,12] ⟨[.ptr 0 0,.ptr 1 0,.ptr 2 0,.int .i64,.aj U.Value,.int .i64,.int .i64],[.box [.ptr 3 0,.int .i64,.int .i64],.el U.Value,.el U.Type,.box [.own 6,.own 7],.dead,.dead,.arr U.u8,.arr U.Block]⟩ (fun x=>M.iS cA x.1.2.2.2.1 x.1.2.2.2.2.1 x.1.2.2.2.2.2.1 ah x.1.2.2.2.2.2.2.1 x.2.1.2.1 x.2.1.2.2.1 x.2.2.1 x.2.2.2.1 x.2.2.2.2.2.2.2.1 x.2.2.2.2.2.2.2.2.1) Ug
def IP(m:M.aa->M.ae->Int->Int->(List UInt8)->(List M.af)->Option (Int×Int×Int×Int×(List UInt8)×(List M.af))):aC K:={f:=98,sh:=⟨[.ptr 0 0,.el U.Type,.el U.Value],[.box [.ptr 1 0,.int .i64,.int .i64],.box [.own 2,.own 3],.arr U.u8,.arr U.Block]⟩,R:=Int×Int×Int×Int×(List UInt8)×(List M.af),run:=fun x=>m x.1.2.1 x.1.2.2.1 x.2.1.2.1 x.2.1.2.2.1 x.2.2.2.1 x.2.2.2.2.1,dflt:=default,out:=fun r=>(Sh.enc D (.aV [.int .i64,.int .i64]) (r.1,(r.2.1,())),az.encs D [.box [.ptr 1 0,.int .i64,.int .i64],.box [.own 4,.own 5],.dead,.dead,.arr U.u8,.arr U.Block] (((),(r.2.2.1,(r.2.2.2.1,()))),(((),((),())),((),((),(r.2.2.2.2.1,(r.2.2.2.2.2,())))))))}
def Ea(cA:M.aa->M.ae->Int->Int->Int->(List UInt8)->(List M.af)->Option (Int×Int×(List UInt8)×(List M.af))):Cx K:={aK with mode:=aF .plain [(148,.plain),(132,.plain),(149,.plain),(113,.cT),(99,.cT),(150,.plain),(97,.plain),(95,.plain),(53,.cT)],mv:=true,call:=callOf D [D6 M.rU,xg M.xh,D8 M.oj,An M.jZ,Ao M.j0,Di M.Dj,ic M.ie,jA M.fE,kB cA],loop:=aE [(12,Uh cA)]}
theorem Ui(cA:M.aa->M.ae->Int->Int->Int->(List UInt8)->(List M.af)->Option (Int×Int×(List UInt8)×(List M.af)))(kC:(kB cA).Ok D Tryz.prog):aD (Ea cA):=aL ak _ (ai TW (ai DR (ai TY (ai IL (ai IN (ai QO (ai Ak (ai rR (ai kC (ax))))))))))
theorem ag2(cA:M.aa->M.ae->Int->Int->Int->(List UInt8)->(List M.af)->Option (Int×Int×(List UInt8)×(List M.af)))(kC:(kB cA).Ok D Tryz.prog):bC (Ea cA) (bF (bI Tryz.f98) 0) (Uh cA):=
 bN (cx:=Ea cA) (n:=96) (n0:=6) (ins:=[0,5,11,12,74,75,76]) (outs:=[5,12]) (sh:=⟨[.ptr 0 0,.ptr 1 0,.ptr 2 0,.int .i64,.aj U.Value,.int .i64,.int .i64],[.box [.ptr 3 0,.int .i64,.int .i64],.el U.Value,.el U.Type,.box [.own 6,.own 7],.dead,.dead,.arr U.u8,.arr U.Block]⟩) (run:=fun n x=>M.iS cA x.1.2.2.2.1 x.1.2.2.2.2.1 x.1.2.2.2.2.2.1 n x.1.2.2.2.2.2.2.1 x.2.1.2.1 x.2.1.2.2.1 x.2.2.1 x.2.2.2.1 x.2.2.2.2.2.2.2.1 x.2.2.2.2.2.2.2.2.1) (bG:=ag1) (out:=Ug) ak (Ui cA kC) ay (aG (by kernel_rfl)) (fun _=>rfl) (fun m x=>by kernel_rfl) (ai ⟨bP,fun _ _ _=>rfl⟩ (ax)) false ah
theorem ag3(cA:M.aa->M.ae->Int->Int->Int->(List UInt8)->(List M.af)->Option (Int×Int×(List UInt8)×(List M.af)))(kC:(kB cA).Ok D Tryz.prog):(IP (M.rW cA)).Ok D Tryz.prog:=
 aI (cx:=Ea cA) (c:=IP (M.rW cA)) (fz:=true) (fn:=Tryz.f98) ak (Ui cA kC) ay ⟨Tryz.func98,by kernel_rfl⟩ (aJ (bQ 1 (by kernel_rfl) (bR (.mk (by kernel_rfl) (ag2 cA kC))))) ⟨⟨[.aV [.int .i64,.int .i64]],[.box [.ptr 1 0,.int .i64,.int .i64],.box [.own 4,.own 5],.dead,.dead,.arr U.u8,.arr U.Block]⟩,fun x=>(x.1.1.1,x.1.1.2.1,x.2.1.2.1,x.2.1.2.2.1,x.2.2.2.2.2.1,x.2.2.2.2.2.2.1)⟩ (fun x=>rfl) (fun x=>by kernel_rfl)
def Uj(y:Int×Int×(List UInt8)×(List M.af)){R:Type}(k:Ex->List (AV K)->List (Ob K)->R):R:=match y with
 |a0=>k (Ex.exit 1) (aw.aW D ⟨[],[.box [.ptr 2 0,.int .i64,.int .i64],.dead,.box [.own 5,.own 6],.dead,.dead,.arr U.u8,.arr U.Block]⟩ ((),(((),(a0.1,(a0.2.1,()))),((),(((),((),())),((),((),(a0.2.2.1,(a0.2.2.2,()))))))))) (aw.aX D ⟨[],[.box [.ptr 2 0,.int .i64,.int .i64],.dead,.box [.own 5,.own 6],.dead,.dead,.arr U.u8,.arr U.Block]⟩ ((),(((),(a0.1,(a0.2.1,()))),((),(((),((),())),((),((),(a0.2.2.1,(a0.2.2.2,())))))))))
def ag4:List (bH K (Int×Int×(List UInt8)×(List M.af))):=[⟨(Ex.exit 1),⟨[],[.box [.ptr 2 0,.int .i64,.int .i64],.dead,.box [.own 5,.own 6],.dead,.dead,.arr U.u8,.arr U.Block]⟩,fun x=>(x.2.1.2.1,x.2.1.2.2.1,x.2.2.2.2.2.2.1,x.2.2.2.2.2.2.2.1)⟩]
def Uk(cA:M.aa->M.ae->Int->Int->Int->(List UInt8)->(List M.af)->Option (Int×Int×(List UInt8)×(List M.af))):bA K:=bJ D false 113 5 [0,3,6,10,59,60,61] [] ⟨[.ptr 0 0,.int .i64,.ptr 1 0,.aj U.i64,.aj U.Type,.int .i64,.int .i64],[.box [.ptr 2 0,.int .i64,.int .i64],.el U.Value,.box [.own 5,.own 6],.dead,.dead,.arr U.u8,.arr U.Block]⟩ (fun x=>M.mP cA x.1.2.1 x.1.2.2.2.1 x.1.2.2.2.2.1 x.1.2.2.2.2.2.1 ah x.1.2.2.2.2.2.2.1 x.2.1.2.1 x.2.1.2.2.1 x.2.2.1 x.2.2.2.2.2.2.1 x.2.2.2.2.2.2.2.1) Uj
def Eb(cA:M.aa->M.ae->Int->Int->Int->(List UInt8)->(List M.af)->Option (Int×Int×(List UInt8)×(List M.af))):Cx K:={aK with mode:=aF .plain [(98,.cT),(100,.plain),(99,.cT),(101,.dA),(53,.cT),(102,.dA),(103,.plain),(97,.plain)],mv:=true,call:=callOf D [IP (M.rW cA),Am M.jn,Ao M.j0,D1 (M.od M.ie),zR M.lh,D3 M.qb,kB cA,ic M.ie],loop:=aE [(12,Uk cA)]}
theorem Ul(cA:M.aa->M.ae->Int->Int->Int->(List UInt8)->(List M.af)->Option (Int×Int×(List UInt8)×(List M.af)))(kC:(kB cA).Ok D Tryz.prog):aD (Eb cA):=aL ak _ (ai (ag3 cA kC) (ai ID (ai IN (ai (TB M.ie Ak) (ai HT (ai TE (ai kC (ai Ak (ax)))))))))
theorem ag5(cA:M.aa->M.ae->Int->Int->Int->(List UInt8)->(List M.af)->Option (Int×Int×(List UInt8)×(List M.af)))(kC:(kB cA).Ok D Tryz.prog):bC (Eb cA) (bF (bI Tryz.f53) 0) (Uk cA):=
 bN (cx:=Eb cA) (n:=113) (n0:=5) (ins:=[0,3,6,10,59,60,61]) (outs:=[]) (sh:=⟨[.ptr 0 0,.int .i64,.ptr 1 0,.aj U.i64,.aj U.Type,.int .i64,.int .i64],[.box [.ptr 2 0,.int .i64,.int .i64],.el U.Value,.box [.own 5,.own 6],.dead,.dead,.arr U.u8,.arr U.Block]⟩) (run:=fun n x=>M.mP cA x.1.2.1 x.1.2.2.2.1 x.1.2.2.2.2.1 x.1.2.2.2.2.2.1 n x.1.2.2.2.2.2.2.1 x.2.1.2.1 x.2.1.2.2.1 x.2.2.1 x.2.2.2.2.2.2.1 x.2.2.2.2.2.2.2.1) (bG:=ag4) (out:=Uj) ak (Ul cA kC) ay (aG (by kernel_rfl)) (fun _=>rfl) (fun m x=>by kernel_rfl) (ai ⟨bP,fun _ _ _=>rfl⟩ (ax)) false ah
theorem ag6(cA:M.aa->M.ae->Int->Int->Int->(List UInt8)->(List M.af)->Option (Int×Int×(List UInt8)×(List M.af)))(kC:(kB cA).Ok D Tryz.prog):(kB (M.lp cA)).Ok D Tryz.prog:=
 aI (cx:=Eb cA) (c:=kB (M.lp cA)) (fz:=true) (fn:=Tryz.f53) ak (Ul cA kC) ay ⟨Tryz.func53,by kernel_rfl⟩ (aJ (bQ 1 (by kernel_rfl) (bR (.mk (by kernel_rfl) (ag5 cA kC))))) ⟨⟨[.aV []],[.box [.ptr 1 0,.int .i64,.int .i64],.box [.own 4,.own 5],.dead,.dead,.arr U.u8,.arr U.Block]⟩,fun x=>(x.2.1.2.1,x.2.1.2.2.1,x.2.2.2.2.2.1,x.2.2.2.2.2.2.1)⟩ (fun x=>rfl) (fun x=>by kernel_rfl)
theorem Um:∀n,(kB (M.iT n)).Ok D Tryz.prog
 |0=>ez fun _=>rfl
 |n+1=>ag6 (M.iT n) (Um n)
theorem Un:(kB (M.oo)).Ok D Tryz.prog:=Um ah
def IQ(m:M.ig->Option ((List UInt8)×(List M.af))):aC K:={f:=54,sh:=⟨[.rp U.store 0],[]⟩,R:=(List UInt8)×(List M.af),run:=fun x=>m x.1.1,dflt:=default,out:=fun r=>(Sh.enc D (.agg [.str,.own 0]) (r.1,((),())),az.encs D [.arr U.Block] (r.2,()))}
def Uo:Cx K:={aK with mode:=aF .plain [(94,.fresh)],fq:=[[none,some U.Block]],call:=callOf D [DV M.mN],loop:=aE []}
theorem ag7:aD (Uo):=aL ak _ (ai Ta (ax))
theorem ag8:(IQ (M.xw)).Ok D Tryz.prog:=
 aI (cx:=Uo) (c:=IQ (M.xw)) (fz:=false) (fn:=Tryz.f54) ak (ag7) ay ⟨Tryz.func54,by kernel_rfl⟩ (aJ (aG (by kernel_rfl))) ⟨⟨[.agg [.str,.own 0]],[.arr U.Block]⟩,fun x=>(x.1.1.1,x.2.1)⟩ (fun x=>rfl) (fun x=>by kernel_rfl)
def Up(y:(Bool)⊕((List M.aa))){R:Type}(k:Ex->List (AV K)->List (Ob K)->R):R:=match y with
 |.inl a0=>k Ex.ret (aw.aW D ⟨[.any,.bool],[]⟩ (((),(a0,())),())) (aw.aX D ⟨[.any,.bool],[]⟩ (((),(a0,())),()))
 |.inr (a1)=>k (Ex.exit 0) (aw.aW D ⟨[.aj U.Type,.any],[]⟩ ((a1,((),())),())) (aw.aX D ⟨[.aj U.Type,.any],[]⟩ ((a1,((),())),()))
def ag9:List (bH K ((Bool)⊕((List M.aa)))):=[⟨Ex.ret,⟨[.any,.bool],[]⟩,fun x=>.inl x.1.2.1⟩,⟨(Ex.exit 0),⟨[.aj U.Type,.any],[]⟩,fun x=>.inr (x.1.1)⟩]
def Ur:bA K:=bJ D false 23 0 [0,3] [0,2] ⟨[.aj U.Type,.int .i64],[]⟩ (fun x=>M.uJ x.1.1 ah x.1.2.1) Up
def Ec(m:(List M.aa)->Option (Bool)):aC K:={f:=114,sh:=⟨[.aj U.Type],[]⟩,R:=Bool,run:=fun x=>m x.1.1,dflt:=default,out:=fun r=>(Sh.enc D (.bool) r,az.encs D [] ())}
def Ed:Cx K:={aK with mode:=aF .plain [(78,.plain)],call:=callOf D [HC M.wN],loop:=aE [(2,Ur)]}
theorem Us:aD (Ed):=aL ak _ (ai ad4 (ax))
theorem aha:bC (Ed) (bF (bI Tryz.f114) 0) (Ur):=
 bN (cx:=Ed) (n:=23) (n0:=0) (ins:=[0,3]) (outs:=[0,2]) (sh:=⟨[.aj U.Type,.int .i64],[]⟩) (run:=fun n x=>M.uJ x.1.1 n x.1.2.1) (bG:=ag9) (out:=Up) ak (Us) ay (aG (by kernel_rfl)) (fun _=>rfl) (fun m x=>by kernel_rfl) (ai ⟨dj,fun _ _ _=>rfl⟩ (ai ⟨bP,fun _ _ _=>rfl⟩ (ax))) false ah
theorem Ut:(Ec (M.rX)).Ok D Tryz.prog:=
 aI (cx:=Ed) (c:=Ec (M.rX)) (fz:=true) (fn:=Tryz.f114) ak (Us) ay ⟨Tryz.func114,by kernel_rfl⟩ (aJ (bQ 1 (by kernel_rfl) (bR (.mk (by kernel_rfl) (aha))))) ⟨⟨[.bool],[]⟩,fun x=>x.1.1⟩ (fun x=>rfl) (fun x=>by kernel_rfl)
def Ap(m:(List M.aa)->Option (Bool)):aC K:={f:=67,sh:=⟨[.aj U.Type],[]⟩,R:=Bool,run:=fun x=>m x.1.1,dflt:=default,out:=fun r=>(Sh.enc D (.bool) r,az.encs D [] ())}
def Uu:Cx K:={aK with mode:=aF .plain [(114,.plain)],call:=callOf D [Ec M.rX],loop:=aE []}
theorem ahb:aD (Uu):=aL ak _ (ai Ut (ax))
theorem IS:(Ap (M.rY)).Ok D Tryz.prog:=
 aI (cx:=Uu) (c:=Ap (M.rY)) (fz:=true) (fn:=Tryz.f67) ak (ahb) ay ⟨Tryz.func67,by kernel_rfl⟩ (aJ (aG (by kernel_rfl))) ⟨⟨[.bool],[]⟩,fun x=>x.1.1⟩ (fun x=>rfl) (fun x=>by kernel_rfl)
def Uw(y:(Bool)⊕(Unit)){R:Type}(k:Ex->List (AV K)->List (Ob K)->R):R:=match y with
 |.inl a0=>k Ex.ret (aw.aW D ⟨[.bool],[]⟩ ((a0,()),())) (aw.aX D ⟨[.bool],[]⟩ ((a0,()),()))
 |.inr (a1)=>k (Ex.exit 0) (aw.aW D ⟨[.any],[]⟩ (((),()),())) (aw.aX D ⟨[.any],[]⟩ (((),()),()))
def ahc:List (bH K ((Bool)⊕(Unit))):=[⟨Ex.ret,⟨[.bool],[]⟩,fun x=>.inl x.1.1⟩,⟨(Ex.exit 0),⟨[.any],[]⟩,fun x=>.inr (())⟩]
def Ux:bA K:=bJ D false 27 0 [0,1,5] [4] ⟨[.aj U.Value,.aj U.Type,.int .i64],[]⟩ (fun x=>M.oq x.1.1 x.1.2.1 ah x.1.2.2.1) Uw
def Aq(m:(List M.ae)->(List M.aa)->Option (Bool)):aC K:={f:=68,sh:=⟨[.aj U.Value,.aj U.Type],[]⟩,R:=Bool,run:=fun x=>m x.1.1 x.1.2.1,dflt:=default,out:=fun r=>(Sh.enc D (.bool) r,az.encs D [] ())}
def Ee:Cx K:={aK with mode:=aF .plain [(79,.plain)],call:=callOf D [iO M.Dh],loop:=aE [(4,Ux)]}
theorem Uy:aD (Ee):=aL ak _ (ai aer (ax))
theorem ahd:bC (Ee) (bF (bI Tryz.f68) 0) (Ux):=
 bN (cx:=Ee) (n:=27) (n0:=0) (ins:=[0,1,5]) (outs:=[4]) (sh:=⟨[.aj U.Value,.aj U.Type,.int .i64],[]⟩) (run:=fun n x=>M.oq x.1.1 x.1.2.1 n x.1.2.2.1) (bG:=ahc) (out:=Uw) ak (Uy) ay (aG (by kernel_rfl)) (fun _=>rfl) (fun m x=>by kernel_rfl) (ai ⟨dj,fun _ _ _=>rfl⟩ (ai ⟨bP,fun _ _ _=>rfl⟩ (ax))) false ah
theorem IT:(Aq (M.rZ)).Ok D Tryz.prog:=
 aI (cx:=Ee) (c:=Aq (M.rZ)) (fz:=true) (fn:=Tryz.f68) ak (Uy) ay ⟨Tryz.func68,by kernel_rfl⟩ (aJ (bQ 1 (by kernel_rfl) (bR (.mk (by kernel_rfl) (ahd))))) ⟨⟨[.bool],[]⟩,fun x=>x.1.1⟩ (fun x=>rfl) (fun x=>by kernel_rfl)
def kD(m:(List M.aa)->Option ((List Int))):aC K:={f:=110,sh:=⟨[.aj U.Type],[]⟩,R:=(List Int),run:=fun x=>m x.1.1,dflt:=default,out:=fun r=>(Sh.enc D (.aj U.i64) r,az.encs D [] ())}
def ot(m:M.aa->Option ((List Int))):aC K:={f:=63,sh:=⟨[.el U.Type],[]⟩,R:=(List Int),run:=fun x=>m x.1.1,dflt:=default,out:=fun r=>(Sh.enc D (.aj U.i64) r,az.encs D [] ())}
def Uz(y:(List Int)){R:Type}(k:Ex->List (AV K)->List (Ob K)->R):R:=match y with
 |a0=>k (Ex.exit 0) (aw.aW D ⟨[.own 1],[.dead,.arr U.i64]⟩ (((),()),((),(a0,())))) (aw.aX D ⟨[.own 1],[.dead,.arr U.i64]⟩ (((),()),((),(a0,()))))
def ahe:List (bH K ((List Int))):=[⟨(Ex.exit 0),⟨[.own 1],[.dead,.arr U.i64]⟩,fun x=>x.2.2.1⟩]
def UA:bA K:=bJ D false 57 1 [0,1,5,6] [5] ⟨[.aj U.i64,.aj U.i64,.own 1,.int .i64],[.dead,.arr U.i64]⟩ (fun x=>M.ou x.1.1 x.1.2.1 ah x.1.2.2.2.1 x.2.2.1) Uz
def IU(m:(List Int)->(List Int)->Option ((List Int))):aC K:={f:=111,sh:=⟨[.aj U.i64,.aj U.i64],[]⟩,R:=(List Int),run:=fun x=>m x.1.1 x.1.2.1,dflt:=default,out:=fun r=>(Sh.enc D (.own 0) (),az.encs D [.arr U.i64] (r,()))}
def Ef:Cx K:={aK with mode:=aF .plain [(115,.plain)],fq:=[[some U.i64]],call:=callOf D [tX M.gQ],loop:=aE [(3,UA)]}
theorem UB:aD (Ef):=aL ak _ (ai zC (ax))
theorem ahf:bC (Ef) (bF (bI Tryz.f111) 0) (UA):=
 bN (cx:=Ef) (n:=57) (n0:=1) (ins:=[0,1,5,6]) (outs:=[5]) (sh:=⟨[.aj U.i64,.aj U.i64,.own 1,.int .i64],[.dead,.arr U.i64]⟩) (run:=fun n x=>M.ou x.1.1 x.1.2.1 n x.1.2.2.2.1 x.2.2.1) (bG:=ahe) (out:=Uz) ak (UB) ay (aG (by kernel_rfl)) (fun _=>rfl) (fun m x=>by kernel_rfl) (ai ⟨bP,fun _ _ _=>rfl⟩ (ax)) false ah
theorem ahg:(IU (M.xx)).Ok D Tryz.prog:=
 aI (cx:=Ef) (c:=IU (M.xx)) (fz:=false) (fn:=Tryz.f111) ak (UB) ay ⟨Tryz.func111,by kernel_rfl⟩ (aJ (bQ 1 (by kernel_rfl) (bR (.mk (by kernel_rfl) (ahf))))) ⟨⟨[.own 0],[.arr U.i64]⟩,fun x=>x.2.1⟩ (fun x=>rfl) (fun x=>by kernel_rfl)
def UC(y:(List Int)){R:Type}(k:Ex->List (AV K)->List (Ob K)->R):R:=match y with
 |a0=>k (Ex.exit 1) (aw.aW D ⟨[.own 1],[.dead,.arr U.i64]⟩ (((),()),((),(a0,())))) (aw.aX D ⟨[.own 1],[.dead,.arr U.i64]⟩ (((),()),((),(a0,()))))
def ahh:List (bH K ((List Int))):=[⟨(Ex.exit 1),⟨[.own 1],[.dead,.arr U.i64]⟩,fun x=>x.2.2.1⟩]
def UD(fi:M.aa->Option ((List Int))):bA K:=bJ D false 47 1 [3,4,5] [4] ⟨[.aj U.Type,.own 1,.int .i64],[.dead,.arr U.i64]⟩ (fun x=>M.r5 fi x.1.1 ah x.1.2.2.1 x.2.2.1) UC
def Eg(cu:(List M.aa)->Option ((List Int)))(fi:M.aa->Option ((List Int))):Cx K:={aK with mode:=aF .plain [(110,.dA),(82,.dA),(63,.dA),(111,.fresh)],call:=callOf D [kD cu,uC M.kA,ot fi,IU M.xx],loop:=aE [(18,UD fi)]}
theorem UE(cu:(List M.aa)->Option ((List Int)))(iU:(kD cu).Ok D Tryz.prog)(fi:M.aa->Option ((List Int)))(xy:(ot fi).Ok D Tryz.prog):aD (Eg cu fi):=aL ak _ (ai iU (ai Ab (ai xy (ai ahg (ax)))))
theorem ahi(cu:(List M.aa)->Option ((List Int)))(iU:(kD cu).Ok D Tryz.prog)(fi:M.aa->Option ((List Int)))(xy:(ot fi).Ok D Tryz.prog):bC (Eg cu fi) (bF (bI Tryz.f63) 0) (UD fi):=
 bN (cx:=Eg cu fi) (n:=47) (n0:=1) (ins:=[3,4,5]) (outs:=[4]) (sh:=⟨[.aj U.Type,.own 1,.int .i64],[.dead,.arr U.i64]⟩) (run:=fun n x=>M.r5 fi x.1.1 n x.1.2.2.1 x.2.2.1) (bG:=ahh) (out:=UC) ak (UE cu iU fi xy) ay (aG (by kernel_rfl)) (fun _=>rfl) (fun m x=>by kernel_rfl) (ai ⟨bP,fun _ _ _=>rfl⟩ (ax)) false ah
theorem ahj(cu:(List M.aa)->Option ((List Int)))(iU:(kD cu).Ok D Tryz.prog)(fi:M.aa->Option ((List Int)))(xy:(ot fi).Ok D Tryz.prog):(ot (M.Ar cu fi)).Ok D Tryz.prog:=
 aI (cx:=Eg cu fi) (c:=ot (M.Ar cu fi)) (fz:=true) (fn:=Tryz.f63) ak (UE cu iU fi xy) ay ⟨Tryz.func63,by kernel_rfl⟩ (aJ (bQ 1 (by kernel_rfl) (bR (.mk (by kernel_rfl) (ahi cu iU fi xy))))) ⟨⟨[.aj U.i64],[]⟩,fun x=>x.1.1⟩ (fun x=>rfl) (fun x=>by kernel_rfl)
theorem UF(cu:(List M.aa)->Option ((List Int)))(iU:(kD cu).Ok D Tryz.prog):∀n,(ot (M.r6 cu n)).Ok D Tryz.prog
 |0=>ez fun _=>rfl
 |n+1=>ahj cu iU (M.r6 cu n) (UF cu iU n)
theorem UG(cu:(List M.aa)->Option ((List Int)))(iU:(kD cu).Ok D Tryz.prog):(ot (M.r7 cu)).Ok D Tryz.prog:=UF cu iU ah
def UH(y:(List Int)){R:Type}(k:Ex->List (AV K)->List (Ob K)->R):R:=match y with
 |a0=>k (Ex.exit 0) (aw.aW D ⟨[.own 1],[.dead,.arr U.i64]⟩ (((),()),((),(a0,())))) (aw.aX D ⟨[.own 1],[.dead,.arr U.i64]⟩ (((),()),((),(a0,()))))
def ahk:List (bH K ((List Int))):=[⟨(Ex.exit 0),⟨[.own 1],[.dead,.arr U.i64]⟩,fun x=>x.2.2.1⟩]
def UI(cu:(List M.aa)->Option ((List Int))):bA K:=bJ D false 20 1 [0,3,4] [3] ⟨[.aj U.Type,.own 1,.int .i64],[.dead,.arr U.i64]⟩ (fun x=>M.sc cu x.1.1 ah x.1.2.2.1 x.2.2.1) UH
def Eh(cu:(List M.aa)->Option ((List Int))):Cx K:={aK with mode:=aF .plain [(63,.dA)],call:=callOf D [ot (M.r7 cu)],loop:=aE [(3,UI cu)]}
theorem UJ(cu:(List M.aa)->Option ((List Int)))(iU:(kD cu).Ok D Tryz.prog):aD (Eh cu):=aL ak _ (ai (UG cu iU) (ax))
theorem ahl(cu:(List M.aa)->Option ((List Int)))(iU:(kD cu).Ok D Tryz.prog):bC (Eh cu) (bF (bI Tryz.f110) 0) (UI cu):=
 bN (cx:=Eh cu) (n:=20) (n0:=1) (ins:=[0,3,4]) (outs:=[3]) (sh:=⟨[.aj U.Type,.own 1,.int .i64],[.dead,.arr U.i64]⟩) (run:=fun n x=>M.sc cu x.1.1 n x.1.2.2.1 x.2.2.1) (bG:=ahk) (out:=UH) ak (UJ cu iU) ay (aG (by kernel_rfl)) (fun _=>rfl) (fun m x=>by kernel_rfl) (ai ⟨bP,fun _ _ _=>rfl⟩ (ax)) false ah
theorem ahm(cu:(List M.aa)->Option ((List Int)))(iU:(kD cu).Ok D Tryz.prog):(kD (M.As cu)).Ok D Tryz.prog:=
 aI (cx:=Eh cu) (c:=kD (M.As cu)) (fz:=true) (fn:=Tryz.f110) ak (UJ cu iU) ay ⟨Tryz.func110,by kernel_rfl⟩ (aJ (bQ 1 (by kernel_rfl) (bR (.mk (by kernel_rfl) (ahl cu iU))))) ⟨⟨[.aj U.i64],[]⟩,fun x=>x.1.1⟩ (fun x=>rfl) (fun x=>by kernel_rfl)
theorem UK:∀n,(kD (M.qf n)).Ok D Tryz.prog
 |0=>ez fun _=>rfl
 |n+1=>ahm (M.qf n) (UK n)
theorem UL:(kD (M.ov)).Ok D Tryz.prog:=UK ah
def Au(m:(List M.aa)->Option (Bool)):aC K:={f:=69,sh:=⟨[.aj U.Type],[]⟩,R:=Bool,run:=fun x=>m x.1.1,dflt:=default,out:=fun r=>(Sh.enc D (.bool) r,az.encs D [] ())}
def UM:Cx K:={aK with mode:=aF .plain [(114,.plain),(110,.dA)],call:=callOf D [Ec M.rX,kD M.ov],loop:=aE []}
theorem ahn:aD (UM):=aL ak _ (ai Ut (ai UL (ax)))
theorem IV:(Au (M.sd)).Ok D Tryz.prog:=
 aI (cx:=UM) (c:=Au (M.sd)) (fz:=true) (fn:=Tryz.f69) ak (ahn) ay ⟨Tryz.func69,by kernel_rfl⟩ (aJ (aG (by kernel_rfl))) ⟨⟨[.bool],[]⟩,fun x=>x.1.1⟩ (fun x=>rfl) (fun x=>by kernel_rfl)
def UN(y:Int×Int×(List UInt8)×Int×Int×(List M.af)){R:Type}(k:Ex->List (AV K)->List (Ob K)->R):R:=match y with
 |a0=>k (Ex.exit 0) (aw.aW D ⟨[.int .i64,.int .i64],[.box [.str,.own 3,.int .i64,.int .i64],.dead,.dead,.arr U.Block]⟩ ((a0.1,(a0.2.1,())),((a0.2.2.1,((),(a0.2.2.2.1,(a0.2.2.2.2.1,())))),((),((),(a0.2.2.2.2.2,())))))) (aw.aX D ⟨[.int .i64,.int .i64],[.box [.str,.own 3,.int .i64,.int .i64],.dead,.dead,.arr U.Block]⟩ ((a0.1,(a0.2.1,())),((a0.2.2.1,((),(a0.2.2.2.1,(a0.2.2.2.2.1,())))),((),((),(a0.2.2.2.2.2,()))))))
def aho:List (bH K (Int×Int×(List UInt8)×Int×Int×(List M.af))):=[⟨(Ex.exit 0),⟨[.int .i64,.int .i64],[.box [.str,.own 3,.int .i64,.int .i64],.dead,.dead,.arr U.Block]⟩,fun x=>(x.1.1,x.1.2.1,x.2.1.1,x.2.1.2.2.1,x.2.1.2.2.2.1,x.2.2.2.2.1)⟩]
def UO:bA K:=bJ D false 52 3 [0,2,4,8,10,11,12] [10,11] ⟨[.ptr 0 0,.aj U.Value,.ptr 1 0,.int .i64,.int .i64,.int .i64,.int .i64],[.box [.str,.own 3,.int .i64,.int .i64],.el U.Type,.dead,.arr U.Block]⟩ (fun x=>M.xz x.1.2.1 x.1.2.2.2.1 x.1.2.2.2.2.1 x.1.2.2.2.2.2.1 ah x.1.2.2.2.2.2.2.1 x.2.1.1 x.2.1.2.2.1 x.2.1.2.2.2.1 x.2.2.1 x.2.2.2.2.1) UN
def IW(m:M.aa->(List M.ae)->(List UInt8)->Int->Int->(List M.af)->Option (Int×Int×(List UInt8)×Int×Int×(List M.af))):aC K:={f:=128,sh:=⟨[.ptr 0 0,.el U.Type,.aj U.Value],[.box [.str,.own 1,.int .i64,.int .i64],.arr U.Block]⟩,R:=Int×Int×(List UInt8)×Int×Int×(List M.af),run:=fun x=>m x.1.2.1 x.1.2.2.1 x.2.1.1 x.2.1.2.2.1 x.2.1.2.2.2.1 x.2.2.1,dflt:=default,out:=fun r=>(Sh.enc D (.aV [.int .i64,.int .i64]) (r.1,(r.2.1,())),az.encs D [.box [.str,.own 2,.int .i64,.int .i64],.dead,.arr U.Block] ((r.2.2.1,((),(r.2.2.2.1,(r.2.2.2.2.1,())))),((),(r.2.2.2.2.2,()))))}
def Ei:Cx K:={aK with mode:=aF .plain [(43,.plain),(64,.cT),(46,.cT)],mv:=true,call:=callOf D [iP M.gR,rL M.jX,iD M.ln],loop:=aE [(5,UO)]}
theorem UP:aD (Ei):=aL ak _ (ai w9 (ai xe (ai SO (ax))))
theorem ahp:bC (Ei) (bF (bI Tryz.f128) 0) (UO):=
 bN (cx:=Ei) (n:=52) (n0:=3) (ins:=[0,2,4,8,10,11,12]) (outs:=[10,11]) (sh:=⟨[.ptr 0 0,.aj U.Value,.ptr 1 0,.int .i64,.int .i64,.int .i64,.int .i64],[.box [.str,.own 3,.int .i64,.int .i64],.el U.Type,.dead,.arr U.Block]⟩) (run:=fun n x=>M.xz x.1.2.1 x.1.2.2.2.1 x.1.2.2.2.2.1 x.1.2.2.2.2.2.1 n x.1.2.2.2.2.2.2.1 x.2.1.1 x.2.1.2.2.1 x.2.1.2.2.2.1 x.2.2.1 x.2.2.2.2.1) (bG:=aho) (out:=UN) ak (UP) ay (aG (by kernel_rfl)) (fun _=>rfl) (fun m x=>by kernel_rfl) (ai ⟨bP,fun _ _ _=>rfl⟩ (ax)) false ah
theorem ahq:(IW (M.Av)).Ok D Tryz.prog:=
 aI (cx:=Ei) (c:=IW (M.Av)) (fz:=true) (fn:=Tryz.f128) ak (UP) ay ⟨Tryz.func128,by kernel_rfl⟩ (aJ (bQ 1 (by kernel_rfl) (bR (.mk (by kernel_rfl) (ahp))))) ⟨⟨[.aV [.int .i64,.int .i64]],[.box [.str,.own 2,.int .i64,.int .i64],.dead,.arr U.Block]⟩,fun x=>(x.1.1.1,x.1.1.2.1,x.2.1.1,x.2.1.2.2.1,x.2.1.2.2.2.1,x.2.2.2.1)⟩ (fun x=>rfl) (fun x=>by kernel_rfl)
def IX(m:M.aa->M.ae->(List UInt8)->Int->Int->(List M.af)->Option (Int×Int×(List UInt8)×Int×Int×(List M.af))):aC K:={f:=84,sh:=⟨[.ptr 0 0,.el U.Type,.el U.Value],[.box [.str,.own 1,.int .i64,.int .i64],.arr U.Block]⟩,R:=Int×Int×(List UInt8)×Int×Int×(List M.af),run:=fun x=>m x.1.2.1 x.1.2.2.1 x.2.1.1 x.2.1.2.2.1 x.2.1.2.2.2.1 x.2.2.1,dflt:=default,out:=fun r=>(Sh.enc D (.aV [.int .i64,.int .i64]) (r.1,(r.2.1,())),az.encs D [.box [.str,.own 2,.int .i64,.int .i64],.dead,.arr U.Block] ((r.2.2.1,((),(r.2.2.2.1,(r.2.2.2.2.1,())))),((),(r.2.2.2.2.2,()))))}
def UQ:Cx K:={aK with mode:=aF .plain [(127,.cT),(128,.cT)],mv:=true,call:=callOf D [DL M.rN,IW M.Av],loop:=aE []}
theorem ahr:aD (UQ):=aL ak _ (ai SA (ai ahq (ax)))
theorem ahs:(IX (M.xA)).Ok D Tryz.prog:=
 aI (cx:=UQ) (c:=IX (M.xA)) (fz:=true) (fn:=Tryz.f84) ak (ahr) ay ⟨Tryz.func84,by kernel_rfl⟩ (aJ (aG (by kernel_rfl))) ⟨⟨[.aV [.int .i64,.int .i64]],[.box [.str,.own 2,.int .i64,.int .i64],.dead,.arr U.Block]⟩,fun x=>(x.1.1.1,x.1.1.2.1,x.2.1.1,x.2.1.2.2.1,x.2.1.2.2.2.1,x.2.2.2.1)⟩ (fun x=>rfl) (fun x=>by kernel_rfl)
def jB(m:(List M.aa)->(List M.ae)->(List UInt8)->Int->Int->(List M.af)->Option ((List Int)×(List UInt8)×Int×Int×(List M.af))):aC K:={f:=70,sh:=⟨[.ptr 0 0,.aj U.Type,.aj U.Value],[.box [.str,.own 1,.int .i64,.int .i64],.arr U.Block]⟩,R:=(List Int)×(List UInt8)×Int×Int×(List M.af),run:=fun x=>m x.1.2.1 x.1.2.2.1 x.2.1.1 x.2.1.2.2.1 x.2.1.2.2.2.1 x.2.2.1,dflt:=default,out:=fun r=>(Sh.enc D (.aj U.i64) r.1,az.encs D [.box [.str,.own 2,.int .i64,.int .i64],.dead,.arr U.Block] ((r.2.1,((),(r.2.2.1,(r.2.2.2.1,())))),((),(r.2.2.2.2,()))))}
def qg(m:M.aa->M.ae->(List UInt8)->Int->Int->(List M.af)->Option ((List Int)×(List UInt8)×Int×Int×(List M.af))):aC K:={f:=60,sh:=⟨[.ptr 0 0,.el U.Type,.el U.Value],[.box [.str,.own 1,.int .i64,.int .i64],.arr U.Block]⟩,R:=(List Int)×(List UInt8)×Int×Int×(List M.af),run:=fun x=>m x.1.2.1 x.1.2.2.1 x.2.1.1 x.2.1.2.2.1 x.2.1.2.2.2.1 x.2.2.1,dflt:=default,out:=fun r=>(Sh.enc D (.aj U.i64) r.1,az.encs D [.box [.str,.own 2,.int .i64,.int .i64],.dead,.arr U.Block] ((r.2.1,((),(r.2.2.1,(r.2.2.2.1,())))),((),(r.2.2.2.2,()))))}
def IY(m:Int->Option (Int)):aC K:={f:=105,sh:=⟨[.int .i64],[]⟩,R:=Int,run:=fun x=>m x.1.1,dflt:=default,out:=fun r=>(Sh.enc D (.int .i64) r,az.encs D [] ())}
def UR:Cx K:={aK with mode:=aF .plain [],call:=callOf D [],loop:=aE []}
theorem aht:aD (UR):=aL ak _ (ax)
theorem ahu:(IY (M.IZ)).Ok D Tryz.prog:=
 aI (cx:=UR) (c:=IY (M.IZ)) (fz:=true) (fn:=Tryz.f105) ak (aht) ay ⟨Tryz.func105,by kernel_rfl⟩ (aJ (aG (by kernel_rfl))) ⟨⟨[.int .i64],[]⟩,fun x=>x.1.1⟩ (fun x=>rfl) (fun x=>by kernel_rfl)
def US(y:(List Int)){R:Type}(k:Ex->List (AV K)->List (Ob K)->R):R:=match y with
 |a0=>k (Ex.exit 1) (aw.aW D ⟨[.own 2],[.dead,.dead,.arr U.i64]⟩ (((),()),((),((),(a0,()))))) (aw.aX D ⟨[.own 2],[.dead,.dead,.arr U.i64]⟩ (((),()),((),((),(a0,())))))
def ahv:List (bH K ((List Int))):=[⟨(Ex.exit 1),⟨[.own 2],[.dead,.dead,.arr U.i64]⟩,fun x=>x.2.2.2.1⟩]
def UT:bA K:=bJ D false 80 2 [4,9] [9] ⟨[.ptr 0 0,.own 2],[.el U.Type,.dead,.arr U.i64]⟩ (fun x=>M.se ah x.2.1 x.2.2.2.1) US
def Ej(cy:(List M.aa)->(List M.ae)->(List UInt8)->Int->Int->(List M.af)->Option ((List Int)×(List UInt8)×Int×Int×(List M.af)))(iE:M.aa->M.ae->(List UInt8)->Int->Int->(List M.af)->Option ((List Int)×(List UInt8)×Int×Int×(List M.af))):Cx K:={aK with mode:=aF .plain [(84,.cT),(70,.cT),(82,.dA),(60,.cT),(63,.dA),(105,.plain)],mv:=true,call:=callOf D [IX M.xA,jB cy,uC M.kA,qg iE,IY M.IZ,ot (M.r7 M.ov)],loop:=aE [(19,UT)]}
theorem UU(cy:(List M.aa)->(List M.ae)->(List UInt8)->Int->Int->(List M.af)->Option ((List Int)×(List UInt8)×Int×Int×(List M.af)))(iV:(jB cy).Ok D Tryz.prog)(iE:M.aa->M.ae->(List UInt8)->Int->Int->(List M.af)->Option ((List Int)×(List UInt8)×Int×Int×(List M.af)))(xB:(qg iE).Ok D Tryz.prog):aD (Ej cy iE):=aL ak _ (ai ahs (ai iV (ai Ab (ai xB (ai ahu (ai (UG M.ov UL) (ax)))))))
theorem ahw(cy:(List M.aa)->(List M.ae)->(List UInt8)->Int->Int->(List M.af)->Option ((List Int)×(List UInt8)×Int×Int×(List M.af)))(iV:(jB cy).Ok D Tryz.prog)(iE:M.aa->M.ae->(List UInt8)->Int->Int->(List M.af)->Option ((List Int)×(List UInt8)×Int×Int×(List M.af)))(xB:(qg iE).Ok D Tryz.prog):bC (Ej cy iE) (bF (bI Tryz.f60) 0) (UT):=
 bN (cx:=Ej cy iE) (n:=80) (n0:=2) (ins:=[4,9]) (outs:=[9]) (sh:=⟨[.ptr 0 0,.own 2],[.el U.Type,.dead,.arr U.i64]⟩) (run:=fun n x=>M.se n x.2.1 x.2.2.2.1) (bG:=ahv) (out:=US) ak (UU cy iV iE xB) ay (aG (by kernel_rfl)) (fun _=>rfl) (fun m x=>by kernel_rfl) (ai ⟨bP,fun _ _ _=>rfl⟩ (ax)) false ah
theorem ahx(cy:(List M.aa)->(List M.ae)->(List UInt8)->Int->Int->(List M.af)->Option ((List Int)×(List UInt8)×Int×Int×(List M.af)))(iV:(jB cy).Ok D Tryz.prog)(iE:M.aa->M.ae->(List UInt8)->Int->Int->(List M.af)->Option ((List Int)×(List UInt8)×Int×Int×(List M.af)))(xB:(qg iE).Ok D Tryz.prog):(qg (M.Aw cy iE)).Ok D Tryz.prog:=
 aI (cx:=Ej cy iE) (c:=qg (M.Aw cy iE)) (fz:=true) (fn:=Tryz.f60) ak (UU cy iV iE xB) ay ⟨Tryz.func60,by kernel_rfl⟩ (aJ (bQ 1 (by kernel_rfl) (bR (.mk (by kernel_rfl) (ahw cy iV iE xB))))) ⟨⟨[.aj U.i64],[.box [.str,.own 2,.int .i64,.int .i64],.dead,.arr U.Block]⟩,fun x=>(x.1.1,x.2.1.1,x.2.1.2.2.1,x.2.1.2.2.2.1,x.2.2.2.1)⟩ (fun x=>rfl) (fun x=>by kernel_rfl)
theorem UW(cy:(List M.aa)->(List M.ae)->(List UInt8)->Int->Int->(List M.af)->Option ((List Int)×(List UInt8)×Int×Int×(List M.af)))(iV:(jB cy).Ok D Tryz.prog):∀n,(qg (M.uK cy n)).Ok D Tryz.prog
 |0=>ez fun _=>rfl
 |n+1=>ahx cy iV (M.uK cy n) (UW cy iV n)
theorem ahy(cy:(List M.aa)->(List M.ae)->(List UInt8)->Int->Int->(List M.af)->Option ((List Int)×(List UInt8)×Int×Int×(List M.af)))(iV:(jB cy).Ok D Tryz.prog):(qg (M.Ek cy)).Ok D Tryz.prog:=UW cy iV ah
def UX(y:(List UInt8)×Int×Int×(List Int)×(List M.af)){R:Type}(k:Ex->List (AV K)->List (Ob K)->R):R:=match y with
 |a0=>k (Ex.exit 0) (aw.aW D ⟨[.own 3],[.box [.str,.own 4,.int .i64,.int .i64],.dead,.dead,.arr U.i64,.arr U.Block]⟩ (((),()),((a0.1,((),(a0.2.1,(a0.2.2.1,())))),((),((),(a0.2.2.2.1,(a0.2.2.2.2,()))))))) (aw.aX D ⟨[.own 3],[.box [.str,.own 4,.int .i64,.int .i64],.dead,.dead,.arr U.i64,.arr U.Block]⟩ (((),()),((a0.1,((),(a0.2.1,(a0.2.2.1,())))),((),((),(a0.2.2.2.1,(a0.2.2.2.2,())))))))
def ahz:List (bH K ((List UInt8)×Int×Int×(List Int)×(List M.af))):=[⟨(Ex.exit 0),⟨[.own 3],[.box [.str,.own 4,.int .i64,.int .i64],.dead,.dead,.arr U.i64,.arr U.Block]⟩,fun x=>(x.2.1.1,x.2.1.2.2.1,x.2.1.2.2.2.1,x.2.2.2.2.1,x.2.2.2.2.2.1)⟩]
def UY(cy:(List M.aa)->(List M.ae)->(List UInt8)->Int->Int->(List M.af)->Option ((List Int)×(List UInt8)×Int×Int×(List M.af))):bA K:=bJ D false 36 3 [0,1,2,7,8] [7] ⟨[.ptr 0 0,.aj U.Type,.aj U.Value,.own 3,.int .i64],[.box [.str,.own 4,.int .i64,.int .i64],.dead,.dead,.arr U.i64,.arr U.Block]⟩ (fun x=>M.qh cy x.1.2.1 x.1.2.2.1 ah x.1.2.2.2.2.1 x.2.1.1 x.2.1.2.2.1 x.2.1.2.2.2.1 x.2.2.2.2.1 x.2.2.2.2.2.1) UX
def Em(cy:(List M.aa)->(List M.ae)->(List UInt8)->Int->Int->(List M.af)->Option ((List Int)×(List UInt8)×Int×Int×(List M.af))):Cx K:={aK with mode:=aF .plain [(60,.cT)],mv:=true,call:=callOf D [qg (M.Ek cy)],loop:=aE [(3,UY cy)]}
theorem UZ(cy:(List M.aa)->(List M.ae)->(List UInt8)->Int->Int->(List M.af)->Option ((List Int)×(List UInt8)×Int×Int×(List M.af)))(iV:(jB cy).Ok D Tryz.prog):aD (Em cy):=aL ak _ (ai (ahy cy iV) (ax))
theorem ahA(cy:(List M.aa)->(List M.ae)->(List UInt8)->Int->Int->(List M.af)->Option ((List Int)×(List UInt8)×Int×Int×(List M.af)))(iV:(jB cy).Ok D Tryz.prog):bC (Em cy) (bF (bI Tryz.f70) 0) (UY cy):=
 bN (cx:=Em cy) (n:=36) (n0:=3) (ins:=[0,1,2,7,8]) (outs:=[7]) (sh:=⟨[.ptr 0 0,.aj U.Type,.aj U.Value,.own 3,.int .i64],[.box [.str,.own 4,.int .i64,.int .i64],.dead,.dead,.arr U.i64,.arr U.Block]⟩) (run:=fun n x=>M.qh cy x.1.2.1 x.1.2.2.1 n x.1.2.2.2.2.1 x.2.1.1 x.2.1.2.2.1 x.2.1.2.2.2.1 x.2.2.2.2.1 x.2.2.2.2.2.1) (bG:=ahz) (out:=UX) ak (UZ cy iV) ay (aG (by kernel_rfl)) (fun _=>rfl) (fun m x=>by kernel_rfl) (ai ⟨bP,fun _ _ _=>rfl⟩ (ax)) false ah
theorem ahB(cy:(List M.aa)->(List M.ae)->(List UInt8)->Int->Int->(List M.af)->Option ((List Int)×(List UInt8)×Int×Int×(List M.af)))(iV:(jB cy).Ok D Tryz.prog):(jB (M.Ax cy)).Ok D Tryz.prog:=
 aI (cx:=Em cy) (c:=jB (M.Ax cy)) (fz:=true) (fn:=Tryz.f70) ak (UZ cy iV) ay ⟨Tryz.func70,by kernel_rfl⟩ (aJ (bQ 1 (by kernel_rfl) (bR (.mk (by kernel_rfl) (ahA cy iV))))) ⟨⟨[.aj U.i64],[.box [.str,.own 2,.int .i64,.int .i64],.dead,.arr U.Block]⟩,fun x=>(x.1.1,x.2.1.1,x.2.1.2.2.1,x.2.1.2.2.2.1,x.2.2.2.1)⟩ (fun x=>rfl) (fun x=>by kernel_rfl)
theorem U0:∀n,(jB (M.ow n)).Ok D Tryz.prog
 |0=>ez fun _=>rfl
 |n+1=>ahB (M.ow n) (U0 n)
theorem I0:(jB (M.sf)).Ok D Tryz.prog:=U0 ah
def U1(y:(Bool)⊕(Unit)){R:Type}(k:Ex->List (AV K)->List (Ob K)->R):R:=match y with
 |.inl a0=>k Ex.ret (aw.aW D ⟨[.bool],[]⟩ ((a0,()),())) (aw.aX D ⟨[.bool],[]⟩ ((a0,()),()))
 |.inr (a1)=>k (Ex.exit 0) (aw.aW D ⟨[.any],[]⟩ (((),()),())) (aw.aX D ⟨[.any],[]⟩ (((),()),()))
def ahC:List (bH K ((Bool)⊕(Unit))):=[⟨Ex.ret,⟨[.bool],[]⟩,fun x=>.inl x.1.1⟩,⟨(Ex.exit 0),⟨[.any],[]⟩,fun x=>.inr (())⟩]
def U2:bA K:=bJ D false 27 0 [1,12,13,14] [4] ⟨[.aj U.Type,.aj U.Value,.int .i64,.int .i64],[]⟩ (fun x=>M.ox x.1.1 x.1.2.1 x.1.2.2.1 ah x.1.2.2.2.1) U1
def I1(m:(List M.ae)->(List M.aa)->Option (Bool)):aC K:={f:=73,sh:=⟨[.aj U.Value,.aj U.Type],[]⟩,R:=Bool,run:=fun x=>m x.1.1 x.1.2.1,dflt:=default,out:=fun r=>(Sh.enc D (.bool) r,az.encs D [] ())}
def En:Cx K:={aK with mode:=aF .plain [(50,.plain)],call:=callOf D [pQ M.zT],loop:=aE [(4,U2)]}
theorem U3:aD (En):=aL ak _ (ai aeK (ax))
theorem ahD:bC (En) (bF (bI Tryz.f73) 0) (U2):=
 bN (cx:=En) (n:=27) (n0:=0) (ins:=[1,12,13,14]) (outs:=[4]) (sh:=⟨[.aj U.Type,.aj U.Value,.int .i64,.int .i64],[]⟩) (run:=fun n x=>M.ox x.1.1 x.1.2.1 x.1.2.2.1 n x.1.2.2.2.1) (bG:=ahC) (out:=U1) ak (U3) ay (aG (by kernel_rfl)) (fun _=>rfl) (fun m x=>by kernel_rfl) (ai ⟨dj,fun _ _ _=>rfl⟩ (ai ⟨bP,fun _ _ _=>rfl⟩ (ax))) false ah
theorem ahE:(I1 (M.xC)).Ok D Tryz.prog:=
 aI (cx:=En) (c:=I1 (M.xC)) (fz:=true) (fn:=Tryz.f73) ak (U3) ay ⟨Tryz.func73,by kernel_rfl⟩ (aJ (bQ 1 (by kernel_rfl) (bR (.mk (by kernel_rfl) (ahD))))) ⟨⟨[.bool],[]⟩,fun x=>x.1.1⟩ (fun x=>rfl) (fun x=>by kernel_rfl)
def kE(m:(List M.aa)->Option ((List Int))):aC K:={f:=153,sh:=⟨[.aj U.Type],[]⟩,R:=(List Int),run:=fun x=>m x.1.1,dflt:=default,out:=fun r=>(Sh.enc D (.aj U.i64) r,az.encs D [] ())}
def oy(m:M.aa->Option ((List Int))):aC K:={f:=107,sh:=⟨[.el U.Type],[]⟩,R:=(List Int),run:=fun x=>m x.1.1,dflt:=default,out:=fun r=>(Sh.enc D (.aj U.i64) r,az.encs D [] ())}
def U4(y:(List Int)){R:Type}(k:Ex->List (AV K)->List (Ob K)->R):R:=match y with
 |a0=>k (Ex.exit 0) (aw.aW D ⟨[.own 1],[.dead,.arr U.i64]⟩ (((),()),((),(a0,())))) (aw.aX D ⟨[.own 1],[.dead,.arr U.i64]⟩ (((),()),((),(a0,()))))
def ahF:List (bH K ((List Int))):=[⟨(Ex.exit 0),⟨[.own 1],[.dead,.arr U.i64]⟩,fun x=>x.2.2.1⟩]
def U5:bA K:=bJ D false 47 1 [0,1,5,13,14] [5] ⟨[.aj U.i64,.aj U.i64,.own 1,.int .i64,.int .i64],[.dead,.arr U.i64]⟩ (fun x=>M.sg x.1.1 x.1.2.1 x.1.2.2.2.1 ah x.1.2.2.2.2.1 x.2.2.1) U4
def I2(m:(List Int)->(List Int)->Option ((List Int))):aC K:={f:=154,sh:=⟨[.aj U.i64,.aj U.i64],[]⟩,R:=(List Int),run:=fun x=>m x.1.1 x.1.2.1,dflt:=default,out:=fun r=>(Sh.enc D (.own 0) (),az.encs D [.arr U.i64] (r,()))}
def Eo:Cx K:={aK with mode:=aF .plain [],fq:=[[some U.i64]],call:=callOf D [],loop:=aE [(3,U5)]}
theorem U6:aD (Eo):=aL ak _ (ax)
theorem ahG:bC (Eo) (bF (bI Tryz.f154) 0) (U5):=
 bN (cx:=Eo) (n:=47) (n0:=1) (ins:=[0,1,5,13,14]) (outs:=[5]) (sh:=⟨[.aj U.i64,.aj U.i64,.own 1,.int .i64,.int .i64],[.dead,.arr U.i64]⟩) (run:=fun n x=>M.sg x.1.1 x.1.2.1 x.1.2.2.2.1 n x.1.2.2.2.2.1 x.2.2.1) (bG:=ahF) (out:=U4) ak (U6) ay (aG (by kernel_rfl)) (fun _=>rfl) (fun m x=>by kernel_rfl) (ai ⟨bP,fun _ _ _=>rfl⟩ (ax)) false ah
theorem ahH:(I2 (M.xE)).Ok D Tryz.prog:=
 aI (cx:=Eo) (c:=I2 (M.xE)) (fz:=false) (fn:=Tryz.f154) ak (U6) ay ⟨Tryz.func154,by kernel_rfl⟩ (aJ (bQ 1 (by kernel_rfl) (bR (.mk (by kernel_rfl) (ahG))))) ⟨⟨[.own 0],[.arr U.i64]⟩,fun x=>x.2.1⟩ (fun x=>rfl) (fun x=>by kernel_rfl)
def U7(y:(List Int)){R:Type}(k:Ex->List (AV K)->List (Ob K)->R):R:=match y with
 |a0=>k (Ex.exit 1) (aw.aW D ⟨[.own 1],[.dead,.arr U.i64]⟩ (((),()),((),(a0,())))) (aw.aX D ⟨[.own 1],[.dead,.arr U.i64]⟩ (((),()),((),(a0,()))))
def ahI:List (bH K ((List Int))):=[⟨(Ex.exit 1),⟨[.own 1],[.dead,.arr U.i64]⟩,fun x=>x.2.2.1⟩]
def U8(fj:M.aa->Option ((List Int))):bA K:=bJ D false 45 1 [3,30,31,32] [3] ⟨[.own 1,.aj U.Type,.int .i64,.int .i64],[.dead,.arr U.i64]⟩ (fun x=>M.si fj x.1.2.1 x.1.2.2.1 ah x.1.2.2.2.1 x.2.2.1) U7
def Ep(cz:(List M.aa)->Option ((List Int)))(fj:M.aa->Option ((List Int))):Cx K:={aK with mode:=aF .plain [(153,.dA),(143,.dA),(107,.dA),(154,.fresh)],call:=callOf D [kE cz,xp M.l7,oy fj,I2 M.xE],loop:=aE [(17,U8 fj)]}
theorem U9(cz:(List M.aa)->Option ((List Int)))(iW:(kE cz).Ok D Tryz.prog)(fj:M.aa->Option ((List Int)))(xF:(oy fj).Ok D Tryz.prog):aD (Ep cz fj):=aL ak _ (ai iW (ai DY (ai xF (ai ahH (ax)))))
theorem ahJ(cz:(List M.aa)->Option ((List Int)))(iW:(kE cz).Ok D Tryz.prog)(fj:M.aa->Option ((List Int)))(xF:(oy fj).Ok D Tryz.prog):bC (Ep cz fj) (bF (bI Tryz.f107) 0) (U8 fj):=
 bN (cx:=Ep cz fj) (n:=45) (n0:=1) (ins:=[3,30,31,32]) (outs:=[3]) (sh:=⟨[.own 1,.aj U.Type,.int .i64,.int .i64],[.dead,.arr U.i64]⟩) (run:=fun n x=>M.si fj x.1.2.1 x.1.2.2.1 n x.1.2.2.2.1 x.2.2.1) (bG:=ahI) (out:=U7) ak (U9 cz iW fj xF) ay (aG (by kernel_rfl)) (fun _=>rfl) (fun m x=>by kernel_rfl) (ai ⟨bP,fun _ _ _=>rfl⟩ (ax)) false ah
theorem ahK(cz:(List M.aa)->Option ((List Int)))(iW:(kE cz).Ok D Tryz.prog)(fj:M.aa->Option ((List Int)))(xF:(oy fj).Ok D Tryz.prog):(oy (M.Az cz fj)).Ok D Tryz.prog:=
 aI (cx:=Ep cz fj) (c:=oy (M.Az cz fj)) (fz:=true) (fn:=Tryz.f107) ak (U9 cz iW fj xF) ay ⟨Tryz.func107,by kernel_rfl⟩ (aJ (bQ 1 (by kernel_rfl) (bR (.mk (by kernel_rfl) (ahJ cz iW fj xF))))) ⟨⟨[.aj U.i64],[]⟩,fun x=>x.1.1⟩ (fun x=>rfl) (fun x=>by kernel_rfl)
theorem Va(cz:(List M.aa)->Option ((List Int)))(iW:(kE cz).Ok D Tryz.prog):∀n,(oy (M.sj cz n)).Ok D Tryz.prog
 |0=>ez fun _=>rfl
 |n+1=>ahK cz iW (M.sj cz n) (Va cz iW n)
theorem Vb(cz:(List M.aa)->Option ((List Int)))(iW:(kE cz).Ok D Tryz.prog):(oy (M.sk cz)).Ok D Tryz.prog:=Va cz iW ah
def Vd(y:(List Int)){R:Type}(k:Ex->List (AV K)->List (Ob K)->R):R:=match y with
 |a0=>k (Ex.exit 0) (aw.aW D ⟨[.own 1],[.dead,.arr U.i64]⟩ (((),()),((),(a0,())))) (aw.aX D ⟨[.own 1],[.dead,.arr U.i64]⟩ (((),()),((),(a0,()))))
def ahL:List (bH K ((List Int))):=[⟨(Ex.exit 0),⟨[.own 1],[.dead,.arr U.i64]⟩,fun x=>x.2.2.1⟩]
def Ve(cz:(List M.aa)->Option ((List Int))):bA K:=bJ D false 19 1 [3,7,8,9] [3] ⟨[.own 1,.aj U.Type,.int .i64,.int .i64],[.dead,.arr U.i64]⟩ (fun x=>M.sn cz x.1.2.1 x.1.2.2.1 ah x.1.2.2.2.1 x.2.2.1) Vd
def Es(cz:(List M.aa)->Option ((List Int))):Cx K:={aK with mode:=aF .plain [(107,.dA)],call:=callOf D [oy (M.sk cz)],loop:=aE [(3,Ve cz)]}
theorem Vf(cz:(List M.aa)->Option ((List Int)))(iW:(kE cz).Ok D Tryz.prog):aD (Es cz):=aL ak _ (ai (Vb cz iW) (ax))
theorem ahM(cz:(List M.aa)->Option ((List Int)))(iW:(kE cz).Ok D Tryz.prog):bC (Es cz) (bF (bI Tryz.f153) 0) (Ve cz):=
 bN (cx:=Es cz) (n:=19) (n0:=1) (ins:=[3,7,8,9]) (outs:=[3]) (sh:=⟨[.own 1,.aj U.Type,.int .i64,.int .i64],[.dead,.arr U.i64]⟩) (run:=fun n x=>M.sn cz x.1.2.1 x.1.2.2.1 n x.1.2.2.2.1 x.2.2.1) (bG:=ahL) (out:=Vd) ak (Vf cz iW) ay (aG (by kernel_rfl)) (fun _=>rfl) (fun m x=>by kernel_rfl) (ai ⟨bP,fun _ _ _=>rfl⟩ (ax)) false ah
theorem ahN(cz:(List M.aa)->Option ((List Int)))(iW:(kE cz).Ok D Tryz.prog):(kE (M.AA cz)).Ok D Tryz.prog:=
 aI (cx:=Es cz) (c:=kE (M.AA cz)) (fz:=true) (fn:=Tryz.f153) ak (Vf cz iW) ay ⟨Tryz.func153,by kernel_rfl⟩ (aJ (bQ 1 (by kernel_rfl) (bR (.mk (by kernel_rfl) (ahM cz iW))))) ⟨⟨[.aj U.i64],[]⟩,fun x=>x.1.1⟩ (fun x=>rfl) (fun x=>by kernel_rfl)
theorem Vg:∀n,(kE (M.qi n)).Ok D Tryz.prog
 |0=>ez fun _=>rfl
 |n+1=>ahN (M.qi n) (Vg n)
theorem Vh:(kE (M.oz)).Ok D Tryz.prog:=Vg ah
def I3(m:(List M.aa)->Option (Bool)):aC K:={f:=116,sh:=⟨[.aj U.Type],[]⟩,R:=Bool,run:=fun x=>m x.1.1,dflt:=default,out:=fun r=>(Sh.enc D (.bool) r,az.encs D [] ())}
def Vi:Cx K:={aK with mode:=aF .plain [(153,.dA)],call:=callOf D [kE M.oz],loop:=aE []}
theorem ahO:aD (Vi):=aL ak _ (ai Vh (ax))
theorem ahP:(I3 (M.AB)).Ok D Tryz.prog:=
 aI (cx:=Vi) (c:=I3 (M.AB)) (fz:=true) (fn:=Tryz.f116) ak (ahO) ay ⟨Tryz.func116,by kernel_rfl⟩ (aJ (aG (by kernel_rfl))) ⟨⟨[.bool],[]⟩,fun x=>x.1.1⟩ (fun x=>rfl) (fun x=>by kernel_rfl)
def Vj(y:Int×Int×Int×M.ae×(List UInt8)×(List M.af)){R:Type}(k:Ex->List (AV K)->List (Ob K)->R):R:=match y with
 |a0=>k (Ex.exit 0) (aw.aW D ⟨[.ptr 1 0,.int .i64],[.box [.ptr 3 0,.int .i64,.int .i64],.el U.Value,.dead,.box [.own 6,.own 7],.dead,.dead,.arr U.u8,.arr U.Block]⟩ (((),(a0.1,())),(((),(a0.2.1,(a0.2.2.1,()))),(a0.2.2.2.1,((),(((),((),())),((),((),(a0.2.2.2.2.1,(a0.2.2.2.2.2,())))))))))) (aw.aX D ⟨[.ptr 1 0,.int .i64],[.box [.ptr 3 0,.int .i64,.int .i64],.el U.Value,.dead,.box [.own 6,.own 7],.dead,.dead,.arr U.u8,.arr U.Block]⟩ (((),(a0.1,())),(((),(a0.2.1,(a0.2.2.1,()))),(a0.2.2.2.1,((),(((),((),())),((),((),(a0.2.2.2.2.1,(a0.2.2.2.2.2,()))))))))))
def ahQ:List (bH K (Int×Int×Int×M.ae×(List UInt8)×(List M.af))):=[⟨(Ex.exit 0),⟨[.ptr 1 0,.int .i64],[.box [.ptr 3 0,.int .i64,.int .i64],.el U.Value,.dead,.box [.own 6,.own 7],.dead,.dead,.arr U.u8,.arr U.Block]⟩,fun x=>(x.1.2.1,x.2.1.2.1,x.2.1.2.2.1,x.2.2.1,x.2.2.2.2.2.2.2.1,x.2.2.2.2.2.2.2.2.1)⟩]
def Vk:bA K:=bJ D false 96 6 [0,5,11,12,74,75,76] [5,12] ⟨[.ptr 0 0,.ptr 1 0,.ptr 2 0,.int .i64,.aj U.Value,.int .i64,.int .i64],[.box [.ptr 3 0,.int .i64,.int .i64],.el U.Value,.el U.Type,.box [.own 6,.own 7],.dead,.dead,.arr U.u8,.arr U.Block]⟩ (fun x=>M.xG x.1.2.2.2.1 x.1.2.2.2.2.1 x.1.2.2.2.2.2.1 ah x.1.2.2.2.2.2.2.1 x.2.1.2.1 x.2.1.2.2.1 x.2.2.1 x.2.2.2.1 x.2.2.2.2.2.2.2.1 x.2.2.2.2.2.2.2.2.1) Vj
def I4(m:M.aa->M.ae->Int->Int->(List UInt8)->(List M.af)->Option (Int×Int×Int×Int×(List UInt8)×(List M.af))):aC K:={f:=98,sh:=⟨[.ptr 0 0,.el U.Type,.el U.Value],[.box [.ptr 1 0,.int .i64,.int .i64],.box [.own 2,.own 3],.arr U.u8,.arr U.Block]⟩,R:=Int×Int×Int×Int×(List UInt8)×(List M.af),run:=fun x=>m x.1.2.1 x.1.2.2.1 x.2.1.2.1 x.2.1.2.2.1 x.2.2.2.1 x.2.2.2.2.1,dflt:=default,out:=fun r=>(Sh.enc D (.aV [.int .i64,.int .i64]) (r.1,(r.2.1,())),az.encs D [.box [.ptr 1 0,.int .i64,.int .i64],.box [.own 4,.own 5],.dead,.dead,.arr U.u8,.arr U.Block] (((),(r.2.2.1,(r.2.2.2.1,()))),(((),((),())),((),((),(r.2.2.2.2.1,(r.2.2.2.2.2,())))))))}
def Et:Cx K:={aK with mode:=aF .plain [(148,.plain),(132,.plain),(149,.plain),(113,.cT),(99,.cT),(150,.plain),(97,.plain),(95,.plain),(53,.cT)],mv:=true,call:=callOf D [D6 M.rU,xg M.xh,D8 M.oj,An M.jZ,Ao M.j0,Di M.Dj,ic M.ie,jA M.fE,kB M.oo],loop:=aE [(12,Vk)]}
theorem Vl:aD (Et):=aL ak _ (ai TW (ai DR (ai TY (ai IL (ai IN (ai QO (ai Ak (ai rR (ai Un (ax))))))))))
theorem ahR:bC (Et) (bF (bI Tryz.f98) 0) (Vk):=
 bN (cx:=Et) (n:=96) (n0:=6) (ins:=[0,5,11,12,74,75,76]) (outs:=[5,12]) (sh:=⟨[.ptr 0 0,.ptr 1 0,.ptr 2 0,.int .i64,.aj U.Value,.int .i64,.int .i64],[.box [.ptr 3 0,.int .i64,.int .i64],.el U.Value,.el U.Type,.box [.own 6,.own 7],.dead,.dead,.arr U.u8,.arr U.Block]⟩) (run:=fun n x=>M.xG x.1.2.2.2.1 x.1.2.2.2.2.1 x.1.2.2.2.2.2.1 n x.1.2.2.2.2.2.2.1 x.2.1.2.1 x.2.1.2.2.1 x.2.2.1 x.2.2.2.1 x.2.2.2.2.2.2.2.1 x.2.2.2.2.2.2.2.2.1) (bG:=ahQ) (out:=Vj) ak (Vl) ay (aG (by kernel_rfl)) (fun _=>rfl) (fun m x=>by kernel_rfl) (ai ⟨bP,fun _ _ _=>rfl⟩ (ax)) false ah
theorem ahS:(I4 (M.xH)).Ok D Tryz.prog:=
 aI (cx:=Et) (c:=I4 (M.xH)) (fz:=true) (fn:=Tryz.f98) ak (Vl) ay ⟨Tryz.func98,by kernel_rfl⟩ (aJ (bQ 1 (by kernel_rfl) (bR (.mk (by kernel_rfl) (ahR))))) ⟨⟨[.aV [.int .i64,.int .i64]],[.box [.ptr 1 0,.int .i64,.int .i64],.box [.own 4,.own 5],.dead,.dead,.arr U.u8,.arr U.Block]⟩,fun x=>(x.1.1.1,x.1.1.2.1,x.2.1.2.1,x.2.1.2.2.1,x.2.2.2.2.2.1,x.2.2.2.2.2.2.1)⟩ (fun x=>rfl) (fun x=>by kernel_rfl)
def lq(m:(List M.aa)->(List M.ae)->Int->Int->(List UInt8)->(List M.af)->Option (Int×Int×(List Int)×(List UInt8)×(List M.af))):aC K:={f:=106,sh:=⟨[.ptr 0 0,.aj U.Type,.aj U.Value],[.box [.ptr 1 0,.int .i64,.int .i64],.box [.own 2,.own 3],.arr U.u8,.arr U.Block]⟩,R:=Int×Int×(List Int)×(List UInt8)×(List M.af),run:=fun x=>m x.1.2.1 x.1.2.2.1 x.2.1.2.1 x.2.1.2.2.1 x.2.2.2.1 x.2.2.2.2.1,dflt:=default,out:=fun r=>(Sh.enc D (.own 4) (),az.encs D [.box [.ptr 1 0,.int .i64,.int .i64],.box [.own 5,.own 6],.dead,.dead,.arr U.i64,.arr U.u8,.arr U.Block] (((),(r.1,(r.2.1,()))),(((),((),())),((),((),(r.2.2.1,(r.2.2.2.1,(r.2.2.2.2,()))))))))}
def so(m:M.aa->M.ae->Int->Int->(List UInt8)->(List M.af)->Option (Int×Int×(List Int)×(List UInt8)×(List M.af))):aC K:={f:=62,sh:=⟨[.ptr 0 0,.el U.Type,.el U.Value],[.box [.ptr 1 0,.int .i64,.int .i64],.box [.own 2,.own 3],.arr U.u8,.arr U.Block]⟩,R:=Int×Int×(List Int)×(List UInt8)×(List M.af),run:=fun x=>m x.1.2.1 x.1.2.2.1 x.2.1.2.1 x.2.1.2.2.1 x.2.2.2.1 x.2.2.2.2.1,dflt:=default,out:=fun r=>(Sh.enc D (.own 4) (),az.encs D [.box [.ptr 1 0,.int .i64,.int .i64],.box [.own 5,.own 6],.dead,.dead,.arr U.i64,.arr U.u8,.arr U.Block] (((),(r.1,(r.2.1,()))),(((),((),())),((),((),(r.2.2.1,(r.2.2.2.1,(r.2.2.2.2,()))))))))}
def I5(m:Int->Option (Int)):aC K:={f:=109,sh:=⟨[.int .i64],[]⟩,R:=Int,run:=fun x=>m x.1.1,dflt:=default,out:=fun r=>(Sh.enc D (.int .i64) r,az.encs D [] ())}
def Vm:Cx K:={aK with mode:=aF .plain [],call:=callOf D [],loop:=aE []}
theorem ahT:aD (Vm):=aL ak _ (ax)
theorem ahU:(I5 (M.I6)).Ok D Tryz.prog:=
 aI (cx:=Vm) (c:=I5 (M.I6)) (fz:=true) (fn:=Tryz.f109) ak (ahT) ay ⟨Tryz.func109,by kernel_rfl⟩ (aJ (aG (by kernel_rfl))) ⟨⟨[.int .i64],[]⟩,fun x=>x.1.1⟩ (fun x=>rfl) (fun x=>by kernel_rfl)
def Vn(cG:(List M.aa)->(List M.ae)->Int->Int->(List UInt8)->(List M.af)->Option (Int×Int×(List Int)×(List UInt8)×(List M.af)))(lr:M.aa->M.ae->Int->Int->(List UInt8)->(List M.af)->Option (Int×Int×(List Int)×(List UInt8)×(List M.af))):Cx K:={aK with mode:=aF .plain [(98,.cT),(106,.cT),(102,.dA),(62,.cT),(107,.dA),(108,.plain),(109,.plain)],fq:=[[some U.i64]],mv:=true,call:=callOf D [I4 M.xH,lq cG,zR M.lh,so lr,oy (M.sk M.oz),Dk M.nM,I5 M.I6],loop:=aE []}
theorem ahV(cG:(List M.aa)->(List M.ae)->Int->Int->(List UInt8)->(List M.af)->Option (Int×Int×(List Int)×(List UInt8)×(List M.af)))(j4:(lq cG).Ok D Tryz.prog)(lr:M.aa->M.ae->Int->Int->(List UInt8)->(List M.af)->Option (Int×Int×(List Int)×(List UInt8)×(List M.af)))(I7:(so lr).Ok D Tryz.prog):aD (Vn cG lr):=aL ak _ (ai ahS (ai j4 (ai HT (ai I7 (ai (Vb M.oz Vh) (ai QQ (ai ahU (ax))))))))
theorem ahW(cG:(List M.aa)->(List M.ae)->Int->Int->(List UInt8)->(List M.af)->Option (Int×Int×(List Int)×(List UInt8)×(List M.af)))(j4:(lq cG).Ok D Tryz.prog)(lr:M.aa->M.ae->Int->Int->(List UInt8)->(List M.af)->Option (Int×Int×(List Int)×(List UInt8)×(List M.af)))(I7:(so lr).Ok D Tryz.prog):(so (M.AD cG lr)).Ok D Tryz.prog:=
 aI (cx:=Vn cG lr) (c:=so (M.AD cG lr)) (fz:=false) (fn:=Tryz.f62) ak (ahV cG j4 lr I7) ay ⟨Tryz.func62,by kernel_rfl⟩ (aJ (aG (by kernel_rfl))) ⟨⟨[.own 4],[.box [.ptr 1 0,.int .i64,.int .i64],.box [.own 5,.own 6],.dead,.dead,.arr U.i64,.arr U.u8,.arr U.Block]⟩,fun x=>(x.2.1.2.1,x.2.1.2.2.1,x.2.2.2.2.2.1,x.2.2.2.2.2.2.1,x.2.2.2.2.2.2.2.1)⟩ (fun x=>rfl) (fun x=>by kernel_rfl)
theorem Vo(cG:(List M.aa)->(List M.ae)->Int->Int->(List UInt8)->(List M.af)->Option (Int×Int×(List Int)×(List UInt8)×(List M.af)))(j4:(lq cG).Ok D Tryz.prog):∀n,(so (M.xI cG n)).Ok D Tryz.prog
 |0=>ez fun _=>rfl
 |n+1=>ahW cG j4 (M.xI cG n) (Vo cG j4 n)
theorem ahX(cG:(List M.aa)->(List M.ae)->Int->Int->(List UInt8)->(List M.af)->Option (Int×Int×(List Int)×(List UInt8)×(List M.af)))(j4:(lq cG).Ok D Tryz.prog):(so (M.Eu cG)).Ok D Tryz.prog:=Vo cG j4 ah
def Vp(y:Int×Int×(List Int)×(List UInt8)×(List M.af)){R:Type}(k:Ex->List (AV K)->List (Ob K)->R):R:=match y with
 |a0=>k (Ex.exit 0) (aw.aW D ⟨[.own 5],[.box [.ptr 2 0,.int .i64,.int .i64],.dead,.box [.own 6,.own 7],.dead,.dead,.arr U.i64,.arr U.u8,.arr U.Block]⟩ (((),()),(((),(a0.1,(a0.2.1,()))),((),(((),((),())),((),((),(a0.2.2.1,(a0.2.2.2.1,(a0.2.2.2.2,())))))))))) (aw.aX D ⟨[.own 5],[.box [.ptr 2 0,.int .i64,.int .i64],.dead,.box [.own 6,.own 7],.dead,.dead,.arr U.i64,.arr U.u8,.arr U.Block]⟩ (((),()),(((),(a0.1,(a0.2.1,()))),((),(((),((),())),((),((),(a0.2.2.1,(a0.2.2.2.1,(a0.2.2.2.2,()))))))))))
def ahY:List (bH K (Int×Int×(List Int)×(List UInt8)×(List M.af))):=[⟨(Ex.exit 0),⟨[.own 5],[.box [.ptr 2 0,.int .i64,.int .i64],.dead,.box [.own 6,.own 7],.dead,.dead,.arr U.i64,.arr U.u8,.arr U.Block]⟩,fun x=>(x.2.1.2.1,x.2.1.2.2.1,x.2.2.2.2.2.2.1,x.2.2.2.2.2.2.2.1,x.2.2.2.2.2.2.2.2.1)⟩]
def Vq(cG:(List M.aa)->(List M.ae)->Int->Int->(List UInt8)->(List M.af)->Option (Int×Int×(List Int)×(List UInt8)×(List M.af))):bA K:=bJ D false 29 5 [0,2,7,11,12,13] [7] ⟨[.ptr 0 0,.aj U.Value,.own 5,.aj U.Type,.int .i64,.int .i64],[.box [.ptr 2 0,.int .i64,.int .i64],.dead,.box [.own 6,.own 7],.dead,.dead,.arr U.i64,.arr U.u8,.arr U.Block]⟩ (fun x=>M.sq cG x.1.2.1 x.1.2.2.2.1 x.1.2.2.2.2.1 ah x.1.2.2.2.2.2.1 x.2.1.2.1 x.2.1.2.2.1 x.2.2.2.2.2.2.1 x.2.2.2.2.2.2.2.1 x.2.2.2.2.2.2.2.2.1) Vp
def Ew(cG:(List M.aa)->(List M.ae)->Int->Int->(List UInt8)->(List M.af)->Option (Int×Int×(List Int)×(List UInt8)×(List M.af))):Cx K:={aK with mode:=aF .plain [(62,.cT)],fq:=[[some U.i64]],mv:=true,call:=callOf D [so (M.Eu cG)],loop:=aE [(3,Vq cG)]}
theorem Vr(cG:(List M.aa)->(List M.ae)->Int->Int->(List UInt8)->(List M.af)->Option (Int×Int×(List Int)×(List UInt8)×(List M.af)))(j4:(lq cG).Ok D Tryz.prog):aD (Ew cG):=aL ak _ (ai (ahX cG j4) (ax))
theorem ahZ(cG:(List M.aa)->(List M.ae)->Int->Int->(List UInt8)->(List M.af)->Option (Int×Int×(List Int)×(List UInt8)×(List M.af)))(j4:(lq cG).Ok D Tryz.prog):bC (Ew cG) (bF (bI Tryz.f106) 0) (Vq cG):=
 bN (cx:=Ew cG) (n:=29) (n0:=5) (ins:=[0,2,7,11,12,13]) (outs:=[7]) (sh:=⟨[.ptr 0 0,.aj U.Value,.own 5,.aj U.Type,.int .i64,.int .i64],[.box [.ptr 2 0,.int .i64,.int .i64],.dead,.box [.own 6,.own 7],.dead,.dead,.arr U.i64,.arr U.u8,.arr U.Block]⟩) (run:=fun n x=>M.sq cG x.1.2.1 x.1.2.2.2.1 x.1.2.2.2.2.1 n x.1.2.2.2.2.2.1 x.2.1.2.1 x.2.1.2.2.1 x.2.2.2.2.2.2.1 x.2.2.2.2.2.2.2.1 x.2.2.2.2.2.2.2.2.1) (bG:=ahY) (out:=Vp) ak (Vr cG j4) ay (aG (by kernel_rfl)) (fun _=>rfl) (fun m x=>by kernel_rfl) (ai ⟨bP,fun _ _ _=>rfl⟩ (ax)) false ah
theorem ah0(cG:(List M.aa)->(List M.ae)->Int->Int->(List UInt8)->(List M.af)->Option (Int×Int×(List Int)×(List UInt8)×(List M.af)))(j4:(lq cG).Ok D Tryz.prog):(lq (M.AE cG)).Ok D Tryz.prog:=
 aI (cx:=Ew cG) (c:=lq (M.AE cG)) (fz:=false) (fn:=Tryz.f106) ak (Vr cG j4) ay ⟨Tryz.func106,by kernel_rfl⟩ (aJ (bQ 1 (by kernel_rfl) (bR (.mk (by kernel_rfl) (ahZ cG j4))))) ⟨⟨[.own 4],[.box [.ptr 1 0,.int .i64,.int .i64],.box [.own 5,.own 6],.dead,.dead,.arr U.i64,.arr U.u8,.arr U.Block]⟩,fun x=>(x.2.1.2.1,x.2.1.2.2.1,x.2.2.2.2.2.1,x.2.2.2.2.2.2.1,x.2.2.2.2.2.2.2.1)⟩ (fun x=>rfl) (fun x=>by kernel_rfl)
theorem Vs:∀n,(lq (M.oC n)).Ok D Tryz.prog
 |0=>ez fun _=>rfl
 |n+1=>ah0 (M.oC n) (Vs n)
theorem ah1:(lq (M.Ey)).Ok D Tryz.prog:=Vs ah
def Vt(y:Int×(List Int)){R:Type}(k:Ex->List (AV K)->List (Ob K)->R):R:=match y with
 |a0=>k (Ex.exit 0) (aw.aW D ⟨[.own 1,.int .i64],[.dead,.arr U.i64]⟩ (((),(a0.1,())),((),(a0.2,())))) (aw.aX D ⟨[.own 1,.int .i64],[.dead,.arr U.i64]⟩ (((),(a0.1,())),((),(a0.2,()))))
def ah2:List (bH K (Int×(List Int))):=[⟨(Ex.exit 0),⟨[.own 1,.int .i64],[.dead,.arr U.i64]⟩,fun x=>(x.1.2.1,x.2.2.1)⟩]
def Vu:bA K:=bJ D false 31 1 [4,5,10,11,12] [4,5] ⟨[.own 1,.int .i64,.aj U.Type,.int .i64,.int .i64],[.dead,.arr U.i64]⟩ (fun x=>M.xJ x.1.2.2.1 x.1.2.2.2.1 ah x.1.2.1 x.1.2.2.2.2.1 x.2.2.1) Vt
def I8(m:(List M.aa)->Option ((List Int)×Int)):aC K:={f:=101,sh:=⟨[.aj U.Type],[]⟩,R:=(List Int)×Int,run:=fun x=>m x.1.1,dflt:=default,out:=fun r=>(Sh.enc D (.aV [.aj U.i64,.int .i64]) (r.1,(r.2,())),az.encs D [] ())}
def Ez:Cx K:={aK with mode:=aF .plain [(95,.plain),(146,.plain),(97,.plain)],call:=callOf D [jA M.fE,pZ M.ib,ic M.ie],loop:=aE [(3,Vu)]}
theorem Vv:aD (Ez):=aL ak _ (ai rR (ai uH (ai Ak (ax))))
theorem ah3:bC (Ez) (bF (bI Tryz.f101) 0) (Vu):=
 bN (cx:=Ez) (n:=31) (n0:=1) (ins:=[4,5,10,11,12]) (outs:=[4,5]) (sh:=⟨[.own 1,.int .i64,.aj U.Type,.int .i64,.int .i64],[.dead,.arr U.i64]⟩) (run:=fun n x=>M.xJ x.1.2.2.1 x.1.2.2.2.1 n x.1.2.1 x.1.2.2.2.2.1 x.2.2.1) (bG:=ah2) (out:=Vt) ak (Vv) ay (aG (by kernel_rfl)) (fun _=>rfl) (fun m x=>by kernel_rfl) (ai ⟨bP,fun _ _ _=>rfl⟩ (ax)) false ah
theorem ah4:(I8 (M.xK)).Ok D Tryz.prog:=
 aI (cx:=Ez) (c:=I8 (M.xK)) (fz:=true) (fn:=Tryz.f101) ak (Vv) ay ⟨Tryz.func101,by kernel_rfl⟩ (aJ (bQ 1 (by kernel_rfl) (bR (.mk (by kernel_rfl) (ah3))))) ⟨⟨[.aV [.aj U.i64,.int .i64]],[]⟩,fun x=>(x.1.1.1,x.1.1.2.1)⟩ (fun x=>rfl) (fun x=>by kernel_rfl)
def Vw(y:Int){R:Type}(k:Ex->List (AV K)->List (Ob K)->R):R:=match y with
 |a0=>k (Ex.exit 0) (aw.aW D ⟨[.int .i64],[]⟩ ((a0,()),())) (aw.aX D ⟨[.int .i64],[]⟩ ((a0,()),()))
def ah5:List (bH K (Int)):=[⟨(Ex.exit 0),⟨[.int .i64],[]⟩,fun x=>x.1.1⟩]
def Vx:bA K:=bJ D false 18 0 [3,6,7,8] [3] ⟨[.int .i64,.aj U.Type,.int .i64,.int .i64],[]⟩ (fun x=>M.xM x.1.2.1 x.1.2.2.1 ah x.1.1 x.1.2.2.2.1) Vw
def EA(m:(List M.aa)->Option (Int)):aC K:={f:=118,sh:=⟨[.aj U.Type],[]⟩,R:=Int,run:=fun x=>m x.1.1,dflt:=default,out:=fun r=>(Sh.enc D (.int .i64) r,az.encs D [] ())}
def EB:Cx K:={aK with mode:=aF .plain [(95,.plain)],call:=callOf D [jA M.fE],loop:=aE [(3,Vx)]}
theorem Vy:aD (EB):=aL ak _ (ai rR (ax))
theorem ah6:bC (EB) (bF (bI Tryz.f118) 0) (Vx):=
 bN (cx:=EB) (n:=18) (n0:=0) (ins:=[3,6,7,8]) (outs:=[3]) (sh:=⟨[.int .i64,.aj U.Type,.int .i64,.int .i64],[]⟩) (run:=fun n x=>M.xM x.1.2.1 x.1.2.2.1 n x.1.1 x.1.2.2.2.1) (bG:=ah5) (out:=Vw) ak (Vy) ay (aG (by kernel_rfl)) (fun _=>rfl) (fun m x=>by kernel_rfl) (ai ⟨bP,fun _ _ _=>rfl⟩ (ax)) false ah
theorem Vz:(EA (M.sr)).Ok D Tryz.prog:=
 aI (cx:=EB) (c:=EA (M.sr)) (fz:=true) (fn:=Tryz.f118) ak (Vy) ay ⟨Tryz.func118,by kernel_rfl⟩ (aJ (bQ 1 (by kernel_rfl) (bR (.mk (by kernel_rfl) (ah6))))) ⟨⟨[.int .i64],[]⟩,fun x=>x.1.1⟩ (fun x=>rfl) (fun x=>by kernel_rfl)
def I9(m:(List M.aa)->Option (Int)):aC K:={f:=117,sh:=⟨[.aj U.Type],[]⟩,R:=Int,run:=fun x=>m x.1.1,dflt:=default,out:=fun r=>(Sh.enc D (.int .i64) r,az.encs D [] ())}
def VA:Cx K:={aK with mode:=aF .plain [(101,.dA),(118,.plain),(146,.plain)],call:=callOf D [I8 M.xK,EA M.sr,pZ M.ib],loop:=aE []}
theorem ah7:aD (VA):=aL ak _ (ai ah4 (ai Vz (ai uH (ax))))
theorem ah8:(I9 (M.xN)).Ok D Tryz.prog:=
 aI (cx:=VA) (c:=I9 (M.xN)) (fz:=true) (fn:=Tryz.f117) ak (ah7) ay ⟨Tryz.func117,by kernel_rfl⟩ (aJ (aG (by kernel_rfl))) ⟨⟨[.int .i64],[]⟩,fun x=>x.1.1⟩ (fun x=>rfl) (fun x=>by kernel_rfl)
def Ja(m:(List M.aa)->Option (M.aa)):aC K:={f:=119,sh:=⟨[.aj U.Type],[]⟩,R:=M.aa,run:=fun x=>m x.1.1,dflt:=default,out:=fun r=>(Sh.enc D (.el U.Type) r,az.encs D [] ())}
def VB:Cx K:={aK with mode:=aF .plain [],call:=callOf D [],loop:=aE []}
theorem ah9:aD (VB):=aL ak _ (ax)
theorem aia:(Ja (M.Jb)).Ok D Tryz.prog:=
 aI (cx:=VB) (c:=Ja (M.Jb)) (fz:=true) (fn:=Tryz.f119) ak (ah9) ay ⟨Tryz.func119,by kernel_rfl⟩ (aJ (aG (by kernel_rfl))) ⟨⟨[.el U.Type],[]⟩,fun x=>x.1.1⟩ (fun x=>rfl) (fun x=>by kernel_rfl)
def Jc(m:Int->(List M.aa)->(List M.ae)->(List UInt8)->(List M.af)->Option (Int×(List Int)×(List UInt8)×(List M.af))):aC K:={f:=74,sh:=⟨[.ptr 0 0,.int .i64,.aj U.Type,.aj U.Value],[.box [.own 1,.own 2],.arr U.u8,.arr U.Block]⟩,R:=Int×(List Int)×(List UInt8)×(List M.af),run:=fun x=>m x.1.2.1 x.1.2.2.1 x.1.2.2.2.1 x.2.2.1 x.2.2.2.1,dflt:=default,out:=fun r=>(Sh.enc D (.aV [.own 3,.int .i64]) ((),(r.1,())),az.encs D [.box [.own 4,.own 5],.dead,.dead,.arr U.i64,.arr U.u8,.arr U.Block] (((),((),())),((),((),(r.2.1,(r.2.2.1,(r.2.2.2,())))))))}
def VC:Cx K:={aK with mode:=aF .plain [(116,.plain),(106,.cT),(117,.plain),(118,.plain),(113,.cT),(119,.dA),(53,.cT)],fq:=[[some U.i64],[]],mv:=true,call:=callOf D [I3 M.AB,lq M.Ey,I9 M.xN,EA M.sr,An M.jZ,Ja M.Jb,kB M.oo],loop:=aE []}
theorem aib:aD (VC):=aL ak _ (ai ahP (ai ah1 (ai ah8 (ai Vz (ai IL (ai aia (ai Un (ax))))))))
theorem aic:(Jc (M.uL)).Ok D Tryz.prog:=
 aI (cx:=VC) (c:=Jc (M.uL)) (fz:=false) (fn:=Tryz.f74) ak (aib) ay ⟨Tryz.func74,by kernel_rfl⟩ (aJ (aG (by kernel_rfl))) ⟨⟨[.aV [.own 3,.int .i64]],[.box [.own 4,.own 5],.dead,.dead,.arr U.i64,.arr U.u8,.arr U.Block]⟩,fun x=>(x.1.1.2.1,x.2.2.2.2.1,x.2.2.2.2.2.1,x.2.2.2.2.2.2.1)⟩ (fun x=>rfl) (fun x=>by kernel_rfl)
def Jd(m:M.aB->Int->(List M.aa)->(List M.ae)->Option ((List UInt8)×Int×(List M.af)×(List Int))):aC K:={f:=34,sh:=⟨[.el U.dR,.int .i64,.aj U.Type,.aj U.Value],[]⟩,R:=(List UInt8)×Int×(List M.af)×(List Int),run:=fun x=>m x.1.1 x.1.2.1 x.1.2.2.1 x.1.2.2.2.1,dflt:=default,out:=fun r=>(Sh.enc D (.aV [.agg [.str,.own 0],.own 1,.int .i64]) ((r.1,((),())),((),(r.2.1,()))),az.encs D [.arr U.Block,.arr U.i64] (r.2.2.1,(r.2.2.2,())))}
def VD:Cx K:={aK with mode:=aF .plain [(49,.plain),(73,.plain),(51,.iF),(74,.cT),(54,.fresh)],fq:=[[none,some U.Block],[some U.i64],[]],call:=callOf D [Iu M.xn,I1 M.xC,Iw M.xo,Jc M.uL,IQ M.xw],loop:=aE []}
theorem aid:aD (VD):=aL ak _ (ai agf (ai ahE (ai agi (ai aic (ai ag8 (ax))))))
theorem aie:(Jd (M.uM)).Ok D Tryz.prog:=
 aI (cx:=VD) (c:=Jd (M.uM)) (fz:=false) (fn:=Tryz.f34) ak (aid) ay ⟨Tryz.func34,by kernel_rfl⟩ (aJ (aG (by kernel_rfl))) ⟨⟨[.aV [.agg [.str,.own 0],.own 1,.int .i64]],[.arr U.Block,.arr U.i64]⟩,fun x=>(x.1.1.1.1,x.1.1.2.2.1,x.2.1,x.2.2.1)⟩ (fun x=>rfl) (fun x=>by kernel_rfl)
def Je(m:(List Int)->(List UInt8)->Int->Int->(List M.af)->Option ((List UInt8)×Int×(List UInt8)×Int×Int×(List M.af)×(List Int)×(List M.af))):aC K:={f:=61,sh:=⟨[.ptr 0 0,.aj U.i64],[.box [.str,.own 1,.int .i64,.int .i64],.arr U.Block]⟩,R:=(List UInt8)×Int×(List UInt8)×Int×Int×(List M.af)×(List Int)×(List M.af),run:=fun x=>m x.1.2.1 x.2.1.1 x.2.1.2.2.1 x.2.1.2.2.2.1 x.2.2.1,dflt:=default,out:=fun r=>(Sh.enc D (.aV [.agg [.str,.own 2],.own 3,.int .i64]) ((r.1,((),())),((),(r.2.1,()))),az.encs D [.box [.str,.own 4,.int .i64,.int .i64],.dead,.arr U.Block,.arr U.i64,.arr U.Block] ((r.2.2.1,((),(r.2.2.2.1,(r.2.2.2.2.1,())))),((),(r.2.2.2.2.2.1,(r.2.2.2.2.2.2.1,(r.2.2.2.2.2.2.2,()))))))}
def VE:Cx K:={aK with mode:=aF .plain [],fq:=[[none,some U.Block],[some U.i64],[]],mv:=true,call:=callOf D [],loop:=aE []}
theorem aif:aD (VE):=aL ak _ (ax)
theorem aih:(Je (M.su)).Ok D Tryz.prog:=
 aI (cx:=VE) (c:=Je (M.su)) (fz:=false) (fn:=Tryz.f61) ak (aif) ay ⟨Tryz.func61,by kernel_rfl⟩ (aJ (aG (by kernel_rfl))) ⟨⟨[.aV [.agg [.str,.own 2],.own 3,.int .i64]],[.box [.str,.own 4,.int .i64,.int .i64],.dead,.arr U.Block,.arr U.i64,.arr U.Block]⟩,fun x=>(x.1.1.1.1,x.1.1.2.2.1,x.2.1.1,x.2.1.2.2.1,x.2.1.2.2.2.1,x.2.2.2.1,x.2.2.2.2.1,x.2.2.2.2.2.1)⟩ (fun x=>rfl) (fun x=>by kernel_rfl)
def Jf(m:(List Int)->(List UInt8)->Int->Int->(List M.af)->Option ((List UInt8)×(List Int)×Int×(List UInt8)×Int×Int×(List M.af))):aC K:={f:=61,sh:=⟨[.ptr 0 0,.aj U.i64],[.box [.str,.own 1,.int .i64,.int .i64],.arr U.Block]⟩,R:=(List UInt8)×(List Int)×Int×(List UInt8)×Int×Int×(List M.af),run:=fun x=>m x.1.2.1 x.2.1.1 x.2.1.2.2.1 x.2.1.2.2.2.1 x.2.2.1,dflt:=default,out:=fun r=>(Sh.enc D (.aV [.agg [.str,.own 2],.aj U.i64,.int .i64]) ((r.1,((),())),(r.2.1,(r.2.2.1,()))),az.encs D [.box [.str,.own 2,.int .i64,.int .i64],.dead,.arr U.Block] ((r.2.2.2.1,((),(r.2.2.2.2.1,(r.2.2.2.2.2.1,())))),((),(r.2.2.2.2.2.2,()))))}
def VF:Cx K:={aK with mode:=aF .plain [],fq:=[[none,some U.Block],[some U.i64],[]],mv:=true,call:=callOf D [],loop:=aE []}
theorem aii:aD (VF):=aL ak _ (ax)
theorem aij:(Jf (M.sw)).Ok D Tryz.prog:=
 aI (cx:=VF) (c:=Jf (M.sw)) (fz:=false) (fn:=Tryz.f61) ak (aii) ay ⟨Tryz.func61,by kernel_rfl⟩ (aJ (aG (by kernel_rfl))) ⟨⟨[.aV [.agg [.str,.own 2],.aj U.i64,.int .i64]],[.box [.str,.own 2,.int .i64,.int .i64],.dead,.arr U.Block]⟩,fun x=>(x.1.1.1.1,x.1.1.2.1,x.1.1.2.2.1,x.2.1.1,x.2.1.2.2.1,x.2.1.2.2.2.1,x.2.2.2.1)⟩ (fun x=>rfl) (fun x=>by kernel_rfl)
def VG(y:Int×Int×(List Int)){R:Type}(k:Ex->List (AV K)->List (Ob K)->R):R:=match y with
 |a0=>k (Ex.exit 0) (aw.aW D ⟨[.int .i64,.int .i64,.own 1],[.dead,.arr U.i64]⟩ ((a0.1,(a0.2.1,((),()))),((),(a0.2.2,())))) (aw.aX D ⟨[.int .i64,.int .i64,.own 1],[.dead,.arr U.i64]⟩ ((a0.1,(a0.2.1,((),()))),((),(a0.2.2,()))))
def aik:List (bH K (Int×Int×(List Int))):=[⟨(Ex.exit 0),⟨[.int .i64,.int .i64,.own 1],[.dead,.arr U.i64]⟩,fun x=>(x.1.1,x.1.2.1,x.2.2.1)⟩]
def VH:bA K:=bJ D false 44 1 [0,5,6,7,8] [5,6,7] ⟨[.aj U.Type,.int .i64,.int .i64,.own 1,.int .i64],[.dead,.arr U.i64]⟩ (fun x=>M.xO x.1.1 ah x.1.2.1 x.1.2.2.1 x.1.2.2.2.2.1 x.2.2.1) VG
def xP(m:(List M.aa)->Option ((List Int)×Int×Int)):aC K:={f:=71,sh:=⟨[.aj U.Type],[]⟩,R:=(List Int)×Int×Int,run:=fun x=>m x.1.1,dflt:=default,out:=fun r=>(Sh.enc D (.aV [.aj U.i64,.int .i64,.int .i64]) (r.1,(r.2.1,(r.2.2,()))),az.encs D [] ())}
def EC:Cx K:={aK with mode:=aF .plain [(43,.plain),(83,.plain),(115,.plain)],call:=callOf D [iP M.gR,uB M.iQ,tX M.gQ],loop:=aE [(4,VH)]}
theorem VI:aD (EC):=aL ak _ (ai w9 (ai Aa (ai zC (ax))))
theorem ail:bC (EC) (bF (bI Tryz.f71) 0) (VH):=
 bN (cx:=EC) (n:=44) (n0:=1) (ins:=[0,5,6,7,8]) (outs:=[5,6,7]) (sh:=⟨[.aj U.Type,.int .i64,.int .i64,.own 1,.int .i64],[.dead,.arr U.i64]⟩) (run:=fun n x=>M.xO x.1.1 n x.1.2.1 x.1.2.2.1 x.1.2.2.2.2.1 x.2.2.1) (bG:=aik) (out:=VG) ak (VI) ay (aG (by kernel_rfl)) (fun _=>rfl) (fun m x=>by kernel_rfl) (ai ⟨bP,fun _ _ _=>rfl⟩ (ax)) false ah
theorem ED:(xP (M.oD)).Ok D Tryz.prog:=
 aI (cx:=EC) (c:=xP (M.oD)) (fz:=true) (fn:=Tryz.f71) ak (VI) ay ⟨Tryz.func71,by kernel_rfl⟩ (aJ (bQ 1 (by kernel_rfl) (bR (.mk (by kernel_rfl) (ail))))) ⟨⟨[.aV [.aj U.i64,.int .i64,.int .i64]],[]⟩,fun x=>(x.1.1.1,x.1.1.2.1,x.1.1.2.2.1)⟩ (fun x=>rfl) (fun x=>by kernel_rfl)
def VJ(y:(List UInt8)×Int×Int×(List M.af)){R:Type}(k:Ex->List (AV K)->List (Ob K)->R):R:=match y with
 |a0=>k (Ex.exit 0) (aw.aW D ⟨[],[.box [.str,.own 2,.int .i64,.int .i64],.dead,.arr U.Block]⟩ ((),((a0.1,((),(a0.2.1,(a0.2.2.1,())))),((),(a0.2.2.2,()))))) (aw.aX D ⟨[],[.box [.str,.own 2,.int .i64,.int .i64],.dead,.arr U.Block]⟩ ((),((a0.1,((),(a0.2.1,(a0.2.2.1,())))),((),(a0.2.2.2,())))))
def aim:List (bH K ((List UInt8)×Int×Int×(List M.af))):=[⟨(Ex.exit 0),⟨[],[.box [.str,.own 2,.int .i64,.int .i64],.dead,.arr U.Block]⟩,fun x=>(x.2.1.1,x.2.1.2.2.1,x.2.1.2.2.2.1,x.2.2.2.1)⟩]
def VK:bA K:=bJ D false 47 2 [0,1,2,3,8,11] [] ⟨[.ptr 0 0,.aj U.Type,.aj U.Value,.int .i64,.aj U.i64,.int .i64],[.box [.str,.own 2,.int .i64,.int .i64],.dead,.arr U.Block]⟩ (fun x=>M.xQ x.1.2.1 x.1.2.2.1 x.1.2.2.2.1 x.1.2.2.2.2.1 ah x.1.2.2.2.2.2.1 x.2.1.1 x.2.1.2.2.1 x.2.1.2.2.2.1 x.2.2.2.1) VJ
def AG(m:(List M.aa)->(List M.ae)->Int->(List UInt8)->Int->Int->(List M.af)->Option ((List UInt8)×Int×Int×(List M.af))):aC K:={f:=72,sh:=⟨[.ptr 0 0,.aj U.Type,.aj U.Value,.int .i64],[.box [.str,.own 1,.int .i64,.int .i64],.arr U.Block]⟩,R:=(List UInt8)×Int×Int×(List M.af),run:=fun x=>m x.1.2.1 x.1.2.2.1 x.1.2.2.2.1 x.2.1.1 x.2.1.2.2.1 x.2.1.2.2.2.1 x.2.2.1,dflt:=default,out:=fun r=>(Sh.enc D (.aV []) (),az.encs D [.box [.str,.own 2,.int .i64,.int .i64],.dead,.arr U.Block] ((r.1,((),(r.2.1,(r.2.2.1,())))),((),(r.2.2.2,()))))}
def EE:Cx K:={aK with mode:=aF .plain [(71,.dA),(46,.cT)],mv:=true,call:=callOf D [xP M.oD,iD M.ln],loop:=aE [(2,VK)]}
theorem VL:aD (EE):=aL ak _ (ai ED (ai SO (ax)))
theorem ain:bC (EE) (bF (bI Tryz.f72) 0) (VK):=
 bN (cx:=EE) (n:=47) (n0:=2) (ins:=[0,1,2,3,8,11]) (outs:=[]) (sh:=⟨[.ptr 0 0,.aj U.Type,.aj U.Value,.int .i64,.aj U.i64,.int .i64],[.box [.str,.own 2,.int .i64,.int .i64],.dead,.arr U.Block]⟩) (run:=fun n x=>M.xQ x.1.2.1 x.1.2.2.1 x.1.2.2.2.1 x.1.2.2.2.2.1 n x.1.2.2.2.2.2.1 x.2.1.1 x.2.1.2.2.1 x.2.1.2.2.2.1 x.2.2.2.1) (bG:=aim) (out:=VJ) ak (VL) ay (aG (by kernel_rfl)) (fun _=>rfl) (fun m x=>by kernel_rfl) (ai ⟨bP,fun _ _ _=>rfl⟩ (ax)) false ah
theorem Jg:(AG (M.qj)).Ok D Tryz.prog:=
 aI (cx:=EE) (c:=AG (M.qj)) (fz:=true) (fn:=Tryz.f72) ak (VL) ay ⟨Tryz.func72,by kernel_rfl⟩ (aJ (bQ 1 (by kernel_rfl) (bR (.mk (by kernel_rfl) (ain))))) ⟨⟨[.aV []],[.box [.str,.own 2,.int .i64,.int .i64],.dead,.arr U.Block]⟩,fun x=>(x.2.1.1,x.2.1.2.2.1,x.2.1.2.2.2.1,x.2.2.2.1)⟩ (fun x=>rfl) (fun x=>by kernel_rfl)
def Jh(m:M.aB->Int->(List M.aa)->(List M.ae)->Option (M.aB×(List Int)×Int)):aC K:={f:=31,sh:=⟨[.el U.dR,.int .i64,.aj U.Type,.aj U.Value],[]⟩,R:=M.aB×(List Int)×Int,run:=fun x=>m x.1.1 x.1.2.1 x.1.2.2.1 x.1.2.2.2.1,dflt:=default,out:=fun r=>(Sh.enc D (.aV [.el U.dR,.aj U.i64,.int .i64]) (r.1,(r.2.1,(r.2.2,()))),az.encs D [] ())}
def VM:Cx K:={P:=Tryz.prog,D:=D,ty:=B9,lY:=Oe,mode:=aF .plain [(41,.plain),(67,.plain),(68,.plain),(45,.fresh),(69,.plain),(70,.cT),(61,.cT),(71,.dA),(64,.cT),(72,.cT)],call:=callOf D [zZ M.rJ,Ap M.rY,Aq M.rZ,uD M.jm,Au M.sd,jB M.sf,xP M.oD,rL M.jX,AG M.qj],alt:=fun b=>cond b (callOf D [zZ M.rJ,Ap M.rY,Aq M.rZ,uD M.jm,Au M.sd,jB M.sf,xP M.oD,rL M.jX,AG M.qj,Jf M.sw]) (callOf D [zZ M.rJ,Ap M.rY,Aq M.rZ,uD M.jm,Au M.sd,jB M.sf,xP M.oD,rL M.jX,AG M.qj,Je M.su]),loop:=aE []}
theorem aio:aD (VM):=aip ak _ _ _ (ai H7 (ai IS (ai IT (ai Ad (ai IV (ai I0 (ai ED (ai xe (ai Jg (ax)))))))))) (ai H7 (ai IS (ai IT (ai Ad (ai IV (ai I0 (ai ED (ai xe (ai Jg (ai aij (ax))))))))))) (ai H7 (ai IS (ai IT (ai Ad (ai IV (ai I0 (ai ED (ai xe (ai Jg (ai aih (ax)))))))))))
theorem aiq:(Jh (M.uN)).Ok D Tryz.prog:=
 aI (cx:=VM) (c:=Jh (M.uN)) (fz:=true) (fn:=Tryz.f31) ak (aio) ay ⟨Tryz.func31,by kernel_rfl⟩ (aJ (aG (by kernel_rfl))) ⟨⟨[.aV [.el U.dR,.aj U.i64,.int .i64]],[]⟩,fun x=>(x.1.1.1,x.1.1.2.1,x.1.1.2.2.1)⟩ (fun x=>rfl) (fun x=>by kernel_rfl)
def Ji(m:(List M.af)->Int->Option (Int)):aC K:={f:=39,sh:=⟨[.aj U.Block,.int .i64],[]⟩,R:=Int,run:=fun x=>m x.1.1 x.1.2.1,dflt:=default,out:=fun r=>(Sh.enc D (.int .i64) r,az.encs D [] ())}
def VN:Cx K:={aK with mode:=aF .plain [],call:=callOf D [],loop:=aE []}
theorem air:aD (VN):=aL ak _ (ax)
theorem ais:(Ji (M.xR)).Ok D Tryz.prog:=
 aI (cx:=VN) (c:=Ji (M.xR)) (fz:=true) (fn:=Tryz.f39) ak (air) ay ⟨Tryz.func39,by kernel_rfl⟩ (aJ (aG (by kernel_rfl))) ⟨⟨[.int .i64],[]⟩,fun x=>x.1.1⟩ (fun x=>rfl) (fun x=>by kernel_rfl)
def Jj(m:M.aB->Int->Option (Int)):aC K:={f:=7,sh:=⟨[.el U.dR,.int .i64],[]⟩,R:=Int,run:=fun x=>m x.1.1 x.1.2.1,dflt:=default,out:=fun r=>(Sh.enc D (.int .i64) r,az.encs D [] ())}
def VO:Cx K:={aK with mode:=aF .plain [(39,.plain)],call:=callOf D [Ji M.xR],loop:=aE []}
theorem ait:aD (VO):=aL ak _ (ai ais (ax))
theorem aiu:(Jj (M.xU)).Ok D Tryz.prog:=
 aI (cx:=VO) (c:=Jj (M.xU)) (fz:=true) (fn:=Tryz.f7) ak (ait) ay ⟨Tryz.func7,by kernel_rfl⟩ (aJ (aG (by kernel_rfl))) ⟨⟨[.int .i64],[]⟩,fun x=>x.1.1⟩ (fun x=>rfl) (fun x=>by kernel_rfl)
def Jk(m:M.af->Option (M.af)):aC K:={f:=87,sh:=⟨[.el U.Block],[]⟩,R:=M.af,run:=fun x=>m x.1.1,dflt:=default,out:=fun r=>(Sh.enc D (.el U.Block) r,az.encs D [] ())}
def VP:Cx K:={aK with mode:=aF .plain [],fq:=[[]],deep:=fun c=>dy (D.cells c (K.zero c)),call:=callOf D [],loop:=aE []}
theorem aiv:aD (VP):=aL ak _ (ax)
theorem aiw:(Jk (M.AH)).Ok D Tryz.prog:=
 aI (cx:=VP) (c:=Jk (M.AH)) (fz:=false) (fn:=Tryz.f87) ak (aiv) ay ⟨Tryz.func87,by kernel_rfl⟩ (aJ (aG (by kernel_rfl))) ⟨⟨[.el U.Block],[]⟩,fun x=>x.1.1⟩ (fun x=>rfl) (fun x=>by kernel_rfl)
def VQ(y:(List M.af)){R:Type}(k:Ex->List (AV K)->List (Ob K)->R):R:=match y with
 |a0=>k (Ex.exit 0) (aw.aW D ⟨[.own 1],[.dead,.arr U.Block]⟩ (((),()),((),(a0,())))) (aw.aX D ⟨[.own 1],[.dead,.arr U.Block]⟩ (((),()),((),(a0,()))))
def aix:List (bH K ((List M.af))):=[⟨(Ex.exit 0),⟨[.own 1],[.dead,.arr U.Block]⟩,fun x=>x.2.2.1⟩]
def VR:bA K:=bJ D false 23 1 [0,3,4] [3] ⟨[.aj U.Block,.own 1,.int .i64],[.dead,.arr U.Block]⟩ (fun x=>M.sx x.1.1 ah x.1.2.2.1 x.2.2.1) VQ
def Jl(m:(List M.af)->Option ((List M.af))):aC K:={f:=47,sh:=⟨[.aj U.Block],[]⟩,R:=(List M.af),run:=fun x=>m x.1.1,dflt:=default,out:=fun r=>(Sh.enc D (.own 0) (),az.encs D [.arr U.Block] (r,()))}
def EF:Cx K:={aK with mode:=aF .plain [(87,.fresh)],fq:=[[some U.Block]],deep:=fun c=>dy (D.cells c (K.zero c)),call:=callOf D [Jk M.AH],loop:=aE [(3,VR)]}
theorem VS:aD (EF):=aL ak _ (ai aiw (ax))
theorem aiy:bC (EF) (bF (bI Tryz.f47) 0) (VR):=
 bN (cx:=EF) (n:=23) (n0:=1) (ins:=[0,3,4]) (outs:=[3]) (sh:=⟨[.aj U.Block,.own 1,.int .i64],[.dead,.arr U.Block]⟩) (run:=fun n x=>M.sx x.1.1 n x.1.2.2.1 x.2.2.1) (bG:=aix) (out:=VQ) ak (VS) ay (aG (by kernel_rfl)) (fun _=>rfl) (fun m x=>by kernel_rfl) (ai ⟨bP,fun _ _ _=>rfl⟩ (ax)) false ah
theorem aiz:(Jl (M.xW)).Ok D Tryz.prog:=
 aI (cx:=EF) (c:=Jl (M.xW)) (fz:=false) (fn:=Tryz.f47) ak (VS) ay ⟨Tryz.func47,by kernel_rfl⟩ (aJ (bQ 1 (by kernel_rfl) (bR (.mk (by kernel_rfl) (aiy))))) ⟨⟨[.own 0],[.arr U.Block]⟩,fun x=>x.2.1⟩ (fun x=>rfl) (fun x=>by kernel_rfl)
def Jm(m:M.aB->Option ((List UInt8)×(List M.af))):aC K:={f:=11,sh:=⟨[.el U.dR],[]⟩,R:=(List UInt8)×(List M.af),run:=fun x=>m x.1.1,dflt:=default,out:=fun r=>(Sh.enc D (.agg [.str,.own 0]) (r.1,((),())),az.encs D [.arr U.Block] (r.2,()))}
def VT:Cx K:={aK with mode:=aF .plain [(47,.fresh)],fq:=[[none,some U.Block]],deep:=fun c=>dy (D.cells c (K.zero c)),call:=callOf D [Jl M.xW],loop:=aE []}
theorem aiA:aD (VT):=aL ak _ (ai aiz (ax))
theorem aiB:(Jm (M.xX)).Ok D Tryz.prog:=
 aI (cx:=VT) (c:=Jm (M.xX)) (fz:=false) (fn:=Tryz.f11) ak (aiA) ay ⟨Tryz.func11,by kernel_rfl⟩ (aJ (aG (by kernel_rfl))) ⟨⟨[.agg [.str,.own 0]],[.arr U.Block]⟩,fun x=>(x.1.1.1,x.2.1)⟩ (fun x=>rfl) (fun x=>by kernel_rfl)
def VU(y:(Int)⊕(Int)){R:Type}(k:Ex->List (AV K)->List (Ob K)->R):R:=match y with
 |.inl a0=>k Ex.ret (aw.aW D ⟨[.any,.int .i64],[]⟩ (((),(a0,())),())) (aw.aX D ⟨[.any,.int .i64],[]⟩ (((),(a0,())),()))
 |.inr (a1)=>k (Ex.exit 0) (aw.aW D ⟨[.int .i64,.any],[]⟩ ((a1,((),())),())) (aw.aX D ⟨[.int .i64,.any],[]⟩ ((a1,((),())),()))
def aiC:List (bH K ((Int)⊕(Int))):=[⟨Ex.ret,⟨[.any,.int .i64],[]⟩,fun x=>.inl x.1.2.1⟩,⟨(Ex.exit 0),⟨[.int .i64,.any],[]⟩,fun x=>.inr (x.1.1)⟩]
def VV:bA K:=bJ D false 27 0 [0,1,5] [1,4] ⟨[.aj U.Type,.int .i64,.int .i64],[]⟩ (fun x=>M.xY x.1.1 ah x.1.2.1 x.1.2.2.1) VU
def Jn(m:(List M.aa)->Int->Option (Int)):aC K:={f:=29,sh:=⟨[.aj U.Type,.int .i64],[]⟩,R:=Int,run:=fun x=>m x.1.1 x.1.2.1,dflt:=default,out:=fun r=>(Sh.enc D (.int .i64) r,az.encs D [] ())}
def EG:Cx K:={aK with mode:=aF .plain [(8,.plain)],call:=callOf D [mE M.tP],loop:=aE [(5,VV)]}
theorem VW:aD (EG):=aL ak _ (ai ach (ax))
theorem aiD:bC (EG) (bF (bI Tryz.f29) 0) (VV):=
 bN (cx:=EG) (n:=27) (n0:=0) (ins:=[0,1,5]) (outs:=[1,4]) (sh:=⟨[.aj U.Type,.int .i64,.int .i64],[]⟩) (run:=fun n x=>M.xY x.1.1 n x.1.2.1 x.1.2.2.1) (bG:=aiC) (out:=VU) ak (VW) ay (aG (by kernel_rfl)) (fun _=>rfl) (fun m x=>by kernel_rfl) (ai ⟨dj,fun _ _ _=>rfl⟩ (ai ⟨bP,fun _ _ _=>rfl⟩ (ax))) false ah
theorem aiE:(Jn (M.xZ)).Ok D Tryz.prog:=
 aI (cx:=EG) (c:=Jn (M.xZ)) (fz:=true) (fn:=Tryz.f29) ak (VW) ay ⟨Tryz.func29,by kernel_rfl⟩ (aJ (bQ 1 (by kernel_rfl) (bR (.mk (by kernel_rfl) (aiD))))) ⟨⟨[.int .i64],[]⟩,fun x=>x.1.1⟩ (fun x=>rfl) (fun x=>by kernel_rfl)
def VX(y:(Int)⊕(Int)){R:Type}(k:Ex->List (AV K)->List (Ob K)->R):R:=match y with
 |.inl a0=>k Ex.ret (aw.aW D ⟨[.any,.int .i64],[]⟩ (((),(a0,())),())) (aw.aX D ⟨[.any,.int .i64],[]⟩ (((),(a0,())),()))
 |.inr (a1)=>k (Ex.exit 0) (aw.aW D ⟨[.int .i64,.any],[]⟩ ((a1,((),())),())) (aw.aX D ⟨[.int .i64,.any],[]⟩ ((a1,((),())),()))
def aiF:List (bH K ((Int)⊕(Int))):=[⟨Ex.ret,⟨[.any,.int .i64],[]⟩,fun x=>.inl x.1.2.1⟩,⟨(Ex.exit 0),⟨[.int .i64,.any],[]⟩,fun x=>.inr (x.1.1)⟩]
def VY:bA K:=bJ D false 27 0 [0,1,5] [1,4] ⟨[.aj U.Value,.int .i64,.int .i64],[]⟩ (fun x=>M.x5 x.1.1 ah x.1.2.1 x.1.2.2.1) VX
def Jo(m:(List M.ae)->Int->Option (Int)):aC K:={f:=30,sh:=⟨[.aj U.Value,.int .i64],[]⟩,R:=Int,run:=fun x=>m x.1.1 x.1.2.1,dflt:=default,out:=fun r=>(Sh.enc D (.int .i64) r,az.encs D [] ())}
def EH:Cx K:={aK with mode:=aF .plain [(9,.plain)],call:=callOf D [mI M.uy],loop:=aE [(5,VY)]}
theorem VZ:aD (EH):=aL ak _ (ai ae3 (ax))
theorem aiG:bC (EH) (bF (bI Tryz.f30) 0) (VY):=
 bN (cx:=EH) (n:=27) (n0:=0) (ins:=[0,1,5]) (outs:=[1,4]) (sh:=⟨[.aj U.Value,.int .i64,.int .i64],[]⟩) (run:=fun n x=>M.x5 x.1.1 n x.1.2.1 x.1.2.2.1) (bG:=aiF) (out:=VX) ak (VZ) ay (aG (by kernel_rfl)) (fun _=>rfl) (fun m x=>by kernel_rfl) (ai ⟨dj,fun _ _ _=>rfl⟩ (ai ⟨bP,fun _ _ _=>rfl⟩ (ax))) false ah
theorem aiH:(Jo (M.x6)).Ok D Tryz.prog:=
 aI (cx:=EH) (c:=Jo (M.x6)) (fz:=true) (fn:=Tryz.f30) ak (VZ) ay ⟨Tryz.func30,by kernel_rfl⟩ (aJ (bQ 1 (by kernel_rfl) (bR (.mk (by kernel_rfl) (aiG))))) ⟨⟨[.int .i64],[]⟩,fun x=>x.1.1⟩ (fun x=>rfl) (fun x=>by kernel_rfl)
def V0(y:(List M.aa)){R:Type}(k:Ex->List (AV K)->List (Ob K)->R):R:=match y with
 |a0=>k (Ex.exit 0) (aw.aW D ⟨[.own 1],[.dead,.tree U.Type]⟩ (((),()),((),(a0,())))) (aw.aX D ⟨[.own 1],[.dead,.tree U.Type]⟩ (((),()),((),(a0,()))))
def aiI:List (bH K ((List M.aa))):=[⟨(Ex.exit 0),⟨[.own 1],[.dead,.tree U.Type]⟩,fun x=>x.2.2.1⟩]
def V1:bA K:=bJ D false 23 1 [0,3,4] [3] ⟨[.aj U.Type,.own 1,.int .i64],[.dead,.tree U.Type]⟩ (fun x=>M.x7 x.1.1 ah x.1.2.2.1 x.2.2.1) V0
def Jp(m:(List M.aa)->Option ((List M.aa))):aC K:={f:=32,sh:=⟨[.aj U.Type],[]⟩,R:=(List M.aa),run:=fun x=>m x.1.1,dflt:=default,out:=fun r=>(Sh.enc D (.own 0) (),az.encs D [.tree U.Type] (r,()))}
def EI:Cx K:={aK with mode:=aF .plain [(12,.fresh)],fq:=[[some U.Type]],deep:=fun c=>dy (D.cells c (K.zero c)),call:=callOf D [mF M.tR],loop:=aE [(3,V1)]}
theorem V2:aD (EI):=aL ak _ (ai acs (ax))
theorem aiJ:bC (EI) (bF (bI Tryz.f32) 0) (V1):=
 bN (cx:=EI) (n:=23) (n0:=1) (ins:=[0,3,4]) (outs:=[3]) (sh:=⟨[.aj U.Type,.own 1,.int .i64],[.dead,.tree U.Type]⟩) (run:=fun n x=>M.x7 x.1.1 n x.1.2.2.1 x.2.2.1) (bG:=aiI) (out:=V0) ak (V2) ay (aG (by kernel_rfl)) (fun _=>rfl) (fun m x=>by kernel_rfl) (ai ⟨bP,fun _ _ _=>rfl⟩ (ax)) false ah
theorem aiK:(Jp (M.uO)).Ok D Tryz.prog:=
 aI (cx:=EI) (c:=Jp (M.uO)) (fz:=false) (fn:=Tryz.f32) ak (V2) ay ⟨Tryz.func32,by kernel_rfl⟩ (aJ (bQ 1 (by kernel_rfl) (bR (.mk (by kernel_rfl) (aiJ))))) ⟨⟨[.own 0],[.tree U.Type]⟩,fun x=>x.2.1⟩ (fun x=>rfl) (fun x=>by kernel_rfl)
def V3(y:(List M.ae)){R:Type}(k:Ex->List (AV K)->List (Ob K)->R):R:=match y with
 |a0=>k (Ex.exit 0) (aw.aW D ⟨[.own 1],[.dead,.tree U.Value]⟩ (((),()),((),(a0,())))) (aw.aX D ⟨[.own 1],[.dead,.tree U.Value]⟩ (((),()),((),(a0,()))))
def aiL:List (bH K ((List M.ae))):=[⟨(Ex.exit 0),⟨[.own 1],[.dead,.tree U.Value]⟩,fun x=>x.2.2.1⟩]
def V4:bA K:=bJ D false 23 1 [0,3,4] [3] ⟨[.aj U.Value,.own 1,.int .i64],[.dead,.tree U.Value]⟩ (fun x=>M.x8 x.1.1 ah x.1.2.2.1 x.2.2.1) V3
def Jq(m:(List M.ae)->Option ((List M.ae))):aC K:={f:=33,sh:=⟨[.aj U.Value],[]⟩,R:=(List M.ae),run:=fun x=>m x.1.1,dflt:=default,out:=fun r=>(Sh.enc D (.own 0) (),az.encs D [.tree U.Value] (r,()))}
def EJ:Cx K:={aK with mode:=aF .plain [(13,.fresh)],fq:=[[some U.Value]],deep:=fun c=>dy (D.cells c (K.zero c)),call:=callOf D [mJ M.uA],loop:=aE [(3,V4)]}
theorem V5:aD (EJ):=aL ak _ (ai ae9 (ax))
theorem aiM:bC (EJ) (bF (bI Tryz.f33) 0) (V4):=
 bN (cx:=EJ) (n:=23) (n0:=1) (ins:=[0,3,4]) (outs:=[3]) (sh:=⟨[.aj U.Value,.own 1,.int .i64],[.dead,.tree U.Value]⟩) (run:=fun n x=>M.x8 x.1.1 n x.1.2.2.1 x.2.2.1) (bG:=aiL) (out:=V3) ak (V5) ay (aG (by kernel_rfl)) (fun _=>rfl) (fun m x=>by kernel_rfl) (ai ⟨bP,fun _ _ _=>rfl⟩ (ax)) false ah
theorem aiN:(Jq (M.uP)).Ok D Tryz.prog:=
 aI (cx:=EJ) (c:=Jq (M.uP)) (fz:=false) (fn:=Tryz.f33) ak (V5) ay ⟨Tryz.func33,by kernel_rfl⟩ (aJ (bQ 1 (by kernel_rfl) (bR (.mk (by kernel_rfl) (aiM))))) ⟨⟨[.own 0],[.tree U.Value]⟩,fun x=>x.2.1⟩ (fun x=>rfl) (fun x=>by kernel_rfl)
def Jr(m:M.af->M.af->Option (Bool)):aC K:={f:=104,sh:=⟨[.el U.Block,.el U.Block],[]⟩,R:=Bool,run:=fun x=>m x.1.1 x.1.2.1,dflt:=default,out:=fun r=>(Sh.enc D (.bool) r,az.encs D [] ())}
def V6:Cx K:={aK with mode:=aF .plain [],call:=callOf D [],loop:=aE []}
theorem aiO:aD (V6):=aL ak _ (ax)
theorem aiP:(Jr (M.x9)).Ok D Tryz.prog:=
 aI (cx:=V6) (c:=Jr (M.x9)) (fz:=true) (fn:=Tryz.f104) ak (aiO) ay ⟨Tryz.func104,by kernel_rfl⟩ (aJ (aG (by kernel_rfl))) ⟨⟨[.bool],[]⟩,fun x=>x.1.1⟩ (fun x=>rfl) (fun x=>by kernel_rfl)
def V7(y:(Bool)⊕(Unit)){R:Type}(k:Ex->List (AV K)->List (Ob K)->R):R:=match y with
 |.inl a0=>k Ex.ret (aw.aW D ⟨[.bool],[]⟩ ((a0,()),())) (aw.aX D ⟨[.bool],[]⟩ ((a0,()),()))
 |.inr (a1)=>k (Ex.exit 0) (aw.aW D ⟨[.any],[]⟩ (((),()),())) (aw.aX D ⟨[.any],[]⟩ (((),()),()))
def aiQ:List (bH K ((Bool)⊕(Unit))):=[⟨Ex.ret,⟨[.bool],[]⟩,fun x=>.inl x.1.1⟩,⟨(Ex.exit 0),⟨[.any],[]⟩,fun x=>.inr (())⟩]
def V8:bA K:=bJ D false 27 0 [0,1,5] [4] ⟨[.aj U.Block,.aj U.Block,.int .i64],[]⟩ (fun x=>M.uQ x.1.1 x.1.2.1 ah x.1.2.2.1) V7
def Js(m:(List M.af)->(List M.af)->Option (Bool)):aC K:={f:=55,sh:=⟨[.aj U.Block,.aj U.Block],[]⟩,R:=Bool,run:=fun x=>m x.1.1 x.1.2.1,dflt:=default,out:=fun r=>(Sh.enc D (.bool) r,az.encs D [] ())}
def EK:Cx K:={aK with mode:=aF .plain [(104,.plain)],call:=callOf D [Jr M.x9],loop:=aE [(4,V8)]}
theorem V9:aD (EK):=aL ak _ (ai aiP (ax))
theorem aiR:bC (EK) (bF (bI Tryz.f55) 0) (V8):=
 bN (cx:=EK) (n:=27) (n0:=0) (ins:=[0,1,5]) (outs:=[4]) (sh:=⟨[.aj U.Block,.aj U.Block,.int .i64],[]⟩) (run:=fun n x=>M.uQ x.1.1 x.1.2.1 n x.1.2.2.1) (bG:=aiQ) (out:=V7) ak (V9) ay (aG (by kernel_rfl)) (fun _=>rfl) (fun m x=>by kernel_rfl) (ai ⟨dj,fun _ _ _=>rfl⟩ (ai ⟨bP,fun _ _ _=>rfl⟩ (ax))) false ah
theorem aiS:(Js (M.ya)).Ok D Tryz.prog:=
 aI (cx:=EK) (c:=Js (M.ya)) (fz:=true) (fn:=Tryz.f55) ak (V9) ay ⟨Tryz.func55,by kernel_rfl⟩ (aJ (bQ 1 (by kernel_rfl) (bR (.mk (by kernel_rfl) (aiR))))) ⟨⟨[.bool],[]⟩,fun x=>x.1.1⟩ (fun x=>rfl) (fun x=>by kernel_rfl)
def Jt(m:M.aB->M.aB->Option (Bool)):aC K:={f:=15,sh:=⟨[.el U.dR,.el U.dR],[]⟩,R:=Bool,run:=fun x=>m x.1.1 x.1.2.1,dflt:=default,out:=fun r=>(Sh.enc D (.bool) r,az.encs D [] ())}
def Wa:Cx K:={aK with mode:=aF .plain [(55,.plain)],call:=callOf D [Js M.ya],loop:=aE []}
theorem aiT:aD (Wa):=aL ak _ (ai aiS (ax))
theorem aiU:(Jt (M.qk)).Ok D Tryz.prog:=
 aI (cx:=Wa) (c:=Jt (M.qk)) (fz:=true) (fn:=Tryz.f15) ak (aiT) ay ⟨Tryz.func15,by kernel_rfl⟩ (aJ (aG (by kernel_rfl))) ⟨⟨[.bool],[]⟩,fun x=>x.1.1⟩ (fun x=>rfl) (fun x=>by kernel_rfl)
def Wb(y:(Bool)⊕(Unit)){R:Type}(k:Ex->List (AV K)->List (Ob K)->R):R:=match y with
 |.inl a0=>k Ex.ret (aw.aW D ⟨[.bool],[]⟩ ((a0,()),())) (aw.aX D ⟨[.bool],[]⟩ ((a0,()),()))
 |.inr (a1)=>k (Ex.exit 0) (aw.aW D ⟨[.any],[]⟩ (((),()),())) (aw.aX D ⟨[.any],[]⟩ (((),()),()))
def aiV:List (bH K ((Bool)⊕(Unit))):=[⟨Ex.ret,⟨[.bool],[]⟩,fun x=>.inl x.1.1⟩,⟨(Ex.exit 0),⟨[.any],[]⟩,fun x=>.inr (())⟩]
def Wc:bA K:=bJ D false 27 0 [0,1,5] [4] ⟨[.aj U.Type,.aj U.Type,.int .i64],[]⟩ (fun x=>M.yb x.1.1 x.1.2.1 ah x.1.2.2.1) Wb
def Ju(m:(List M.aa)->(List M.aa)->Option (Bool)):aC K:={f:=35,sh:=⟨[.aj U.Type,.aj U.Type],[]⟩,R:=Bool,run:=fun x=>m x.1.1 x.1.2.1,dflt:=default,out:=fun r=>(Sh.enc D (.bool) r,az.encs D [] ())}
def EL:Cx K:={aK with mode:=aF .plain [(16,.plain)],call:=callOf D [mG M.tW],loop:=aE [(4,Wc)]}
theorem We:aD (EL):=aL ak _ (ai acC (ax))
theorem aiW:bC (EL) (bF (bI Tryz.f35) 0) (Wc):=
 bN (cx:=EL) (n:=27) (n0:=0) (ins:=[0,1,5]) (outs:=[4]) (sh:=⟨[.aj U.Type,.aj U.Type,.int .i64],[]⟩) (run:=fun n x=>M.yb x.1.1 x.1.2.1 n x.1.2.2.1) (bG:=aiV) (out:=Wb) ak (We) ay (aG (by kernel_rfl)) (fun _=>rfl) (fun m x=>by kernel_rfl) (ai ⟨dj,fun _ _ _=>rfl⟩ (ai ⟨bP,fun _ _ _=>rfl⟩ (ax))) false ah
theorem aiX:(Ju (M.uR)).Ok D Tryz.prog:=
 aI (cx:=EL) (c:=Ju (M.uR)) (fz:=true) (fn:=Tryz.f35) ak (We) ay ⟨Tryz.func35,by kernel_rfl⟩ (aJ (bQ 1 (by kernel_rfl) (bR (.mk (by kernel_rfl) (aiW))))) ⟨⟨[.bool],[]⟩,fun x=>x.1.1⟩ (fun x=>rfl) (fun x=>by kernel_rfl)
def Wg(y:(Bool)⊕(Unit)){R:Type}(k:Ex->List (AV K)->List (Ob K)->R):R:=match y with
 |.inl a0=>k Ex.ret (aw.aW D ⟨[.bool],[]⟩ ((a0,()),())) (aw.aX D ⟨[.bool],[]⟩ ((a0,()),()))
 |.inr (a1)=>k (Ex.exit 0) (aw.aW D ⟨[.any],[]⟩ (((),()),())) (aw.aX D ⟨[.any],[]⟩ (((),()),()))
def aiY:List (bH K ((Bool)⊕(Unit))):=[⟨Ex.ret,⟨[.bool],[]⟩,fun x=>.inl x.1.1⟩,⟨(Ex.exit 0),⟨[.any],[]⟩,fun x=>.inr (())⟩]
def Wh:bA K:=bJ D false 27 0 [0,1,5] [4] ⟨[.aj U.Value,.aj U.Value,.int .i64],[]⟩ (fun x=>M.yc x.1.1 x.1.2.1 ah x.1.2.2.1) Wg
def Jv(m:(List M.ae)->(List M.ae)->Option (Bool)):aC K:={f:=36,sh:=⟨[.aj U.Value,.aj U.Value],[]⟩,R:=Bool,run:=fun x=>m x.1.1 x.1.2.1,dflt:=default,out:=fun r=>(Sh.enc D (.bool) r,az.encs D [] ())}
def EM:Cx K:={aK with mode:=aF .plain [(17,.plain)],call:=callOf D [mD M.tI],loop:=aE [(4,Wh)]}
theorem Wi:aD (EM):=aL ak _ (ai abX (ax))
theorem aiZ:bC (EM) (bF (bI Tryz.f36) 0) (Wh):=
 bN (cx:=EM) (n:=27) (n0:=0) (ins:=[0,1,5]) (outs:=[4]) (sh:=⟨[.aj U.Value,.aj U.Value,.int .i64],[]⟩) (run:=fun n x=>M.yc x.1.1 x.1.2.1 n x.1.2.2.1) (bG:=aiY) (out:=Wg) ak (Wi) ay (aG (by kernel_rfl)) (fun _=>rfl) (fun m x=>by kernel_rfl) (ai ⟨dj,fun _ _ _=>rfl⟩ (ai ⟨bP,fun _ _ _=>rfl⟩ (ax))) false ah
theorem ai0:(Jv (M.uS)).Ok D Tryz.prog:=
 aI (cx:=EM) (c:=Jv (M.uS)) (fz:=true) (fn:=Tryz.f36) ak (Wi) ay ⟨Tryz.func36,by kernel_rfl⟩ (aJ (bQ 1 (by kernel_rfl) (bR (.mk (by kernel_rfl) (aiZ))))) ⟨⟨[.bool],[]⟩,fun x=>x.1.1⟩ (fun x=>rfl) (fun x=>by kernel_rfl)
def Wj(y:Int×(List M.af)){R:Type}(k:Ex->List (AV K)->List (Ob K)->R):R:=match y with
 |a0=>k (Ex.exit 0) (aw.aW D ⟨[.int .i64],[.arr U.Block]⟩ ((a0.1,()),(a0.2,()))) (aw.aX D ⟨[.int .i64],[.arr U.Block]⟩ ((a0.1,()),(a0.2,())))
def ai1:List (bH K (Int×(List M.af))):=[⟨(Ex.exit 0),⟨[.int .i64],[.arr U.Block]⟩,fun x=>(x.1.1,x.2.1)⟩]
def Wl:bA K:=bJ D true 27 1 [0,1,5] [1] ⟨[.own 0,.int .i64,.int .i64],[.arr U.Block]⟩ (fun x=>M.uT ah x.1.2.1 x.1.2.2.1 x.2.1) Wj
def Jw(m:Int->(List M.af)->Option (Int×(List M.af))):aC K:={f:=57,sh:=⟨[.own 0,.int .i64],[.arr U.Block]⟩,R:=Int×(List M.af),run:=fun x=>m x.1.2.1 x.2.1,dflt:=default,out:=fun r=>(Sh.enc D (.int .i64) r.1,az.encs D [.arr U.Block] (r.2,()))}
def EN:Cx K:={aK with mode:=aF .plain [],deep:=fun c=>dy (D.cells c (K.zero c)),opn:=true,call:=callOf D [],loop:=aE [(2,Wl)]}
theorem Wm:aD (EN):=aL ak _ (ax)
theorem ai2:bC (EN) (bF (bI Tryz.f57) 0) (Wl):=
 bN (cx:=EN) (n:=27) (n0:=1) (ins:=[0,1,5]) (outs:=[1]) (sh:=⟨[.own 0,.int .i64,.int .i64],[.arr U.Block]⟩) (run:=fun n x=>M.uT n x.1.2.1 x.1.2.2.1 x.2.1) (bG:=ai1) (out:=Wj) ak (Wm) ay (aG (by kernel_rfl)) (fun _=>rfl) (fun m x=>by kernel_rfl) (ai ⟨bP,fun _ _ _=>rfl⟩ (ax)) true ah
theorem ai3:(Jw (M.yd)).Ok D Tryz.prog:=
 aI (cx:=EN) (c:=Jw (M.yd)) (fz:=true) (fn:=Tryz.f57) ak (Wm) ay ⟨Tryz.func57,by kernel_rfl⟩ (aJ (bQ 1 (by kernel_rfl) (bR (.mk (by kernel_rfl) (ai2))))) ⟨⟨[.int .i64],[.arr U.Block]⟩,fun x=>(x.1.1,x.2.1)⟩ (fun x=>rfl) (fun x=>by kernel_rfl)
def Jy(m:(List UInt8)->Int->(List M.af)->Option (Int×(List M.af))):aC K:={f:=18,sh:=⟨[.agg [.str,.own 0],.int .i64],[.arr U.Block]⟩,R:=Int×(List M.af),run:=fun x=>m x.1.1.1 x.1.2.1 x.2.1,dflt:=default,out:=fun r=>(Sh.enc D (.int .i64) r.1,az.encs D [.arr U.Block] (r.2,()))}
def Wn:Cx K:={aK with mode:=aF .plain [(57,.pass)],deep:=fun c=>dy (D.cells c (K.zero c)),opn:=true,call:=callOf D [Jw M.yd],loop:=aE []}
theorem ai4:aD (Wn):=aL ak _ (ai ai3 (ax))
theorem ai5:(Jy (M.uU)).Ok D Tryz.prog:=
 aI (cx:=Wn) (c:=Jy (M.uU)) (fz:=true) (fn:=Tryz.f18) ak (ai4) ay ⟨Tryz.func18,by kernel_rfl⟩ (aJ (aG (by kernel_rfl))) ⟨⟨[.int .i64],[.arr U.Block]⟩,fun x=>(x.1.1,x.2.1)⟩ (fun x=>rfl) (fun x=>by kernel_rfl)
def Wp(y:(Int)⊕(Int)){R:Type}(k:Ex->List (AV K)->List (Ob K)->R):R:=match y with
 |.inl a0=>k Ex.ret (aw.aW D ⟨[.any,.int .i64],[]⟩ (((),(a0,())),())) (aw.aX D ⟨[.any,.int .i64],[]⟩ (((),(a0,())),()))
 |.inr (a1)=>k (Ex.exit 0) (aw.aW D ⟨[.int .i64,.any],[]⟩ ((a1,((),())),())) (aw.aX D ⟨[.int .i64,.any],[]⟩ ((a1,((),())),()))
def ai6:List (bH K ((Int)⊕(Int))):=[⟨Ex.ret,⟨[.any,.int .i64],[]⟩,fun x=>.inl x.1.2.1⟩,⟨(Ex.exit 0),⟨[.int .i64,.any],[]⟩,fun x=>.inr (x.1.1)⟩]
def Wq:bA K:=bJ D false 31 0 [0,1,5] [1,4] ⟨[.aj U.Block,.int .i64,.int .i64],[]⟩ (fun x=>M.uV x.1.1 ah x.1.2.1 x.1.2.2.1) Wp
def Jz(m:(List M.af)->Int->Option (Int)):aC K:={f:=59,sh:=⟨[.aj U.Block,.int .i64],[]⟩,R:=Int,run:=fun x=>m x.1.1 x.1.2.1,dflt:=default,out:=fun r=>(Sh.enc D (.int .i64) r,az.encs D [] ())}
def EO:Cx K:={aK with mode:=aF .plain [],call:=callOf D [],loop:=aE [(2,Wq)]}
theorem Ws:aD (EO):=aL ak _ (ax)
theorem ai7:bC (EO) (bF (bI Tryz.f59) 0) (Wq):=
 bN (cx:=EO) (n:=31) (n0:=0) (ins:=[0,1,5]) (outs:=[1,4]) (sh:=⟨[.aj U.Block,.int .i64,.int .i64],[]⟩) (run:=fun n x=>M.uV x.1.1 n x.1.2.1 x.1.2.2.1) (bG:=ai6) (out:=Wp) ak (Ws) ay (aG (by kernel_rfl)) (fun _=>rfl) (fun m x=>by kernel_rfl) (ai ⟨dj,fun _ _ _=>rfl⟩ (ai ⟨bP,fun _ _ _=>rfl⟩ (ax))) false ah
theorem ai8:(Jz (M.uW)).Ok D Tryz.prog:=
 aI (cx:=EO) (c:=Jz (M.uW)) (fz:=true) (fn:=Tryz.f59) ak (Ws) ay ⟨Tryz.func59,by kernel_rfl⟩ (aJ (bQ 1 (by kernel_rfl) (bR (.mk (by kernel_rfl) (ai7))))) ⟨⟨[.int .i64],[]⟩,fun x=>x.1.1⟩ (fun x=>rfl) (fun x=>by kernel_rfl)
def JA(m:M.aB->Int->Option (Int)):aC K:={f:=21,sh:=⟨[.el U.dR,.int .i64],[]⟩,R:=Int,run:=fun x=>m x.1.1 x.1.2.1,dflt:=default,out:=fun r=>(Sh.enc D (.int .i64) r,az.encs D [] ())}
def Wu:Cx K:={aK with mode:=aF .plain [(59,.plain)],call:=callOf D [Jz M.uW],loop:=aE []}
theorem ai9:aD (Wu):=aL ak _ (ai ai8 (ax))
theorem aja:(JA (M.ye)).Ok D Tryz.prog:=
 aI (cx:=Wu) (c:=JA (M.ye)) (fz:=true) (fn:=Tryz.f21) ak (ai9) ay ⟨Tryz.func21,by kernel_rfl⟩ (aJ (aG (by kernel_rfl))) ⟨⟨[.int .i64],[]⟩,fun x=>x.1.1⟩ (fun x=>rfl) (fun x=>by kernel_rfl)
def JB(m:M.aB->Int->(List M.aa)->(List M.ae)->Option (Bool)):aC K:={f:=6,sh:=⟨[.el U.dR,.int .i64,.aj U.Type,.aj U.Value],[]⟩,R:=Bool,run:=fun x=>m x.1.1 x.1.2.1 x.1.2.2.1 x.1.2.2.2.1,dflt:=default,out:=fun r=>(Sh.enc D (.bool) r,az.encs D [] ())}
def Wv:Cx K:={aK with mode:=aF .plain [(7,.plain),(29,.plain),(30,.plain),(11,.fresh),(32,.fresh),(33,.fresh),(31,.dA),(34,.fresh),(15,.plain),(24,.plain),(35,.plain),(36,.plain),(18,.pass),(37,.pass),(38,.pass),(25,.pass),(21,.plain),(26,.plain)],deep:=fun c=>dy (D.cells c (K.zero c)),call:=callOf D [Jj M.xU,Jn M.xZ,Jo M.x6,Jm M.xX,Jp M.uO,Jq M.uP,Jh M.uN,Jd M.uM,Jt M.qk,GV M.v8,Ju M.uR,Jv M.uS,Jy M.uU,pR M.Ds,pS M.Du,GX M.tL,JA M.ye,GY M.wa],loop:=aE []}
theorem ajb:aD (Wv):=aL ak _ (ai aiu (ai aiE (ai aiH (ai aiB (ai aiK (ai aiN (ai aiq (ai aie (ai aiU (ai ab1 (ai aiX (ai ai0 (ai ai5 (ai aeT (ai aeX (ai ab4 (ai aja (ai ab7 (ax)))))))))))))))))))
theorem ajc:(JB (M.ql)).Ok D Tryz.prog:=
 aI (cx:=Wv) (c:=JB (M.ql)) (fz:=true) (fn:=Tryz.f6) ak (ajb) ay ⟨Tryz.func6,by kernel_rfl⟩ (aJ (aG (by kernel_rfl))) ⟨⟨[.bool],[]⟩,fun x=>x.1.1⟩ (fun x=>rfl) (fun x=>by kernel_rfl)
