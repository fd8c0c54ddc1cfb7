/-
  Part of the proof of the claim.
-/
import Derived.Test.YtalddlopgnfpaaaGreatDoorXIGM
import Derived.Test.YtalddlopgnfpaaaGreatDoorXIHdA
import Derived.Test.YtalddlopgnfpaaaGreatDoorXIHdR
import Derived.Test.YtalddlopgnfpaaaGreatDoorXIHdU
import Derived.Test.YtalddlopgnfpaaaGreatDoorXIHdG
import Derived.Test.YtalddlopgnfpaaaGreatDoorXIHdP
import Derived.Test.YtalddlopgnfpaaaGreatDoorXIHd4
import Derived.Test.YtalddlopgnfpaaaGreatDoorXWor
import Derived.Test.YtalddlopgnfpaaaGreatDoorProg
set_option linter.unusedVariables false
set_option maxRecDepth 100000
open Go Go.Proofs
open Go.V
noncomputable section
def Bn:Go.TypeId->Option U:=aF [(2,U.i64),(3,U.i64),(4,U.bool),(5,U.u8),(6,U.u8),(9,U.str),(10,U.str),(11,U.str),(12,U.u64),(21,U.i32),(22,U.g9),(24,U.dO),(25,U.sY),(26,U.qM),(28,U.Type),(29,U.qN),(31,U.Value),(35,U.g9),(37,U.dO),(41,U.qM),(43,U.Type),(45,U.qN),(47,U.Value),(56,U.lU),(82,U.qO),(122,U.Block),(124,U.Block),(128,U.sZ),(131,U.store),(149,U.u64),(184,U.u64),(185,U.u32),(190,U.s6),(206,U.i64),(216,U.u64),(232,U.u8),(233,U.u8),(236,U.i32),(237,U.i32)]
def MZ:Go.TypeId->List (Option U):=aG [] [(22,[some U.Block]),(24,[none,some U.Block]),(25,[some U.str]),(26,[some U.Type]),(28,[none,none,some U.str,some U.Type]),(29,[some U.Value]),(31,[none,none,none,some U.Value]),(35,[some U.Block]),(37,[none,some U.Block]),(41,[some U.Type]),(43,[none,none,some U.str,some U.Type]),(45,[some U.Value]),(47,[none,none,none,some U.Value]),(56,[some U.i64]),(82,[none,some U.Block,none,none]),(128,[some U.u8]),(131,[some U.u8,some U.Block]),(190,[some U.g9])]
theorem ay:Tryz.prog.follows .mixedOrders=true:=by kernel_rfl
def aL:Cx K:={P:=Tryz.prog,D:=D,ty:=Bn,lV:=MZ,mode:=aG .plain [],call:=callOf D [],loop:=aF []}
def mA(m:M.ae->M.ae->Option (Bool)):aC K:={f:=17,sh:=⟨[.el U.Value,.el U.Value],[]⟩,R:=Bool,run:=fun x=>m x.1.1 x.1.2.1,dflt:=default,out:=fun r=>(Sh.enc D (.bool) r,aw.encs D [] ())}
def M1(y:(Bool)⊕(Unit)){R:Type}(k:Ex->List (AV K)->List (Ob K)->R):R:=match y with
 |.inl a0=>k Ex.ret (az.bc D ⟨[.bool],[]⟩ ((a0,()),())) (az.bf D ⟨[.bool],[]⟩ ((a0,()),()))
 |.inr (a1)=>k (Ex.exit 0) (az.bc D ⟨[.any],[]⟩ (((),()),())) (az.bf D ⟨[.any],[]⟩ (((),()),()))
def aad:List (bR K ((Bool)⊕(Unit))):=[⟨Ex.ret,⟨[.bool],[]⟩,fun x=>.inl x.1.1⟩,⟨(Ex.exit 0),⟨[.any],[]⟩,fun x=>.inr (())⟩]
def M3(db:M.ae->M.ae->Option (Bool)):bJ K:=bT D false 27 0 [0,1,5] [4] ⟨[.an U.Value,.an U.Value,.int .i64],[]⟩ (fun x=>M.s7 db x.1.1 x.1.2.1 ah x.1.2.2.1) M1
def F9(m:(List M.ae)->(List M.ae)->Option (Bool)):aC K:={f:=36,sh:=⟨[.an U.Value,.an U.Value],[]⟩,R:=Bool,run:=fun x=>m x.1.1 x.1.2.1,dflt:=default,out:=fun r=>(Sh.enc D (.bool) r,aw.encs D [] ())}
def Bo(db:M.ae->M.ae->Option (Bool)):Cx K:={aL with mode:=aG .plain [(17,.plain)],call:=callOf D [mA db],loop:=aF [(4,M3 db)]}
theorem M4(db:M.ae->M.ae->Option (Bool))(nw:(mA db).Ok D Tryz.prog):aD (Bo db):=aN ai _ (aj nw (ax))
theorem aae(db:M.ae->M.ae->Option (Bool))(nw:(mA db).Ok D Tryz.prog):bM (Bo db) (bN (bS Tryz.f36) 0) (M3 db):=
 bV (cx:=Bo db) (n:=27) (n0:=0) (ins:=[0,1,5]) (outs:=[4]) (sh:=⟨[.an U.Value,.an U.Value,.int .i64],[]⟩) (run:=fun n x=>M.s7 db x.1.1 x.1.2.1 n x.1.2.2.1) (bP:=aad) (out:=M1) ai (M4 db nw) ay (aI (by kernel_rfl)) (fun _=>rfl) (fun m x=>by kernel_rfl) (aj ⟨dP,fun _ _ _=>rfl⟩ (aj ⟨bW,fun _ _ _=>rfl⟩ (ax))) false ah
theorem aaf(db:M.ae->M.ae->Option (Bool))(nw:(mA db).Ok D Tryz.prog):(F9 (M.vA db)).Ok D Tryz.prog:=
 aJ (cx:=Bo db) (c:=F9 (M.vA db)) (fz:=true) (fn:=Tryz.f36) ai (M4 db nw) ay ⟨Tryz.func36,by kernel_rfl⟩ (aK (bX 1 (by kernel_rfl) (bZ (.mk (by kernel_rfl) (aae db nw))))) ⟨⟨[.bool],[]⟩,fun x=>x.1.1⟩ (fun x=>rfl) (fun x=>by kernel_rfl)
def M5(db:M.ae->M.ae->Option (Bool)):Cx K:={aL with mode:=aG .plain [(36,.plain)],call:=callOf D [F9 (M.vA db)],loop:=aF []}
theorem aag(db:M.ae->M.ae->Option (Bool))(nw:(mA db).Ok D Tryz.prog):aD (M5 db):=aN ai _ (aj (aaf db nw) (ax))
theorem aah(db:M.ae->M.ae->Option (Bool))(nw:(mA db).Ok D Tryz.prog):(mA (M.yT db)).Ok D Tryz.prog:=
 aJ (cx:=M5 db) (c:=mA (M.yT db)) (fz:=true) (fn:=Tryz.f17) ai (aag db nw) ay ⟨Tryz.func17,by kernel_rfl⟩ (aK (aI (by kernel_rfl))) ⟨⟨[.bool],[]⟩,fun x=>x.1.1⟩ (fun x=>rfl) (fun x=>by kernel_rfl)
theorem M6:∀n,(mA (M.s8 n)).Ok D Tryz.prog
 |0=>dZ fun _=>rfl
 |n+1=>aah (M.s8 n) (M6 n)
theorem aai:(mA (M.Bq)).Ok D Tryz.prog:=M6 ah
def M7(y:(Bool)⊕(Unit)){R:Type}(k:Ex->List (AV K)->List (Ob K)->R):R:=match y with
 |.inl a0=>k Ex.ret (az.bc D ⟨[.bool],[]⟩ ((a0,()),())) (az.bf D ⟨[.bool],[]⟩ ((a0,()),()))
 |.inr (a1)=>k (Ex.exit 0) (az.bc D ⟨[.any],[]⟩ (((),()),())) (az.bf D ⟨[.any],[]⟩ (((),()),()))
def aaj:List (bR K ((Bool)⊕(Unit))):=[⟨Ex.ret,⟨[.bool],[]⟩,fun x=>.inl x.1.1⟩,⟨(Ex.exit 0),⟨[.any],[]⟩,fun x=>.inr (())⟩]
def M8:bJ K:=bT D false 26 0 [0,1,5] [4] ⟨[.an U.i64,.an U.i64,.int .i64],[]⟩ (fun x=>M.s9 x.1.1 x.1.2.1 ah x.1.2.2.1) M7
def Ge(m:(List Int)->(List Int)->Option (Bool)):aC K:={f:=24,sh:=⟨[.an U.i64,.an U.i64],[]⟩,R:=Bool,run:=fun x=>m x.1.1 x.1.2.1,dflt:=default,out:=fun r=>(Sh.enc D (.bool) r,aw.encs D [] ())}
def Br:Cx K:={aL with mode:=aG .plain [],call:=callOf D [],loop:=aF [(4,M8)]}
theorem M9:aD (Br):=aN ai _ (ax)
theorem aak:bM (Br) (bN (bS Tryz.f24) 0) (M8):=
 bV (cx:=Br) (n:=26) (n0:=0) (ins:=[0,1,5]) (outs:=[4]) (sh:=⟨[.an U.i64,.an U.i64,.int .i64],[]⟩) (run:=fun n x=>M.s9 x.1.1 x.1.2.1 n x.1.2.2.1) (bP:=aaj) (out:=M7) ai (M9) ay (aI (by kernel_rfl)) (fun _=>rfl) (fun m x=>by kernel_rfl) (aj ⟨dP,fun _ _ _=>rfl⟩ (aj ⟨bW,fun _ _ _=>rfl⟩ (ax))) false ah
theorem aal:(Ge (M.vB)).Ok D Tryz.prog:=
 aJ (cx:=Br) (c:=Ge (M.vB)) (fz:=true) (fn:=Tryz.f24) ai (M9) ay ⟨Tryz.func24,by kernel_rfl⟩ (aK (bX 1 (by kernel_rfl) (bZ (.mk (by kernel_rfl) (aak))))) ⟨⟨[.bool],[]⟩,fun x=>x.1.1⟩ (fun x=>rfl) (fun x=>by kernel_rfl)
def Na(y:Int×(List Int)){R:Type}(k:Ex->List (AV K)->List (Ob K)->R):R:=match y with
 |a0=>k (Ex.exit 0) (az.bc D ⟨[.int .i64],[.arr U.i64]⟩ ((a0.1,()),(a0.2,()))) (az.bf D ⟨[.int .i64],[.arr U.i64]⟩ ((a0.1,()),(a0.2,())))
def aam:List (bR K (Int×(List Int))):=[⟨(Ex.exit 0),⟨[.int .i64],[.arr U.i64]⟩,fun x=>(x.1.1,x.2.1)⟩]
def Nb:bJ K:=bT D true 19 1 [0,1,5] [1] ⟨[.own 0,.int .i64,.int .i64],[.arr U.i64]⟩ (fun x=>M.ta ah x.1.2.1 x.1.2.2.1 x.2.1) Na
def Gf(m:Int->(List Int)->Option (Int×(List Int))):aC K:={f:=25,sh:=⟨[.own 0,.int .i64],[.arr U.i64]⟩,R:=Int×(List Int),run:=fun x=>m x.1.2.1 x.2.1,dflt:=default,out:=fun r=>(Sh.enc D (.int .i64) r.1,aw.encs D [.arr U.i64] (r.2,()))}
def Bt:Cx K:={aL with mode:=aG .plain [],deep:=fun c=>dw (D.cells c (K.zero c)),opn:=true,call:=callOf D [],loop:=aF [(2,Nb)]}
theorem Nc:aD (Bt):=aN ai _ (ax)
theorem aan:bM (Bt) (bN (bS Tryz.f25) 0) (Nb):=
 bV (cx:=Bt) (n:=19) (n0:=1) (ins:=[0,1,5]) (outs:=[1]) (sh:=⟨[.own 0,.int .i64,.int .i64],[.arr U.i64]⟩) (run:=fun n x=>M.ta n x.1.2.1 x.1.2.2.1 x.2.1) (bP:=aam) (out:=Na) ai (Nc) ay (aI (by kernel_rfl)) (fun _=>rfl) (fun m x=>by kernel_rfl) (aj ⟨bW,fun _ _ _=>rfl⟩ (ax)) true ah
theorem aao:(Gf (M.tc)).Ok D Tryz.prog:=
 aJ (cx:=Bt) (c:=Gf (M.tc)) (fz:=true) (fn:=Tryz.f25) ai (Nc) ay ⟨Tryz.func25,by kernel_rfl⟩ (aK (bX 1 (by kernel_rfl) (bZ (.mk (by kernel_rfl) (aan))))) ⟨⟨[.int .i64],[.arr U.i64]⟩,fun x=>(x.1.1,x.2.1)⟩ (fun x=>rfl) (fun x=>by kernel_rfl)
def Nh(y:(Int)⊕(Int)){R:Type}(k:Ex->List (AV K)->List (Ob K)->R):R:=match y with
 |.inl a0=>k Ex.ret (az.bc D ⟨[.any,.int .i64],[]⟩ (((),(a0,())),())) (az.bf D ⟨[.any,.int .i64],[]⟩ (((),(a0,())),()))
 |.inr (a1)=>k (Ex.exit 0) (az.bc D ⟨[.int .i64,.any],[]⟩ ((a1,((),())),())) (az.bf D ⟨[.int .i64,.any],[]⟩ ((a1,((),())),()))
def aap:List (bR K ((Int)⊕(Int))):=[⟨Ex.ret,⟨[.any,.int .i64],[]⟩,fun x=>.inl x.1.2.1⟩,⟨(Ex.exit 0),⟨[.int .i64,.any],[]⟩,fun x=>.inr (x.1.1)⟩]
def Ni:bJ K:=bT D false 21 0 [0,1,5] [1,4] ⟨[.an U.i64,.int .i64,.int .i64],[]⟩ (fun x=>M.td x.1.1 ah x.1.2.1 x.1.2.2.1) Nh
def Gg(m:(List Int)->Int->Option (Int)):aC K:={f:=26,sh:=⟨[.an U.i64,.int .i64],[]⟩,R:=Int,run:=fun x=>m x.1.1 x.1.2.1,dflt:=default,out:=fun r=>(Sh.enc D (.int .i64) r,aw.encs D [] ())}
def Bv:Cx K:={aL with mode:=aG .plain [],call:=callOf D [],loop:=aF [(2,Ni)]}
theorem Nj:aD (Bv):=aN ai _ (ax)
theorem aaq:bM (Bv) (bN (bS Tryz.f26) 0) (Ni):=
 bV (cx:=Bv) (n:=21) (n0:=0) (ins:=[0,1,5]) (outs:=[1,4]) (sh:=⟨[.an U.i64,.int .i64,.int .i64],[]⟩) (run:=fun n x=>M.td x.1.1 n x.1.2.1 x.1.2.2.1) (bP:=aap) (out:=Nh) ai (Nj) ay (aI (by kernel_rfl)) (fun _=>rfl) (fun m x=>by kernel_rfl) (aj ⟨dP,fun _ _ _=>rfl⟩ (aj ⟨bW,fun _ _ _=>rfl⟩ (ax))) false ah
theorem aar:(Gg (M.vC)).Ok D Tryz.prog:=
 aJ (cx:=Bv) (c:=Gg (M.vC)) (fz:=true) (fn:=Tryz.f26) ai (Nj) ay ⟨Tryz.func26,by kernel_rfl⟩ (aK (bX 1 (by kernel_rfl) (bZ (.mk (by kernel_rfl) (aaq))))) ⟨⟨[.int .i64],[]⟩,fun x=>x.1.1⟩ (fun x=>rfl) (fun x=>by kernel_rfl)
def Nk(y:(Int)⊕(Int)){R:Type}(k:Ex->List (AV K)->List (Ob K)->R):R:=match y with
 |.inl a0=>k Ex.ret (az.bc D ⟨[.any,.int .i64],[]⟩ (((),(a0,())),())) (az.bf D ⟨[.any,.int .i64],[]⟩ (((),(a0,())),()))
 |.inr (a1)=>k (Ex.exit 0) (az.bc D ⟨[.int .i64,.any],[]⟩ ((a1,((),())),())) (az.bf D ⟨[.int .i64,.any],[]⟩ ((a1,((),())),()))
def aas:List (bR K ((Int)⊕(Int))):=[⟨Ex.ret,⟨[.any,.int .i64],[]⟩,fun x=>.inl x.1.2.1⟩,⟨(Ex.exit 0),⟨[.int .i64,.any],[]⟩,fun x=>.inr (x.1.1)⟩]
def Nl:bJ K:=bT D false 28 0 [0,1,5] [1,4] ⟨[.an U.str,.int .i64,.int .i64],[]⟩ (fun x=>M.te x.1.1 ah x.1.2.1 x.1.2.2.1) Nk
def Gh(m:(List (List UInt8))->Int->Option (Int)):aC K:={f:=40,sh:=⟨[.an U.str,.int .i64],[]⟩,R:=Int,run:=fun x=>m x.1.1 x.1.2.1,dflt:=default,out:=fun r=>(Sh.enc D (.int .i64) r,aw.encs D [] ())}
def By:Cx K:={aL with mode:=aG .plain [],call:=callOf D [],loop:=aF [(5,Nl)]}
theorem Nn:aD (By):=aN ai _ (ax)
theorem aat:bM (By) (bN (bS Tryz.f40) 0) (Nl):=
 bV (cx:=By) (n:=28) (n0:=0) (ins:=[0,1,5]) (outs:=[1,4]) (sh:=⟨[.an U.str,.int .i64,.int .i64],[]⟩) (run:=fun n x=>M.te x.1.1 n x.1.2.1 x.1.2.2.1) (bP:=aas) (out:=Nk) ai (Nn) ay (aI (by kernel_rfl)) (fun _=>rfl) (fun m x=>by kernel_rfl) (aj ⟨dP,fun _ _ _=>rfl⟩ (aj ⟨bW,fun _ _ _=>rfl⟩ (ax))) false ah
theorem aau:(Gh (M.vD)).Ok D Tryz.prog:=
 aJ (cx:=By) (c:=Gh (M.vD)) (fz:=true) (fn:=Tryz.f40) ai (Nn) ay ⟨Tryz.func40,by kernel_rfl⟩ (aK (bX 1 (by kernel_rfl) (bZ (.mk (by kernel_rfl) (aat))))) ⟨⟨[.int .i64],[]⟩,fun x=>x.1.1⟩ (fun x=>rfl) (fun x=>by kernel_rfl)
def mB(m:M.aa->Int->Option (Int)):aC K:={f:=8,sh:=⟨[.el U.Type,.int .i64],[]⟩,R:=Int,run:=fun x=>m x.1.1 x.1.2.1,dflt:=default,out:=fun r=>(Sh.enc D (.int .i64) r,aw.encs D [] ())}
def Np(y:(Int)⊕(Int)){R:Type}(k:Ex->List (AV K)->List (Ob K)->R):R:=match y with
 |.inl a0=>k Ex.ret (az.bc D ⟨[.any,.int .i64],[]⟩ (((),(a0,())),())) (az.bf D ⟨[.any,.int .i64],[]⟩ (((),(a0,())),()))
 |.inr (a1)=>k (Ex.exit 0) (az.bc D ⟨[.int .i64,.any],[]⟩ ((a1,((),())),())) (az.bf D ⟨[.int .i64,.any],[]⟩ ((a1,((),())),()))
def aav:List (bR K ((Int)⊕(Int))):=[⟨Ex.ret,⟨[.any,.int .i64],[]⟩,fun x=>.inl x.1.2.1⟩,⟨(Ex.exit 0),⟨[.int .i64,.any],[]⟩,fun x=>.inr (x.1.1)⟩]
def Nq(dc:M.aa->Int->Option (Int)):bJ K:=bT D false 27 0 [0,1,5] [1,4] ⟨[.an U.Type,.int .i64,.int .i64],[]⟩ (fun x=>M.tf dc x.1.1 ah x.1.2.1 x.1.2.2.1) Np
def Gi(m:(List M.aa)->Int->Option (Int)):aC K:={f:=29,sh:=⟨[.an U.Type,.int .i64],[]⟩,R:=Int,run:=fun x=>m x.1.1 x.1.2.1,dflt:=default,out:=fun r=>(Sh.enc D (.int .i64) r,aw.encs D [] ())}
def Bz(dc:M.aa->Int->Option (Int)):Cx K:={aL with mode:=aG .plain [(8,.plain)],call:=callOf D [mB dc],loop:=aF [(5,Nq dc)]}
theorem Nr(dc:M.aa->Int->Option (Int))(ny:(mB dc).Ok D Tryz.prog):aD (Bz dc):=aN ai _ (aj ny (ax))
theorem aaw(dc:M.aa->Int->Option (Int))(ny:(mB dc).Ok D Tryz.prog):bM (Bz dc) (bN (bS Tryz.f29) 0) (Nq dc):=
 bV (cx:=Bz dc) (n:=27) (n0:=0) (ins:=[0,1,5]) (outs:=[1,4]) (sh:=⟨[.an U.Type,.int .i64,.int .i64],[]⟩) (run:=fun n x=>M.tf dc x.1.1 n x.1.2.1 x.1.2.2.1) (bP:=aav) (out:=Np) ai (Nr dc ny) ay (aI (by kernel_rfl)) (fun _=>rfl) (fun m x=>by kernel_rfl) (aj ⟨dP,fun _ _ _=>rfl⟩ (aj ⟨bW,fun _ _ _=>rfl⟩ (ax))) false ah
theorem aax(dc:M.aa->Int->Option (Int))(ny:(mB dc).Ok D Tryz.prog):(Gi (M.vE dc)).Ok D Tryz.prog:=
 aJ (cx:=Bz dc) (c:=Gi (M.vE dc)) (fz:=true) (fn:=Tryz.f29) ai (Nr dc ny) ay ⟨Tryz.func29,by kernel_rfl⟩ (aK (bX 1 (by kernel_rfl) (bZ (.mk (by kernel_rfl) (aaw dc ny))))) ⟨⟨[.int .i64],[]⟩,fun x=>x.1.1⟩ (fun x=>rfl) (fun x=>by kernel_rfl)
def Ns(dc:M.aa->Int->Option (Int)):Cx K:={aL with mode:=aG .plain [(40,.plain),(29,.plain)],call:=callOf D [Gh M.vD,Gi (M.vE dc)],loop:=aF []}
theorem aay(dc:M.aa->Int->Option (Int))(ny:(mB dc).Ok D Tryz.prog):aD (Ns dc):=aN ai _ (aj aau (aj (aax dc ny) (ax)))
theorem aaz(dc:M.aa->Int->Option (Int))(ny:(mB dc).Ok D Tryz.prog):(mB (M.yU dc)).Ok D Tryz.prog:=
 aJ (cx:=Ns dc) (c:=mB (M.yU dc)) (fz:=true) (fn:=Tryz.f8) ai (aay dc ny) ay ⟨Tryz.func8,by kernel_rfl⟩ (aK (aI (by kernel_rfl))) ⟨⟨[.int .i64],[]⟩,fun x=>x.1.1⟩ (fun x=>rfl) (fun x=>by kernel_rfl)
theorem Nu:∀n,(mB (M.tg n)).Ok D Tryz.prog
 |0=>dZ fun _=>rfl
 |n+1=>aaz (M.tg n) (Nu n)
theorem aaA:(mB (M.BA)).Ok D Tryz.prog:=Nu ah
def Nv(y:(List (List UInt8))){R:Type}(k:Ex->List (AV K)->List (Ob K)->R):R:=match y with
 |a0=>k (Ex.exit 0) (az.bc D ⟨[.own 1],[.dead,.arr U.str]⟩ (((),()),((),(a0,())))) (az.bf D ⟨[.own 1],[.dead,.arr U.str]⟩ (((),()),((),(a0,()))))
def aaB:List (bR K ((List (List UInt8)))):=[⟨(Ex.exit 0),⟨[.own 1],[.dead,.arr U.str]⟩,fun x=>x.2.2.1⟩]
def Nw:bJ K:=bT D false 22 1 [0,3,4] [3] ⟨[.an U.str,.own 1,.int .i64],[.dead,.arr U.str]⟩ (fun x=>M.qP x.1.1 ah x.1.2.2.1 x.2.2.1) Nv
def Gj(m:(List (List UInt8))->Option ((List (List UInt8)))):aC K:={f:=48,sh:=⟨[.an U.str],[]⟩,R:=(List (List UInt8)),run:=fun x=>m x.1.1,dflt:=default,out:=fun r=>(Sh.enc D (.own 0) (),aw.encs D [.arr U.str] (r,()))}
def BB:Cx K:={aL with mode:=aG .plain [],fK:=[[some U.str]],deep:=fun c=>dw (D.cells c (K.zero c)),call:=callOf D [],loop:=aF [(3,Nw)]}
theorem Nx:aD (BB):=aN ai _ (ax)
theorem aaC:bM (BB) (bN (bS Tryz.f48) 0) (Nw):=
 bV (cx:=BB) (n:=22) (n0:=1) (ins:=[0,3,4]) (outs:=[3]) (sh:=⟨[.an U.str,.own 1,.int .i64],[.dead,.arr U.str]⟩) (run:=fun n x=>M.qP x.1.1 n x.1.2.2.1 x.2.2.1) (bP:=aaB) (out:=Nv) ai (Nx) ay (aI (by kernel_rfl)) (fun _=>rfl) (fun m x=>by kernel_rfl) (aj ⟨bW,fun _ _ _=>rfl⟩ (ax)) false ah
theorem aaD:(Gj (M.vF)).Ok D Tryz.prog:=
 aJ (cx:=BB) (c:=Gj (M.vF)) (fz:=false) (fn:=Tryz.f48) ai (Nx) ay ⟨Tryz.func48,by kernel_rfl⟩ (aK (bX 1 (by kernel_rfl) (bZ (.mk (by kernel_rfl) (aaC))))) ⟨⟨[.own 0],[.arr U.str]⟩,fun x=>x.2.1⟩ (fun x=>rfl) (fun x=>by kernel_rfl)
def mC(m:M.aa->Option (Int×(List UInt8)×(List (List UInt8))×(List M.aa))):aC K:={f:=12,sh:=⟨[.el U.Type],[]⟩,R:=Int×(List UInt8)×(List (List UInt8))×(List M.aa),run:=fun x=>m x.1.1,dflt:=default,out:=fun r=>(Sh.enc D (.agg [.int .i64,.str,.own 0,.own 1]) (r.1,(r.2.1,((),((),())))),aw.encs D [.arr U.str,.tree U.Type] (r.2.2.1,(r.2.2.2,())))}
def Ny(y:(List M.aa)){R:Type}(k:Ex->List (AV K)->List (Ob K)->R):R:=match y with
 |a0=>k (Ex.exit 0) (az.bc D ⟨[.own 1],[.dead,.tree U.Type]⟩ (((),()),((),(a0,())))) (az.bf D ⟨[.own 1],[.dead,.tree U.Type]⟩ (((),()),((),(a0,()))))
def aaE:List (bR K ((List M.aa))):=[⟨(Ex.exit 0),⟨[.own 1],[.dead,.tree U.Type]⟩,fun x=>x.2.2.1⟩]
def Nz(dj:M.aa->Option (Int×(List UInt8)×(List (List UInt8))×(List M.aa))):bJ K:=bT D false 23 1 [0,3,4] [3] ⟨[.an U.Type,.own 1,.int .i64],[.dead,.tree U.Type]⟩ (fun x=>M.qQ dj x.1.1 ah x.1.2.2.1 x.2.2.1) Ny
def Gk(m:(List M.aa)->Option ((List M.aa))):aC K:={f:=32,sh:=⟨[.an U.Type],[]⟩,R:=(List M.aa),run:=fun x=>m x.1.1,dflt:=default,out:=fun r=>(Sh.enc D (.own 0) (),aw.encs D [.tree U.Type] (r,()))}
def BC(dj:M.aa->Option (Int×(List UInt8)×(List (List UInt8))×(List M.aa))):Cx K:={aL with mode:=aG .plain [(12,.fresh)],fK:=[[some U.Type]],deep:=fun c=>dw (D.cells c (K.zero c)),call:=callOf D [mC dj],loop:=aF [(3,Nz dj)]}
theorem NA(dj:M.aa->Option (Int×(List UInt8)×(List (List UInt8))×(List M.aa)))(nz:(mC dj).Ok D Tryz.prog):aD (BC dj):=aN ai _ (aj nz (ax))
theorem aaF(dj:M.aa->Option (Int×(List UInt8)×(List (List UInt8))×(List M.aa)))(nz:(mC dj).Ok D Tryz.prog):bM (BC dj) (bN (bS Tryz.f32) 0) (Nz dj):=
 bV (cx:=BC dj) (n:=23) (n0:=1) (ins:=[0,3,4]) (outs:=[3]) (sh:=⟨[.an U.Type,.own 1,.int .i64],[.dead,.tree U.Type]⟩) (run:=fun n x=>M.qQ dj x.1.1 n x.1.2.2.1 x.2.2.1) (bP:=aaE) (out:=Ny) ai (NA dj nz) ay (aI (by kernel_rfl)) (fun _=>rfl) (fun m x=>by kernel_rfl) (aj ⟨bW,fun _ _ _=>rfl⟩ (ax)) false ah
theorem aaG(dj:M.aa->Option (Int×(List UInt8)×(List (List UInt8))×(List M.aa)))(nz:(mC dj).Ok D Tryz.prog):(Gk (M.vG dj)).Ok D Tryz.prog:=
 aJ (cx:=BC dj) (c:=Gk (M.vG dj)) (fz:=false) (fn:=Tryz.f32) ai (NA dj nz) ay ⟨Tryz.func32,by kernel_rfl⟩ (aK (bX 1 (by kernel_rfl) (bZ (.mk (by kernel_rfl) (aaF dj nz))))) ⟨⟨[.own 0],[.tree U.Type]⟩,fun x=>x.2.1⟩ (fun x=>rfl) (fun x=>by kernel_rfl)
def NB(dj:M.aa->Option (Int×(List UInt8)×(List (List UInt8))×(List M.aa))):Cx K:={aL with mode:=aG .plain [(48,.fresh),(32,.fresh)],fK:=[[none,none,some U.str,some U.Type]],deep:=fun c=>dw (D.cells c (K.zero c)),call:=callOf D [Gj M.vF,Gk (M.vG dj)],loop:=aF []}
theorem aaH(dj:M.aa->Option (Int×(List UInt8)×(List (List UInt8))×(List M.aa)))(nz:(mC dj).Ok D Tryz.prog):aD (NB dj):=aN ai _ (aj aaD (aj (aaG dj nz) (ax)))
theorem aaI(dj:M.aa->Option (Int×(List UInt8)×(List (List UInt8))×(List M.aa)))(nz:(mC dj).Ok D Tryz.prog):(mC (M.yV dj)).Ok D Tryz.prog:=
 aJ (cx:=NB dj) (c:=mC (M.yV dj)) (fz:=false) (fn:=Tryz.f12) ai (aaH dj nz) ay ⟨Tryz.func12,by kernel_rfl⟩ (aK (aI (by kernel_rfl))) ⟨⟨[.agg [.int .i64,.str,.own 0,.own 1]],[.arr U.str,.tree U.Type]⟩,fun x=>(x.1.1.1,x.1.1.2.1,x.2.1,x.2.2.1)⟩ (fun x=>rfl) (fun x=>by kernel_rfl)
theorem NC:∀n,(mC (M.ti n)).Ok D Tryz.prog
 |0=>dZ fun _=>rfl
 |n+1=>aaI (M.ti n) (NC n)
theorem aaJ:(mC (M.BD)).Ok D Tryz.prog:=NC ah
def ND(y:(Bool)⊕(Unit)){R:Type}(k:Ex->List (AV K)->List (Ob K)->R):R:=match y with
 |.inl a0=>k Ex.ret (az.bc D ⟨[.bool],[]⟩ ((a0,()),())) (az.bf D ⟨[.bool],[]⟩ ((a0,()),()))
 |.inr (a1)=>k (Ex.exit 0) (az.bc D ⟨[.any],[]⟩ (((),()),())) (az.bf D ⟨[.any],[]⟩ (((),()),()))
def aaK:List (bR K ((Bool)⊕(Unit))):=[⟨Ex.ret,⟨[.bool],[]⟩,fun x=>.inl x.1.1⟩,⟨(Ex.exit 0),⟨[.any],[]⟩,fun x=>.inr (())⟩]
def NF:bJ K:=bT D false 26 0 [0,1,5] [4] ⟨[.an U.str,.an U.str,.int .i64],[]⟩ (fun x=>M.tj x.1.1 x.1.2.1 ah x.1.2.2.1) ND
def Gl(m:(List (List UInt8))->(List (List UInt8))->Option (Bool)):aC K:={f:=56,sh:=⟨[.an U.str,.an U.str],[]⟩,R:=Bool,run:=fun x=>m x.1.1 x.1.2.1,dflt:=default,out:=fun r=>(Sh.enc D (.bool) r,aw.encs D [] ())}
def BE:Cx K:={aL with mode:=aG .plain [],call:=callOf D [],loop:=aF [(4,NF)]}
theorem NG:aD (BE):=aN ai _ (ax)
theorem aaL:bM (BE) (bN (bS Tryz.f56) 0) (NF):=
 bV (cx:=BE) (n:=26) (n0:=0) (ins:=[0,1,5]) (outs:=[4]) (sh:=⟨[.an U.str,.an U.str,.int .i64],[]⟩) (run:=fun n x=>M.tj x.1.1 x.1.2.1 n x.1.2.2.1) (bP:=aaK) (out:=ND) ai (NG) ay (aI (by kernel_rfl)) (fun _=>rfl) (fun m x=>by kernel_rfl) (aj ⟨dP,fun _ _ _=>rfl⟩ (aj ⟨bW,fun _ _ _=>rfl⟩ (ax))) false ah
theorem aaM:(Gl (M.vH)).Ok D Tryz.prog:=
 aJ (cx:=BE) (c:=Gl (M.vH)) (fz:=true) (fn:=Tryz.f56) ai (NG) ay ⟨Tryz.func56,by kernel_rfl⟩ (aK (bX 1 (by kernel_rfl) (bZ (.mk (by kernel_rfl) (aaL))))) ⟨⟨[.bool],[]⟩,fun x=>x.1.1⟩ (fun x=>rfl) (fun x=>by kernel_rfl)
def mD(m:M.aa->M.aa->Option (Bool)):aC K:={f:=16,sh:=⟨[.el U.Type,.el U.Type],[]⟩,R:=Bool,run:=fun x=>m x.1.1 x.1.2.1,dflt:=default,out:=fun r=>(Sh.enc D (.bool) r,aw.encs D [] ())}
def NH(y:(Bool)⊕(Unit)){R:Type}(k:Ex->List (AV K)->List (Ob K)->R):R:=match y with
 |.inl a0=>k Ex.ret (az.bc D ⟨[.bool],[]⟩ ((a0,()),())) (az.bf D ⟨[.bool],[]⟩ ((a0,()),()))
 |.inr (a1)=>k (Ex.exit 0) (az.bc D ⟨[.any],[]⟩ (((),()),())) (az.bf D ⟨[.any],[]⟩ (((),()),()))
def aaN:List (bR K ((Bool)⊕(Unit))):=[⟨Ex.ret,⟨[.bool],[]⟩,fun x=>.inl x.1.1⟩,⟨(Ex.exit 0),⟨[.any],[]⟩,fun x=>.inr (())⟩]
def NI(de:M.aa->M.aa->Option (Bool)):bJ K:=bT D false 27 0 [0,1,5] [4] ⟨[.an U.Type,.an U.Type,.int .i64],[]⟩ (fun x=>M.tn de x.1.1 x.1.2.1 ah x.1.2.2.1) NH
def Gm(m:(List M.aa)->(List M.aa)->Option (Bool)):aC K:={f:=35,sh:=⟨[.an U.Type,.an U.Type],[]⟩,R:=Bool,run:=fun x=>m x.1.1 x.1.2.1,dflt:=default,out:=fun r=>(Sh.enc D (.bool) r,aw.encs D [] ())}
def BF(de:M.aa->M.aa->Option (Bool)):Cx K:={aL with mode:=aG .plain [(16,.plain)],call:=callOf D [mD de],loop:=aF [(4,NI de)]}
theorem NJ(de:M.aa->M.aa->Option (Bool))(nA:(mD de).Ok D Tryz.prog):aD (BF de):=aN ai _ (aj nA (ax))
theorem aaO(de:M.aa->M.aa->Option (Bool))(nA:(mD de).Ok D Tryz.prog):bM (BF de) (bN (bS Tryz.f35) 0) (NI de):=
 bV (cx:=BF de) (n:=27) (n0:=0) (ins:=[0,1,5]) (outs:=[4]) (sh:=⟨[.an U.Type,.an U.Type,.int .i64],[]⟩) (run:=fun n x=>M.tn de x.1.1 x.1.2.1 n x.1.2.2.1) (bP:=aaN) (out:=NH) ai (NJ de nA) ay (aI (by kernel_rfl)) (fun _=>rfl) (fun m x=>by kernel_rfl) (aj ⟨dP,fun _ _ _=>rfl⟩ (aj ⟨bW,fun _ _ _=>rfl⟩ (ax))) false ah
theorem aaP(de:M.aa->M.aa->Option (Bool))(nA:(mD de).Ok D Tryz.prog):(Gm (M.vI de)).Ok D Tryz.prog:=
 aJ (cx:=BF de) (c:=Gm (M.vI de)) (fz:=true) (fn:=Tryz.f35) ai (NJ de nA) ay ⟨Tryz.func35,by kernel_rfl⟩ (aK (bX 1 (by kernel_rfl) (bZ (.mk (by kernel_rfl) (aaO de nA))))) ⟨⟨[.bool],[]⟩,fun x=>x.1.1⟩ (fun x=>rfl) (fun x=>by kernel_rfl)
def NK(de:M.aa->M.aa->Option (Bool)):Cx K:={aL with mode:=aG .plain [(56,.plain),(35,.plain)],call:=callOf D [Gl M.vH,Gm (M.vI de)],loop:=aF []}
theorem aaQ(de:M.aa->M.aa->Option (Bool))(nA:(mD de).Ok D Tryz.prog):aD (NK de):=aN ai _ (aj aaM (aj (aaP de nA) (ax)))
theorem aaR(de:M.aa->M.aa->Option (Bool))(nA:(mD de).Ok D Tryz.prog):(mD (M.yW de)).Ok D Tryz.prog:=
 aJ (cx:=NK de) (c:=mD (M.yW de)) (fz:=true) (fn:=Tryz.f16) ai (aaQ de nA) ay ⟨Tryz.func16,by kernel_rfl⟩ (aK (aI (by kernel_rfl))) ⟨⟨[.bool],[]⟩,fun x=>x.1.1⟩ (fun x=>rfl) (fun x=>by kernel_rfl)
theorem NL:∀n,(mD (M.tp n)).Ok D Tryz.prog
 |0=>dZ fun _=>rfl
 |n+1=>aaR (M.tp n) (NL n)
theorem aaS:(mD (M.BG)).Ok D Tryz.prog:=NL ah
def pj(m:M.aa->Int->Option (Int×Int)):aC K:={f:=156,sh:=⟨[.el U.Type,.int .i64],[]⟩,R:=Int×Int,run:=fun x=>m x.1.1 x.1.2.1,dflt:=default,out:=fun r=>(Sh.enc D (.aX [.int .i64,.int .i64]) (r.1,(r.2,())),aw.encs D [] ())}
def vJ(m:Int->Int->Option (Int)):aC K:={f:=115,sh:=⟨[.int .i64,.int .i64],[]⟩,R:=Int,run:=fun x=>m x.1.1 x.1.2.1,dflt:=default,out:=fun r=>(Sh.enc D (.int .i64) r,aw.encs D [] ())}
def NM:Cx K:={aL with mode:=aG .plain [],call:=callOf D [],loop:=aF []}
theorem aaT:aD (NM):=aN ai _ (ax)
theorem BH:(vJ (M.il)).Ok D Tryz.prog:=
 aJ (cx:=NM) (c:=vJ (M.il)) (fz:=true) (fn:=Tryz.f115) ai (aaT) ay ⟨Tryz.func115,by kernel_rfl⟩ (aK (aI (by kernel_rfl))) ⟨⟨[.int .i64],[]⟩,fun x=>x.1.1⟩ (fun x=>rfl) (fun x=>by kernel_rfl)
def NN(y:(Int×Int)⊕(Int×Int)){R:Type}(k:Ex->List (AV K)->List (Ob K)->R):R:=match y with
 |.inl a0=>k Ex.ret (az.bc D ⟨[.any,.any,.int .i64,.int .i64],[.dead]⟩ (((),((),(a0.1,(a0.2,())))),((),()))) (az.bf D ⟨[.any,.any,.int .i64,.int .i64],[.dead]⟩ (((),((),(a0.1,(a0.2,())))),((),())))
 |.inr (a1)=>k (Ex.exit 0) (az.bc D ⟨[.int .i64,.int .i64,.any,.any],[.dead]⟩ ((a1.1,(a1.2,((),((),())))),((),()))) (az.bf D ⟨[.int .i64,.int .i64,.any,.any],[.dead]⟩ ((a1.1,(a1.2,((),((),())))),((),())))
def aaU:List (bR K ((Int×Int)⊕(Int×Int))):=[⟨Ex.ret,⟨[.any,.any,.int .i64,.int .i64],[.dead]⟩,fun x=>.inl (x.1.2.2.1,x.1.2.2.2.1)⟩,⟨(Ex.exit 0),⟨[.int .i64,.int .i64,.any,.any],[.dead]⟩,fun x=>.inr ((x.1.1,x.1.2.1))⟩]
def NP(eI:M.aa->Int->Option (Int×Int)):bJ K:=bT D false 48 1 [1,2,6,7,8] [6,7,4,5] ⟨[.int .i64,.ptr 0 0,.int .i64,.int .i64,.int .i64],[.el U.Type]⟩ (fun x=>M.qR eI x.1.1 ah x.1.2.2.1 x.1.2.2.2.1 x.1.2.2.2.2.1 x.2.1) NN
def BI(eI:M.aa->Int->Option (Int×Int)):Cx K:={aL with mode:=aG .plain [(156,.plain),(115,.plain)],call:=callOf D [pj eI,vJ M.il],loop:=aF [(6,NP eI)]}
theorem NQ(eI:M.aa->Int->Option (Int×Int))(vK:(pj eI).Ok D Tryz.prog):aD (BI eI):=aN ai _ (aj vK (aj BH (ax)))
theorem aaV(eI:M.aa->Int->Option (Int×Int))(vK:(pj eI).Ok D Tryz.prog):bM (BI eI) (bN (bS Tryz.f156) 0) (NP eI):=
 bV (cx:=BI eI) (n:=48) (n0:=1) (ins:=[1,2,6,7,8]) (outs:=[6,7,4,5]) (sh:=⟨[.int .i64,.ptr 0 0,.int .i64,.int .i64,.int .i64],[.el U.Type]⟩) (run:=fun n x=>M.qR eI x.1.1 n x.1.2.2.1 x.1.2.2.2.1 x.1.2.2.2.2.1 x.2.1) (bP:=aaU) (out:=NN) ai (NQ eI vK) ay (aI (by kernel_rfl)) (fun _=>rfl) (fun m x=>by kernel_rfl) (aj ⟨dP,fun _ _ _=>rfl⟩ (aj ⟨bW,fun _ _ _=>rfl⟩ (ax))) false ah
theorem aaW(eI:M.aa->Int->Option (Int×Int))(vK:(pj eI).Ok D Tryz.prog):(pj (M.yX eI)).Ok D Tryz.prog:=
 aJ (cx:=BI eI) (c:=pj (M.yX eI)) (fz:=true) (fn:=Tryz.f156) ai (NQ eI vK) ay ⟨Tryz.func156,by kernel_rfl⟩ (aK (bX 1 (by kernel_rfl) (bZ (.mk (by kernel_rfl) (aaV eI vK))))) ⟨⟨[.aX [.int .i64,.int .i64]],[]⟩,fun x=>(x.1.1.1,x.1.1.2.1)⟩ (fun x=>rfl) (fun x=>by kernel_rfl)
theorem NR:∀n,(pj (M.qS n)).Ok D Tryz.prog
 |0=>dZ fun _=>rfl
 |n+1=>aaW (M.qS n) (NR n)
theorem aaX:(pj (M.BJ)).Ok D Tryz.prog:=NR ah
def qT(m:Int->Int->Int->Option (Bool)):aC K:={f:=120,sh:=⟨[.int .i64,.int .i64,.int .i64],[]⟩,R:=Bool,run:=fun x=>m x.1.1 x.1.2.1 x.1.2.2.1,dflt:=default,out:=fun r=>(Sh.enc D (.bool) r,aw.encs D [] ())}
def NS:Cx K:={aL with mode:=aG .plain [],call:=callOf D [],loop:=aF []}
theorem aaY:aD (NS):=aN ai _ (ax)
theorem vL:(qT (M.qU)).Ok D Tryz.prog:=
 aJ (cx:=NS) (c:=qT (M.qU)) (fz:=true) (fn:=Tryz.f120) ai (aaY) ay ⟨Tryz.func120,by kernel_rfl⟩ (aK (aI (by kernel_rfl))) ⟨⟨[.bool],[]⟩,fun x=>x.1.1⟩ (fun x=>rfl) (fun x=>by kernel_rfl)
def NT(y:(Bool)⊕(Unit)){R:Type}(k:Ex->List (AV K)->List (Ob K)->R):R:=match y with
 |.inl a0=>k Ex.ret (az.bc D ⟨[.bool],[]⟩ ((a0,()),())) (az.bf D ⟨[.bool],[]⟩ ((a0,()),()))
 |.inr (a1)=>k (Ex.exit 0) (az.bc D ⟨[.any],[]⟩ (((),()),())) (az.bf D ⟨[.any],[]⟩ (((),()),()))
def aaZ:List (bR K ((Bool)⊕(Unit))):=[⟨Ex.ret,⟨[.bool],[]⟩,fun x=>.inl x.1.1⟩,⟨(Ex.exit 0),⟨[.any],[]⟩,fun x=>.inr (())⟩]
def NU:bJ K:=bT D false 69 0 [0,3] [2] ⟨[.str,.int .i64],[]⟩ (fun x=>M.tq x.1.1 ah x.1.2.1) NT
def BK(m:(List UInt8)->Option (Bool)):aC K:={f:=181,sh:=⟨[.str],[]⟩,R:=Bool,run:=fun x=>m x.1.1,dflt:=default,out:=fun r=>(Sh.enc D (.bool) r,aw.encs D [] ())}
def BL:Cx K:={aL with mode:=aG .plain [],call:=callOf D [],loop:=aF [(4,NU)]}
theorem NV:aD (BL):=aN ai _ (ax)
theorem aa0:bM (BL) (bN (bS Tryz.f181) 0) (NU):=
 bV (cx:=BL) (n:=69) (n0:=0) (ins:=[0,3]) (outs:=[2]) (sh:=⟨[.str,.int .i64],[]⟩) (run:=fun n x=>M.tq x.1.1 n x.1.2.1) (bP:=aaZ) (out:=NT) ai (NV) ay (aI (by kernel_rfl)) (fun _=>rfl) (fun m x=>by kernel_rfl) (aj ⟨dP,fun _ _ _=>rfl⟩ (aj ⟨bW,fun _ _ _=>rfl⟩ (ax))) false ah
theorem NW:(BK (M.qV)).Ok D Tryz.prog:=
 aJ (cx:=BL) (c:=BK (M.qV)) (fz:=true) (fn:=Tryz.f181) ai (NV) ay ⟨Tryz.func181,by kernel_rfl⟩ (aK (bX 1 (by kernel_rfl) (bZ (.mk (by kernel_rfl) (aa0))))) ⟨⟨[.bool],[]⟩,fun x=>x.1.1⟩ (fun x=>rfl) (fun x=>by kernel_rfl)
def NY(y:(Bool)⊕((List (List UInt8))×Int)){R:Type}(k:Ex->List (AV K)->List (Ob K)->R):R:=match y with
 |.inl a0=>k Ex.ret (az.bc D ⟨[.any,.any,.bool],[]⟩ (((),((),(a0,()))),())) (az.bf D ⟨[.any,.any,.bool],[]⟩ (((),((),(a0,()))),()))
 |.inr (a1)=>k (Ex.exit 2) (az.bc D ⟨[.an U.str,.int .i64,.any],[]⟩ ((a1.1,(a1.2,((),()))),())) (az.bf D ⟨[.an U.str,.int .i64,.any],[]⟩ ((a1.1,(a1.2,((),()))),()))
def aa1:List (bR K ((Bool)⊕((List (List UInt8))×Int))):=[⟨Ex.ret,⟨[.any,.any,.bool],[]⟩,fun x=>.inl x.1.2.2.1⟩,⟨(Ex.exit 2),⟨[.an U.str,.int .i64,.any],[]⟩,fun x=>.inr ((x.1.1,x.1.2.1))⟩]
def NZ:bJ K:=bT D false 39 0 [0,3,4] [0,3,2] ⟨[.an U.str,.int .i64,.int .i64],[]⟩ (fun x=>M.qW x.1.1 x.1.2.1 ah x.1.2.2.1) NY
def N2(y:(Bool)⊕(Unit)){R:Type}(k:Ex->List (AV K)->List (Ob K)->R):R:=match y with
 |.inl a0=>k Ex.ret (az.bc D ⟨[.bool],[]⟩ ((a0,()),())) (az.bf D ⟨[.bool],[]⟩ ((a0,()),()))
 |.inr (a1)=>k (Ex.exit 0) (az.bc D ⟨[.any],[]⟩ (((),()),())) (az.bf D ⟨[.any],[]⟩ (((),()),()))
def aa2:List (bR K ((Bool)⊕(Unit))):=[⟨Ex.ret,⟨[.bool],[]⟩,fun x=>.inl x.1.1⟩,⟨(Ex.exit 0),⟨[.any],[]⟩,fun x=>.inr (())⟩]
def N3:bJ K:=bT D false 39 0 [0,3] [2] ⟨[.an U.str,.int .i64],[]⟩ (fun x=>M.pn ah x.1.1 x.1.2.1) N2
def Gn(m:(List (List UInt8))->Option (Bool)):aC K:={f:=182,sh:=⟨[.an U.str],[]⟩,R:=Bool,run:=fun x=>m x.1.1,dflt:=default,out:=fun r=>(Sh.enc D (.bool) r,aw.encs D [] ())}
def vM:Cx K:={aL with mode:=aG .plain [(181,.plain)],call:=callOf D [BK M.qV],loop:=aF [(9,NZ),(4,N3)]}
theorem Gp:aD (vM):=aN ai _ (aj NW (ax))
theorem aa3:bM (vM) (bN (bN (bS Tryz.f182) 0) 0) (NZ):=
 bV (cx:=vM) (n:=39) (n0:=0) (ins:=[0,3,4]) (outs:=[0,3,2]) (sh:=⟨[.an U.str,.int .i64,.int .i64],[]⟩) (run:=fun n x=>M.qW x.1.1 x.1.2.1 n x.1.2.2.1) (bP:=aa1) (out:=NY) ai (Gp) ay (aI (by kernel_rfl)) (fun _=>rfl) (fun m x=>by kernel_rfl) (aj ⟨dP,fun _ _ _=>rfl⟩ (aj ⟨bW,fun _ _ _=>rfl⟩ (ax))) false ah
theorem aa4:bM (vM) (bN (bS Tryz.f182) 0) (N3):=
 bV (cx:=vM) (n:=39) (n0:=0) (ins:=[0,3]) (outs:=[2]) (sh:=⟨[.an U.str,.int .i64],[]⟩) (run:=fun n x=>M.pn n x.1.1 x.1.2.1) (bP:=aa2) (out:=N2) ai (Gp) ay (bX 1 (by kernel_rfl) (bZ (.mk (by kernel_rfl) (aa3)))) (fun _=>rfl) (fun m x=>by kernel_rfl) (aj ⟨dP,fun _ _ _=>rfl⟩ (aj ⟨bW,fun _ _ _=>rfl⟩ (ax))) false ah
theorem aa5:(Gn (M.vN)).Ok D Tryz.prog:=
 aJ (cx:=vM) (c:=Gn (M.vN)) (fz:=true) (fn:=Tryz.f182) ai (Gp) ay ⟨Tryz.func182,by kernel_rfl⟩ (aK (bX 1 (by kernel_rfl) (bZ (.mk (by kernel_rfl) (aa4))))) ⟨⟨[.bool],[]⟩,fun x=>x.1.1⟩ (fun x=>rfl) (fun x=>by kernel_rfl)
def N4(y:(Bool)⊕(Unit)){R:Type}(k:Ex->List (AV K)->List (Ob K)->R):R:=match y with
 |.inl a0=>k Ex.ret (az.bc D ⟨[.bool],[.dead]⟩ ((a0,()),((),()))) (az.bf D ⟨[.bool],[.dead]⟩ ((a0,()),((),())))
 |.inr (a1)=>k (Ex.exit 0) (az.bc D ⟨[.any],[.dead]⟩ (((),()),((),()))) (az.bf D ⟨[.any],[.dead]⟩ (((),()),((),())))
def aa6:List (bR K ((Bool)⊕(Unit))):=[⟨Ex.ret,⟨[.bool],[.dead]⟩,fun x=>.inl x.1.1⟩,⟨(Ex.exit 0),⟨[.any],[.dead]⟩,fun x=>.inr (())⟩]
def N5:bJ K:=bT D false 18 1 [1,3] [2] ⟨[.ptr 0 0,.int .i64],[.el U.Type]⟩ (fun x=>M.nB ah x.1.2.1 x.2.1) N4
def Gq(m:M.aa->Option (Bool)):aC K:={f:=183,sh:=⟨[.el U.Type],[]⟩,R:=Bool,run:=fun x=>m x.1.1,dflt:=default,out:=fun r=>(Sh.enc D (.bool) r,aw.encs D [] ())}
def BM:Cx K:={aL with mode:=aG .plain [],call:=callOf D [],loop:=aF [(2,N5)]}
theorem N6:aD (BM):=aN ai _ (ax)
theorem aa7:bM (BM) (bN (bS Tryz.f183) 0) (N5):=
 bV (cx:=BM) (n:=18) (n0:=1) (ins:=[1,3]) (outs:=[2]) (sh:=⟨[.ptr 0 0,.int .i64],[.el U.Type]⟩) (run:=fun n x=>M.nB n x.1.2.1 x.2.1) (bP:=aa6) (out:=N4) ai (N6) ay (aI (by kernel_rfl)) (fun _=>rfl) (fun m x=>by kernel_rfl) (aj ⟨dP,fun _ _ _=>rfl⟩ (aj ⟨bW,fun _ _ _=>rfl⟩ (ax))) false ah
theorem aa8:(Gq (M.qX)).Ok D Tryz.prog:=
 aJ (cx:=BM) (c:=Gq (M.qX)) (fz:=true) (fn:=Tryz.f183) ai (N6) ay ⟨Tryz.func183,by kernel_rfl⟩ (aK (bX 1 (by kernel_rfl) (bZ (.mk (by kernel_rfl) (aa7))))) ⟨⟨[.bool],[]⟩,fun x=>x.1.1⟩ (fun x=>rfl) (fun x=>by kernel_rfl)
def po(m:M.aa->Int->Int->Option (Bool)):aC K:={f:=184,sh:=⟨[.el U.Type,.int .i64,.int .i64],[]⟩,R:=Bool,run:=fun x=>m x.1.1 x.1.2.1 x.1.2.2.1,dflt:=default,out:=fun r=>(Sh.enc D (.bool) r,aw.encs D [] ())}
def N7(y:(Bool)⊕(Unit)){R:Type}(k:Ex->List (AV K)->List (Ob K)->R):R:=match y with
 |.inl a0=>k Ex.ret (az.bc D ⟨[.bool],[.dead]⟩ ((a0,()),((),()))) (az.bf D ⟨[.bool],[.dead]⟩ ((a0,()),((),())))
 |.inr (a1)=>k (Ex.exit 0) (az.bc D ⟨[.any],[.dead]⟩ (((),()),((),()))) (az.bf D ⟨[.any],[.dead]⟩ (((),()),((),())))
def aa9:List (bR K ((Bool)⊕(Unit))):=[⟨Ex.ret,⟨[.bool],[.dead]⟩,fun x=>.inl x.1.1⟩,⟨(Ex.exit 0),⟨[.any],[.dead]⟩,fun x=>.inr (())⟩]
def N8(eJ:M.aa->Int->Int->Option (Bool)):bJ K:=bT D false 28 1 [1,2,3,7] [6] ⟨[.int .i64,.int .i64,.ptr 0 0,.int .i64],[.el U.Type]⟩ (fun x=>M.nC eJ x.1.1 x.1.2.1 ah x.1.2.2.2.1 x.2.1) N7
def BN(eJ:M.aa->Int->Int->Option (Bool)):Cx K:={aL with mode:=aG .plain [(120,.plain),(184,.plain)],call:=callOf D [qT M.qU,po eJ],loop:=aF [(4,N8 eJ)]}
theorem N9(eJ:M.aa->Int->Int->Option (Bool))(vO:(po eJ).Ok D Tryz.prog):aD (BN eJ):=aN ai _ (aj vL (aj vO (ax)))
theorem aba(eJ:M.aa->Int->Int->Option (Bool))(vO:(po eJ).Ok D Tryz.prog):bM (BN eJ) (bN (bS Tryz.f184) 0) (N8 eJ):=
 bV (cx:=BN eJ) (n:=28) (n0:=1) (ins:=[1,2,3,7]) (outs:=[6]) (sh:=⟨[.int .i64,.int .i64,.ptr 0 0,.int .i64],[.el U.Type]⟩) (run:=fun n x=>M.nC eJ x.1.1 x.1.2.1 n x.1.2.2.2.1 x.2.1) (bP:=aa9) (out:=N7) ai (N9 eJ vO) ay (aI (by kernel_rfl)) (fun _=>rfl) (fun m x=>by kernel_rfl) (aj ⟨dP,fun _ _ _=>rfl⟩ (aj ⟨bW,fun _ _ _=>rfl⟩ (ax))) false ah
theorem abb(eJ:M.aa->Int->Int->Option (Bool))(vO:(po eJ).Ok D Tryz.prog):(po (M.yY eJ)).Ok D Tryz.prog:=
 aJ (cx:=BN eJ) (c:=po (M.yY eJ)) (fz:=true) (fn:=Tryz.f184) ai (N9 eJ vO) ay ⟨Tryz.func184,by kernel_rfl⟩ (aK (bX 1 (by kernel_rfl) (bZ (.mk (by kernel_rfl) (aba eJ vO))))) ⟨⟨[.bool],[]⟩,fun x=>x.1.1⟩ (fun x=>rfl) (fun x=>by kernel_rfl)
theorem Oa:∀n,(po (M.mE n)).Ok D Tryz.prog
 |0=>dZ fun _=>rfl
 |n+1=>abb (M.mE n) (Oa n)
theorem abd:(po (M.tr)).Ok D Tryz.prog:=Oa ah
def Gs(m:M.aa->Option (Bool)):aC K:={f:=170,sh:=⟨[.el U.Type],[]⟩,R:=Bool,run:=fun x=>m x.1.1,dflt:=default,out:=fun r=>(Sh.enc D (.bool) r,aw.encs D [] ())}
def Oc:Cx K:={aL with mode:=aG .plain [(120,.plain),(181,.plain),(182,.plain),(183,.plain),(184,.plain)],call:=callOf D [qT M.qU,BK M.qV,Gn M.vN,Gq M.qX,po M.tr],loop:=aF []}
theorem abe:aD (Oc):=aN ai _ (aj vL (aj NW (aj aa5 (aj aa8 (aj abd (ax))))))
theorem abf:(Gs (M.vP)).Ok D Tryz.prog:=
 aJ (cx:=Oc) (c:=Gs (M.vP)) (fz:=true) (fn:=Tryz.f170) ai (abe) ay ⟨Tryz.func170,by kernel_rfl⟩ (aK (aI (by kernel_rfl))) ⟨⟨[.bool],[]⟩,fun x=>x.1.1⟩ (fun x=>rfl) (fun x=>by kernel_rfl)
def pq(m:M.aa->Option (Bool)):aC K:={f:=157,sh:=⟨[.el U.Type],[]⟩,R:=Bool,run:=fun x=>m x.1.1,dflt:=default,out:=fun r=>(Sh.enc D (.bool) r,aw.encs D [] ())}
def Oe(y:(Bool)⊕(Unit)){R:Type}(k:Ex->List (AV K)->List (Ob K)->R):R:=match y with
 |.inl a0=>k Ex.ret (az.bc D ⟨[.bool],[.dead]⟩ ((a0,()),((),()))) (az.bf D ⟨[.bool],[.dead]⟩ ((a0,()),((),())))
 |.inr (a1)=>k (Ex.exit 0) (az.bc D ⟨[.any],[.dead]⟩ (((),()),((),()))) (az.bf D ⟨[.any],[.dead]⟩ (((),()),((),())))
def abg:List (bR K ((Bool)⊕(Unit))):=[⟨Ex.ret,⟨[.bool],[.dead]⟩,fun x=>.inl x.1.1⟩,⟨(Ex.exit 0),⟨[.any],[.dead]⟩,fun x=>.inr (())⟩]
def Of(eK:M.aa->Option (Bool)):bJ K:=bT D false 21 1 [1,3] [2] ⟨[.ptr 0 0,.int .i64],[.el U.Type]⟩ (fun x=>M.nD eK ah x.1.2.1 x.2.1) Oe
def BO(eK:M.aa->Option (Bool)):Cx K:={aL with mode:=aG .plain [(170,.plain),(157,.plain)],call:=callOf D [Gs M.vP,pq eK],loop:=aF [(4,Of eK)]}
theorem Og(eK:M.aa->Option (Bool))(vQ:(pq eK).Ok D Tryz.prog):aD (BO eK):=aN ai _ (aj abf (aj vQ (ax)))
theorem abh(eK:M.aa->Option (Bool))(vQ:(pq eK).Ok D Tryz.prog):bM (BO eK) (bN (bS Tryz.f157) 0) (Of eK):=
 bV (cx:=BO eK) (n:=21) (n0:=1) (ins:=[1,3]) (outs:=[2]) (sh:=⟨[.ptr 0 0,.int .i64],[.el U.Type]⟩) (run:=fun n x=>M.nD eK n x.1.2.1 x.2.1) (bP:=abg) (out:=Oe) ai (Og eK vQ) ay (aI (by kernel_rfl)) (fun _=>rfl) (fun m x=>by kernel_rfl) (aj ⟨dP,fun _ _ _=>rfl⟩ (aj ⟨bW,fun _ _ _=>rfl⟩ (ax))) false ah
theorem abj(eK:M.aa->Option (Bool))(vQ:(pq eK).Ok D Tryz.prog):(pq (M.yZ eK)).Ok D Tryz.prog:=
 aJ (cx:=BO eK) (c:=pq (M.yZ eK)) (fz:=true) (fn:=Tryz.f157) ai (Og eK vQ) ay ⟨Tryz.func157,by kernel_rfl⟩ (aK (bX 1 (by kernel_rfl) (bZ (.mk (by kernel_rfl) (abh eK vQ))))) ⟨⟨[.bool],[]⟩,fun x=>x.1.1⟩ (fun x=>rfl) (fun x=>by kernel_rfl)
theorem Oh:∀n,(pq (M.nE n)).Ok D Tryz.prog
 |0=>dZ fun _=>rfl
 |n+1=>abj (M.nE n) (Oh n)
theorem abk:(pq (M.BP)).Ok D Tryz.prog:=Oh ah
def pr(m:M.aa->Int->Option (Int)):aC K:={f:=162,sh:=⟨[.el U.Type,.int .i64],[]⟩,R:=Int,run:=fun x=>m x.1.1 x.1.2.1,dflt:=default,out:=fun r=>(Sh.enc D (.int .i64) r,aw.encs D [] ())}
def Oi(y:Int){R:Type}(k:Ex->List (AV K)->List (Ob K)->R):R:=match y with
 |a0=>k (Ex.exit 0) (az.bc D ⟨[.int .i64],[]⟩ ((a0,()),())) (az.bf D ⟨[.int .i64],[]⟩ ((a0,()),()))
def abl:List (bR K (Int)):=[⟨(Ex.exit 0),⟨[.int .i64],[]⟩,fun x=>x.1.1⟩]
def Oj(eP:M.aa->Int->Option (Int)):bJ K:=bT D false 26 0 [1,5,11,12,13] [5] ⟨[.int .i64,.int .i64,.an U.Type,.int .i64,.int .i64],[]⟩ (fun x=>M.qY eP x.1.1 x.1.2.2.1 x.1.2.2.2.1 ah x.1.2.1 x.1.2.2.2.2.1) Oi
def BQ(eP:M.aa->Int->Option (Int)):Cx K:={aL with mode:=aG .plain [(162,.plain)],call:=callOf D [pr eP],loop:=aF [(5,Oj eP)]}
theorem Ol(eP:M.aa->Int->Option (Int))(vR:(pr eP).Ok D Tryz.prog):aD (BQ eP):=aN ai _ (aj vR (ax))
theorem abm(eP:M.aa->Int->Option (Int))(vR:(pr eP).Ok D Tryz.prog):bM (BQ eP) (bN (bS Tryz.f162) 0) (Oj eP):=
 bV (cx:=BQ eP) (n:=26) (n0:=0) (ins:=[1,5,11,12,13]) (outs:=[5]) (sh:=⟨[.int .i64,.int .i64,.an U.Type,.int .i64,.int .i64],[]⟩) (run:=fun n x=>M.qY eP x.1.1 x.1.2.2.1 x.1.2.2.2.1 n x.1.2.1 x.1.2.2.2.2.1) (bP:=abl) (out:=Oi) ai (Ol eP vR) ay (aI (by kernel_rfl)) (fun _=>rfl) (fun m x=>by kernel_rfl) (aj ⟨bW,fun _ _ _=>rfl⟩ (ax)) false ah
theorem abn(eP:M.aa->Int->Option (Int))(vR:(pr eP).Ok D Tryz.prog):(pr (M.y4 eP)).Ok D Tryz.prog:=
 aJ (cx:=BQ eP) (c:=pr (M.y4 eP)) (fz:=true) (fn:=Tryz.f162) ai (Ol eP vR) ay ⟨Tryz.func162,by kernel_rfl⟩ (aK (bX 1 (by kernel_rfl) (bZ (.mk (by kernel_rfl) (abm eP vR))))) ⟨⟨[.int .i64],[]⟩,fun x=>x.1.1⟩ (fun x=>rfl) (fun x=>by kernel_rfl)
theorem Om:∀n,(pr (M.qZ n)).Ok D Tryz.prog
 |0=>dZ fun _=>rfl
 |n+1=>abn (M.qZ n) (Om n)
theorem abo:(pr (M.BR)).Ok D Tryz.prog:=Om ah
def pt(m:M.aa->Option (Int)):aC K:={f:=163,sh:=⟨[.el U.Type],[]⟩,R:=Int,run:=fun x=>m x.1.1,dflt:=default,out:=fun r=>(Sh.enc D (.int .i64) r,aw.encs D [] ())}
def On(y:Int){R:Type}(k:Ex->List (AV K)->List (Ob K)->R):R:=match y with
 |a0=>k (Ex.exit 0) (az.bc D ⟨[.int .i64],[]⟩ ((a0,()),())) (az.bf D ⟨[.int .i64],[]⟩ ((a0,()),()))
def abp:List (bR K (Int)):=[⟨(Ex.exit 0),⟨[.int .i64],[]⟩,fun x=>x.1.1⟩]
def Oo(eQ:M.aa->Option (Int)):bJ K:=bT D false 19 0 [3,7,8,9] [3] ⟨[.int .i64,.an U.Type,.int .i64,.int .i64],[]⟩ (fun x=>M.rf eQ x.1.2.1 x.1.2.2.1 ah x.1.1 x.1.2.2.2.1) On
def BS(eQ:M.aa->Option (Int)):Cx K:={aL with mode:=aG .plain [(163,.plain)],call:=callOf D [pt eQ],loop:=aF [(3,Oo eQ)]}
theorem Oq(eQ:M.aa->Option (Int))(vS:(pt eQ).Ok D Tryz.prog):aD (BS eQ):=aN ai _ (aj vS (ax))
theorem abq(eQ:M.aa->Option (Int))(vS:(pt eQ).Ok D Tryz.prog):bM (BS eQ) (bN (bS Tryz.f163) 0) (Oo eQ):=
 bV (cx:=BS eQ) (n:=19) (n0:=0) (ins:=[3,7,8,9]) (outs:=[3]) (sh:=⟨[.int .i64,.an U.Type,.int .i64,.int .i64],[]⟩) (run:=fun n x=>M.rf eQ x.1.2.1 x.1.2.2.1 n x.1.1 x.1.2.2.2.1) (bP:=abp) (out:=On) ai (Oq eQ vS) ay (aI (by kernel_rfl)) (fun _=>rfl) (fun m x=>by kernel_rfl) (aj ⟨bW,fun _ _ _=>rfl⟩ (ax)) false ah
theorem abr(eQ:M.aa->Option (Int))(vS:(pt eQ).Ok D Tryz.prog):(pt (M.y7 eQ)).Ok D Tryz.prog:=
 aJ (cx:=BS eQ) (c:=pt (M.y7 eQ)) (fz:=true) (fn:=Tryz.f163) ai (Oq eQ vS) ay ⟨Tryz.func163,by kernel_rfl⟩ (aK (bX 1 (by kernel_rfl) (bZ (.mk (by kernel_rfl) (abq eQ vS))))) ⟨⟨[.int .i64],[]⟩,fun x=>x.1.1⟩ (fun x=>rfl) (fun x=>by kernel_rfl)
theorem Ot:∀n,(pt (M.rh n)).Ok D Tryz.prog
 |0=>dZ fun _=>rfl
 |n+1=>abr (M.rh n) (Ot n)
theorem abt:(pt (M.BU)).Ok D Tryz.prog:=Ot ah
def jP(m:M.aa->Option (Bool)):aC K:={f:=164,sh:=⟨[.el U.Type],[]⟩,R:=Bool,run:=fun x=>m x.1.1,dflt:=default,out:=fun r=>(Sh.enc D (.bool) r,aw.encs D [] ())}
def Gt(m:M.aa->Option (Bool)):aC K:={f:=173,sh:=⟨[.el U.Type],[]⟩,R:=Bool,run:=fun x=>m x.1.1,dflt:=default,out:=fun r=>(Sh.enc D (.bool) r,aw.encs D [] ())}
def Ou(cb:M.aa->Option (Bool)):Cx K:={aL with mode:=aG .plain [(164,.plain)],call:=callOf D [jP cb],loop:=aF []}
theorem abu(cb:M.aa->Option (Bool))(iF:(jP cb).Ok D Tryz.prog):aD (Ou cb):=aN ai _ (aj iF (ax))
theorem abv(cb:M.aa->Option (Bool))(iF:(jP cb).Ok D Tryz.prog):(Gt (M.vT cb)).Ok D Tryz.prog:=
 aJ (cx:=Ou cb) (c:=Gt (M.vT cb)) (fz:=true) (fn:=Tryz.f173) ai (abu cb iF) ay ⟨Tryz.func173,by kernel_rfl⟩ (aK (aI (by kernel_rfl))) ⟨⟨[.bool],[]⟩,fun x=>x.1.1⟩ (fun x=>rfl) (fun x=>by kernel_rfl)
def Ov(y:(Int)⊕(Unit)){R:Type}(k:Ex->List (AV K)->List (Ob K)->R):R:=match y with
 |.inl a0=>k Ex.ret (az.bc D ⟨[.int .i64],[]⟩ ((a0,()),())) (az.bf D ⟨[.int .i64],[]⟩ ((a0,()),()))
 |.inr (a1)=>k (Ex.exit 0) (az.bc D ⟨[.any],[]⟩ (((),()),())) (az.bf D ⟨[.any],[]⟩ (((),()),()))
def abw:List (bR K ((Int)⊕(Unit))):=[⟨Ex.ret,⟨[.int .i64],[]⟩,fun x=>.inl x.1.1⟩,⟨(Ex.exit 0),⟨[.any],[]⟩,fun x=>.inr (())⟩]
def Ox(cb:M.aa->Option (Bool)):bJ K:=bT D false 19 0 [0,1,7,8] [4] ⟨[.an U.Type,.fn 173 [],.int .i64,.int .i64],[]⟩ (fun x=>M.tu cb x.1.1 x.1.2.2.1 ah x.1.2.2.2.1) Ov
def Gu(m:(List M.aa)->Option (Int)):aC K:={f:=161,sh:=⟨[.an U.Type,.fn 173 []],[]⟩,R:=Int,run:=fun x=>m x.1.1,dflt:=default,out:=fun r=>(Sh.enc D (.int .i64) r,aw.encs D [] ())}
def BV(cb:M.aa->Option (Bool)):Cx K:={aL with mode:=aG .plain [(173,.plain)],call:=callOf D [Gt (M.vT cb)],loop:=aF [(2,Ox cb)]}
theorem Oy(cb:M.aa->Option (Bool))(iF:(jP cb).Ok D Tryz.prog):aD (BV cb):=aN ai _ (aj (abv cb iF) (ax))
theorem abx(cb:M.aa->Option (Bool))(iF:(jP cb).Ok D Tryz.prog):bM (BV cb) (bN (bS Tryz.f161) 0) (Ox cb):=
 bV (cx:=BV cb) (n:=19) (n0:=0) (ins:=[0,1,7,8]) (outs:=[4]) (sh:=⟨[.an U.Type,.fn 173 [],.int .i64,.int .i64],[]⟩) (run:=fun n x=>M.tu cb x.1.1 x.1.2.2.1 n x.1.2.2.2.1) (bP:=abw) (out:=Ov) ai (Oy cb iF) ay (aI (by kernel_rfl)) (fun _=>rfl) (fun m x=>by kernel_rfl) (aj ⟨dP,fun _ _ _=>rfl⟩ (aj ⟨bW,fun _ _ _=>rfl⟩ (ax))) false ah
theorem aby(cb:M.aa->Option (Bool))(iF:(jP cb).Ok D Tryz.prog):(Gu (M.y9 cb)).Ok D Tryz.prog:=
 aJ (cx:=BV cb) (c:=Gu (M.y9 cb)) (fz:=true) (fn:=Tryz.f161) ai (Oy cb iF) ay ⟨Tryz.func161,by kernel_rfl⟩ (aK (bX 1 (by kernel_rfl) (bZ (.mk (by kernel_rfl) (abx cb iF))))) ⟨⟨[.int .i64],[]⟩,fun x=>x.1.1⟩ (fun x=>rfl) (fun x=>by kernel_rfl)
def Gv(m:(List M.aa)->Option (Bool)):aC K:={f:=134,sh:=⟨[.an U.Type,.fn 173 []],[]⟩,R:=Bool,run:=fun x=>m x.1.1,dflt:=default,out:=fun r=>(Sh.enc D (.bool) r,aw.encs D [] ())}
def Oz(cb:M.aa->Option (Bool)):Cx K:={aL with mode:=aG .plain [(161,.plain)],call:=callOf D [Gu (M.y9 cb)],loop:=aF []}
theorem abz(cb:M.aa->Option (Bool))(iF:(jP cb).Ok D Tryz.prog):aD (Oz cb):=aN ai _ (aj (aby cb iF) (ax))
theorem abA(cb:M.aa->Option (Bool))(iF:(jP cb).Ok D Tryz.prog):(Gv (M.tw cb)).Ok D Tryz.prog:=
 aJ (cx:=Oz cb) (c:=Gv (M.tw cb)) (fz:=true) (fn:=Tryz.f134) ai (abz cb iF) ay ⟨Tryz.func134,by kernel_rfl⟩ (aK (aI (by kernel_rfl))) ⟨⟨[.bool],[]⟩,fun x=>x.1.1⟩ (fun x=>rfl) (fun x=>by kernel_rfl)
def ri(m:Int->Int->Int->Option (Bool)):aC K:={f:=133,sh:=⟨[.int .i64,.int .i64,.int .i64],[]⟩,R:=Bool,run:=fun x=>m x.1.1 x.1.2.1 x.1.2.2.1,dflt:=default,out:=fun r=>(Sh.enc D (.bool) r,aw.encs D [] ())}
def OA:Cx K:={aL with mode:=aG .plain [],call:=callOf D [],loop:=aF []}
theorem abB:aD (OA):=aN ai _ (ax)
theorem vU:(ri (M.rj)).Ok D Tryz.prog:=
 aJ (cx:=OA) (c:=ri (M.rj)) (fz:=true) (fn:=Tryz.f133) ai (abB) ay ⟨Tryz.func133,by kernel_rfl⟩ (aK (aI (by kernel_rfl))) ⟨⟨[.bool],[]⟩,fun x=>x.1.1⟩ (fun x=>rfl) (fun x=>by kernel_rfl)
def vV(m:(List (List UInt8))->Option (Int)):aC K:={f:=138,sh:=⟨[.an U.str],[]⟩,R:=Int,run:=fun x=>m x.1.1,dflt:=default,out:=fun r=>(Sh.enc D (.int .i64) r,aw.encs D [] ())}
def OB:Cx K:={aL with mode:=aG .plain [],call:=callOf D [],loop:=aF []}
theorem abC:aD (OB):=aN ai _ (ax)
theorem BW:(vV (M.vW)).Ok D Tryz.prog:=
 aJ (cx:=OB) (c:=vV (M.vW)) (fz:=true) (fn:=Tryz.f138) ai (abC) ay ⟨Tryz.func138,by kernel_rfl⟩ (aK (aI (by kernel_rfl))) ⟨⟨[.int .i64],[]⟩,fun x=>x.1.1⟩ (fun x=>rfl) (fun x=>by kernel_rfl)
def OC(y:(Bool)⊕((List UInt8))){R:Type}(k:Ex->List (AV K)->List (Ob K)->R):R:=match y with
 |.inl a0=>k Ex.ret (az.bc D ⟨[.any,.bool],[]⟩ (((),(a0,())),())) (az.bf D ⟨[.any,.bool],[]⟩ (((),(a0,())),()))
 |.inr (a1)=>k (Ex.exit 0) (az.bc D ⟨[.str,.any],[]⟩ ((a1,((),())),())) (az.bf D ⟨[.str,.any],[]⟩ ((a1,((),())),()))
def abD:List (bR K ((Bool)⊕((List UInt8)))):=[⟨Ex.ret,⟨[.any,.bool],[]⟩,fun x=>.inl x.1.2.1⟩,⟨(Ex.exit 0),⟨[.str,.any],[]⟩,fun x=>.inr (x.1.1)⟩]
def OD:bJ K:=bT D false 75 0 [0,7,8] [0,2] ⟨[.str,.int .i64,.int .i64],[]⟩ (fun x=>M.rk x.1.1 x.1.2.1 ah x.1.2.2.1) OC
def BX(m:(List UInt8)->Option (Bool)):aC K:={f:=175,sh:=⟨[.str],[]⟩,R:=Bool,run:=fun x=>m x.1.1,dflt:=default,out:=fun r=>(Sh.enc D (.bool) r,aw.encs D [] ())}
def BY:Cx K:={aL with mode:=aG .plain [],call:=callOf D [],loop:=aF [(2,OD)]}
theorem OE:aD (BY):=aN ai _ (ax)
theorem abE:bM (BY) (bN (bS Tryz.f175) 0) (OD):=
 bV (cx:=BY) (n:=75) (n0:=0) (ins:=[0,7,8]) (outs:=[0,2]) (sh:=⟨[.str,.int .i64,.int .i64],[]⟩) (run:=fun n x=>M.rk x.1.1 x.1.2.1 n x.1.2.2.1) (bP:=abD) (out:=OC) ai (OE) ay (aI (by kernel_rfl)) (fun _=>rfl) (fun m x=>by kernel_rfl) (aj ⟨dP,fun _ _ _=>rfl⟩ (aj ⟨bW,fun _ _ _=>rfl⟩ (ax))) false ah
theorem OF:(BX (M.rl)).Ok D Tryz.prog:=
 aJ (cx:=BY) (c:=BX (M.rl)) (fz:=true) (fn:=Tryz.f175) ai (OE) ay ⟨Tryz.func175,by kernel_rfl⟩ (aK (bX 1 (by kernel_rfl) (bZ (.mk (by kernel_rfl) (abE))))) ⟨⟨[.bool],[]⟩,fun x=>x.1.1⟩ (fun x=>rfl) (fun x=>by kernel_rfl)
def Gw(m:(List UInt8)->Option (Bool)):aC K:={f:=188,sh:=⟨[.str],[]⟩,R:=Bool,run:=fun x=>m x.1.1,dflt:=default,out:=fun r=>(Sh.enc D (.bool) r,aw.encs D [] ())}
def OG:Cx K:={aL with mode:=aG .plain [(175,.plain)],call:=callOf D [BX M.rl],loop:=aF []}
theorem abG:aD (OG):=aN ai _ (aj OF (ax))
theorem abH:(Gw (M.vX)).Ok D Tryz.prog:=
 aJ (cx:=OG) (c:=Gw (M.vX)) (fz:=true) (fn:=Tryz.f188) ai (abG) ay ⟨Tryz.func188,by kernel_rfl⟩ (aK (aI (by kernel_rfl))) ⟨⟨[.bool],[]⟩,fun x=>x.1.1⟩ (fun x=>rfl) (fun x=>by kernel_rfl)
def OH(y:(Int)⊕(Unit)){R:Type}(k:Ex->List (AV K)->List (Ob K)->R):R:=match y with
 |.inl a0=>k Ex.ret (az.bc D ⟨[.int .i64],[]⟩ ((a0,()),())) (az.bf D ⟨[.int .i64],[]⟩ ((a0,()),()))
 |.inr (a1)=>k (Ex.exit 0) (az.bc D ⟨[.any],[]⟩ (((),()),())) (az.bf D ⟨[.any],[]⟩ (((),()),()))
def abI:List (bR K ((Int)⊕(Unit))):=[⟨Ex.ret,⟨[.int .i64],[]⟩,fun x=>.inl x.1.1⟩,⟨(Ex.exit 0),⟨[.any],[]⟩,fun x=>.inr (())⟩]
def OI:bJ K:=bT D false 19 0 [0,1,7,8] [4] ⟨[.an U.str,.fn 188 [],.int .i64,.int .i64],[]⟩ (fun x=>M.tz x.1.1 x.1.2.2.1 ah x.1.2.2.2.1) OH
def Gx(m:(List (List UInt8))->Option (Int)):aC K:={f:=194,sh:=⟨[.an U.str,.fn 188 []],[]⟩,R:=Int,run:=fun x=>m x.1.1,dflt:=default,out:=fun r=>(Sh.enc D (.int .i64) r,aw.encs D [] ())}
def BZ:Cx K:={aL with mode:=aG .plain [(188,.plain)],call:=callOf D [Gw M.vX],loop:=aF [(2,OI)]}
theorem OJ:aD (BZ):=aN ai _ (aj abH (ax))
theorem abJ:bM (BZ) (bN (bS Tryz.f194) 0) (OI):=
 bV (cx:=BZ) (n:=19) (n0:=0) (ins:=[0,1,7,8]) (outs:=[4]) (sh:=⟨[.an U.str,.fn 188 [],.int .i64,.int .i64],[]⟩) (run:=fun n x=>M.tz x.1.1 x.1.2.2.1 n x.1.2.2.2.1) (bP:=abI) (out:=OH) ai (OJ) ay (aI (by kernel_rfl)) (fun _=>rfl) (fun m x=>by kernel_rfl) (aj ⟨dP,fun _ _ _=>rfl⟩ (aj ⟨bW,fun _ _ _=>rfl⟩ (ax))) false ah
theorem abK:(Gx (M.za)).Ok D Tryz.prog:=
 aJ (cx:=BZ) (c:=Gx (M.za)) (fz:=true) (fn:=Tryz.f194) ai (OJ) ay ⟨Tryz.func194,by kernel_rfl⟩ (aK (bX 1 (by kernel_rfl) (bZ (.mk (by kernel_rfl) (abJ))))) ⟨⟨[.int .i64],[]⟩,fun x=>x.1.1⟩ (fun x=>rfl) (fun x=>by kernel_rfl)
def Gy(m:(List (List UInt8))->Option (Bool)):aC K:={f:=187,sh:=⟨[.an U.str,.fn 188 []],[]⟩,R:=Bool,run:=fun x=>m x.1.1,dflt:=default,out:=fun r=>(Sh.enc D (.bool) r,aw.encs D [] ())}
def OK:Cx K:={aL with mode:=aG .plain [(194,.plain)],call:=callOf D [Gx M.za],loop:=aF []}
theorem abL:aD (OK):=aN ai _ (aj abK (ax))
theorem abM:(Gy (M.vY)).Ok D Tryz.prog:=
 aJ (cx:=OK) (c:=Gy (M.vY)) (fz:=true) (fn:=Tryz.f187) ai (abL) ay ⟨Tryz.func187,by kernel_rfl⟩ (aK (aI (by kernel_rfl))) ⟨⟨[.bool],[]⟩,fun x=>x.1.1⟩ (fun x=>rfl) (fun x=>by kernel_rfl)
def Gz(m:(List (List UInt8))->Option (Bool)):aC K:={f:=174,sh:=⟨[.an U.str],[]⟩,R:=Bool,run:=fun x=>m x.1.1,dflt:=default,out:=fun r=>(Sh.enc D (.bool) r,aw.encs D [] ())}
def OL:Cx K:={aL with mode:=aG .plain [(138,.plain),(133,.plain),(186,.plain),(187,.plain)],call:=callOf D [vV M.vW,ri M.rj,GF M.rm,Gy M.vY],loop:=aF []}
theorem abN:aD (OL):=aN ai _ (aj BW (aj vU (aj abO (aj abM (ax)))))
theorem abP:(Gz (M.vZ)).Ok D Tryz.prog:=
 aJ (cx:=OL) (c:=Gz (M.vZ)) (fz:=true) (fn:=Tryz.f174) ai (abN) ay ⟨Tryz.func174,by kernel_rfl⟩ (aK (aI (by kernel_rfl))) ⟨⟨[.bool],[]⟩,fun x=>x.1.1⟩ (fun x=>rfl) (fun x=>by kernel_rfl)
def zb(m:(List M.aa)->Option (Int)):aC K:={f:=152,sh:=⟨[.an U.Type],[]⟩,R:=Int,run:=fun x=>m x.1.1,dflt:=default,out:=fun r=>(Sh.enc D (.int .i64) r,aw.encs D [] ())}
def OM:Cx K:={aL with mode:=aG .plain [],call:=callOf D [],loop:=aF []}
theorem abQ:aD (OM):=aN ai _ (ax)
theorem GG:(zb (M.zc)).Ok D Tryz.prog:=
 aJ (cx:=OM) (c:=zb (M.zc)) (fz:=true) (fn:=Tryz.f152) ai (abQ) ay ⟨Tryz.func152,by kernel_rfl⟩ (aK (aI (by kernel_rfl))) ⟨⟨[.int .i64],[]⟩,fun x=>x.1.1⟩ (fun x=>rfl) (fun x=>by kernel_rfl)
def B0(m:M.aa->Option (Bool)):aC K:={f:=141,sh:=⟨[.el U.Type],[]⟩,R:=Bool,run:=fun x=>m x.1.1,dflt:=default,out:=fun r=>(Sh.enc D (.bool) r,aw.encs D [] ())}
def ON:Cx K:={aL with mode:=aG .plain [],call:=callOf D [],loop:=aF []}
theorem abR:aD (ON):=aN ai _ (ax)
theorem OO:(B0 (M.B5)).Ok D Tryz.prog:=
 aJ (cx:=ON) (c:=B0 (M.B5)) (fz:=true) (fn:=Tryz.f141) ai (abR) ay ⟨Tryz.func141,by kernel_rfl⟩ (aK (aI (by kernel_rfl))) ⟨⟨[.bool],[]⟩,fun x=>x.1.1⟩ (fun x=>rfl) (fun x=>by kernel_rfl)
def OP(y:(Int)⊕(Unit)){R:Type}(k:Ex->List (AV K)->List (Ob K)->R):R:=match y with
 |.inl a0=>k Ex.ret (az.bc D ⟨[.int .i64],[]⟩ ((a0,()),())) (az.bf D ⟨[.int .i64],[]⟩ ((a0,()),()))
 |.inr (a1)=>k (Ex.exit 0) (az.bc D ⟨[.any],[]⟩ (((),()),())) (az.bf D ⟨[.any],[]⟩ (((),()),()))
def abS:List (bR K ((Int)⊕(Unit))):=[⟨Ex.ret,⟨[.int .i64],[]⟩,fun x=>.inl x.1.1⟩,⟨(Ex.exit 0),⟨[.any],[]⟩,fun x=>.inr (())⟩]
def OQ:bJ K:=bT D false 19 0 [0,1,7,8] [4] ⟨[.an U.Type,.fn 141 [],.int .i64,.int .i64],[]⟩ (fun x=>M.tA x.1.1 x.1.2.2.1 ah x.1.2.2.2.1) OP
def GH(m:(List M.aa)->Option (Int)):aC K:={f:=161,sh:=⟨[.an U.Type,.fn 141 []],[]⟩,R:=Int,run:=fun x=>m x.1.1,dflt:=default,out:=fun r=>(Sh.enc D (.int .i64) r,aw.encs D [] ())}
def B6:Cx K:={aL with mode:=aG .plain [(141,.plain)],call:=callOf D [B0 M.B5],loop:=aF [(2,OQ)]}
theorem OR:aD (B6):=aN ai _ (aj OO (ax))
theorem abT:bM (B6) (bN (bS Tryz.f161) 0) (OQ):=
 bV (cx:=B6) (n:=19) (n0:=0) (ins:=[0,1,7,8]) (outs:=[4]) (sh:=⟨[.an U.Type,.fn 141 [],.int .i64,.int .i64],[]⟩) (run:=fun n x=>M.tA x.1.1 x.1.2.2.1 n x.1.2.2.2.1) (bP:=abS) (out:=OP) ai (OR) ay (aI (by kernel_rfl)) (fun _=>rfl) (fun m x=>by kernel_rfl) (aj ⟨dP,fun _ _ _=>rfl⟩ (aj ⟨bW,fun _ _ _=>rfl⟩ (ax))) false ah
theorem abU:(GH (M.zd)).Ok D Tryz.prog:=
 aJ (cx:=B6) (c:=GH (M.zd)) (fz:=true) (fn:=Tryz.f161) ai (OR) ay ⟨Tryz.func161,by kernel_rfl⟩ (aK (bX 1 (by kernel_rfl) (bZ (.mk (by kernel_rfl) (abT))))) ⟨⟨[.int .i64],[]⟩,fun x=>x.1.1⟩ (fun x=>rfl) (fun x=>by kernel_rfl)
def GI(m:(List M.aa)->Option (Bool)):aC K:={f:=134,sh:=⟨[.an U.Type,.fn 141 []],[]⟩,R:=Bool,run:=fun x=>m x.1.1,dflt:=default,out:=fun r=>(Sh.enc D (.bool) r,aw.encs D [] ())}
def OS:Cx K:={aL with mode:=aG .plain [(161,.plain)],call:=callOf D [GH M.zd],loop:=aF []}
theorem abV:aD (OS):=aN ai _ (aj abU (ax))
theorem abW:(GI (M.v7)).Ok D Tryz.prog:=
 aJ (cx:=OS) (c:=GI (M.v7)) (fz:=true) (fn:=Tryz.f134) ai (abV) ay ⟨Tryz.func134,by kernel_rfl⟩ (aK (aI (by kernel_rfl))) ⟨⟨[.bool],[]⟩,fun x=>x.1.1⟩ (fun x=>rfl) (fun x=>by kernel_rfl)
def GK(m:M.aa->Int->Option (Bool)):aC K:={f:=176,sh:=⟨[.el U.Type,.int .i64],[]⟩,R:=Bool,run:=fun x=>m x.1.1 x.1.2.1,dflt:=default,out:=fun r=>(Sh.enc D (.bool) r,aw.encs D [] ())}
def OT:Cx K:={aL with mode:=aG .plain [(152,.plain),(134,.plain)],call:=callOf D [zb M.zc,GI M.v7],loop:=aF []}
theorem abX:aD (OT):=aN ai _ (aj GG (aj abW (ax)))
theorem abY:(GK (M.pv)).Ok D Tryz.prog:=
 aJ (cx:=OT) (c:=GK (M.pv)) (fz:=true) (fn:=Tryz.f176) ai (abX) ay ⟨Tryz.func176,by kernel_rfl⟩ (aK (aI (by kernel_rfl))) ⟨⟨[.bool],[]⟩,fun x=>x.1.1⟩ (fun x=>rfl) (fun x=>by kernel_rfl)
def OU(y:(Int)⊕(Unit)){R:Type}(k:Ex->List (AV K)->List (Ob K)->R):R:=match y with
 |.inl a0=>k Ex.ret (az.bc D ⟨[.int .i64],[]⟩ ((a0,()),())) (az.bf D ⟨[.int .i64],[]⟩ ((a0,()),()))
 |.inr (a1)=>k (Ex.exit 0) (az.bc D ⟨[.any],[]⟩ (((),()),())) (az.bf D ⟨[.any],[]⟩ (((),()),()))
def abZ:List (bR K ((Int)⊕(Unit))):=[⟨Ex.ret,⟨[.int .i64],[]⟩,fun x=>.inl x.1.1⟩,⟨(Ex.exit 0),⟨[.any],[]⟩,fun x=>.inr (())⟩]
def OV:bJ K:=bT D false 19 0 [0,1,7,8] [4] ⟨[.an U.i64,.int .i64,.int .i64,.int .i64],[]⟩ (fun x=>M.tB x.1.1 x.1.2.1 x.1.2.2.1 ah x.1.2.2.2.1) OU
def GL(m:(List Int)->Int->Option (Int)):aC K:={f:=195,sh:=⟨[.an U.i64,.int .i64],[]⟩,R:=Int,run:=fun x=>m x.1.1 x.1.2.1,dflt:=default,out:=fun r=>(Sh.enc D (.int .i64) r,aw.encs D [] ())}
def B7:Cx K:={aL with mode:=aG .plain [],call:=callOf D [],loop:=aF [(2,OV)]}
theorem OW:aD (B7):=aN ai _ (ax)
theorem ab1:bM (B7) (bN (bS Tryz.f195) 0) (OV):=
 bV (cx:=B7) (n:=19) (n0:=0) (ins:=[0,1,7,8]) (outs:=[4]) (sh:=⟨[.an U.i64,.int .i64,.int .i64,.int .i64],[]⟩) (run:=fun n x=>M.tB x.1.1 x.1.2.1 x.1.2.2.1 n x.1.2.2.2.1) (bP:=abZ) (out:=OU) ai (OW) ay (aI (by kernel_rfl)) (fun _=>rfl) (fun m x=>by kernel_rfl) (aj ⟨dP,fun _ _ _=>rfl⟩ (aj ⟨bW,fun _ _ _=>rfl⟩ (ax))) false ah
theorem ab2:(GL (M.ze)).Ok D Tryz.prog:=
 aJ (cx:=B7) (c:=GL (M.ze)) (fz:=true) (fn:=Tryz.f195) ai (OW) ay ⟨Tryz.func195,by kernel_rfl⟩ (aK (bX 1 (by kernel_rfl) (bZ (.mk (by kernel_rfl) (ab1))))) ⟨⟨[.int .i64],[]⟩,fun x=>x.1.1⟩ (fun x=>rfl) (fun x=>by kernel_rfl)
def GM(m:(List Int)->Int->Option (Bool)):aC K:={f:=189,sh:=⟨[.an U.i64,.int .i64],[]⟩,R:=Bool,run:=fun x=>m x.1.1 x.1.2.1,dflt:=default,out:=fun r=>(Sh.enc D (.bool) r,aw.encs D [] ())}
def OX:Cx K:={aL with mode:=aG .plain [(195,.plain)],call:=callOf D [GL M.ze],loop:=aF []}
theorem ab3:aD (OX):=aN ai _ (aj ab2 (ax))
theorem ab4:(GM (M.v8)).Ok D Tryz.prog:=
 aJ (cx:=OX) (c:=GM (M.v8)) (fz:=true) (fn:=Tryz.f189) ai (ab3) ay ⟨Tryz.func189,by kernel_rfl⟩ (aK (aI (by kernel_rfl))) ⟨⟨[.bool],[]⟩,fun x=>x.1.1⟩ (fun x=>rfl) (fun x=>by kernel_rfl)
def jQ(m:M.aa->(List Int)->Option (Bool)):aC K:={f:=177,sh:=⟨[.el U.Type,.an U.i64],[]⟩,R:=Bool,run:=fun x=>m x.1.1 x.1.2.1,dflt:=default,out:=fun r=>(Sh.enc D (.bool) r,aw.encs D [] ())}
def GN(m:M.aa->(List Int)->Option (Bool)):aC K:={f:=190,sh:=⟨[.el U.Type,.rp U.lU 0],[]⟩,R:=Bool,run:=fun x=>m x.1.1 x.1.2.1,dflt:=default,out:=fun r=>(Sh.enc D (.bool) r,aw.encs D [] ())}
def OY(cg:M.aa->(List Int)->Option (Bool)):Cx K:={aL with mode:=aG .plain [(177,.plain)],call:=callOf D [jQ cg],loop:=aF []}
theorem ab5(cg:M.aa->(List Int)->Option (Bool))(iG:(jQ cg).Ok D Tryz.prog):aD (OY cg):=aN ai _ (aj iG (ax))
theorem ab6(cg:M.aa->(List Int)->Option (Bool))(iG:(jQ cg).Ok D Tryz.prog):(GN (M.wa cg)).Ok D Tryz.prog:=
 aJ (cx:=OY cg) (c:=GN (M.wa cg)) (fz:=true) (fn:=Tryz.f190) ai (ab5 cg iG) ay ⟨Tryz.func190,by kernel_rfl⟩ (aK (aI (by kernel_rfl))) ⟨⟨[.bool],[]⟩,fun x=>x.1.1⟩ (fun x=>rfl) (fun x=>by kernel_rfl)
def OZ(y:(Int)⊕(Unit)){R:Type}(k:Ex->List (AV K)->List (Ob K)->R):R:=match y with
 |.inl a0=>k Ex.ret (az.bc D ⟨[.int .i64],[]⟩ ((a0,()),())) (az.bf D ⟨[.int .i64],[]⟩ ((a0,()),()))
 |.inr (a1)=>k (Ex.exit 0) (az.bc D ⟨[.any],[]⟩ (((),()),())) (az.bf D ⟨[.any],[]⟩ (((),()),()))
def ab7:List (bR K ((Int)⊕(Unit))):=[⟨Ex.ret,⟨[.int .i64],[]⟩,fun x=>.inl x.1.1⟩,⟨(Ex.exit 0),⟨[.any],[]⟩,fun x=>.inr (())⟩]
def O0(cg:M.aa->(List Int)->Option (Bool)):bJ K:=bT D false 19 0 [0,1,7,8] [4] ⟨[.an U.Type,.fn 190 [.rp U.lU 0],.int .i64,.int .i64],[]⟩ (fun x=>M.tC cg x.1.1 x.1.2.1.1 x.1.2.2.1 ah x.1.2.2.2.1) OZ
def GO(m:(List M.aa)->(List Int)->Option (Int)):aC K:={f:=161,sh:=⟨[.an U.Type,.fn 190 [.rp U.lU 0]],[]⟩,R:=Int,run:=fun x=>m x.1.1 x.1.2.1.1,dflt:=default,out:=fun r=>(Sh.enc D (.int .i64) r,aw.encs D [] ())}
def B8(cg:M.aa->(List Int)->Option (Bool)):Cx K:={aL with mode:=aG .plain [(190,.plain)],call:=callOf D [GN (M.wa cg)],loop:=aF [(2,O0 cg)]}
theorem O1(cg:M.aa->(List Int)->Option (Bool))(iG:(jQ cg).Ok D Tryz.prog):aD (B8 cg):=aN ai _ (aj (ab6 cg iG) (ax))
theorem ab8(cg:M.aa->(List Int)->Option (Bool))(iG:(jQ cg).Ok D Tryz.prog):bM (B8 cg) (bN (bS Tryz.f161) 0) (O0 cg):=
 bV (cx:=B8 cg) (n:=19) (n0:=0) (ins:=[0,1,7,8]) (outs:=[4]) (sh:=⟨[.an U.Type,.fn 190 [.rp U.lU 0],.int .i64,.int .i64],[]⟩) (run:=fun n x=>M.tC cg x.1.1 x.1.2.1.1 x.1.2.2.1 n x.1.2.2.2.1) (bP:=ab7) (out:=OZ) ai (O1 cg iG) ay (aI (by kernel_rfl)) (fun _=>rfl) (fun m x=>by kernel_rfl) (aj ⟨dP,fun _ _ _=>rfl⟩ (aj ⟨bW,fun _ _ _=>rfl⟩ (ax))) false ah
theorem ab9(cg:M.aa->(List Int)->Option (Bool))(iG:(jQ cg).Ok D Tryz.prog):(GO (M.zf cg)).Ok D Tryz.prog:=
 aJ (cx:=B8 cg) (c:=GO (M.zf cg)) (fz:=true) (fn:=Tryz.f161) ai (O1 cg iG) ay ⟨Tryz.func161,by kernel_rfl⟩ (aK (bX 1 (by kernel_rfl) (bZ (.mk (by kernel_rfl) (ab8 cg iG))))) ⟨⟨[.int .i64],[]⟩,fun x=>x.1.1⟩ (fun x=>rfl) (fun x=>by kernel_rfl)
def GQ(m:(List M.aa)->(List Int)->Option (Bool)):aC K:={f:=134,sh:=⟨[.an U.Type,.fn 190 [.rp U.lU 0]],[]⟩,R:=Bool,run:=fun x=>m x.1.1 x.1.2.1.1,dflt:=default,out:=fun r=>(Sh.enc D (.bool) r,aw.encs D [] ())}
def O2(cg:M.aa->(List Int)->Option (Bool)):Cx K:={aL with mode:=aG .plain [(161,.plain)],call:=callOf D [GO (M.zf cg)],loop:=aF []}
theorem aca(cg:M.aa->(List Int)->Option (Bool))(iG:(jQ cg).Ok D Tryz.prog):aD (O2 cg):=aN ai _ (aj (ab9 cg iG) (ax))
theorem acb(cg:M.aa->(List Int)->Option (Bool))(iG:(jQ cg).Ok D Tryz.prog):(GQ (M.wb cg)).Ok D Tryz.prog:=
 aJ (cx:=O2 cg) (c:=GQ (M.wb cg)) (fz:=true) (fn:=Tryz.f134) ai (aca cg iG) ay ⟨Tryz.func134,by kernel_rfl⟩ (aK (aI (by kernel_rfl))) ⟨⟨[.bool],[]⟩,fun x=>x.1.1⟩ (fun x=>rfl) (fun x=>by kernel_rfl)
def O3(cg:M.aa->(List Int)->Option (Bool)):Cx K:={aL with mode:=aG .plain [(189,.plain),(134,.plain)],call:=callOf D [GM M.v8,GQ (M.wb cg)],loop:=aF []}
theorem acd(cg:M.aa->(List Int)->Option (Bool))(iG:(jQ cg).Ok D Tryz.prog):aD (O3 cg):=aN ai _ (aj ab4 (aj (acb cg iG) (ax)))
theorem ace(cg:M.aa->(List Int)->Option (Bool))(iG:(jQ cg).Ok D Tryz.prog):(jQ (M.zg cg)).Ok D Tryz.prog:=
 aJ (cx:=O3 cg) (c:=jQ (M.zg cg)) (fz:=true) (fn:=Tryz.f177) ai (acd cg iG) ay ⟨Tryz.func177,by kernel_rfl⟩ (aK (aI (by kernel_rfl))) ⟨⟨[.bool],[]⟩,fun x=>x.1.1⟩ (fun x=>rfl) (fun x=>by kernel_rfl)
theorem O4:∀n,(jQ (M.nF n)).Ok D Tryz.prog
 |0=>dZ fun _=>rfl
 |n+1=>ace (M.nF n) (O4 n)
theorem acf:(jQ (M.tD)).Ok D Tryz.prog:=O4 ah
def O5(cb:M.aa->Option (Bool)):Cx K:={aL with mode:=aG .plain [(134,.plain),(133,.plain),(174,.plain),(175,.plain),(176,.plain),(152,.plain),(138,.plain),(177,.plain)],call:=callOf D [Gv (M.tw cb),ri M.rj,Gz M.vZ,BX M.rl,GK M.pv,zb M.zc,vV M.vW,jQ M.tD],loop:=aF []}
theorem acg(cb:M.aa->Option (Bool))(iF:(jP cb).Ok D Tryz.prog):aD (O5 cb):=aN ai _ (aj (abA cb iF) (aj vU (aj abP (aj OF (aj abY (aj GG (aj BW (aj acf (ax)))))))))
theorem ach(cb:M.aa->Option (Bool))(iF:(jP cb).Ok D Tryz.prog):(jP (M.wc cb)).Ok D Tryz.prog:=
 aJ (cx:=O5 cb) (c:=jP (M.wc cb)) (fz:=true) (fn:=Tryz.f164) ai (acg cb iF) ay ⟨Tryz.func164,by kernel_rfl⟩ (aK (aI (by kernel_rfl))) ⟨⟨[.bool],[]⟩,fun x=>x.1.1⟩ (fun x=>rfl) (fun x=>by kernel_rfl)
theorem O6:∀n,(jP (M.pw n)).Ok D Tryz.prog
 |0=>dZ fun _=>rfl
 |n+1=>ach (M.pw n) (O6 n)
theorem aci:(jP (M.B9)).Ok D Tryz.prog:=O6 ah
def GR(m:M.aa->Option (Bool)):aC K:={f:=121,sh:=⟨[.el U.Type],[]⟩,R:=Bool,run:=fun x=>m x.1.1,dflt:=default,out:=fun r=>(Sh.enc D (.bool) r,aw.encs D [] ())}
def O7:Cx K:={aL with mode:=aG .plain [(156,.plain),(157,.plain)],call:=callOf D [pj M.BJ,pq M.BP],loop:=aF []}
theorem acj:aD (O7):=aN ai _ (aj aaX (aj abk (ax)))
theorem ack:(GR (M.we)).Ok D Tryz.prog:=
 aJ (cx:=O7) (c:=GR (M.we)) (fz:=true) (fn:=Tryz.f121) ai (acj) ay ⟨Tryz.func121,by kernel_rfl⟩ (aK (aI (by kernel_rfl))) ⟨⟨[.bool],[]⟩,fun x=>x.1.1⟩ (fun x=>rfl) (fun x=>by kernel_rfl)
def GU(m:M.aa->Option (Bool)):aC K:={f:=78,sh:=⟨[.el U.Type],[]⟩,R:=Bool,run:=fun x=>m x.1.1,dflt:=default,out:=fun r=>(Sh.enc D (.bool) r,aw.encs D [] ())}
def O8:Cx K:={aL with mode:=aG .plain [(121,.plain)],call:=callOf D [GR M.we],loop:=aF []}
theorem acm:aD (O8):=aN ai _ (aj ack (ax))
theorem acn:(GU (M.wh)).Ok D Tryz.prog:=
 aJ (cx:=O8) (c:=GU (M.wh)) (fz:=true) (fn:=Tryz.f78) ai (acm) ay ⟨Tryz.func78,by kernel_rfl⟩ (aK (aI (by kernel_rfl))) ⟨⟨[.bool],[]⟩,fun x=>x.1.1⟩ (fun x=>rfl) (fun x=>by kernel_rfl)
def iH(m:M.ae->M.aa->Option (Bool)):aC K:={f:=79,sh:=⟨[.el U.Value,.el U.Type],[]⟩,R:=Bool,run:=fun x=>m x.1.1 x.1.2.1,dflt:=default,out:=fun r=>(Sh.enc D (.bool) r,aw.encs D [] ())}
def GV(m:(List M.ae)->M.aa->Option (Bool)):aC K:={f:=126,sh:=⟨[.an U.Value,.el U.Type],[]⟩,R:=Bool,run:=fun x=>m x.1.1 x.1.2.1,dflt:=default,out:=fun r=>(Sh.enc D (.bool) r,aw.encs D [] ())}
def O9(bz:M.ae->M.aa->Option (Bool)):Cx K:={aL with mode:=aG .plain [(79,.plain)],call:=callOf D [iH bz],loop:=aF []}
theorem aco(bz:M.ae->M.aa->Option (Bool))(fL:(iH bz).Ok D Tryz.prog):aD (O9 bz):=aN ai _ (aj fL (ax))
theorem acp(bz:M.ae->M.aa->Option (Bool))(fL:(iH bz).Ok D Tryz.prog):(GV (M.tG bz)).Ok D Tryz.prog:=
 aJ (cx:=O9 bz) (c:=GV (M.tG bz)) (fz:=true) (fn:=Tryz.f126) ai (aco bz fL) ay ⟨Tryz.func126,by kernel_rfl⟩ (aK (aI (by kernel_rfl))) ⟨⟨[.bool],[]⟩,fun x=>x.1.1⟩ (fun x=>rfl) (fun x=>by kernel_rfl)
def Pe(y:(Bool)⊕(Unit)){R:Type}(k:Ex->List (AV K)->List (Ob K)->R):R:=match y with
 |.inl a0=>k Ex.ret (az.bc D ⟨[.bool],[.dead]⟩ ((a0,()),((),()))) (az.bf D ⟨[.bool],[.dead]⟩ ((a0,()),((),())))
 |.inr (a1)=>k (Ex.exit 0) (az.bc D ⟨[.any],[.dead]⟩ (((),()),((),()))) (az.bf D ⟨[.any],[.dead]⟩ (((),()),((),())))
def acr:List (bR K ((Bool)⊕(Unit))):=[⟨Ex.ret,⟨[.bool],[.dead]⟩,fun x=>.inl x.1.1⟩,⟨(Ex.exit 0),⟨[.any],[.dead]⟩,fun x=>.inr (())⟩]
def Pg(bz:M.ae->M.aa->Option (Bool)):bJ K:=bT D false 25 1 [0,5,7] [6] ⟨[.an U.Value,.ptr 0 0,.int .i64],[.el U.Type]⟩ (fun x=>M.nG bz x.1.1 ah x.1.2.2.1 x.2.1) Pe
def GX(m:(List M.ae)->Int->M.aa->Option (Bool)):aC K:={f:=122,sh:=⟨[.an U.Value,.int .i64,.el U.Type],[]⟩,R:=Bool,run:=fun x=>m x.1.1 x.1.2.1 x.1.2.2.1,dflt:=default,out:=fun r=>(Sh.enc D (.bool) r,aw.encs D [] ())}
def Cb(bz:M.ae->M.aa->Option (Bool)):Cx K:={aL with mode:=aG .plain [(79,.plain)],call:=callOf D [iH bz],loop:=aF [(4,Pg bz)]}
theorem Ph(bz:M.ae->M.aa->Option (Bool))(fL:(iH bz).Ok D Tryz.prog):aD (Cb bz):=aN ai _ (aj fL (ax))
theorem acs(bz:M.ae->M.aa->Option (Bool))(fL:(iH bz).Ok D Tryz.prog):bM (Cb bz) (bN (bS Tryz.f122) 0) (Pg bz):=
 bV (cx:=Cb bz) (n:=25) (n0:=1) (ins:=[0,5,7]) (outs:=[6]) (sh:=⟨[.an U.Value,.ptr 0 0,.int .i64],[.el U.Type]⟩) (run:=fun n x=>M.nG bz x.1.1 n x.1.2.2.1 x.2.1) (bP:=acr) (out:=Pe) ai (Ph bz fL) ay (aI (by kernel_rfl)) (fun _=>rfl) (fun m x=>by kernel_rfl) (aj ⟨dP,fun _ _ _=>rfl⟩ (aj ⟨bW,fun _ _ _=>rfl⟩ (ax))) false ah
theorem acu(bz:M.ae->M.aa->Option (Bool))(fL:(iH bz).Ok D Tryz.prog):(GX (M.tH bz)).Ok D Tryz.prog:=
 aJ (cx:=Cb bz) (c:=GX (M.tH bz)) (fz:=true) (fn:=Tryz.f122) ai (Ph bz fL) ay ⟨Tryz.func122,by kernel_rfl⟩ (aK (bX 1 (by kernel_rfl) (bZ (.mk (by kernel_rfl) (acs bz fL))))) ⟨⟨[.bool],[]⟩,fun x=>x.1.1⟩ (fun x=>rfl) (fun x=>by kernel_rfl)
def Cc(m:Int->Option (Bool)):aC K:={f:=123,sh:=⟨[.int .i64],[]⟩,R:=Bool,run:=fun x=>m x.1.1,dflt:=default,out:=fun r=>(Sh.enc D (.bool) r,aw.encs D [] ())}
def Pj:Cx K:={aL with mode:=aG .plain [(120,.plain)],call:=callOf D [qT M.qU],loop:=aF []}
theorem acv:aD (Pj):=aN ai _ (aj vL (ax))
theorem Pl:(Cc (M.jv)).Ok D Tryz.prog:=
 aJ (cx:=Pj) (c:=Cc (M.jv)) (fz:=true) (fn:=Tryz.f123) ai (acv) ay ⟨Tryz.func123,by kernel_rfl⟩ (aK (aI (by kernel_rfl))) ⟨⟨[.bool],[]⟩,fun x=>x.1.1⟩ (fun x=>rfl) (fun x=>by kernel_rfl)
def Pm(y:(List UInt8)×Int×Int){R:Type}(k:Ex->List (AV K)->List (Ob K)->R):R:=match y with
 |a0=>k (Ex.exit 1) (az.bc D ⟨[.str,.int .i64,.int .i64],[]⟩ ((a0.1,(a0.2.1,(a0.2.2,()))),())) (az.bf D ⟨[.str,.int .i64,.int .i64],[]⟩ ((a0.1,(a0.2.1,(a0.2.2,()))),()))
def acw:List (bR K ((List UInt8)×Int×Int)):=[⟨(Ex.exit 1),⟨[.str,.int .i64,.int .i64],[]⟩,fun x=>(x.1.1,x.1.2.1,x.1.2.2.1)⟩]
def Pn:bJ K:=bT D false 66 0 [0,4,5,6] [0,4,5] ⟨[.str,.int .i64,.int .i64,.int .i64],[]⟩ (fun x=>M.rn x.1.1 x.1.2.1 ah x.1.2.2.1 x.1.2.2.2.1) Pm
def GY(m:Int->Option ((List UInt8))):aC K:={f:=185,sh:=⟨[.int .i64],[]⟩,R:=(List UInt8),run:=fun x=>m x.1.1,dflt:=default,out:=fun r=>(Sh.enc D (.str) r,aw.encs D [] ())}
def Po:Cx K:={aL with mode:=aG .plain [],call:=callOf D [],loop:=aF []}
theorem acx:aD (Po):=aN ai _ (ax)
theorem acy:(GY (M.px)).Ok D Tryz.prog:=
 aJ (cx:=Po) (c:=GY (M.px)) (fz:=true) (fn:=Tryz.f185) ai (acx) ay ⟨Tryz.func185,by kernel_rfl⟩ (aK (aI (by kernel_rfl))) ⟨⟨[.str],[]⟩,fun x=>x.1.1⟩ (fun x=>rfl) (fun x=>by kernel_rfl)
def GZ(m:(List UInt8)->Option (Int×Int)):aC K:={f:=171,sh:=⟨[.str],[]⟩,R:=Int×Int,run:=fun x=>m x.1.1,dflt:=default,out:=fun r=>(Sh.enc D (.aX [.int .i64,.int .i64]) (r.1,(r.2,())),aw.encs D [] ())}
def Cd:Cx K:={aL with mode:=aG .plain [(123,.plain),(185,.plain)],call:=callOf D [Cc M.jv,GY M.px],loop:=aF [(13,Pn)]}
theorem Pq:aD (Cd):=aN ai _ (aj Pl (aj acy (ax)))
theorem acz:bM (Cd) (bN (bS Tryz.f171) 0) (Pn):=
 bV (cx:=Cd) (n:=66) (n0:=0) (ins:=[0,4,5,6]) (outs:=[0,4,5]) (sh:=⟨[.str,.int .i64,.int .i64,.int .i64],[]⟩) (run:=fun n x=>M.rn x.1.1 x.1.2.1 n x.1.2.2.1 x.1.2.2.2.1) (bP:=acw) (out:=Pm) ai (Pq) ay (aI (by kernel_rfl)) (fun _=>rfl) (fun m x=>by kernel_rfl) (aj ⟨bW,fun _ _ _=>rfl⟩ (ax)) false ah
theorem acA:(GZ (M.wi)).Ok D Tryz.prog:=
 aJ (cx:=Cd) (c:=GZ (M.wi)) (fz:=true) (fn:=Tryz.f171) ai (Pq) ay ⟨Tryz.func171,by kernel_rfl⟩ (aK (bX 1 (by kernel_rfl) (bZ (.mk (by kernel_rfl) (acz))))) ⟨⟨[.aX [.int .i64,.int .i64]],[]⟩,fun x=>(x.1.1.1,x.1.1.2.1)⟩ (fun x=>rfl) (fun x=>by kernel_rfl)
def Pv(y:(Bool×(List Int))⊕((List Int))){R:Type}(k:Ex->List (AV K)->List (Ob K)->R):R:=match y with
 |.inl a0=>k Ex.ret (az.bc D ⟨[.any,.own 2,.bool],[.dead,.dead,.arr U.i64]⟩ (((),((),(a0.1,()))),((),((),(a0.2,()))))) (az.bf D ⟨[.any,.own 2,.bool],[.dead,.dead,.arr U.i64]⟩ (((),((),(a0.1,()))),((),((),(a0.2,())))))
 |.inr (a1)=>k (Ex.exit 0) (az.bc D ⟨[.own 1,.any,.any],[.dead,.arr U.i64]⟩ (((),((),((),()))),((),(a1,())))) (az.bf D ⟨[.own 1,.any,.any],[.dead,.arr U.i64]⟩ (((),((),((),()))),((),(a1,()))))
def acB:List (bR K ((Bool×(List Int))⊕((List Int)))):=[⟨Ex.ret,⟨[.any,.own 2,.bool],[.dead,.dead,.arr U.i64]⟩,fun x=>.inl (x.1.2.2.1,x.2.2.2.1)⟩,⟨(Ex.exit 0),⟨[.own 1,.any,.any],[.dead,.arr U.i64]⟩,fun x=>.inr (x.2.2.1)⟩]
def Px:bJ K:=bT D false 26 1 [0,4] [4,2,3] ⟨[.str,.own 1],[.dead,.arr U.i64]⟩ (fun x=>M.py ah x.1.1 x.2.2.1) Pv
def Ce(m:(List UInt8)->Option ((List Int)×Bool)):aC K:={f:=158,sh:=⟨[.str],[]⟩,R:=(List Int)×Bool,run:=fun x=>m x.1.1,dflt:=default,out:=fun r=>(Sh.enc D (.aX [.an U.i64,.bool]) (r.1,(r.2,())),aw.encs D [] ())}
def Cf:Cx K:={aL with mode:=aG .plain [(171,.plain)],call:=callOf D [GZ M.wi],loop:=aF [(2,Px)]}
theorem Py:aD (Cf):=aN ai _ (aj acA (ax))
theorem acC:bM (Cf) (bN (bS Tryz.f158) 0) (Px):=
 bV (cx:=Cf) (n:=26) (n0:=1) (ins:=[0,4]) (outs:=[4,2,3]) (sh:=⟨[.str,.own 1],[.dead,.arr U.i64]⟩) (run:=fun n x=>M.py n x.1.1 x.2.2.1) (bP:=acB) (out:=Pv) ai (Py) ay (aI (by kernel_rfl)) (fun _=>rfl) (fun m x=>by kernel_rfl) (aj ⟨dP,fun _ _ _=>rfl⟩ (aj ⟨bW,fun _ _ _=>rfl⟩ (ax))) false ah
theorem Pz:(Ce (M.nH)).Ok D Tryz.prog:=
 aJ (cx:=Cf) (c:=Ce (M.nH)) (fz:=true) (fn:=Tryz.f158) ai (Py) ay ⟨Tryz.func158,by kernel_rfl⟩ (aK (bX 1 (by kernel_rfl) (bZ (.mk (by kernel_rfl) (acC))))) ⟨⟨[.aX [.an U.i64,.bool]],[]⟩,fun x=>(x.1.1.1,x.1.1.2.1)⟩ (fun x=>rfl) (fun x=>by kernel_rfl)
def G0(m:(List UInt8)->Option (Bool)):aC K:={f:=124,sh:=⟨[.str],[]⟩,R:=Bool,run:=fun x=>m x.1.1,dflt:=default,out:=fun r=>(Sh.enc D (.bool) r,aw.encs D [] ())}
def PC:Cx K:={aL with mode:=aG .plain [(158,.dI)],call:=callOf D [Ce M.nH],loop:=aF []}
theorem acD:aD (PC):=aN ai _ (aj Pz (ax))
theorem acE:(G0 (M.wj)).Ok D Tryz.prog:=
 aJ (cx:=PC) (c:=G0 (M.wj)) (fz:=true) (fn:=Tryz.f124) ai (acD) ay ⟨Tryz.func124,by kernel_rfl⟩ (aK (aI (by kernel_rfl))) ⟨⟨[.bool],[]⟩,fun x=>x.1.1⟩ (fun x=>rfl) (fun x=>by kernel_rfl)
def PD(y:(Bool)⊕(Unit)){R:Type}(k:Ex->List (AV K)->List (Ob K)->R):R:=match y with
 |.inl a0=>k Ex.ret (az.bc D ⟨[.bool],[]⟩ ((a0,()),())) (az.bf D ⟨[.bool],[]⟩ ((a0,()),()))
 |.inr (a1)=>k (Ex.exit 0) (az.bc D ⟨[.any],[]⟩ (((),()),())) (az.bf D ⟨[.any],[]⟩ (((),()),()))
def acF:List (bR K ((Bool)⊕(Unit))):=[⟨Ex.ret,⟨[.bool],[]⟩,fun x=>.inl x.1.1⟩,⟨(Ex.exit 0),⟨[.any],[]⟩,fun x=>.inr (())⟩]
def PE(bz:M.ae->M.aa->Option (Bool)):bJ K:=bT D false 27 0 [0,1,5] [4] ⟨[.an U.Value,.an U.Type,.int .i64],[]⟩ (fun x=>M.nI bz x.1.1 x.1.2.1 ah x.1.2.2.1) PD
def G1(m:(List M.ae)->(List M.aa)->Option (Bool)):aC K:={f:=68,sh:=⟨[.an U.Value,.an U.Type],[]⟩,R:=Bool,run:=fun x=>m x.1.1 x.1.2.1,dflt:=default,out:=fun r=>(Sh.enc D (.bool) r,aw.encs D [] ())}
def Ci(bz:M.ae->M.aa->Option (Bool)):Cx K:={aL with mode:=aG .plain [(79,.plain)],call:=callOf D [iH bz],loop:=aF [(4,PE bz)]}
theorem PG(bz:M.ae->M.aa->Option (Bool))(fL:(iH bz).Ok D Tryz.prog):aD (Ci bz):=aN ai _ (aj fL (ax))
theorem acG(bz:M.ae->M.aa->Option (Bool))(fL:(iH bz).Ok D Tryz.prog):bM (Ci bz) (bN (bS Tryz.f68) 0) (PE bz):=
 bV (cx:=Ci bz) (n:=27) (n0:=0) (ins:=[0,1,5]) (outs:=[4]) (sh:=⟨[.an U.Value,.an U.Type,.int .i64],[]⟩) (run:=fun n x=>M.nI bz x.1.1 x.1.2.1 n x.1.2.2.1) (bP:=acF) (out:=PD) ai (PG bz fL) ay (aI (by kernel_rfl)) (fun _=>rfl) (fun m x=>by kernel_rfl) (aj ⟨dP,fun _ _ _=>rfl⟩ (aj ⟨bW,fun _ _ _=>rfl⟩ (ax))) false ah
theorem acH(bz:M.ae->M.aa->Option (Bool))(fL:(iH bz).Ok D Tryz.prog):(G1 (M.wk bz)).Ok D Tryz.prog:=
 aJ (cx:=Ci bz) (c:=G1 (M.wk bz)) (fz:=true) (fn:=Tryz.f68) ai (PG bz fL) ay ⟨Tryz.func68,by kernel_rfl⟩ (aK (bX 1 (by kernel_rfl) (bZ (.mk (by kernel_rfl) (acG bz fL))))) ⟨⟨[.bool],[]⟩,fun x=>x.1.1⟩ (fun x=>rfl) (fun x=>by kernel_rfl)
def G2(m:Int->Option (Int×Int×Bool)):aC K:={f:=125,sh:=⟨[.int .i64],[]⟩,R:=Int×Int×Bool,run:=fun x=>m x.1.1,dflt:=default,out:=fun r=>(Sh.enc D (.aX [.int .i64,.int .i64,.bool]) (r.1,(r.2.1,(r.2.2,()))),aw.encs D [] ())}
def PH:Cx K:={aL with mode:=aG .plain [],call:=callOf D [],loop:=aF []}
theorem acI:aD (PH):=aN ai _ (ax)
theorem acJ:(G2 (M.zh)).Ok D Tryz.prog:=
 aJ (cx:=PH) (c:=G2 (M.zh)) (fz:=true) (fn:=Tryz.f125) ai (acI) ay ⟨Tryz.func125,by kernel_rfl⟩ (aK (aI (by kernel_rfl))) ⟨⟨[.aX [.int .i64,.int .i64,.bool]],[]⟩,fun x=>(x.1.1.1,x.1.1.2.1,x.1.1.2.2.1)⟩ (fun x=>rfl) (fun x=>by kernel_rfl)
def PI(bz:M.ae->M.aa->Option (Bool)):Cx K:={aL with mode:=aG .plain [(122,.plain),(123,.plain),(124,.plain),(68,.plain),(125,.plain),(120,.plain),(126,.plain)],call:=callOf D [qT M.qU,GV (M.tG bz),GX (M.tH bz),Cc M.jv,G0 M.wj,G1 (M.wk bz),G2 M.zh],loop:=aF []}
theorem acK(bz:M.ae->M.aa->Option (Bool))(fL:(iH bz).Ok D Tryz.prog):aD (PI bz):=aN ai _ (aj vL (aj (acp bz fL) (aj (acu bz fL) (aj Pl (aj acE (aj (acH bz fL) (aj acJ (ax))))))))
theorem acL(bz:M.ae->M.aa->Option (Bool))(fL:(iH bz).Ok D Tryz.prog):(iH (M.pz bz)).Ok D Tryz.prog:=
 aJ (cx:=PI bz) (c:=iH (M.pz bz)) (fz:=true) (fn:=Tryz.f79) ai (acK bz fL) ay ⟨Tryz.func79,by kernel_rfl⟩ (aK (aI (by kernel_rfl))) ⟨⟨[.bool],[]⟩,fun x=>x.1.1⟩ (fun x=>rfl) (fun x=>by kernel_rfl)
theorem PK:∀n,(iH (M.tI n)).Ok D Tryz.prog
 |0=>dZ fun _=>rfl
 |n+1=>acL (M.tI n) (PK n)
theorem acM:(iH (M.Cj)).Ok D Tryz.prog:=PK ah
def zi(m:M.ae->M.aa->Option (Bool)):aC K:={f:=42,sh:=⟨[.el U.Value,.el U.Type],[]⟩,R:=Bool,run:=fun x=>m x.1.1 x.1.2.1,dflt:=default,out:=fun r=>(Sh.enc D (.bool) r,aw.encs D [] ())}
def PL:Cx K:={aL with mode:=aG .plain [(78,.plain),(79,.plain)],call:=callOf D [GU M.wh,iH M.Cj],loop:=aF []}
theorem acN:aD (PL):=aN ai _ (aj acn (aj acM (ax)))
theorem G3:(zi (M.rq)).Ok D Tryz.prog:=
 aJ (cx:=PL) (c:=zi (M.rq)) (fz:=true) (fn:=Tryz.f42) ai (acN) ay ⟨Tryz.func42,by kernel_rfl⟩ (aK (aI (by kernel_rfl))) ⟨⟨[.bool],[]⟩,fun x=>x.1.1⟩ (fun x=>rfl) (fun x=>by kernel_rfl)
def G4(m:M.aa->Option (Bool)):aC K:={f:=136,sh:=⟨[.el U.Type],[]⟩,R:=Bool,run:=fun x=>m x.1.1,dflt:=default,out:=fun r=>(Sh.enc D (.bool) r,aw.encs D [] ())}
def PM:Cx K:={aL with mode:=aG .plain [(162,.plain),(163,.plain),(164,.plain)],call:=callOf D [pr M.BR,pt M.BU,jP M.B9],loop:=aF []}
theorem acO:aD (PM):=aN ai _ (aj abo (aj abt (aj aci (ax))))
theorem acP:(G4 (M.wo)).Ok D Tryz.prog:=
 aJ (cx:=PM) (c:=G4 (M.wo)) (fz:=true) (fn:=Tryz.f136) ai (acO) ay ⟨Tryz.func136,by kernel_rfl⟩ (aK (aI (by kernel_rfl))) ⟨⟨[.bool],[]⟩,fun x=>x.1.1⟩ (fun x=>rfl) (fun x=>by kernel_rfl)
def Cm(m:(List M.ae)->Option (Int)):aC K:={f:=150,sh:=⟨[.an U.Value],[]⟩,R:=Int,run:=fun x=>m x.1.1,dflt:=default,out:=fun r=>(Sh.enc D (.int .i64) r,aw.encs D [] ())}
def PN:Cx K:={aL with mode:=aG .plain [],call:=callOf D [],loop:=aF []}
theorem acQ:aD (PN):=aN ai _ (ax)
theorem PO:(Cm (M.CB)).Ok D Tryz.prog:=
 aJ (cx:=PN) (c:=Cm (M.CB)) (fz:=true) (fn:=Tryz.f150) ai (acQ) ay ⟨Tryz.func150,by kernel_rfl⟩ (aK (aI (by kernel_rfl))) ⟨⟨[.int .i64],[]⟩,fun x=>x.1.1⟩ (fun x=>rfl) (fun x=>by kernel_rfl)
def CC(m:Int->Option (Int×Int×Bool)):aC K:={f:=108,sh:=⟨[.int .i64],[]⟩,R:=Int×Int×Bool,run:=fun x=>m x.1.1,dflt:=default,out:=fun r=>(Sh.enc D (.aX [.int .i64,.int .i64,.bool]) (r.1,(r.2.1,(r.2.2,()))),aw.encs D [] ())}
def PQ:Cx K:={aL with mode:=aG .plain [],call:=callOf D [],loop:=aF []}
theorem acR:aD (PQ):=aN ai _ (ax)
theorem PR:(CC (M.nJ)).Ok D Tryz.prog:=
 aJ (cx:=PQ) (c:=CC (M.nJ)) (fz:=true) (fn:=Tryz.f108) ai (acR) ay ⟨Tryz.func108,by kernel_rfl⟩ (aK (aI (by kernel_rfl))) ⟨⟨[.aX [.int .i64,.int .i64,.bool]],[]⟩,fun x=>(x.1.1.1,x.1.1.2.1,x.1.1.2.2.1)⟩ (fun x=>rfl) (fun x=>by kernel_rfl)
def G5(m:Int->Option (Bool)):aC K:={f:=137,sh:=⟨[.int .i64],[]⟩,R:=Bool,run:=fun x=>m x.1.1,dflt:=default,out:=fun r=>(Sh.enc D (.bool) r,aw.encs D [] ())}
def PS:Cx K:={aL with mode:=aG .plain [(133,.plain)],call:=callOf D [ri M.rj],loop:=aF []}
theorem acS:aD (PS):=aN ai _ (aj vU (ax))
theorem acT:(G5 (M.CE)).Ok D Tryz.prog:=
 aJ (cx:=PS) (c:=G5 (M.CE)) (fz:=true) (fn:=Tryz.f137) ai (acS) ay ⟨Tryz.func137,by kernel_rfl⟩ (aK (aI (by kernel_rfl))) ⟨⟨[.bool],[]⟩,fun x=>x.1.1⟩ (fun x=>rfl) (fun x=>by kernel_rfl)
def G6(m:M.ae->M.aa->Option (Bool)):aC K:={f:=91,sh:=⟨[.el U.Value,.el U.Type],[]⟩,R:=Bool,run:=fun x=>m x.1.1 x.1.2.1,dflt:=default,out:=fun r=>(Sh.enc D (.bool) r,aw.encs D [] ())}
def PT:Cx K:={aL with mode:=aG .plain [(108,.plain),(137,.plain),(138,.plain),(133,.plain)],call:=callOf D [ri M.rj,CC M.nJ,G5 M.CE,vV M.vW],loop:=aF []}
theorem acU:aD (PT):=aN ai _ (aj vU (aj PR (aj acT (aj BW (ax)))))
theorem acV:(G6 (M.wq)).Ok D Tryz.prog:=
 aJ (cx:=PT) (c:=G6 (M.wq)) (fz:=true) (fn:=Tryz.f91) ai (acU) ay ⟨Tryz.func91,by kernel_rfl⟩ (aK (aI (by kernel_rfl))) ⟨⟨[.bool],[]⟩,fun x=>x.1.1⟩ (fun x=>rfl) (fun x=>by kernel_rfl)
def G7(m:(List UInt8)->Option (Bool)):aC K:={f:=92,sh:=⟨[.str],[]⟩,R:=Bool,run:=fun x=>m x.1.1,dflt:=default,out:=fun r=>(Sh.enc D (.bool) r,aw.encs D [] ())}
def PU:Cx K:={aL with mode:=aG .plain [(139,.plain)],call:=callOf D [G8 M.ru],loop:=aF []}
theorem acW:aD (PU):=aN ai _ (aj acX (ax))
theorem acY:(G7 (M.wu)).Ok D Tryz.prog:=
 aJ (cx:=PU) (c:=G7 (M.wu)) (fz:=true) (fn:=Tryz.f92) ai (acW) ay ⟨Tryz.func92,by kernel_rfl⟩ (aK (aI (by kernel_rfl))) ⟨⟨[.bool],[]⟩,fun x=>x.1.1⟩ (fun x=>rfl) (fun x=>by kernel_rfl)
def zj(m:M.aa->Int->Option (M.aa×Bool)):aC K:={f:=102,sh:=⟨[.el U.Type,.int .i64],[]⟩,R:=M.aa×Bool,run:=fun x=>m x.1.1 x.1.2.1,dflt:=default,out:=fun r=>(Sh.enc D (.aX [.el U.Type,.bool]) (r.1,(r.2,())),aw.encs D [] ())}
def PV:Cx K:={aL with mode:=aG .plain [(152,.plain),(133,.plain)],call:=callOf D [zb M.zc,ri M.rj],loop:=aF []}
theorem acZ:aD (PV):=aN ai _ (aj GG (aj vU (ax)))
theorem G9:(zj (M.k7)).Ok D Tryz.prog:=
 aJ (cx:=PV) (c:=zj (M.k7)) (fz:=true) (fn:=Tryz.f102) ai (acZ) ay ⟨Tryz.func102,by kernel_rfl⟩ (aK (aI (by kernel_rfl))) ⟨⟨[.aX [.el U.Type,.bool]],[]⟩,fun x=>(x.1.1.1,x.1.1.2.1)⟩ (fun x=>rfl) (fun x=>by kernel_rfl)
def Ha(m:M.ae->M.aa->Option ((List M.aa)×Bool)):aC K:={f:=93,sh:=⟨[.el U.Value,.el U.Type],[]⟩,R:=(List M.aa)×Bool,run:=fun x=>m x.1.1 x.1.2.1,dflt:=default,out:=fun r=>(Sh.enc D (.aX [.an U.Type,.bool]) (r.1,(r.2,())),aw.encs D [] ())}
def PW:Cx K:={aL with mode:=aG .plain [(140,.dI),(102,.dI),(141,.plain)],call:=callOf D [He M.rx,zj M.k7,B0 M.B5],loop:=aF []}
theorem ac0:aD (PW):=aN ai _ (aj ac1 (aj G9 (aj OO (ax))))
theorem ac2:(Ha (M.wv)).Ok D Tryz.prog:=
 aJ (cx:=PW) (c:=Ha (M.wv)) (fz:=true) (fn:=Tryz.f93) ai (ac0) ay ⟨Tryz.func93,by kernel_rfl⟩ (aK (aI (by kernel_rfl))) ⟨⟨[.aX [.an U.Type,.bool]],[]⟩,fun x=>(x.1.1.1,x.1.1.2.1)⟩ (fun x=>rfl) (fun x=>by kernel_rfl)
def pA(m:M.ae->M.aa->Option (Bool)):aC K:={f:=50,sh:=⟨[.el U.Value,.el U.Type],[]⟩,R:=Bool,run:=fun x=>m x.1.1 x.1.2.1,dflt:=default,out:=fun r=>(Sh.enc D (.bool) r,aw.encs D [] ())}
def PX(y:(Bool)⊕(Unit)){R:Type}(k:Ex->List (AV K)->List (Ob K)->R):R:=match y with
 |.inl a0=>k Ex.ret (az.bc D ⟨[.bool],[]⟩ ((a0,()),())) (az.bf D ⟨[.bool],[]⟩ ((a0,()),()))
 |.inr (a1)=>k (Ex.exit 0) (az.bc D ⟨[.any],[]⟩ (((),()),())) (az.bf D ⟨[.any],[]⟩ (((),()),()))
def ac3:List (bR K ((Bool)⊕(Unit))):=[⟨Ex.ret,⟨[.bool],[]⟩,fun x=>.inl x.1.1⟩,⟨(Ex.exit 0),⟨[.any],[]⟩,fun x=>.inr (())⟩]
def PY(eL:M.ae->M.aa->Option (Bool)):bJ K:=bT D false 68 0 [5,53,54,55] [4] ⟨[.an U.Type,.an U.Value,.int .i64,.int .i64],[]⟩ (fun x=>M.nK eL x.1.1 x.1.2.1 x.1.2.2.1 ah x.1.2.2.2.1) PX
def CG(eL:M.ae->M.aa->Option (Bool)):Cx K:={aL with mode:=aG .plain [(91,.plain),(92,.plain),(93,.dI),(50,.plain)],call:=callOf D [G6 M.wq,G7 M.wu,Ha M.wv,pA eL],loop:=aF [(7,PY eL)]}
theorem PZ(eL:M.ae->M.aa->Option (Bool))(wy:(pA eL).Ok D Tryz.prog):aD (CG eL):=aN ai _ (aj acV (aj acY (aj ac2 (aj wy (ax)))))
theorem ac4(eL:M.ae->M.aa->Option (Bool))(wy:(pA eL).Ok D Tryz.prog):bM (CG eL) (bN (bS Tryz.f50) 0) (PY eL):=
 bV (cx:=CG eL) (n:=68) (n0:=0) (ins:=[5,53,54,55]) (outs:=[4]) (sh:=⟨[.an U.Type,.an U.Value,.int .i64,.int .i64],[]⟩) (run:=fun n x=>M.nK eL x.1.1 x.1.2.1 x.1.2.2.1 n x.1.2.2.2.1) (bP:=ac3) (out:=PX) ai (PZ eL wy) ay (aI (by kernel_rfl)) (fun _=>rfl) (fun m x=>by kernel_rfl) (aj ⟨dP,fun _ _ _=>rfl⟩ (aj ⟨bW,fun _ _ _=>rfl⟩ (ax))) false ah
theorem ac5(eL:M.ae->M.aa->Option (Bool))(wy:(pA eL).Ok D Tryz.prog):(pA (M.zk eL)).Ok D Tryz.prog:=
 aJ (cx:=CG eL) (c:=pA (M.zk eL)) (fz:=true) (fn:=Tryz.f50) ai (PZ eL wy) ay ⟨Tryz.func50,by kernel_rfl⟩ (aK (bX 1 (by kernel_rfl) (bZ (.mk (by kernel_rfl) (ac4 eL wy))))) ⟨⟨[.bool],[]⟩,fun x=>x.1.1⟩ (fun x=>rfl) (fun x=>by kernel_rfl)
theorem P0:∀n,(pA (M.nL n)).Ok D Tryz.prog
 |0=>dZ fun _=>rfl
 |n+1=>ac5 (M.nL n) (P0 n)
theorem ac6:(pA (M.CH)).Ok D Tryz.prog:=P0 ah
def P1(y:(List UInt8)){R:Type}(k:Ex->List (AV K)->List (Ob K)->R):R:=match y with
 |a0=>k (Ex.exit 0) (az.bc D ⟨[.str],[]⟩ ((a0,()),())) (az.bf D ⟨[.str],[]⟩ ((a0,()),()))
def ac7:List (bR K ((List UInt8))):=[⟨(Ex.exit 0),⟨[.str],[]⟩,fun x=>x.1.1⟩]
def P2:bJ K:=bT D false 20 0 [0,3] [3] ⟨[.int .i64,.str],[]⟩ (fun x=>M.tJ ah x.1.1 x.1.2.1) P1
def zl(m:Int->Option ((List UInt8))):aC K:={f:=75,sh:=⟨[.int .i64],[]⟩,R:=(List UInt8),run:=fun x=>m x.1.1,dflt:=default,out:=fun r=>(Sh.enc D (.str) r,aw.encs D [] ())}
def CJ:Cx K:={aL with mode:=aG .plain [],deep:=fun c=>dw (D.cells c (K.zero c)),call:=callOf D [],loop:=aF [(4,P2)]}
theorem P3:aD (CJ):=aN ai _ (ax)
theorem ac8:bM (CJ) (bN (bS Tryz.f75) 0) (P2):=
 bV (cx:=CJ) (n:=20) (n0:=0) (ins:=[0,3]) (outs:=[3]) (sh:=⟨[.int .i64,.str],[]⟩) (run:=fun n x=>M.tJ n x.1.1 x.1.2.1) (bP:=ac7) (out:=P1) ai (P3) ay (aI (by kernel_rfl)) (fun _=>rfl) (fun m x=>by kernel_rfl) (aj ⟨bW,fun _ _ _=>rfl⟩ (ax)) false ah
theorem Hg:(zl (M.lW)).Ok D Tryz.prog:=
 aJ (cx:=CJ) (c:=zl (M.lW)) (fz:=true) (fn:=Tryz.f75) ai (P3) ay ⟨Tryz.func75,by kernel_rfl⟩ (aK (bX 1 (by kernel_rfl) (bZ (.mk (by kernel_rfl) (ac8))))) ⟨⟨[.str],[]⟩,fun x=>x.1.1⟩ (fun x=>rfl) (fun x=>by kernel_rfl)
def P4(y:Int×(List (List UInt8))){R:Type}(k:Ex->List (AV K)->List (Ob K)->R):R:=match y with
 |a0=>k (Ex.exit 0) (az.bc D ⟨[.int .i64],[.arr U.str]⟩ ((a0.1,()),(a0.2,()))) (az.bf D ⟨[.int .i64],[.arr U.str]⟩ ((a0.1,()),(a0.2,())))
def ac9:List (bR K (Int×(List (List UInt8)))):=[⟨(Ex.exit 0),⟨[.int .i64],[.arr U.str]⟩,fun x=>(x.1.1,x.2.1)⟩]
def P5:bJ K:=bT D true 20 1 [0,1,5] [1] ⟨[.own 0,.int .i64,.int .i64],[.arr U.str]⟩ (fun x=>M.tK ah x.1.2.1 x.1.2.2.1 x.2.1) P4
def CL(m:Int->(List (List UInt8))->Option (Int×(List (List UInt8)))):aC K:={f:=58,sh:=⟨[.own 0,.int .i64],[.arr U.str]⟩,R:=Int×(List (List UInt8)),run:=fun x=>m x.1.2.1 x.2.1,dflt:=default,out:=fun r=>(Sh.enc D (.int .i64) r.1,aw.encs D [.arr U.str] (r.2,()))}
def CM:Cx K:={aL with mode:=aG .plain [(75,.plain)],deep:=fun c=>dw (D.cells c (K.zero c)),opn:=true,call:=callOf D [zl M.lW],loop:=aF [(2,P5)]}
theorem P6:aD (CM):=aN ai _ (aj Hg (ax))
theorem ada:bM (CM) (bN (bS Tryz.f58) 0) (P5):=
 bV (cx:=CM) (n:=20) (n0:=1) (ins:=[0,1,5]) (outs:=[1]) (sh:=⟨[.own 0,.int .i64,.int .i64],[.arr U.str]⟩) (run:=fun n x=>M.tK n x.1.2.1 x.1.2.2.1 x.2.1) (bP:=ac9) (out:=P4) ai (P6) ay (aI (by kernel_rfl)) (fun _=>rfl) (fun m x=>by kernel_rfl) (aj ⟨bW,fun _ _ _=>rfl⟩ (ax)) true ah
theorem P7:(CL (M.ry)).Ok D Tryz.prog:=
 aJ (cx:=CM) (c:=CL (M.ry)) (fz:=true) (fn:=Tryz.f58) ai (P6) ay ⟨Tryz.func58,by kernel_rfl⟩ (aK (bX 1 (by kernel_rfl) (bZ (.mk (by kernel_rfl) (ada))))) ⟨⟨[.int .i64],[.arr U.str]⟩,fun x=>(x.1.1,x.2.1)⟩ (fun x=>rfl) (fun x=>by kernel_rfl)
def pB(m:Int->(List M.aa)->Option (Int×(List M.aa))):aC K:={f:=37,sh:=⟨[.own 0,.int .i64],[.tree U.Type]⟩,R:=Int×(List M.aa),run:=fun x=>m x.1.2.1 x.2.1,dflt:=default,out:=fun r=>(Sh.enc D (.int .i64) r.1,aw.encs D [.tree U.Type] (r.2,()))}
def P8(y:Int×(List M.aa)){R:Type}(k:Ex->List (AV K)->List (Ob K)->R):R:=match y with
 |a0=>k (Ex.exit 0) (az.bc D ⟨[.int .i64],[.tree U.Type]⟩ ((a0.1,()),(a0.2,()))) (az.bf D ⟨[.int .i64],[.tree U.Type]⟩ ((a0.1,()),(a0.2,())))
def adb:List (bR K (Int×(List M.aa))):=[⟨(Ex.exit 0),⟨[.int .i64],[.tree U.Type]⟩,fun x=>(x.1.1,x.2.1)⟩]
def P9(eR:Int->(List M.aa)->Option (Int×(List M.aa))):bJ K:=bT D true 42 1 [0,1,5] [1] ⟨[.own 0,.int .i64,.int .i64],[.tree U.Type]⟩ (fun x=>M.tL eR ah x.1.2.1 x.1.2.2.1 x.2.1) P8
def CN(eR:Int->(List M.aa)->Option (Int×(List M.aa))):Cx K:={aL with mode:=aG .plain [(75,.plain),(58,.pass),(37,.pass)],deep:=fun c=>dw (D.cells c (K.zero c)),opn:=true,call:=callOf D [zl M.lW,CL M.ry,pB eR],loop:=aF [(2,P9 eR)]}
theorem Qa(eR:Int->(List M.aa)->Option (Int×(List M.aa)))(wz:(pB eR).Ok D Tryz.prog):aD (CN eR):=aN ai _ (aj Hg (aj P7 (aj wz (ax))))
theorem ade(eR:Int->(List M.aa)->Option (Int×(List M.aa)))(wz:(pB eR).Ok D Tryz.prog):bM (CN eR) (bN (bS Tryz.f37) 0) (P9 eR):=
 bV (cx:=CN eR) (n:=42) (n0:=1) (ins:=[0,1,5]) (outs:=[1]) (sh:=⟨[.own 0,.int .i64,.int .i64],[.tree U.Type]⟩) (run:=fun n x=>M.tL eR n x.1.2.1 x.1.2.2.1 x.2.1) (bP:=adb) (out:=P8) ai (Qa eR wz) ay (aI (by kernel_rfl)) (fun _=>rfl) (fun m x=>by kernel_rfl) (aj ⟨bW,fun _ _ _=>rfl⟩ (ax)) true ah
theorem adf(eR:Int->(List M.aa)->Option (Int×(List M.aa)))(wz:(pB eR).Ok D Tryz.prog):(pB (M.zm eR)).Ok D Tryz.prog:=
 aJ (cx:=CN eR) (c:=pB (M.zm eR)) (fz:=true) (fn:=Tryz.f37) ai (Qa eR wz) ay ⟨Tryz.func37,by kernel_rfl⟩ (aK (bX 1 (by kernel_rfl) (bZ (.mk (by kernel_rfl) (ade eR wz))))) ⟨⟨[.int .i64],[.tree U.Type]⟩,fun x=>(x.1.1,x.2.1)⟩ (fun x=>rfl) (fun x=>by kernel_rfl)
theorem Qb:∀n,(pB (M.tM n)).Ok D Tryz.prog
 |0=>dZ fun _=>rfl
 |n+1=>adf (M.tM n) (Qb n)
theorem adg:(pB (M.CO)).Ok D Tryz.prog:=Qb ah
def Hh(m:Int->(List UInt8)->Int->(List (List UInt8))->(List M.aa)->Option (Int×(List (List UInt8))×(List M.aa))):aC K:={f:=19,sh:=⟨[.agg [.int .i64,.str,.own 0,.own 1],.int .i64],[.arr U.str,.tree U.Type]⟩,R:=Int×(List (List UInt8))×(List M.aa),run:=fun x=>m x.1.1.1 x.1.1.2.1 x.1.2.1 x.2.1 x.2.2.1,dflt:=default,out:=fun r=>(Sh.enc D (.int .i64) r.1,aw.encs D [.arr U.str,.tree U.Type] (r.2.1,(r.2.2,())))}
def Qc:Cx K:={aL with mode:=aG .plain [(58,.pass),(37,.pass)],deep:=fun c=>dw (D.cells c (K.zero c)),opn:=true,call:=callOf D [CL M.ry,pB M.CO],loop:=aF []}
theorem adh:aD (Qc):=aN ai _ (aj P7 (aj adg (ax)))
theorem adi:(Hh (M.wA)).Ok D Tryz.prog:=
 aJ (cx:=Qc) (c:=Hh (M.wA)) (fz:=true) (fn:=Tryz.f19) ai (adh) ay ⟨Tryz.func19,by kernel_rfl⟩ (aK (aI (by kernel_rfl))) ⟨⟨[.int .i64],[.arr U.str,.tree U.Type]⟩,fun x=>(x.1.1,x.2.1,x.2.2.1)⟩ (fun x=>rfl) (fun x=>by kernel_rfl)
def pC(m:Int->(List M.ae)->Option (Int×(List M.ae))):aC K:={f:=38,sh:=⟨[.own 0,.int .i64],[.tree U.Value]⟩,R:=Int×(List M.ae),run:=fun x=>m x.1.2.1 x.2.1,dflt:=default,out:=fun r=>(Sh.enc D (.int .i64) r.1,aw.encs D [.tree U.Value] (r.2,()))}
def Qd(y:Int×(List M.ae)){R:Type}(k:Ex->List (AV K)->List (Ob K)->R):R:=match y with
 |a0=>k (Ex.exit 0) (az.bc D ⟨[.int .i64],[.tree U.Value]⟩ ((a0.1,()),(a0.2,()))) (az.bf D ⟨[.int .i64],[.tree U.Value]⟩ ((a0.1,()),(a0.2,())))
def adk:List (bR K (Int×(List M.ae))):=[⟨(Ex.exit 0),⟨[.int .i64],[.tree U.Value]⟩,fun x=>(x.1.1,x.2.1)⟩]
def Qe(eS:Int->(List M.ae)->Option (Int×(List M.ae))):bJ K:=bT D true 42 1 [0,1,5] [1] ⟨[.own 0,.int .i64,.int .i64],[.tree U.Value]⟩ (fun x=>M.tN eS ah x.1.2.1 x.1.2.2.1 x.2.1) Qd
def CP(eS:Int->(List M.ae)->Option (Int×(List M.ae))):Cx K:={aL with mode:=aG .plain [(75,.plain),(38,.pass)],deep:=fun c=>dw (D.cells c (K.zero c)),opn:=true,call:=callOf D [zl M.lW,pC eS],loop:=aF [(2,Qe eS)]}
theorem Qf(eS:Int->(List M.ae)->Option (Int×(List M.ae)))(wB:(pC eS).Ok D Tryz.prog):aD (CP eS):=aN ai _ (aj Hg (aj wB (ax)))
theorem adl(eS:Int->(List M.ae)->Option (Int×(List M.ae)))(wB:(pC eS).Ok D Tryz.prog):bM (CP eS) (bN (bS Tryz.f38) 0) (Qe eS):=
 bV (cx:=CP eS) (n:=42) (n0:=1) (ins:=[0,1,5]) (outs:=[1]) (sh:=⟨[.own 0,.int .i64,.int .i64],[.tree U.Value]⟩) (run:=fun n x=>M.tN eS n x.1.2.1 x.1.2.2.1 x.2.1) (bP:=adk) (out:=Qd) ai (Qf eS wB) ay (aI (by kernel_rfl)) (fun _=>rfl) (fun m x=>by kernel_rfl) (aj ⟨bW,fun _ _ _=>rfl⟩ (ax)) true ah
theorem adm(eS:Int->(List M.ae)->Option (Int×(List M.ae)))(wB:(pC eS).Ok D Tryz.prog):(pC (M.zn eS)).Ok D Tryz.prog:=
 aJ (cx:=CP eS) (c:=pC (M.zn eS)) (fz:=true) (fn:=Tryz.f38) ai (Qf eS wB) ay ⟨Tryz.func38,by kernel_rfl⟩ (aK (bX 1 (by kernel_rfl) (bZ (.mk (by kernel_rfl) (adl eS wB))))) ⟨⟨[.int .i64],[.tree U.Value]⟩,fun x=>(x.1.1,x.2.1)⟩ (fun x=>rfl) (fun x=>by kernel_rfl)
theorem Qg:∀n,(pC (M.tO n)).Ok D Tryz.prog
 |0=>dZ fun _=>rfl
 |n+1=>adm (M.tO n) (Qg n)
theorem adn:(pC (M.CQ)).Ok D Tryz.prog:=Qg ah
def mF(m:M.ae->Int->Option (Int)):aC K:={f:=9,sh:=⟨[.el U.Value,.int .i64],[]⟩,R:=Int,run:=fun x=>m x.1.1 x.1.2.1,dflt:=default,out:=fun r=>(Sh.enc D (.int .i64) r,aw.encs D [] ())}
def Qh(y:(Int)⊕(Int)){R:Type}(k:Ex->List (AV K)->List (Ob K)->R):R:=match y with
 |.inl a0=>k Ex.ret (az.bc D ⟨[.any,.int .i64],[]⟩ (((),(a0,())),())) (az.bf D ⟨[.any,.int .i64],[]⟩ (((),(a0,())),()))
 |.inr (a1)=>k (Ex.exit 0) (az.bc D ⟨[.int .i64,.any],[]⟩ ((a1,((),())),())) (az.bf D ⟨[.int .i64,.any],[]⟩ ((a1,((),())),()))
def ado:List (bR K ((Int)⊕(Int))):=[⟨Ex.ret,⟨[.any,.int .i64],[]⟩,fun x=>.inl x.1.2.1⟩,⟨(Ex.exit 0),⟨[.int .i64,.any],[]⟩,fun x=>.inr (x.1.1)⟩]
def Qi(df:M.ae->Int->Option (Int)):bJ K:=bT D false 27 0 [0,1,5] [1,4] ⟨[.an U.Value,.int .i64,.int .i64],[]⟩ (fun x=>M.tP df x.1.1 ah x.1.2.1 x.1.2.2.1) Qh
def Hj(m:(List M.ae)->Int->Option (Int)):aC K:={f:=30,sh:=⟨[.an U.Value,.int .i64],[]⟩,R:=Int,run:=fun x=>m x.1.1 x.1.2.1,dflt:=default,out:=fun r=>(Sh.enc D (.int .i64) r,aw.encs D [] ())}
def CS(df:M.ae->Int->Option (Int)):Cx K:={aL with mode:=aG .plain [(9,.plain)],call:=callOf D [mF df],loop:=aF [(5,Qi df)]}
theorem Qj(df:M.ae->Int->Option (Int))(nM:(mF df).Ok D Tryz.prog):aD (CS df):=aN ai _ (aj nM (ax))
theorem adp(df:M.ae->Int->Option (Int))(nM:(mF df).Ok D Tryz.prog):bM (CS df) (bN (bS Tryz.f30) 0) (Qi df):=
 bV (cx:=CS df) (n:=27) (n0:=0) (ins:=[0,1,5]) (outs:=[1,4]) (sh:=⟨[.an U.Value,.int .i64,.int .i64],[]⟩) (run:=fun n x=>M.tP df x.1.1 n x.1.2.1 x.1.2.2.1) (bP:=ado) (out:=Qh) ai (Qj df nM) ay (aI (by kernel_rfl)) (fun _=>rfl) (fun m x=>by kernel_rfl) (aj ⟨dP,fun _ _ _=>rfl⟩ (aj ⟨bW,fun _ _ _=>rfl⟩ (ax))) false ah
theorem adq(df:M.ae->Int->Option (Int))(nM:(mF df).Ok D Tryz.prog):(Hj (M.wC df)).Ok D Tryz.prog:=
 aJ (cx:=CS df) (c:=Hj (M.wC df)) (fz:=true) (fn:=Tryz.f30) ai (Qj df nM) ay ⟨Tryz.func30,by kernel_rfl⟩ (aK (bX 1 (by kernel_rfl) (bZ (.mk (by kernel_rfl) (adp df nM))))) ⟨⟨[.int .i64],[]⟩,fun x=>x.1.1⟩ (fun x=>rfl) (fun x=>by kernel_rfl)
def Qk(df:M.ae->Int->Option (Int)):Cx K:={aL with mode:=aG .plain [(30,.plain)],call:=callOf D [Hj (M.wC df)],loop:=aF []}
theorem adr(df:M.ae->Int->Option (Int))(nM:(mF df).Ok D Tryz.prog):aD (Qk df):=aN ai _ (aj (adq df nM) (ax))
theorem ads(df:M.ae->Int->Option (Int))(nM:(mF df).Ok D Tryz.prog):(mF (M.zo df)).Ok D Tryz.prog:=
 aJ (cx:=Qk df) (c:=mF (M.zo df)) (fz:=true) (fn:=Tryz.f9) ai (adr df nM) ay ⟨Tryz.func9,by kernel_rfl⟩ (aK (aI (by kernel_rfl))) ⟨⟨[.int .i64],[]⟩,fun x=>x.1.1⟩ (fun x=>rfl) (fun x=>by kernel_rfl)
theorem Ql:∀n,(mF (M.tQ n)).Ok D Tryz.prog
 |0=>dZ fun _=>rfl
 |n+1=>ads (M.tQ n) (Ql n)
theorem adt:(mF (M.CU)).Ok D Tryz.prog:=Ql ah
def mG(m:M.ae->Option (Int×Int×(List UInt8)×(List M.ae))):aC K:={f:=13,sh:=⟨[.el U.Value],[]⟩,R:=Int×Int×(List UInt8)×(List M.ae),run:=fun x=>m x.1.1,dflt:=default,out:=fun r=>(Sh.enc D (.agg [.int .i64,.int .i64,.str,.own 0]) (r.1,(r.2.1,(r.2.2.1,((),())))),aw.encs D [.tree U.Value] (r.2.2.2,()))}
def Qm(y:(List M.ae)){R:Type}(k:Ex->List (AV K)->List (Ob K)->R):R:=match y with
 |a0=>k (Ex.exit 0) (az.bc D ⟨[.own 1],[.dead,.tree U.Value]⟩ (((),()),((),(a0,())))) (az.bf D ⟨[.own 1],[.dead,.tree U.Value]⟩ (((),()),((),(a0,()))))
def adu:List (bR K ((List M.ae))):=[⟨(Ex.exit 0),⟨[.own 1],[.dead,.tree U.Value]⟩,fun x=>x.2.2.1⟩]
def Qn(dk:M.ae->Option (Int×Int×(List UInt8)×(List M.ae))):bJ K:=bT D false 23 1 [0,3,4] [3] ⟨[.an U.Value,.own 1,.int .i64],[.dead,.tree U.Value]⟩ (fun x=>M.rz dk x.1.1 ah x.1.2.2.1 x.2.2.1) Qm
def Hk(m:(List M.ae)->Option ((List M.ae))):aC K:={f:=33,sh:=⟨[.an U.Value],[]⟩,R:=(List M.ae),run:=fun x=>m x.1.1,dflt:=default,out:=fun r=>(Sh.enc D (.own 0) (),aw.encs D [.tree U.Value] (r,()))}
def CV(dk:M.ae->Option (Int×Int×(List UInt8)×(List M.ae))):Cx K:={aL with mode:=aG .plain [(13,.fresh)],fK:=[[some U.Value]],deep:=fun c=>dw (D.cells c (K.zero c)),call:=callOf D [mG dk],loop:=aF [(3,Qn dk)]}
theorem Qo(dk:M.ae->Option (Int×Int×(List UInt8)×(List M.ae)))(nN:(mG dk).Ok D Tryz.prog):aD (CV dk):=aN ai _ (aj nN (ax))
theorem adv(dk:M.ae->Option (Int×Int×(List UInt8)×(List M.ae)))(nN:(mG dk).Ok D Tryz.prog):bM (CV dk) (bN (bS Tryz.f33) 0) (Qn dk):=
 bV (cx:=CV dk) (n:=23) (n0:=1) (ins:=[0,3,4]) (outs:=[3]) (sh:=⟨[.an U.Value,.own 1,.int .i64],[.dead,.tree U.Value]⟩) (run:=fun n x=>M.rz dk x.1.1 n x.1.2.2.1 x.2.2.1) (bP:=adu) (out:=Qm) ai (Qo dk nN) ay (aI (by kernel_rfl)) (fun _=>rfl) (fun m x=>by kernel_rfl) (aj ⟨bW,fun _ _ _=>rfl⟩ (ax)) false ah
theorem adw(dk:M.ae->Option (Int×Int×(List UInt8)×(List M.ae)))(nN:(mG dk).Ok D Tryz.prog):(Hk (M.wE dk)).Ok D Tryz.prog:=
 aJ (cx:=CV dk) (c:=Hk (M.wE dk)) (fz:=false) (fn:=Tryz.f33) ai (Qo dk nN) ay ⟨Tryz.func33,by kernel_rfl⟩ (aK (bX 1 (by kernel_rfl) (bZ (.mk (by kernel_rfl) (adv dk nN))))) ⟨⟨[.own 0],[.tree U.Value]⟩,fun x=>x.2.1⟩ (fun x=>rfl) (fun x=>by kernel_rfl)
def Qp(dk:M.ae->Option (Int×Int×(List UInt8)×(List M.ae))):Cx K:={aL with mode:=aG .plain [(33,.fresh)],fK:=[[none,none,none,some U.Value]],deep:=fun c=>dw (D.cells c (K.zero c)),call:=callOf D [Hk (M.wE dk)],loop:=aF []}
theorem adx(dk:M.ae->Option (Int×Int×(List UInt8)×(List M.ae)))(nN:(mG dk).Ok D Tryz.prog):aD (Qp dk):=aN ai _ (aj (adw dk nN) (ax))
theorem ady(dk:M.ae->Option (Int×Int×(List UInt8)×(List M.ae)))(nN:(mG dk).Ok D Tryz.prog):(mG (M.zp dk)).Ok D Tryz.prog:=
 aJ (cx:=Qp dk) (c:=mG (M.zp dk)) (fz:=false) (fn:=Tryz.f13) ai (adx dk nN) ay ⟨Tryz.func13,by kernel_rfl⟩ (aK (aI (by kernel_rfl))) ⟨⟨[.agg [.int .i64,.int .i64,.str,.own 0]],[.tree U.Value]⟩,fun x=>(x.1.1.1,x.1.1.2.1,x.1.1.2.2.1,x.2.1)⟩ (fun x=>rfl) (fun x=>by kernel_rfl)
theorem Qq:∀n,(mG (M.tR n)).Ok D Tryz.prog
 |0=>dZ fun _=>rfl
 |n+1=>ady (M.tR n) (Qq n)
theorem adz:(mG (M.CW)).Ok D Tryz.prog:=Qq ah
def Qr(y:(Bool)⊕(Unit)){R:Type}(k:Ex->List (AV K)->List (Ob K)->R):R:=match y with
 |.inl a0=>k Ex.ret (az.bc D ⟨[.bool],[.dead]⟩ ((a0,()),((),()))) (az.bf D ⟨[.bool],[.dead]⟩ ((a0,()),((),())))
 |.inr (a1)=>k (Ex.exit 0) (az.bc D ⟨[.any],[.dead]⟩ (((),()),((),()))) (az.bf D ⟨[.any],[.dead]⟩ (((),()),((),())))
def adA:List (bR K ((Bool)⊕(Unit))):=[⟨Ex.ret,⟨[.bool],[.dead]⟩,fun x=>.inl x.1.1⟩,⟨(Ex.exit 0),⟨[.any],[.dead]⟩,fun x=>.inr (())⟩]
def Qs:bJ K:=bT D false 59 1 [1,3,4,5] [2] ⟨[.ptr 0 0,.int .i64,.int .i64,.int .i64],[.el U.dO]⟩ (fun x=>M.nO x.1.2.1 x.2.1 ah x.1.2.2.1 x.1.2.2.2.1) Qr
def Hl(m:M.aB->Option (Bool)):aC K:={f:=76,sh:=⟨[.el U.dO],[]⟩,R:=Bool,run:=fun x=>m x.1.1,dflt:=default,out:=fun r=>(Sh.enc D (.bool) r,aw.encs D [] ())}
def CX:Cx K:={aL with mode:=aG .plain [],call:=callOf D [],loop:=aF [(6,Qs)]}
theorem Qu:aD (CX):=aN ai _ (ax)
theorem adB:bM (CX) (bN (bS Tryz.f76) 0) (Qs):=
 bV (cx:=CX) (n:=59) (n0:=1) (ins:=[1,3,4,5]) (outs:=[2]) (sh:=⟨[.ptr 0 0,.int .i64,.int .i64,.int .i64],[.el U.dO]⟩) (run:=fun n x=>M.nO x.1.2.1 x.2.1 n x.1.2.2.1 x.1.2.2.2.1) (bP:=adA) (out:=Qr) ai (Qu) ay (aI (by kernel_rfl)) (fun _=>rfl) (fun m x=>by kernel_rfl) (aj ⟨dP,fun _ _ _=>rfl⟩ (aj ⟨bW,fun _ _ _=>rfl⟩ (ax))) false ah
theorem adC:(Hl (M.wF)).Ok D Tryz.prog:=
 aJ (cx:=CX) (c:=Hl (M.wF)) (fz:=true) (fn:=Tryz.f76) ai (Qu) ay ⟨Tryz.func76,by kernel_rfl⟩ (aK (bX 1 (by kernel_rfl) (bZ (.mk (by kernel_rfl) (adB))))) ⟨⟨[.bool],[]⟩,fun x=>x.1.1⟩ (fun x=>rfl) (fun x=>by kernel_rfl)
def Hm(m:Int->Option (Bool)):aC K:={f:=77,sh:=⟨[.int .i64],[]⟩,R:=Bool,run:=fun x=>m x.1.1,dflt:=default,out:=fun r=>(Sh.enc D (.bool) r,aw.encs D [] ())}
def Qv:Cx K:={aL with mode:=aG .plain [(120,.plain)],call:=callOf D [qT M.qU],loop:=aF []}
theorem adD:aD (Qv):=aN ai _ (aj vL (ax))
theorem adE:(Hm (M.Hq)).Ok D Tryz.prog:=
 aJ (cx:=Qv) (c:=Hm (M.Hq)) (fz:=true) (fn:=Tryz.f77) ai (adD) ay ⟨Tryz.func77,by kernel_rfl⟩ (aK (aI (by kernel_rfl))) ⟨⟨[.bool],[]⟩,fun x=>x.1.1⟩ (fun x=>rfl) (fun x=>by kernel_rfl)
def zq(m:M.aB->Int->Option (Bool)):aC K:={f:=41,sh:=⟨[.el U.dO,.int .i64],[]⟩,R:=Bool,run:=fun x=>m x.1.1 x.1.2.1,dflt:=default,out:=fun r=>(Sh.enc D (.bool) r,aw.encs D [] ())}
def Qw:Cx K:={aL with mode:=aG .plain [(76,.plain),(77,.plain)],call:=callOf D [Hl M.wF,Hm M.Hq],loop:=aF []}
theorem adF:aD (Qw):=aN ai _ (aj adC (aj adE (ax)))
theorem Hr:(zq (M.rA)).Ok D Tryz.prog:=
 aJ (cx:=Qw) (c:=zq (M.rA)) (fz:=true) (fn:=Tryz.f41) ai (adF) ay ⟨Tryz.func41,by kernel_rfl⟩ (aK (aI (by kernel_rfl))) ⟨⟨[.bool],[]⟩,fun x=>x.1.1⟩ (fun x=>rfl) (fun x=>by kernel_rfl)
def Ht(m:Int->Option (Int)):aC K:={f:=80,sh:=⟨[.int .i64],[]⟩,R:=Int,run:=fun x=>m x.1.1,dflt:=default,out:=fun r=>(Sh.enc D (.int .i64) r,aw.encs D [] ())}
def Qx:Cx K:={aL with mode:=aG .plain [],call:=callOf D [],loop:=aF []}
theorem adG:aD (Qx):=aN ai _ (ax)
theorem adH:(Ht (M.wG)).Ok D Tryz.prog:=
 aJ (cx:=Qx) (c:=Ht (M.wG)) (fz:=true) (fn:=Tryz.f80) ai (adG) ay ⟨Tryz.func80,by kernel_rfl⟩ (aK (aI (by kernel_rfl))) ⟨⟨[.int .i64],[]⟩,fun x=>x.1.1⟩ (fun x=>rfl) (fun x=>by kernel_rfl)
def jd(m:M.aa->Option (Int×Int)):aC K:={f:=43,sh:=⟨[.el U.Type],[]⟩,R:=Int×Int,run:=fun x=>m x.1.1,dflt:=default,out:=fun r=>(Sh.enc D (.aX [.int .i64,.int .i64]) (r.1,(r.2,())),aw.encs D [] ())}
def wH(m:Int->Int->Option (Int)):aC K:={f:=83,sh:=⟨[.int .i64,.int .i64],[]⟩,R:=Int,run:=fun x=>m x.1.1 x.1.2.1,dflt:=default,out:=fun r=>(Sh.enc D (.int .i64) r,aw.encs D [] ())}
def Qy:Cx K:={aL with mode:=aG .plain [],call:=callOf D [],loop:=aF []}
theorem adI:aD (Qy):=aN ai _ (ax)
theorem CY:(wH (M.jR)).Ok D Tryz.prog:=
 aJ (cx:=Qy) (c:=wH (M.jR)) (fz:=true) (fn:=Tryz.f83) ai (adI) ay ⟨Tryz.func83,by kernel_rfl⟩ (aK (aI (by kernel_rfl))) ⟨⟨[.int .i64],[]⟩,fun x=>x.1.1⟩ (fun x=>rfl) (fun x=>by kernel_rfl)
def Qz(y:Int×Int×(List Int)){R:Type}(k:Ex->List (AV K)->List (Ob K)->R):R:=match y with
 |a0=>k (Ex.exit 0) (az.bc D ⟨[.int .i64,.int .i64,.own 1],[.dead,.arr U.i64]⟩ ((a0.1,(a0.2.1,((),()))),((),(a0.2.2,())))) (az.bf D ⟨[.int .i64,.int .i64,.own 1],[.dead,.arr U.i64]⟩ ((a0.1,(a0.2.1,((),()))),((),(a0.2.2,()))))
def adJ:List (bR K (Int×Int×(List Int))):=[⟨(Ex.exit 0),⟨[.int .i64,.int .i64,.own 1],[.dead,.arr U.i64]⟩,fun x=>(x.1.1,x.1.2.1,x.2.2.1)⟩]
def QA(ca:M.aa->Option (Int×Int)):bJ K:=bT D false 44 1 [0,5,6,7,8] [5,6,7] ⟨[.an U.Type,.int .i64,.int .i64,.own 1,.int .i64],[.dead,.arr U.i64]⟩ (fun x=>M.nP ca x.1.1 ah x.1.2.1 x.1.2.2.1 x.1.2.2.2.2.1 x.2.2.1) Qz
def CZ(m:(List M.aa)->Option ((List Int)×Int×Int)):aC K:={f:=71,sh:=⟨[.an U.Type],[]⟩,R:=(List Int)×Int×Int,run:=fun x=>m x.1.1,dflt:=default,out:=fun r=>(Sh.enc D (.aX [.an U.i64,.int .i64,.int .i64]) (r.1,(r.2.1,(r.2.2,()))),aw.encs D [] ())}
def C0(ca:M.aa->Option (Int×Int)):Cx K:={aL with mode:=aG .plain [(43,.plain),(83,.plain),(115,.plain)],call:=callOf D [jd ca,wH M.jR,vJ M.il],loop:=aF [(4,QA ca)]}
theorem QB(ca:M.aa->Option (Int×Int))(iI:(jd ca).Ok D Tryz.prog):aD (C0 ca):=aN ai _ (aj iI (aj CY (aj BH (ax))))
theorem adK(ca:M.aa->Option (Int×Int))(iI:(jd ca).Ok D Tryz.prog):bM (C0 ca) (bN (bS Tryz.f71) 0) (QA ca):=
 bV (cx:=C0 ca) (n:=44) (n0:=1) (ins:=[0,5,6,7,8]) (outs:=[5,6,7]) (sh:=⟨[.an U.Type,.int .i64,.int .i64,.own 1,.int .i64],[.dead,.arr U.i64]⟩) (run:=fun n x=>M.nP ca x.1.1 n x.1.2.1 x.1.2.2.1 x.1.2.2.2.2.1 x.2.2.1) (bP:=adJ) (out:=Qz) ai (QB ca iI) ay (aI (by kernel_rfl)) (fun _=>rfl) (fun m x=>by kernel_rfl) (aj ⟨bW,fun _ _ _=>rfl⟩ (ax)) false ah
theorem QC(ca:M.aa->Option (Int×Int))(iI:(jd ca).Ok D Tryz.prog):(CZ (M.pD ca)).Ok D Tryz.prog:=
 aJ (cx:=C0 ca) (c:=CZ (M.pD ca)) (fz:=true) (fn:=Tryz.f71) ai (QB ca iI) ay ⟨Tryz.func71,by kernel_rfl⟩ (aK (bX 1 (by kernel_rfl) (bZ (.mk (by kernel_rfl) (adK ca iI))))) ⟨⟨[.aX [.an U.i64,.int .i64,.int .i64]],[]⟩,fun x=>(x.1.1.1,x.1.1.2.1,x.1.1.2.2.1)⟩ (fun x=>rfl) (fun x=>by kernel_rfl)
def pE(m:M.aa->Option ((List M.aa))):aC K:={f:=82,sh:=⟨[.el U.Type],[]⟩,R:=(List M.aa),run:=fun x=>m x.1.1,dflt:=default,out:=fun r=>(Sh.enc D (.an U.Type) r,aw.encs D [] ())}
def QD:Cx K:={aL with mode:=aG .plain [],call:=callOf D [],loop:=aF []}
theorem adL:aD (QD):=aN ai _ (ax)
theorem tU:(pE (M.iJ)).Ok D Tryz.prog:=
 aJ (cx:=QD) (c:=pE (M.iJ)) (fz:=true) (fn:=Tryz.f82) ai (adL) ay ⟨Tryz.func82,by kernel_rfl⟩ (aK (aI (by kernel_rfl))) ⟨⟨[.an U.Type],[]⟩,fun x=>x.1.1⟩ (fun x=>rfl) (fun x=>by kernel_rfl)
def QE(y:Int×Int){R:Type}(k:Ex->List (AV K)->List (Ob K)->R):R:=match y with
 |a0=>k (Ex.exit 0) (az.bc D ⟨[.int .i64,.int .i64],[]⟩ ((a0.1,(a0.2,())),())) (az.bf D ⟨[.int .i64,.int .i64],[]⟩ ((a0.1,(a0.2,())),()))
def adM:List (bR K (Int×Int)):=[⟨(Ex.exit 0),⟨[.int .i64,.int .i64],[]⟩,fun x=>(x.1.1,x.1.2.1)⟩]
def QF(ca:M.aa->Option (Int×Int)):bJ K:=bT D false 31 0 [0,4,5,6] [4,5] ⟨[.an U.Type,.int .i64,.int .i64,.int .i64],[]⟩ (fun x=>M.nQ ca x.1.1 ah x.1.2.1 x.1.2.2.1 x.1.2.2.2.1) QE
def C2(m:(List M.aa)->Option (Int×Int)):aC K:={f:=81,sh:=⟨[.an U.Type],[]⟩,R:=Int×Int,run:=fun x=>m x.1.1,dflt:=default,out:=fun r=>(Sh.enc D (.aX [.int .i64,.int .i64]) (r.1,(r.2,())),aw.encs D [] ())}
def C3(ca:M.aa->Option (Int×Int)):Cx K:={aL with mode:=aG .plain [(43,.plain),(115,.plain)],call:=callOf D [jd ca,vJ M.il],loop:=aF [(3,QF ca)]}
theorem QG(ca:M.aa->Option (Int×Int))(iI:(jd ca).Ok D Tryz.prog):aD (C3 ca):=aN ai _ (aj iI (aj BH (ax)))
theorem adN(ca:M.aa->Option (Int×Int))(iI:(jd ca).Ok D Tryz.prog):bM (C3 ca) (bN (bS Tryz.f81) 0) (QF ca):=
 bV (cx:=C3 ca) (n:=31) (n0:=0) (ins:=[0,4,5,6]) (outs:=[4,5]) (sh:=⟨[.an U.Type,.int .i64,.int .i64,.int .i64],[]⟩) (run:=fun n x=>M.nQ ca x.1.1 n x.1.2.1 x.1.2.2.1 x.1.2.2.2.1) (bP:=adM) (out:=QE) ai (QG ca iI) ay (aI (by kernel_rfl)) (fun _=>rfl) (fun m x=>by kernel_rfl) (aj ⟨bW,fun _ _ _=>rfl⟩ (ax)) false ah
theorem QH(ca:M.aa->Option (Int×Int))(iI:(jd ca).Ok D Tryz.prog):(C2 (M.rB ca)).Ok D Tryz.prog:=
 aJ (cx:=C3 ca) (c:=C2 (M.rB ca)) (fz:=true) (fn:=Tryz.f81) ai (QG ca iI) ay ⟨Tryz.func81,by kernel_rfl⟩ (aK (bX 1 (by kernel_rfl) (bZ (.mk (by kernel_rfl) (adN ca iI))))) ⟨⟨[.aX [.int .i64,.int .i64]],[]⟩,fun x=>(x.1.1.1,x.1.1.2.1)⟩ (fun x=>rfl) (fun x=>by kernel_rfl)
def QI(ca:M.aa->Option (Int×Int)):Cx K:={aL with mode:=aG .plain [(80,.plain),(71,.dI),(82,.dI),(81,.plain),(83,.plain)],call:=callOf D [Ht M.wG,CZ (M.pD ca),pE M.iJ,C2 (M.rB ca),wH M.jR],loop:=aF []}
theorem adO(ca:M.aa->Option (Int×Int))(iI:(jd ca).Ok D Tryz.prog):aD (QI ca):=aN ai _ (aj adH (aj (QC ca iI) (aj tU (aj (QH ca iI) (aj CY (ax))))))
theorem adP(ca:M.aa->Option (Int×Int))(iI:(jd ca).Ok D Tryz.prog):(jd (M.zr ca)).Ok D Tryz.prog:=
 aJ (cx:=QI ca) (c:=jd (M.zr ca)) (fz:=true) (fn:=Tryz.f43) ai (adO ca iI) ay ⟨Tryz.func43,by kernel_rfl⟩ (aK (aI (by kernel_rfl))) ⟨⟨[.aX [.int .i64,.int .i64]],[]⟩,fun x=>(x.1.1.1,x.1.1.2.1)⟩ (fun x=>rfl) (fun x=>by kernel_rfl)
theorem QJ:∀n,(jd (M.pF n)).Ok D Tryz.prog
 |0=>dZ fun _=>rfl
 |n+1=>adP (M.pF n) (QJ n)
theorem zt:(jd (M.je)).Ok D Tryz.prog:=QJ ah
def Hu(m:M.aB->Int->Int->Option (Bool)):aC K:={f:=44,sh:=⟨[.el U.dO,.int .i64,.int .i64],[]⟩,R:=Bool,run:=fun x=>m x.1.1 x.1.2.1 x.1.2.2.1,dflt:=default,out:=fun r=>(Sh.enc D (.bool) r,aw.encs D [] ())}
def QK:Cx K:={aL with mode:=aG .plain [],call:=callOf D [],loop:=aF []}
theorem adQ:aD (QK):=aN ai _ (ax)
theorem adR:(Hu (M.wI)).Ok D Tryz.prog:=
 aJ (cx:=QK) (c:=Hu (M.wI)) (fz:=true) (fn:=Tryz.f44) ai (adQ) ay ⟨Tryz.func44,by kernel_rfl⟩ (aK (aI (by kernel_rfl))) ⟨⟨[.bool],[]⟩,fun x=>x.1.1⟩ (fun x=>rfl) (fun x=>by kernel_rfl)
def tV(m:M.aB->Option ((List UInt8)×(List M.af))):aC K:={f:=45,sh:=⟨[.el U.dO],[]⟩,R:=(List UInt8)×(List M.af),run:=fun x=>m x.1.1,dflt:=default,out:=fun r=>(Sh.enc D (.agg [.str,.own 0]) (r.1,((),())),aw.encs D [.arr U.Block] (r.2,()))}
def QL:Cx K:={aL with mode:=aG .plain [],fK:=[[none,some U.Block]],call:=callOf D [],loop:=aF []}
theorem adS:aD (QL):=aN ai _ (ax)
theorem zu:(tV (M.jw)).Ok D Tryz.prog:=
 aJ (cx:=QL) (c:=tV (M.jw)) (fz:=false) (fn:=Tryz.f45) ai (adS) ay ⟨Tryz.func45,by kernel_rfl⟩ (aK (aI (by kernel_rfl))) ⟨⟨[.agg [.str,.own 0]],[.arr U.Block]⟩,fun x=>(x.1.1.1,x.2.1)⟩ (fun x=>rfl) (fun x=>by kernel_rfl)
def QM(y:(List UInt8)){R:Type}(k:Ex->List (AV K)->List (Ob K)->R):R:=match y with
 |a0=>k (Ex.exit 0) (az.bc D ⟨[.own 1],[.dead,.arr U.u8]⟩ (((),()),((),(a0,())))) (az.bf D ⟨[.own 1],[.dead,.arr U.u8]⟩ (((),()),((),(a0,()))))
def adT:List (bR K ((List UInt8))):=[⟨(Ex.exit 0),⟨[.own 1],[.dead,.arr U.u8]⟩,fun x=>x.2.2.1⟩]
def QN:bJ K:=bT D false 27 1 [0,1,5,6] [5] ⟨[.int .i64,.int .i64,.own 1,.int .i64],[.dead,.arr U.u8]⟩ (fun x=>M.nR x.1.2.1 ah x.1.1 x.1.2.2.2.1 x.2.2.1) QM
def C4(m:Int->Int->Option ((List UInt8))):aC K:={f:=130,sh:=⟨[.int .i64,.int .i64],[]⟩,R:=(List UInt8),run:=fun x=>m x.1.1 x.1.2.1,dflt:=default,out:=fun r=>(Sh.enc D (.str) r,aw.encs D [] ())}
def C5:Cx K:={aL with mode:=aG .plain [(120,.plain)],call:=callOf D [qT M.qU],loop:=aF [(3,QN)]}
theorem QO:aD (C5):=aN ai _ (aj vL (ax))
theorem adU:bM (C5) (bN (bS Tryz.f130) 0) (QN):=
 bV (cx:=C5) (n:=27) (n0:=1) (ins:=[0,1,5,6]) (outs:=[5]) (sh:=⟨[.int .i64,.int .i64,.own 1,.int .i64],[.dead,.arr U.u8]⟩) (run:=fun n x=>M.nR x.1.2.1 n x.1.1 x.1.2.2.2.1 x.2.2.1) (bP:=adT) (out:=QM) ai (QO) ay (aI (by kernel_rfl)) (fun _=>rfl) (fun m x=>by kernel_rfl) (aj ⟨bW,fun _ _ _=>rfl⟩ (ax)) false ah
theorem QP:(C4 (M.nS)).Ok D Tryz.prog:=
 aJ (cx:=C5) (c:=C4 (M.nS)) (fz:=true) (fn:=Tryz.f130) ai (QO) ay ⟨Tryz.func130,by kernel_rfl⟩ (aK (bX 1 (by kernel_rfl) (bZ (.mk (by kernel_rfl) (adU))))) ⟨⟨[.str],[]⟩,fun x=>x.1.1⟩ (fun x=>rfl) (fun x=>by kernel_rfl)
def Hw(m:Int->Option ((List UInt8))):aC K:={f:=172,sh:=⟨[.int .i64],[]⟩,R:=(List UInt8),run:=fun x=>m x.1.1,dflt:=default,out:=fun r=>(Sh.enc D (.str) r,aw.encs D [] ())}
def QQ:Cx K:={aL with mode:=aG .plain [(130,.plain)],call:=callOf D [C4 M.nS],loop:=aF []}
theorem adV:aD (QQ):=aN ai _ (aj QP (ax))
theorem adW:(Hw (M.wJ)).Ok D Tryz.prog:=
 aJ (cx:=QQ) (c:=Hw (M.wJ)) (fz:=true) (fn:=Tryz.f172) ai (adV) ay ⟨Tryz.func172,by kernel_rfl⟩ (aK (aI (by kernel_rfl))) ⟨⟨[.str],[]⟩,fun x=>x.1.1⟩ (fun x=>rfl) (fun x=>by kernel_rfl)
def QR(y:((List UInt8)×Int)⊕((List UInt8))){R:Type}(k:Ex->List (AV K)->List (Ob K)->R):R:=match y with
 |.inl a0=>k Ex.ret (az.bc D ⟨[.any,.str,.int .i64],[]⟩ (((),(a0.1,(a0.2,()))),())) (az.bf D ⟨[.any,.str,.int .i64],[]⟩ (((),(a0.1,(a0.2,()))),()))
 |.inr (a1)=>k (Ex.exit 0) (az.bc D ⟨[.str,.any,.any],[]⟩ ((a1,((),((),()))),())) (az.bf D ⟨[.str,.any,.any],[]⟩ ((a1,((),((),()))),()))
def adX:List (bR K (((List UInt8)×Int)⊕((List UInt8)))):=[⟨Ex.ret,⟨[.any,.str,.int .i64],[]⟩,fun x=>.inl (x.1.2.1,x.1.2.2.1)⟩,⟨(Ex.exit 0),⟨[.str,.any,.any],[]⟩,fun x=>.inr (x.1.1)⟩]
def QS:bJ K:=bT D false 50 0 [0,6,8,9] [8,4,5] ⟨[.int .i64,.an U.i64,.str,.int .i64],[]⟩ (fun x=>M.mH x.1.1 x.1.2.1 ah x.1.2.2.1 x.1.2.2.2.1) QR
def Hy(m:Int->(List UInt8)->Option ((List UInt8)×Int)):aC K:={f:=159,sh:=⟨[.int .i64,.str],[]⟩,R:=(List UInt8)×Int,run:=fun x=>m x.1.1 x.1.2.1,dflt:=default,out:=fun r=>(Sh.enc D (.aX [.str,.int .i64]) (r.1,(r.2,())),aw.encs D [] ())}
def C6:Cx K:={aL with mode:=aG .plain [(158,.dI),(172,.plain)],call:=callOf D [Ce M.nH,Hw M.wJ],loop:=aF [(6,QS)]}
theorem QT:aD (C6):=aN ai _ (aj Pz (aj adW (ax)))
theorem adY:bM (C6) (bN (bS Tryz.f159) 0) (QS):=
 bV (cx:=C6) (n:=50) (n0:=0) (ins:=[0,6,8,9]) (outs:=[8,4,5]) (sh:=⟨[.int .i64,.an U.i64,.str,.int .i64],[]⟩) (run:=fun n x=>M.mH x.1.1 x.1.2.1 n x.1.2.2.1 x.1.2.2.2.1) (bP:=adX) (out:=QR) ai (QT) ay (aI (by kernel_rfl)) (fun _=>rfl) (fun m x=>by kernel_rfl) (aj ⟨dP,fun _ _ _=>rfl⟩ (aj ⟨bW,fun _ _ _=>rfl⟩ (ax))) false ah
theorem adZ:(Hy (M.wK)).Ok D Tryz.prog:=
 aJ (cx:=C6) (c:=Hy (M.wK)) (fz:=true) (fn:=Tryz.f159) ai (QT) ay ⟨Tryz.func159,by kernel_rfl⟩ (aK (bX 1 (by kernel_rfl) (bZ (.mk (by kernel_rfl) (adY))))) ⟨⟨[.aX [.str,.int .i64]],[]⟩,fun x=>(x.1.1.1,x.1.1.2.1)⟩ (fun x=>rfl) (fun x=>by kernel_rfl)
def Hz(m:Int->Option (Int)):aC K:={f:=160,sh:=⟨[.int .i64],[]⟩,R:=Int,run:=fun x=>m x.1.1,dflt:=default,out:=fun r=>(Sh.enc D (.int .i64) r,aw.encs D [] ())}
def QU:Cx K:={aL with mode:=aG .plain [],call:=callOf D [],loop:=aF []}
theorem ad1:aD (QU):=aN ai _ (ax)
theorem ad2:(Hz (M.zw)).Ok D Tryz.prog:=
 aJ (cx:=QU) (c:=Hz (M.zw)) (fz:=true) (fn:=Tryz.f160) ai (ad1) ay ⟨Tryz.func160,by kernel_rfl⟩ (aK (aI (by kernel_rfl))) ⟨⟨[.int .i64],[]⟩,fun x=>x.1.1⟩ (fun x=>rfl) (fun x=>by kernel_rfl)
def QV(y:(Int×Int×(List UInt8)×(List M.af))⊕((List UInt8)×(List M.af))){R:Type}(k:Ex->List (AV K)->List (Ob K)->R):R:=match y with
 |.inl a0=>k Ex.ret (az.bc D ⟨[.ptr 1 0,.int .i64,.int .i64],[.dead,.box [.str,.own 3],.dead,.arr U.Block]⟩ (((),(a0.1,(a0.2.1,()))),((),((a0.2.2.1,((),())),((),(a0.2.2.2,())))))) (az.bf D ⟨[.ptr 1 0,.int .i64,.int .i64],[.dead,.box [.str,.own 3],.dead,.arr U.Block]⟩ (((),(a0.1,(a0.2.1,()))),((),((a0.2.2.1,((),())),((),(a0.2.2.2,()))))))
 |.inr (a1)=>k (Ex.exit 0) (az.bc D ⟨[.ptr 1 0,.any,.any],[.dead,.box [.str,.own 3],.dead,.arr U.Block]⟩ (((),((),((),()))),((),((a1.1,((),())),((),(a1.2,())))))) (az.bf D ⟨[.ptr 1 0,.any,.any],[.dead,.box [.str,.own 3],.dead,.arr U.Block]⟩ (((),((),((),()))),((),((a1.1,((),())),((),(a1.2,()))))))
def ad3:List (bR K ((Int×Int×(List UInt8)×(List M.af))⊕((List UInt8)×(List M.af)))):=[⟨Ex.ret,⟨[.ptr 1 0,.int .i64,.int .i64],[.dead,.box [.str,.own 3],.dead,.arr U.Block]⟩,fun x=>.inl (x.1.2.1,x.1.2.2.1,x.2.2.1.1,x.2.2.2.2.1)⟩,⟨(Ex.exit 0),⟨[.ptr 1 0,.any,.any],[.dead,.box [.str,.own 3],.dead,.arr U.Block]⟩,fun x=>.inr ((x.2.2.1.1,x.2.2.2.2.1))⟩]
def QW:bJ K:=bT D false 100 3 [1,2,3,6,9] [6,7,8] ⟨[.int .i64,.int .i64,.ptr 0 0,.ptr 1 0,.int .i64],[.el U.dO,.box [.str,.own 3],.dead,.arr U.Block]⟩ (fun x=>M.nU x.1.1 x.1.2.1 x.2.1 x.2.2.1.1 x.2.2.2.2.1 ah x.1.2.2.2.2.1) QV
def HA(m:M.aB->Int->Int->Option ((List UInt8)×Int×Int×(List M.af))):aC K:={f:=112,sh:=⟨[.el U.dO,.int .i64,.int .i64],[]⟩,R:=(List UInt8)×Int×Int×(List M.af),run:=fun x=>m x.1.1 x.1.2.1 x.1.2.2.1,dflt:=default,out:=fun r=>(Sh.enc D (.aX [.agg [.str,.own 0],.int .i64,.int .i64]) ((r.1,((),())),(r.2.1,(r.2.2.1,()))),aw.encs D [.arr U.Block] (r.2.2.2,()))}
def C7:Cx K:={aL with mode:=aG .plain [(45,.fresh),(83,.plain)],fK:=[[none,some U.Block],[],[]],call:=callOf D [tV M.jw,wH M.jR],loop:=aF [(4,QW)]}
theorem QX:aD (C7):=aN ai _ (aj zu (aj CY (ax)))
theorem ad4:bM (C7) (bN (bS Tryz.f112) 0) (QW):=
 bV (cx:=C7) (n:=100) (n0:=3) (ins:=[1,2,3,6,9]) (outs:=[6,7,8]) (sh:=⟨[.int .i64,.int .i64,.ptr 0 0,.ptr 1 0,.int .i64],[.el U.dO,.box [.str,.own 3],.dead,.arr U.Block]⟩) (run:=fun n x=>M.nU x.1.1 x.1.2.1 x.2.1 x.2.2.1.1 x.2.2.2.2.1 n x.1.2.2.2.2.1) (bP:=ad3) (out:=QV) ai (QX) ay (aI (by kernel_rfl)) (fun _=>rfl) (fun m x=>by kernel_rfl) (aj ⟨dP,fun _ _ _=>rfl⟩ (aj ⟨bW,fun _ _ _=>rfl⟩ (ax))) false ah
theorem ad5:(HA (M.wL)).Ok D Tryz.prog:=
 aJ (cx:=C7) (c:=HA (M.wL)) (fz:=false) (fn:=Tryz.f112) ai (QX) ay ⟨Tryz.func112,by kernel_rfl⟩ (aK (bX 1 (by kernel_rfl) (bZ (.mk (by kernel_rfl) (ad4))))) ⟨⟨[.aX [.agg [.str,.own 0],.int .i64,.int .i64]],[.arr U.Block]⟩,fun x=>(x.1.1.1.1,x.1.1.2.1,x.1.1.2.2.1,x.2.1)⟩ (fun x=>rfl) (fun x=>by kernel_rfl)
def zx(m:Int->Int->(List UInt8)->Int->Int->(List M.af)->Option (Int×(List UInt8)×Int×Int×(List M.af))):aC K:={f:=64,sh:=⟨[.ptr 0 0,.int .i64,.int .i64],[.box [.str,.own 1,.int .i64,.int .i64],.arr U.Block]⟩,R:=Int×(List UInt8)×Int×Int×(List M.af),run:=fun x=>m x.1.2.1 x.1.2.2.1 x.2.1.1 x.2.1.2.2.1 x.2.1.2.2.2.1 x.2.2.1,dflt:=default,out:=fun r=>(Sh.enc D (.int .i64) r.1,aw.encs D [.box [.str,.own 2,.int .i64,.int .i64],.dead,.arr U.Block] ((r.2.1,((),(r.2.2.1,(r.2.2.2.1,())))),((),(r.2.2.2.2,()))))}
def QY:Cx K:={aL with mode:=aG .plain [(112,.fresh)],mv:=true,call:=callOf D [HA M.wL],loop:=aF []}
theorem ad6:aD (QY):=aN ai _ (aj ad5 (ax))
theorem HB:(zx (M.nV)).Ok D Tryz.prog:=
 aJ (cx:=QY) (c:=zx (M.nV)) (fz:=true) (fn:=Tryz.f64) ai (ad6) ay ⟨Tryz.func64,by kernel_rfl⟩ (aK (aI (by kernel_rfl))) ⟨⟨[.int .i64],[.box [.str,.own 2,.int .i64,.int .i64],.dead,.arr U.Block]⟩,fun x=>(x.1.1,x.2.1.1,x.2.1.2.2.1,x.2.1.2.2.2.1,x.2.2.2.1)⟩ (fun x=>rfl) (fun x=>by kernel_rfl)
def C9(m:M.aB->Int->(List UInt8)->Option ((List UInt8)×Int×(List M.af))):aC K:={f:=129,sh:=⟨[.el U.dO,.int .i64,.str],[]⟩,R:=(List UInt8)×Int×(List M.af),run:=fun x=>m x.1.1 x.1.2.1 x.1.2.2.1,dflt:=default,out:=fun r=>(Sh.enc D (.aX [.agg [.str,.own 0],.int .i64]) ((r.1,((),())),(r.2.1,())),aw.encs D [.arr U.Block] (r.2.2,()))}
def QZ:Cx K:={aL with mode:=aG .plain [(44,.plain),(45,.fresh)],fK:=[[none,some U.Block],[]],call:=callOf D [Hu M.wI,tV M.jw],loop:=aF []}
theorem ad7:aD (QZ):=aN ai _ (aj adR (aj zu (ax)))
theorem Q0:(C9 (M.rC)).Ok D Tryz.prog:=
 aJ (cx:=QZ) (c:=C9 (M.rC)) (fz:=false) (fn:=Tryz.f129) ai (ad7) ay ⟨Tryz.func129,by kernel_rfl⟩ (aK (aI (by kernel_rfl))) ⟨⟨[.aX [.agg [.str,.own 0],.int .i64]],[.arr U.Block]⟩,fun x=>(x.1.1.1.1,x.1.1.2.1,x.2.1)⟩ (fun x=>rfl) (fun x=>by kernel_rfl)
def Da(m:(List UInt8)->(List UInt8)->Int->Int->(List M.af)->Option (Int×Int×(List UInt8)×Int×Int×(List M.af))):aC K:={f:=127,sh:=⟨[.ptr 0 0,.str],[.box [.str,.own 1,.int .i64,.int .i64],.arr U.Block]⟩,R:=Int×Int×(List UInt8)×Int×Int×(List M.af),run:=fun x=>m x.1.2.1 x.2.1.1 x.2.1.2.2.1 x.2.1.2.2.2.1 x.2.2.1,dflt:=default,out:=fun r=>(Sh.enc D (.aX [.int .i64,.int .i64]) (r.1,(r.2.1,())),aw.encs D [.box [.str,.own 2,.int .i64,.int .i64],.dead,.arr U.Block] ((r.2.2.1,((),(r.2.2.2.1,(r.2.2.2.2.1,())))),((),(r.2.2.2.2.2,()))))}
def Q1:Cx K:={aL with mode:=aG .plain [(159,.plain),(160,.plain),(64,.cX),(129,.fresh)],mv:=true,call:=callOf D [Hy M.wK,Hz M.zw,zx M.nV,C9 M.rC],loop:=aF []}
theorem ad8:aD (Q1):=aN ai _ (aj adZ (aj ad2 (aj HB (aj Q0 (ax)))))
theorem Q2:(Da (M.rD)).Ok D Tryz.prog:=
 aJ (cx:=Q1) (c:=Da (M.rD)) (fz:=true) (fn:=Tryz.f127) ai (ad8) ay ⟨Tryz.func127,by kernel_rfl⟩ (aK (aI (by kernel_rfl))) ⟨⟨[.aX [.int .i64,.int .i64]],[.box [.str,.own 2,.int .i64,.int .i64],.dead,.arr U.Block]⟩,fun x=>(x.1.1.1,x.1.1.2.1,x.2.1.1,x.2.1.2.2.1,x.2.1.2.2.2.1,x.2.2.2.1)⟩ (fun x=>rfl) (fun x=>by kernel_rfl)
def iK(m:M.aa->M.ae->Int->(List UInt8)->Int->Int->(List M.af)->Option ((List UInt8)×Int×Int×(List M.af))):aC K:={f:=46,sh:=⟨[.ptr 0 0,.el U.Type,.el U.Value,.int .i64],[.box [.str,.own 1,.int .i64,.int .i64],.arr U.Block]⟩,R:=(List UInt8)×Int×Int×(List M.af),run:=fun x=>m x.1.2.1 x.1.2.2.1 x.1.2.2.2.1 x.2.1.1 x.2.1.2.2.1 x.2.1.2.2.2.1 x.2.2.1,dflt:=default,out:=fun r=>(Sh.enc D (.aX []) (),aw.encs D [.box [.str,.own 2,.int .i64,.int .i64],.dead,.arr U.Block] ((r.1,((),(r.2.1,(r.2.2.1,())))),((),(r.2.2.2,()))))}
def Q3(y:Int×Int×(List UInt8)×Int×Int×(List M.af)){R:Type}(k:Ex->List (AV K)->List (Ob K)->R):R:=match y with
 |a0=>k (Ex.exit 0) (az.bc D ⟨[.int .i64,.int .i64],[.box [.str,.own 3,.int .i64,.int .i64],.dead,.dead,.arr U.Block]⟩ ((a0.1,(a0.2.1,())),((a0.2.2.1,((),(a0.2.2.2.1,(a0.2.2.2.2.1,())))),((),((),(a0.2.2.2.2.2,())))))) (az.bf D ⟨[.int .i64,.int .i64],[.box [.str,.own 3,.int .i64,.int .i64],.dead,.dead,.arr U.Block]⟩ ((a0.1,(a0.2.1,())),((a0.2.2.1,((),(a0.2.2.2.1,(a0.2.2.2.2.1,())))),((),((),(a0.2.2.2.2.2,()))))))
def ad9:List (bR K (Int×Int×(List UInt8)×Int×Int×(List M.af))):=[⟨(Ex.exit 0),⟨[.int .i64,.int .i64],[.box [.str,.own 3,.int .i64,.int .i64],.dead,.dead,.arr U.Block]⟩,fun x=>(x.1.1,x.1.2.1,x.2.1.1,x.2.1.2.2.1,x.2.1.2.2.2.1,x.2.2.2.2.1)⟩]
def Q4(bE:M.aa->M.ae->Int->(List UInt8)->Int->Int->(List M.af)->Option ((List UInt8)×Int×Int×(List M.af))):bJ K:=bT D false 52 3 [0,2,4,8,10,11,12] [10,11] ⟨[.ptr 0 0,.an U.Value,.ptr 1 0,.int .i64,.int .i64,.int .i64,.int .i64],[.box [.str,.own 3,.int .i64,.int .i64],.el U.Type,.dead,.arr U.Block]⟩ (fun x=>M.lX bE x.1.2.1 x.1.2.2.2.1 x.1.2.2.2.2.1 x.1.2.2.2.2.2.1 ah x.1.2.2.2.2.2.2.1 x.2.1.1 x.2.1.2.2.1 x.2.1.2.2.2.1 x.2.2.1 x.2.2.2.2.1) Q3
def HC(m:M.aa->(List M.ae)->(List UInt8)->Int->Int->(List M.af)->Option (Int×Int×(List UInt8)×Int×Int×(List M.af))):aC K:={f:=128,sh:=⟨[.ptr 0 0,.el U.Type,.an U.Value],[.box [.str,.own 1,.int .i64,.int .i64],.arr U.Block]⟩,R:=Int×Int×(List UInt8)×Int×Int×(List M.af),run:=fun x=>m x.1.2.1 x.1.2.2.1 x.2.1.1 x.2.1.2.2.1 x.2.1.2.2.2.1 x.2.2.1,dflt:=default,out:=fun r=>(Sh.enc D (.aX [.int .i64,.int .i64]) (r.1,(r.2.1,())),aw.encs D [.box [.str,.own 2,.int .i64,.int .i64],.dead,.arr U.Block] ((r.2.2.1,((),(r.2.2.2.1,(r.2.2.2.2.1,())))),((),(r.2.2.2.2.2,()))))}
def Db(bE:M.aa->M.ae->Int->(List UInt8)->Int->Int->(List M.af)->Option ((List UInt8)×Int×Int×(List M.af))):Cx K:={aL with mode:=aG .plain [(43,.plain),(64,.cX),(46,.cX)],mv:=true,call:=callOf D [jd M.je,zx M.nV,iK bE],loop:=aF [(5,Q4 bE)]}
theorem Q5(bE:M.aa->M.ae->Int->(List UInt8)->Int->Int->(List M.af)->Option ((List UInt8)×Int×Int×(List M.af)))(fM:(iK bE).Ok D Tryz.prog):aD (Db bE):=aN ai _ (aj zt (aj HB (aj fM (ax))))
theorem aea(bE:M.aa->M.ae->Int->(List UInt8)->Int->Int->(List M.af)->Option ((List UInt8)×Int×Int×(List M.af)))(fM:(iK bE).Ok D Tryz.prog):bM (Db bE) (bN (bS Tryz.f128) 0) (Q4 bE):=
 bV (cx:=Db bE) (n:=52) (n0:=3) (ins:=[0,2,4,8,10,11,12]) (outs:=[10,11]) (sh:=⟨[.ptr 0 0,.an U.Value,.ptr 1 0,.int .i64,.int .i64,.int .i64,.int .i64],[.box [.str,.own 3,.int .i64,.int .i64],.el U.Type,.dead,.arr U.Block]⟩) (run:=fun n x=>M.lX bE x.1.2.1 x.1.2.2.2.1 x.1.2.2.2.2.1 x.1.2.2.2.2.2.1 n x.1.2.2.2.2.2.2.1 x.2.1.1 x.2.1.2.2.1 x.2.1.2.2.2.1 x.2.2.1 x.2.2.2.2.1) (bP:=ad9) (out:=Q3) ai (Q5 bE fM) ay (aI (by kernel_rfl)) (fun _=>rfl) (fun m x=>by kernel_rfl) (aj ⟨bW,fun _ _ _=>rfl⟩ (ax)) false ah
theorem aeb(bE:M.aa->M.ae->Int->(List UInt8)->Int->Int->(List M.af)->Option ((List UInt8)×Int×Int×(List M.af)))(fM:(iK bE).Ok D Tryz.prog):(HC (M.tW bE)).Ok D Tryz.prog:=
 aJ (cx:=Db bE) (c:=HC (M.tW bE)) (fz:=true) (fn:=Tryz.f128) ai (Q5 bE fM) ay ⟨Tryz.func128,by kernel_rfl⟩ (aK (bX 1 (by kernel_rfl) (bZ (.mk (by kernel_rfl) (aea bE fM))))) ⟨⟨[.aX [.int .i64,.int .i64]],[.box [.str,.own 2,.int .i64,.int .i64],.dead,.arr U.Block]⟩,fun x=>(x.1.1.1,x.1.1.2.1,x.2.1.1,x.2.1.2.2.1,x.2.1.2.2.2.1,x.2.2.2.1)⟩ (fun x=>rfl) (fun x=>by kernel_rfl)
def HD(m:M.aa->M.ae->(List UInt8)->Int->Int->(List M.af)->Option (Int×Int×(List UInt8)×Int×Int×(List M.af))):aC K:={f:=84,sh:=⟨[.ptr 0 0,.el U.Type,.el U.Value],[.box [.str,.own 1,.int .i64,.int .i64],.arr U.Block]⟩,R:=Int×Int×(List UInt8)×Int×Int×(List M.af),run:=fun x=>m x.1.2.1 x.1.2.2.1 x.2.1.1 x.2.1.2.2.1 x.2.1.2.2.2.1 x.2.2.1,dflt:=default,out:=fun r=>(Sh.enc D (.aX [.int .i64,.int .i64]) (r.1,(r.2.1,())),aw.encs D [.box [.str,.own 2,.int .i64,.int .i64],.dead,.arr U.Block] ((r.2.2.1,((),(r.2.2.2.1,(r.2.2.2.2.1,())))),((),(r.2.2.2.2.2,()))))}
def Q6(bE:M.aa->M.ae->Int->(List UInt8)->Int->Int->(List M.af)->Option ((List UInt8)×Int×Int×(List M.af))):Cx K:={aL with mode:=aG .plain [(127,.cX),(128,.cX)],mv:=true,call:=callOf D [Da M.rD,HC (M.tW bE)],loop:=aF []}
theorem aec(bE:M.aa->M.ae->Int->(List UInt8)->Int->Int->(List M.af)->Option ((List UInt8)×Int×Int×(List M.af)))(fM:(iK bE).Ok D Tryz.prog):aD (Q6 bE):=aN ai _ (aj Q2 (aj (aeb bE fM) (ax)))
theorem aed(bE:M.aa->M.ae->Int->(List UInt8)->Int->Int->(List M.af)->Option ((List UInt8)×Int×Int×(List M.af)))(fM:(iK bE).Ok D Tryz.prog):(HD (M.rE bE)).Ok D Tryz.prog:=
 aJ (cx:=Q6 bE) (c:=HD (M.rE bE)) (fz:=true) (fn:=Tryz.f84) ai (aec bE fM) ay ⟨Tryz.func84,by kernel_rfl⟩ (aK (aI (by kernel_rfl))) ⟨⟨[.aX [.int .i64,.int .i64]],[.box [.str,.own 2,.int .i64,.int .i64],.dead,.arr U.Block]⟩,fun x=>(x.1.1.1,x.1.1.2.1,x.2.1.1,x.2.1.2.2.1,x.2.1.2.2.2.1,x.2.2.2.1)⟩ (fun x=>rfl) (fun x=>by kernel_rfl)
def HE(m:Int->Int->Int->(List UInt8)->Int->Int->(List M.af)->Option ((List UInt8)×Int×Int×(List M.af))):aC K:={f:=85,sh:=⟨[.ptr 0 0,.int .i64,.int .i64,.int .i64],[.box [.str,.own 1,.int .i64,.int .i64],.arr U.Block]⟩,R:=(List UInt8)×Int×Int×(List M.af),run:=fun x=>m x.1.2.1 x.1.2.2.1 x.1.2.2.2.1 x.2.1.1 x.2.1.2.2.1 x.2.1.2.2.2.1 x.2.2.1,dflt:=default,out:=fun r=>(Sh.enc D (.aX []) (),aw.encs D [.box [.str,.own 2,.int .i64,.int .i64],.dead,.arr U.Block] ((r.1,((),(r.2.1,(r.2.2.1,())))),((),(r.2.2.2,()))))}
def Q7:Cx K:={aL with mode:=aG .plain [(130,.plain),(129,.fresh)],mv:=true,call:=callOf D [C4 M.nS,C9 M.rC],loop:=aF []}
theorem aee:aD (Q7):=aN ai _ (aj QP (aj Q0 (ax)))
theorem aef:(HE (M.mI)).Ok D Tryz.prog:=
 aJ (cx:=Q7) (c:=HE (M.mI)) (fz:=true) (fn:=Tryz.f85) ai (aee) ay ⟨Tryz.func85,by kernel_rfl⟩ (aK (aI (by kernel_rfl))) ⟨⟨[.aX []],[.box [.str,.own 2,.int .i64,.int .i64],.dead,.arr U.Block]⟩,fun x=>(x.2.1.1,x.2.1.2.2.1,x.2.1.2.2.2.1,x.2.2.2.1)⟩ (fun x=>rfl) (fun x=>by kernel_rfl)
def Q8(y:(List UInt8)×Int×Int×(List M.af)){R:Type}(k:Ex->List (AV K)->List (Ob K)->R):R:=match y with
 |a0=>k (Ex.exit 0) (az.bc D ⟨[],[.box [.str,.own 2,.int .i64,.int .i64],.dead,.arr U.Block]⟩ ((),((a0.1,((),(a0.2.1,(a0.2.2.1,())))),((),(a0.2.2.2,()))))) (az.bf D ⟨[],[.box [.str,.own 2,.int .i64,.int .i64],.dead,.arr U.Block]⟩ ((),((a0.1,((),(a0.2.1,(a0.2.2.1,())))),((),(a0.2.2.2,())))))
def aeg:List (bR K ((List UInt8)×Int×Int×(List M.af))):=[⟨(Ex.exit 0),⟨[],[.box [.str,.own 2,.int .i64,.int .i64],.dead,.arr U.Block]⟩,fun x=>(x.2.1.1,x.2.1.2.2.1,x.2.1.2.2.2.1,x.2.2.2.1)⟩]
def Q9(bE:M.aa->M.ae->Int->(List UInt8)->Int->Int->(List M.af)->Option ((List UInt8)×Int×Int×(List M.af))):bJ K:=bT D false 47 2 [0,1,2,3,8,11] [] ⟨[.ptr 0 0,.an U.Type,.an U.Value,.int .i64,.an U.i64,.int .i64],[.box [.str,.own 2,.int .i64,.int .i64],.dead,.arr U.Block]⟩ (fun x=>M.nW bE x.1.2.1 x.1.2.2.1 x.1.2.2.2.1 x.1.2.2.2.2.1 ah x.1.2.2.2.2.2.1 x.2.1.1 x.2.1.2.2.1 x.2.1.2.2.2.1 x.2.2.2.1) Q8
def HG(m:(List M.aa)->(List M.ae)->Int->(List UInt8)->Int->Int->(List M.af)->Option ((List UInt8)×Int×Int×(List M.af))):aC K:={f:=72,sh:=⟨[.ptr 0 0,.an U.Type,.an U.Value,.int .i64],[.box [.str,.own 1,.int .i64,.int .i64],.arr U.Block]⟩,R:=(List UInt8)×Int×Int×(List M.af),run:=fun x=>m x.1.2.1 x.1.2.2.1 x.1.2.2.2.1 x.2.1.1 x.2.1.2.2.1 x.2.1.2.2.2.1 x.2.2.1,dflt:=default,out:=fun r=>(Sh.enc D (.aX []) (),aw.encs D [.box [.str,.own 2,.int .i64,.int .i64],.dead,.arr U.Block] ((r.1,((),(r.2.1,(r.2.2.1,())))),((),(r.2.2.2,()))))}
def Dc(bE:M.aa->M.ae->Int->(List UInt8)->Int->Int->(List M.af)->Option ((List UInt8)×Int×Int×(List M.af))):Cx K:={aL with mode:=aG .plain [(71,.dI),(46,.cX)],mv:=true,call:=callOf D [CZ (M.pD M.je),iK bE],loop:=aF [(2,Q9 bE)]}
theorem Rb(bE:M.aa->M.ae->Int->(List UInt8)->Int->Int->(List M.af)->Option ((List UInt8)×Int×Int×(List M.af)))(fM:(iK bE).Ok D Tryz.prog):aD (Dc bE):=aN ai _ (aj (QC M.je zt) (aj fM (ax)))
theorem aeh(bE:M.aa->M.ae->Int->(List UInt8)->Int->Int->(List M.af)->Option ((List UInt8)×Int×Int×(List M.af)))(fM:(iK bE).Ok D Tryz.prog):bM (Dc bE) (bN (bS Tryz.f72) 0) (Q9 bE):=
 bV (cx:=Dc bE) (n:=47) (n0:=2) (ins:=[0,1,2,3,8,11]) (outs:=[]) (sh:=⟨[.ptr 0 0,.an U.Type,.an U.Value,.int .i64,.an U.i64,.int .i64],[.box [.str,.own 2,.int .i64,.int .i64],.dead,.arr U.Block]⟩) (run:=fun n x=>M.nW bE x.1.2.1 x.1.2.2.1 x.1.2.2.2.1 x.1.2.2.2.2.1 n x.1.2.2.2.2.2.1 x.2.1.1 x.2.1.2.2.1 x.2.1.2.2.2.1 x.2.2.2.1) (bP:=aeg) (out:=Q8) ai (Rb bE fM) ay (aI (by kernel_rfl)) (fun _=>rfl) (fun m x=>by kernel_rfl) (aj ⟨bW,fun _ _ _=>rfl⟩ (ax)) false ah
theorem aei(bE:M.aa->M.ae->Int->(List UInt8)->Int->Int->(List M.af)->Option ((List UInt8)×Int×Int×(List M.af)))(fM:(iK bE).Ok D Tryz.prog):(HG (M.zy bE)).Ok D Tryz.prog:=
 aJ (cx:=Dc bE) (c:=HG (M.zy bE)) (fz:=true) (fn:=Tryz.f72) ai (Rb bE fM) ay ⟨Tryz.func72,by kernel_rfl⟩ (aK (bX 1 (by kernel_rfl) (bZ (.mk (by kernel_rfl) (aeh bE fM))))) ⟨⟨[.aX []],[.box [.str,.own 2,.int .i64,.int .i64],.dead,.arr U.Block]⟩,fun x=>(x.2.1.1,x.2.1.2.2.1,x.2.1.2.2.2.1,x.2.2.2.1)⟩ (fun x=>rfl) (fun x=>by kernel_rfl)
def HH(m:M.aa->Option (Int)):aC K:={f:=86,sh:=⟨[.el U.Type],[]⟩,R:=Int,run:=fun x=>m x.1.1,dflt:=default,out:=fun r=>(Sh.enc D (.int .i64) r,aw.encs D [] ())}
def Re:Cx K:={aL with mode:=aG .plain [(82,.dI),(81,.plain),(83,.plain)],call:=callOf D [pE M.iJ,C2 (M.rB M.je),wH M.jR],loop:=aF []}
theorem aej:aD (Re):=aN ai _ (aj tU (aj (QH M.je zt) (aj CY (ax))))
theorem aek:(HH (M.wM)).Ok D Tryz.prog:=
 aJ (cx:=Re) (c:=HH (M.wM)) (fz:=true) (fn:=Tryz.f86) ai (aej) ay ⟨Tryz.func86,by kernel_rfl⟩ (aK (aI (by kernel_rfl))) ⟨⟨[.int .i64],[]⟩,fun x=>x.1.1⟩ (fun x=>rfl) (fun x=>by kernel_rfl)
def Rf(bE:M.aa->M.ae->Int->(List UInt8)->Int->Int->(List M.af)->Option ((List UInt8)×Int×Int×(List M.af))):Cx K:={aL with mode:=aG .plain [(84,.cX),(85,.cX),(72,.cX),(82,.dI),(86,.plain),(46,.cX),(43,.plain)],mv:=true,call:=callOf D [HD (M.rE bE),HE M.mI,HG (M.zy bE),pE M.iJ,HH M.wM,iK bE,jd M.je],loop:=aF []}
theorem ael(bE:M.aa->M.ae->Int->(List UInt8)->Int->Int->(List M.af)->Option ((List UInt8)×Int×Int×(List M.af)))(fM:(iK bE).Ok D Tryz.prog):aD (Rf bE):=aN ai _ (aj (aed bE fM) (aj aef (aj (aei bE fM) (aj tU (aj aek (aj fM (aj zt (ax))))))))
theorem aem(bE:M.aa->M.ae->Int->(List UInt8)->Int->Int->(List M.af)->Option ((List UInt8)×Int×Int×(List M.af)))(fM:(iK bE).Ok D Tryz.prog):(iK (M.zz bE)).Ok D Tryz.prog:=
 aJ (cx:=Rf bE) (c:=iK (M.zz bE)) (fz:=true) (fn:=Tryz.f46) ai (ael bE fM) ay ⟨Tryz.func46,by kernel_rfl⟩ (aK (aI (by kernel_rfl))) ⟨⟨[.aX []],[.box [.str,.own 2,.int .i64,.int .i64],.dead,.arr U.Block]⟩,fun x=>(x.2.1.1,x.2.1.2.2.1,x.2.1.2.2.2.1,x.2.2.2.1)⟩ (fun x=>rfl) (fun x=>by kernel_rfl)
theorem Rh:∀n,(iK (M.rF n)).Ok D Tryz.prog
 |0=>dZ fun _=>rfl
 |n+1=>aem (M.rF n) (Rh n)
theorem aen:(iK (M.wN)).Ok D Tryz.prog:=Rh ah
def wO(m:(List UInt8)->Option (Int)):aC K:={f:=132,sh:=⟨[.str],[]⟩,R:=Int,run:=fun x=>m x.1.1,dflt:=default,out:=fun r=>(Sh.enc D (.int .i64) r,aw.encs D [] ())}
def Ri:Cx K:={aL with mode:=aG .plain [],call:=callOf D [],loop:=aF []}
theorem aeo:aD (Ri):=aN ai _ (ax)
theorem Df:(wO (M.wP)).Ok D Tryz.prog:=
 aJ (cx:=Ri) (c:=wO (M.wP)) (fz:=true) (fn:=Tryz.f132) ai (aeo) ay ⟨Tryz.func132,by kernel_rfl⟩ (aK (aI (by kernel_rfl))) ⟨⟨[.int .i64],[]⟩,fun x=>x.1.1⟩ (fun x=>rfl) (fun x=>by kernel_rfl)
def Rj(y:(Bool)⊕(Unit)){R:Type}(k:Ex->List (AV K)->List (Ob K)->R):R:=match y with
 |.inl a0=>k Ex.ret (az.bc D ⟨[.bool],[]⟩ ((a0,()),())) (az.bf D ⟨[.bool],[]⟩ ((a0,()),()))
 |.inr (a1)=>k (Ex.exit 0) (az.bc D ⟨[.any],[]⟩ (((),()),())) (az.bf D ⟨[.any],[]⟩ (((),()),()))
def aep:List (bR K ((Bool)⊕(Unit))):=[⟨Ex.ret,⟨[.bool],[]⟩,fun x=>.inl x.1.1⟩,⟨(Ex.exit 0),⟨[.any],[]⟩,fun x=>.inr (())⟩]
def Rk:bJ K:=bT D false 44 0 [1,5,8,9,10] [4] ⟨[.int .i64,.int .i64,.an U.Block,.int .i64,.int .i64],[]⟩ (fun x=>M.nX x.1.1 x.1.2.2.1 x.1.2.2.2.1 ah x.1.2.1 x.1.2.2.2.2.1) Rj
def HJ(m:(List M.af)->Int->Option (Bool)):aC K:={f:=131,sh:=⟨[.an U.Block,.int .i64],[]⟩,R:=Bool,run:=fun x=>m x.1.1 x.1.2.1,dflt:=default,out:=fun r=>(Sh.enc D (.bool) r,aw.encs D [] ())}
def Dh:Cx K:={aL with mode:=aG .plain [],call:=callOf D [],loop:=aF [(3,Rk)]}
theorem Rl:aD (Dh):=aN ai _ (ax)
theorem aeq:bM (Dh) (bN (bS Tryz.f131) 0) (Rk):=
 bV (cx:=Dh) (n:=44) (n0:=0) (ins:=[1,5,8,9,10]) (outs:=[4]) (sh:=⟨[.int .i64,.int .i64,.an U.Block,.int .i64,.int .i64],[]⟩) (run:=fun n x=>M.nX x.1.1 x.1.2.2.1 x.1.2.2.2.1 n x.1.2.1 x.1.2.2.2.2.1) (bP:=aep) (out:=Rj) ai (Rl) ay (aI (by kernel_rfl)) (fun _=>rfl) (fun m x=>by kernel_rfl) (aj ⟨dP,fun _ _ _=>rfl⟩ (aj ⟨bW,fun _ _ _=>rfl⟩ (ax))) false ah
theorem aer:(HJ (M.wQ)).Ok D Tryz.prog:=
 aJ (cx:=Dh) (c:=HJ (M.wQ)) (fz:=true) (fn:=Tryz.f131) ai (Rl) ay ⟨Tryz.func131,by kernel_rfl⟩ (aK (bX 1 (by kernel_rfl) (bZ (.mk (by kernel_rfl) (aeq))))) ⟨⟨[.bool],[]⟩,fun x=>x.1.1⟩ (fun x=>rfl) (fun x=>by kernel_rfl)
def HK(m:M.aB->Option (Bool)):aC K:={f:=88,sh:=⟨[.el U.dO],[]⟩,R:=Bool,run:=fun x=>m x.1.1,dflt:=default,out:=fun r=>(Sh.enc D (.bool) r,aw.encs D [] ())}
def Rm:Cx K:={aL with mode:=aG .plain [(132,.plain),(131,.plain)],call:=callOf D [wO M.wP,HJ M.wQ],loop:=aF []}
theorem aes:aD (Rm):=aN ai _ (aj Df (aj aer (ax)))
theorem aet:(HK (M.wR)).Ok D Tryz.prog:=
 aJ (cx:=Rm) (c:=HK (M.wR)) (fz:=true) (fn:=Tryz.f88) ai (aes) ay ⟨Tryz.func88,by kernel_rfl⟩ (aK (aI (by kernel_rfl))) ⟨⟨[.bool],[]⟩,fun x=>x.1.1⟩ (fun x=>rfl) (fun x=>by kernel_rfl)
def HL(m:Int->Option (Bool)):aC K:={f:=89,sh:=⟨[.int .i64],[]⟩,R:=Bool,run:=fun x=>m x.1.1,dflt:=default,out:=fun r=>(Sh.enc D (.bool) r,aw.encs D [] ())}
def Rn:Cx K:={aL with mode:=aG .plain [(133,.plain)],call:=callOf D [ri M.rj],loop:=aF []}
theorem aeu:aD (Rn):=aN ai _ (aj vU (ax))
theorem aev:(HL (M.HM)).Ok D Tryz.prog:=
 aJ (cx:=Rn) (c:=HL (M.HM)) (fz:=true) (fn:=Tryz.f89) ai (aeu) ay ⟨Tryz.func89,by kernel_rfl⟩ (aK (aI (by kernel_rfl))) ⟨⟨[.bool],[]⟩,fun x=>x.1.1⟩ (fun x=>rfl) (fun x=>by kernel_rfl)
def HN(m:M.aa->Option (Bool)):aC K:={f:=135,sh:=⟨[.el U.Type],[]⟩,R:=Bool,run:=fun x=>m x.1.1,dflt:=default,out:=fun r=>(Sh.enc D (.bool) r,aw.encs D [] ())}
def Ro:Cx K:={aL with mode:=aG .plain [(136,.plain)],call:=callOf D [G4 M.wo],loop:=aF []}
theorem aew:aD (Ro):=aN ai _ (aj acP (ax))
theorem aex:(HN (M.wS)).Ok D Tryz.prog:=
 aJ (cx:=Ro) (c:=HN (M.wS)) (fz:=true) (fn:=Tryz.f135) ai (aew) ay ⟨Tryz.func135,by kernel_rfl⟩ (aK (aI (by kernel_rfl))) ⟨⟨[.bool],[]⟩,fun x=>x.1.1⟩ (fun x=>rfl) (fun x=>by kernel_rfl)
def Rq(y:(Int)⊕(Unit)){R:Type}(k:Ex->List (AV K)->List (Ob K)->R):R:=match y with
 |.inl a0=>k Ex.ret (az.bc D ⟨[.int .i64],[]⟩ ((a0,()),())) (az.bf D ⟨[.int .i64],[]⟩ ((a0,()),()))
 |.inr (a1)=>k (Ex.exit 0) (az.bc D ⟨[.any],[]⟩ (((),()),())) (az.bf D ⟨[.any],[]⟩ (((),()),()))
def aey:List (bR K ((Int)⊕(Unit))):=[⟨Ex.ret,⟨[.int .i64],[]⟩,fun x=>.inl x.1.1⟩,⟨(Ex.exit 0),⟨[.any],[]⟩,fun x=>.inr (())⟩]
def Rr:bJ K:=bT D false 19 0 [0,1,7,8] [4] ⟨[.an U.Type,.fn 135 [],.int .i64,.int .i64],[]⟩ (fun x=>M.tX x.1.1 x.1.2.2.1 ah x.1.2.2.2.1) Rq
def HO(m:(List M.aa)->Option (Int)):aC K:={f:=161,sh:=⟨[.an U.Type,.fn 135 []],[]⟩,R:=Int,run:=fun x=>m x.1.1,dflt:=default,out:=fun r=>(Sh.enc D (.int .i64) r,aw.encs D [] ())}
def Di:Cx K:={aL with mode:=aG .plain [(135,.plain)],call:=callOf D [HN M.wS],loop:=aF [(2,Rr)]}
theorem Rt:aD (Di):=aN ai _ (aj aex (ax))
theorem aez:bM (Di) (bN (bS Tryz.f161) 0) (Rr):=
 bV (cx:=Di) (n:=19) (n0:=0) (ins:=[0,1,7,8]) (outs:=[4]) (sh:=⟨[.an U.Type,.fn 135 [],.int .i64,.int .i64],[]⟩) (run:=fun n x=>M.tX x.1.1 x.1.2.2.1 n x.1.2.2.2.1) (bP:=aey) (out:=Rq) ai (Rt) ay (aI (by kernel_rfl)) (fun _=>rfl) (fun m x=>by kernel_rfl) (aj ⟨dP,fun _ _ _=>rfl⟩ (aj ⟨bW,fun _ _ _=>rfl⟩ (ax))) false ah
theorem aeA:(HO (M.zA)).Ok D Tryz.prog:=
 aJ (cx:=Di) (c:=HO (M.zA)) (fz:=true) (fn:=Tryz.f161) ai (Rt) ay ⟨Tryz.func161,by kernel_rfl⟩ (aK (bX 1 (by kernel_rfl) (bZ (.mk (by kernel_rfl) (aez))))) ⟨⟨[.int .i64],[]⟩,fun x=>x.1.1⟩ (fun x=>rfl) (fun x=>by kernel_rfl)
def HQ(m:(List M.aa)->Option (Bool)):aC K:={f:=134,sh:=⟨[.an U.Type,.fn 135 []],[]⟩,R:=Bool,run:=fun x=>m x.1.1,dflt:=default,out:=fun r=>(Sh.enc D (.bool) r,aw.encs D [] ())}
def Ru:Cx K:={aL with mode:=aG .plain [(161,.plain)],call:=callOf D [HO M.zA],loop:=aF []}
theorem aeB:aD (Ru):=aN ai _ (aj aeA (ax))
theorem aeC:(HQ (M.wT)).Ok D Tryz.prog:=
 aJ (cx:=Ru) (c:=HQ (M.wT)) (fz:=true) (fn:=Tryz.f134) ai (aeB) ay ⟨Tryz.func134,by kernel_rfl⟩ (aK (aI (by kernel_rfl))) ⟨⟨[.bool],[]⟩,fun x=>x.1.1⟩ (fun x=>rfl) (fun x=>by kernel_rfl)
def HS(m:(List M.aa)->Option (Bool)):aC K:={f:=90,sh:=⟨[.an U.Type],[]⟩,R:=Bool,run:=fun x=>m x.1.1,dflt:=default,out:=fun r=>(Sh.enc D (.bool) r,aw.encs D [] ())}
def Rw:Cx K:={aL with mode:=aG .plain [(134,.plain)],call:=callOf D [HQ M.wT],loop:=aF []}
theorem aeD:aD (Rw):=aN ai _ (aj aeC (ax))
theorem aeE:(HS (M.wU)).Ok D Tryz.prog:=
 aJ (cx:=Rw) (c:=HS (M.wU)) (fz:=true) (fn:=Tryz.f90) ai (aeD) ay ⟨Tryz.func90,by kernel_rfl⟩ (aK (aI (by kernel_rfl))) ⟨⟨[.bool],[]⟩,fun x=>x.1.1⟩ (fun x=>rfl) (fun x=>by kernel_rfl)
def HT(m:M.aB->Int->(List M.aa)->Option (Bool)):aC K:={f:=49,sh:=⟨[.el U.dO,.int .i64,.an U.Type],[]⟩,R:=Bool,run:=fun x=>m x.1.1 x.1.2.1 x.1.2.2.1,dflt:=default,out:=fun r=>(Sh.enc D (.bool) r,aw.encs D [] ())}
def Rx:Cx K:={aL with mode:=aG .plain [(88,.plain),(89,.plain),(90,.plain)],call:=callOf D [HK M.wR,HL M.HM,HS M.wU],loop:=aF []}
theorem aeF:aD (Rx):=aN ai _ (aj aet (aj aev (aj aeE (ax))))
theorem aeG:(HT (M.wV)).Ok D Tryz.prog:=
 aJ (cx:=Rx) (c:=HT (M.wV)) (fz:=true) (fn:=Tryz.f49) ai (aeF) ay ⟨Tryz.func49,by kernel_rfl⟩ (aK (aI (by kernel_rfl))) ⟨⟨[.bool],[]⟩,fun x=>x.1.1⟩ (fun x=>rfl) (fun x=>by kernel_rfl)
def HU(m:M.aB->Option ((List UInt8)×(List M.af))):aC K:={f:=51,sh:=⟨[.el U.dO],[]⟩,R:=(List UInt8)×(List M.af),run:=fun x=>m x.1.1,dflt:=default,out:=fun r=>(Sh.enc D (.ptr 0 0) (),aw.encs D [.box [.own 1,.own 2],.arr U.u8,.arr U.Block] (((),((),())),(r.1,(r.2,()))))}
def Ry:Cx K:={aL with mode:=aG .plain [(94,.fresh)],call:=callOf D [Dj M.mJ],loop:=aF []}
theorem aeH:aD (Ry):=aN ai _ (aj Rz (ax))
theorem aeI:(HU (M.wW)).Ok D Tryz.prog:=
 aJ (cx:=Ry) (c:=HU (M.wW)) (fz:=true) (fn:=Tryz.f51) ai (aeH) ay ⟨Tryz.func51,by kernel_rfl⟩ (aK (aI (by kernel_rfl))) ⟨⟨[.ptr 0 0],[.box [.own 1,.own 2],.arr U.u8,.arr U.Block]⟩,fun x=>(x.2.2.1,x.2.2.2.1)⟩ (fun x=>rfl) (fun x=>by kernel_rfl)
def Dk(m:M.aa->Option (Int)):aC K:={f:=142,sh:=⟨[.el U.Type],[]⟩,R:=Int,run:=fun x=>m x.1.1,dflt:=default,out:=fun r=>(Sh.enc D (.int .i64) r,aw.encs D [] ())}
def RB:Cx K:={aL with mode:=aG .plain [(138,.plain)],call:=callOf D [vV M.vW],loop:=aF []}
theorem aeJ:aD (RB):=aN ai _ (aj BW (ax))
theorem RD:(Dk (M.rG)).Ok D Tryz.prog:=
 aJ (cx:=RB) (c:=Dk (M.rG)) (fz:=true) (fn:=Tryz.f142) ai (aeJ) ay ⟨Tryz.func142,by kernel_rfl⟩ (aK (aI (by kernel_rfl))) ⟨⟨[.int .i64],[]⟩,fun x=>x.1.1⟩ (fun x=>rfl) (fun x=>by kernel_rfl)
def ko(m:M.aa->Option (Int)):aC K:={f:=95,sh:=⟨[.el U.Type],[]⟩,R:=Int,run:=fun x=>m x.1.1,dflt:=default,out:=fun r=>(Sh.enc D (.int .i64) r,aw.encs D [] ())}
def RE(y:Int){R:Type}(k:Ex->List (AV K)->List (Ob K)->R):R:=match y with
 |a0=>k (Ex.exit 0) (az.bc D ⟨[.int .i64],[]⟩ ((a0,()),())) (az.bf D ⟨[.int .i64],[]⟩ ((a0,()),()))
def aeK:List (bR K (Int)):=[⟨(Ex.exit 0),⟨[.int .i64],[]⟩,fun x=>x.1.1⟩]
def RF(dh:M.aa->Option (Int)):bJ K:=bT D false 18 0 [3,6,7,8] [3] ⟨[.int .i64,.an U.Type,.int .i64,.int .i64],[]⟩ (fun x=>M.nY dh x.1.2.1 x.1.2.2.1 ah x.1.1 x.1.2.2.2.1) RE
def zB(m:(List M.aa)->Option (Int)):aC K:={f:=118,sh:=⟨[.an U.Type],[]⟩,R:=Int,run:=fun x=>m x.1.1,dflt:=default,out:=fun r=>(Sh.enc D (.int .i64) r,aw.encs D [] ())}
def Dl(dh:M.aa->Option (Int)):Cx K:={aL with mode:=aG .plain [(95,.plain)],call:=callOf D [ko dh],loop:=aF [(3,RF dh)]}
theorem RG(dh:M.aa->Option (Int))(nZ:(ko dh).Ok D Tryz.prog):aD (Dl dh):=aN ai _ (aj nZ (ax))
theorem aeL(dh:M.aa->Option (Int))(nZ:(ko dh).Ok D Tryz.prog):bM (Dl dh) (bN (bS Tryz.f118) 0) (RF dh):=
 bV (cx:=Dl dh) (n:=18) (n0:=0) (ins:=[3,6,7,8]) (outs:=[3]) (sh:=⟨[.int .i64,.an U.Type,.int .i64,.int .i64],[]⟩) (run:=fun n x=>M.nY dh x.1.2.1 x.1.2.2.1 n x.1.1 x.1.2.2.2.1) (bP:=aeK) (out:=RE) ai (RG dh nZ) ay (aI (by kernel_rfl)) (fun _=>rfl) (fun m x=>by kernel_rfl) (aj ⟨bW,fun _ _ _=>rfl⟩ (ax)) false ah
theorem HV(dh:M.aa->Option (Int))(nZ:(ko dh).Ok D Tryz.prog):(zB (M.k9 dh)).Ok D Tryz.prog:=
 aJ (cx:=Dl dh) (c:=zB (M.k9 dh)) (fz:=true) (fn:=Tryz.f118) ai (RG dh nZ) ay ⟨Tryz.func118,by kernel_rfl⟩ (aK (bX 1 (by kernel_rfl) (bZ (.mk (by kernel_rfl) (aeL dh nZ))))) ⟨⟨[.int .i64],[]⟩,fun x=>x.1.1⟩ (fun x=>rfl) (fun x=>by kernel_rfl)
def wX(m:M.aa->Option ((List M.aa))):aC K:={f:=143,sh:=⟨[.el U.Type],[]⟩,R:=(List M.aa),run:=fun x=>m x.1.1,dflt:=default,out:=fun r=>(Sh.enc D (.an U.Type) r,aw.encs D [] ())}
def RH:Cx K:={aL with mode:=aG .plain [],call:=callOf D [],loop:=aF []}
theorem aeM:aD (RH):=aN ai _ (ax)
theorem Dm:(wX (M.lY)).Ok D Tryz.prog:=
 aJ (cx:=RH) (c:=wX (M.lY)) (fz:=true) (fn:=Tryz.f143) ai (aeM) ay ⟨Tryz.func143,by kernel_rfl⟩ (aK (aI (by kernel_rfl))) ⟨⟨[.an U.Type],[]⟩,fun x=>x.1.1⟩ (fun x=>rfl) (fun x=>by kernel_rfl)
def Dn(m:Int->Option (Int)):aC K:={f:=144,sh:=⟨[.int .i64],[]⟩,R:=Int,run:=fun x=>m x.1.1,dflt:=default,out:=fun r=>(Sh.enc D (.int .i64) r,aw.encs D [] ())}
def RI:Cx K:={aL with mode:=aG .plain [],call:=callOf D [],loop:=aF []}
theorem aeN:aD (RI):=aN ai _ (ax)
theorem RJ:(Dn (M.tY)).Ok D Tryz.prog:=
 aJ (cx:=RI) (c:=Dn (M.tY)) (fz:=true) (fn:=Tryz.f144) ai (aeN) ay ⟨Tryz.func144,by kernel_rfl⟩ (aK (aI (by kernel_rfl))) ⟨⟨[.int .i64],[]⟩,fun x=>x.1.1⟩ (fun x=>rfl) (fun x=>by kernel_rfl)
def RL(dh:M.aa->Option (Int)):Cx K:={aL with mode:=aG .plain [(142,.plain),(118,.plain),(143,.dI),(144,.plain)],call:=callOf D [Dk M.rG,zB (M.k9 dh),wX M.lY,Dn M.tY],loop:=aF []}
theorem aeO(dh:M.aa->Option (Int))(nZ:(ko dh).Ok D Tryz.prog):aD (RL dh):=aN ai _ (aj RD (aj (HV dh nZ) (aj Dm (aj RJ (ax)))))
theorem aeP(dh:M.aa->Option (Int))(nZ:(ko dh).Ok D Tryz.prog):(ko (M.zC dh)).Ok D Tryz.prog:=
 aJ (cx:=RL dh) (c:=ko (M.zC dh)) (fz:=true) (fn:=Tryz.f95) ai (aeO dh nZ) ay ⟨Tryz.func95,by kernel_rfl⟩ (aK (aI (by kernel_rfl))) ⟨⟨[.int .i64],[]⟩,fun x=>x.1.1⟩ (fun x=>rfl) (fun x=>by kernel_rfl)
theorem RN:∀n,(ko (M.pG n)).Ok D Tryz.prog
 |0=>dZ fun _=>rfl
 |n+1=>aeP (M.pG n) (RN n)
theorem wY:(ko (M.im)).Ok D Tryz.prog:=RN ah
def tZ(m:Int->Int->Option (Int)):aC K:={f:=146,sh:=⟨[.int .i64,.int .i64],[]⟩,R:=Int,run:=fun x=>m x.1.1 x.1.2.1,dflt:=default,out:=fun r=>(Sh.enc D (.int .i64) r,aw.encs D [] ())}
def RO:Cx K:={aL with mode:=aG .plain [],call:=callOf D [],loop:=aF []}
theorem aeQ:aD (RO):=aN ai _ (ax)
theorem zD:(tZ (M.jx)).Ok D Tryz.prog:=
 aJ (cx:=RO) (c:=tZ (M.jx)) (fz:=true) (fn:=Tryz.f146) ai (aeQ) ay ⟨Tryz.func146,by kernel_rfl⟩ (aK (aI (by kernel_rfl))) ⟨⟨[.int .i64],[]⟩,fun x=>x.1.1⟩ (fun x=>rfl) (fun x=>by kernel_rfl)
def ip(m:M.aa->Option (Int)):aC K:={f:=97,sh:=⟨[.el U.Type],[]⟩,R:=Int,run:=fun x=>m x.1.1,dflt:=default,out:=fun r=>(Sh.enc D (.int .i64) r,aw.encs D [] ())}
def RP(y:Int×(List Int)){R:Type}(k:Ex->List (AV K)->List (Ob K)->R):R:=match y with
 |a0=>k (Ex.exit 0) (az.bc D ⟨[.own 1,.int .i64],[.dead,.arr U.i64]⟩ (((),(a0.1,())),((),(a0.2,())))) (az.bf D ⟨[.own 1,.int .i64],[.dead,.arr U.i64]⟩ (((),(a0.1,())),((),(a0.2,()))))
def aeR:List (bR K (Int×(List Int))):=[⟨(Ex.exit 0),⟨[.own 1,.int .i64],[.dead,.arr U.i64]⟩,fun x=>(x.1.2.1,x.2.2.1)⟩]
def RQ(bF:M.aa->Option (Int)):bJ K:=bT D false 31 1 [4,5,10,11,12] [4,5] ⟨[.own 1,.int .i64,.an U.Type,.int .i64,.int .i64],[.dead,.arr U.i64]⟩ (fun x=>M.od bF x.1.2.2.1 x.1.2.2.2.1 ah x.1.2.1 x.1.2.2.2.2.1 x.2.2.1) RP
def Dp(m:(List M.aa)->Option ((List Int)×Int)):aC K:={f:=101,sh:=⟨[.an U.Type],[]⟩,R:=(List Int)×Int,run:=fun x=>m x.1.1,dflt:=default,out:=fun r=>(Sh.enc D (.aX [.an U.i64,.int .i64]) (r.1,(r.2,())),aw.encs D [] ())}
def Dq(bF:M.aa->Option (Int)):Cx K:={aL with mode:=aG .plain [(95,.plain),(146,.plain),(97,.plain)],call:=callOf D [ko M.im,tZ M.jx,ip bF],loop:=aF [(3,RQ bF)]}
theorem RR(bF:M.aa->Option (Int))(fW:(ip bF).Ok D Tryz.prog):aD (Dq bF):=aN ai _ (aj wY (aj zD (aj fW (ax))))
theorem aeS(bF:M.aa->Option (Int))(fW:(ip bF).Ok D Tryz.prog):bM (Dq bF) (bN (bS Tryz.f101) 0) (RQ bF):=
 bV (cx:=Dq bF) (n:=31) (n0:=1) (ins:=[4,5,10,11,12]) (outs:=[4,5]) (sh:=⟨[.own 1,.int .i64,.an U.Type,.int .i64,.int .i64],[.dead,.arr U.i64]⟩) (run:=fun n x=>M.od bF x.1.2.2.1 x.1.2.2.2.1 n x.1.2.1 x.1.2.2.2.2.1 x.2.2.1) (bP:=aeR) (out:=RP) ai (RR bF fW) ay (aI (by kernel_rfl)) (fun _=>rfl) (fun m x=>by kernel_rfl) (aj ⟨bW,fun _ _ _=>rfl⟩ (ax)) false ah
theorem RS(bF:M.aa->Option (Int))(fW:(ip bF).Ok D Tryz.prog):(Dp (M.rH bF)).Ok D Tryz.prog:=
 aJ (cx:=Dq bF) (c:=Dp (M.rH bF)) (fz:=true) (fn:=Tryz.f101) ai (RR bF fW) ay ⟨Tryz.func101,by kernel_rfl⟩ (aK (bX 1 (by kernel_rfl) (bZ (.mk (by kernel_rfl) (aeS bF fW))))) ⟨⟨[.aX [.an U.i64,.int .i64]],[]⟩,fun x=>(x.1.1.1,x.1.1.2.1)⟩ (fun x=>rfl) (fun x=>by kernel_rfl)
def HW(m:(List M.aa)->Option (Int)):aC K:={f:=117,sh:=⟨[.an U.Type],[]⟩,R:=Int,run:=fun x=>m x.1.1,dflt:=default,out:=fun r=>(Sh.enc D (.int .i64) r,aw.encs D [] ())}
def RU(bF:M.aa->Option (Int)):Cx K:={aL with mode:=aG .plain [(101,.dI),(118,.plain),(146,.plain)],call:=callOf D [Dp (M.rH bF),zB (M.k9 M.im),tZ M.jx],loop:=aF []}
theorem aeT(bF:M.aa->Option (Int))(fW:(ip bF).Ok D Tryz.prog):aD (RU bF):=aN ai _ (aj (RS bF fW) (aj (HV M.im wY) (aj zD (ax))))
theorem aeU(bF:M.aa->Option (Int))(fW:(ip bF).Ok D Tryz.prog):(HW (M.ua bF)).Ok D Tryz.prog:=
 aJ (cx:=RU bF) (c:=HW (M.ua bF)) (fz:=true) (fn:=Tryz.f117) ai (aeT bF fW) ay ⟨Tryz.func117,by kernel_rfl⟩ (aK (aI (by kernel_rfl))) ⟨⟨[.int .i64],[]⟩,fun x=>x.1.1⟩ (fun x=>rfl) (fun x=>by kernel_rfl)
def Ds(m:M.aa->Option (Int)):aC K:={f:=103,sh:=⟨[.el U.Type],[]⟩,R:=Int,run:=fun x=>m x.1.1,dflt:=default,out:=fun r=>(Sh.enc D (.int .i64) r,aw.encs D [] ())}
def RV:Cx K:={aL with mode:=aG .plain [(143,.dI),(118,.plain),(146,.plain)],call:=callOf D [wX M.lY,zB (M.k9 M.im),tZ M.jx],loop:=aF []}
theorem aeV:aD (RV):=aN ai _ (aj Dm (aj (HV M.im wY) (aj zD (ax))))
theorem RX:(Ds (M.pH)).Ok D Tryz.prog:=
 aJ (cx:=RV) (c:=Ds (M.pH)) (fz:=true) (fn:=Tryz.f103) ai (aeV) ay ⟨Tryz.func103,by kernel_rfl⟩ (aK (aI (by kernel_rfl))) ⟨⟨[.int .i64],[]⟩,fun x=>x.1.1⟩ (fun x=>rfl) (fun x=>by kernel_rfl)
def RY(y:Int){R:Type}(k:Ex->List (AV K)->List (Ob K)->R):R:=match y with
 |a0=>k (Ex.exit 0) (az.bc D ⟨[.int .i64],[]⟩ ((a0,()),())) (az.bf D ⟨[.int .i64],[]⟩ ((a0,()),()))
def aeW:List (bR K (Int)):=[⟨(Ex.exit 0),⟨[.int .i64],[]⟩,fun x=>x.1.1⟩]
def RZ(bF:M.aa->Option (Int)):bJ K:=bT D false 18 0 [3,6,7,8] [3] ⟨[.int .i64,.an U.Type,.int .i64,.int .i64],[]⟩ (fun x=>M.oe bF x.1.2.1 x.1.2.2.1 ah x.1.1 x.1.2.2.2.1) RY
def HY(m:(List M.aa)->Option (Int)):aC K:={f:=147,sh:=⟨[.an U.Type],[]⟩,R:=Int,run:=fun x=>m x.1.1,dflt:=default,out:=fun r=>(Sh.enc D (.int .i64) r,aw.encs D [] ())}
def Dt(bF:M.aa->Option (Int)):Cx K:={aL with mode:=aG .plain [(97,.plain)],call:=callOf D [ip bF],loop:=aF [(3,RZ bF)]}
theorem R7(bF:M.aa->Option (Int))(fW:(ip bF).Ok D Tryz.prog):aD (Dt bF):=aN ai _ (aj fW (ax))
theorem aeX(bF:M.aa->Option (Int))(fW:(ip bF).Ok D Tryz.prog):bM (Dt bF) (bN (bS Tryz.f147) 0) (RZ bF):=
 bV (cx:=Dt bF) (n:=18) (n0:=0) (ins:=[3,6,7,8]) (outs:=[3]) (sh:=⟨[.int .i64,.an U.Type,.int .i64,.int .i64],[]⟩) (run:=fun n x=>M.oe bF x.1.2.1 x.1.2.2.1 n x.1.1 x.1.2.2.2.1) (bP:=aeW) (out:=RY) ai (R7 bF fW) ay (aI (by kernel_rfl)) (fun _=>rfl) (fun m x=>by kernel_rfl) (aj ⟨bW,fun _ _ _=>rfl⟩ (ax)) false ah
theorem aeY(bF:M.aa->Option (Int))(fW:(ip bF).Ok D Tryz.prog):(HY (M.rI bF)).Ok D Tryz.prog:=
 aJ (cx:=Dt bF) (c:=HY (M.rI bF)) (fz:=true) (fn:=Tryz.f147) ai (R7 bF fW) ay ⟨Tryz.func147,by kernel_rfl⟩ (aK (bX 1 (by kernel_rfl) (bZ (.mk (by kernel_rfl) (aeX bF fW))))) ⟨⟨[.int .i64],[]⟩,fun x=>x.1.1⟩ (fun x=>rfl) (fun x=>by kernel_rfl)
def R9(bF:M.aa->Option (Int)):Cx K:={aL with mode:=aG .plain [(142,.plain),(117,.plain),(103,.plain),(143,.dI),(147,.plain),(95,.plain),(146,.plain),(144,.plain)],call:=callOf D [Dk M.rG,HW (M.ua bF),Ds M.pH,wX M.lY,HY (M.rI bF),ko M.im,tZ M.jx,Dn M.tY],loop:=aF []}
theorem aeZ(bF:M.aa->Option (Int))(fW:(ip bF).Ok D Tryz.prog):aD (R9 bF):=aN ai _ (aj RD (aj (aeU bF fW) (aj RX (aj Dm (aj (aeY bF fW) (aj wY (aj zD (aj RJ (ax)))))))))
theorem ae0(bF:M.aa->Option (Int))(fW:(ip bF).Ok D Tryz.prog):(ip (M.zE bF)).Ok D Tryz.prog:=
 aJ (cx:=R9 bF) (c:=ip (M.zE bF)) (fz:=true) (fn:=Tryz.f97) ai (aeZ bF fW) ay ⟨Tryz.func97,by kernel_rfl⟩ (aK (aI (by kernel_rfl))) ⟨⟨[.int .i64],[]⟩,fun x=>x.1.1⟩ (fun x=>rfl) (fun x=>by kernel_rfl)
theorem Si:∀n,(ip (M.oh n)).Ok D Tryz.prog
 |0=>dZ fun _=>rfl
 |n+1=>ae0 (M.oh n) (Si n)
theorem Du:(ip (M.kq)).Ok D Tryz.prog:=Si ah
def HZ(m:(List UInt8)->Option (Int)):aC K:={f:=145,sh:=⟨[.an U.u8],[]⟩,R:=Int,run:=fun x=>m x.1.1,dflt:=default,out:=fun r=>(Sh.enc D (.int .i64) r,aw.encs D [] ())}
def Sj:Cx K:={aL with mode:=aG .plain [],call:=callOf D [],loop:=aF []}
theorem ae1:aD (Sj):=aN ai _ (ax)
theorem ae2:(HZ (M.H3)).Ok D Tryz.prog:=
 aJ (cx:=Sj) (c:=HZ (M.H3)) (fz:=true) (fn:=Tryz.f145) ai (ae1) ay ⟨Tryz.func145,by kernel_rfl⟩ (aK (aI (by kernel_rfl))) ⟨⟨[.int .i64],[]⟩,fun x=>x.1.1⟩ (fun x=>rfl) (fun x=>by kernel_rfl)
def H4(m:M.hC->Int->Int->Option (Bool)):aC K:={f:=96,sh:=⟨[.rp U.store 0,.int .i64,.int .i64],[]⟩,R:=Bool,run:=fun x=>m x.1.1 x.1.2.1 x.1.2.2.1,dflt:=default,out:=fun r=>(Sh.enc D (.bool) r,aw.encs D [] ())}
def Sl:Cx K:={aL with mode:=aG .plain [(145,.plain)],call:=callOf D [HZ M.H3],loop:=aF []}
theorem ae3:aD (Sl):=aN ai _ (aj ae2 (ax))
theorem ae4:(H4 (M.ub)).Ok D Tryz.prog:=
 aJ (cx:=Sl) (c:=H4 (M.ub)) (fz:=true) (fn:=Tryz.f96) ai (ae3) ay ⟨Tryz.func96,by kernel_rfl⟩ (aK (aI (by kernel_rfl))) ⟨⟨[.bool],[]⟩,fun x=>x.1.1⟩ (fun x=>rfl) (fun x=>by kernel_rfl)
def Sm(y:(List UInt8)){R:Type}(k:Ex->List (AV K)->List (Ob K)->R):R:=match y with
 |a0=>k (Ex.exit 0) (az.bc D ⟨[.own 1],[.dead,.arr U.u8]⟩ (((),()),((),(a0,())))) (az.bf D ⟨[.own 1],[.dead,.arr U.u8]⟩ (((),()),((),(a0,()))))
def ae5:List (bR K ((List UInt8))):=[⟨(Ex.exit 0),⟨[.own 1],[.dead,.arr U.u8]⟩,fun x=>x.2.2.1⟩]
def Sr:bJ K:=bT D false 20 1 [0,5,7,8] [5] ⟨[.int .i64,.own 1,.int .i64,.int .i64],[.dead,.arr U.u8]⟩ (fun x=>M.oi x.1.2.2.1 ah x.1.1 x.1.2.2.2.1 x.2.2.1) Sm
def zF(m:Int->Int->Option ((List UInt8))):aC K:={f:=100,sh:=⟨[.int .i64,.int .i64],[]⟩,R:=(List UInt8),run:=fun x=>m x.1.1 x.1.2.1,dflt:=default,out:=fun r=>(Sh.enc D (.str) r,aw.encs D [] ())}
def Dv:Cx K:={aL with mode:=aG .plain [],call:=callOf D [],loop:=aF [(3,Sr)]}
theorem Ss:aD (Dv):=aN ai _ (ax)
theorem ae6:bM (Dv) (bN (bS Tryz.f100) 0) (Sr):=
 bV (cx:=Dv) (n:=20) (n0:=1) (ins:=[0,5,7,8]) (outs:=[5]) (sh:=⟨[.int .i64,.own 1,.int .i64,.int .i64],[.dead,.arr U.u8]⟩) (run:=fun n x=>M.oi x.1.2.2.1 n x.1.1 x.1.2.2.2.1 x.2.2.1) (bP:=ae5) (out:=Sm) ai (Ss) ay (aI (by kernel_rfl)) (fun _=>rfl) (fun m x=>by kernel_rfl) (aj ⟨bW,fun _ _ _=>rfl⟩ (ax)) false ah
theorem H5:(zF (M.jf)).Ok D Tryz.prog:=
 aJ (cx:=Dv) (c:=zF (M.jf)) (fz:=true) (fn:=Tryz.f100) ai (Ss) ay ⟨Tryz.func100,by kernel_rfl⟩ (aK (bX 1 (by kernel_rfl) (bZ (.mk (by kernel_rfl) (ae6))))) ⟨⟨[.str],[]⟩,fun x=>x.1.1⟩ (fun x=>rfl) (fun x=>by kernel_rfl)
def H6(m:Int->Option ((List UInt8))):aC K:={f:=168,sh:=⟨[.int .i64],[]⟩,R:=(List UInt8),run:=fun x=>m x.1.1,dflt:=default,out:=fun r=>(Sh.enc D (.str) r,aw.encs D [] ())}
def Su:Cx K:={aL with mode:=aG .plain [(100,.plain)],call:=callOf D [zF M.jf],loop:=aF []}
theorem ae7:aD (Su):=aN ai _ (aj H5 (ax))
theorem ae8:(H6 (M.wZ)).Ok D Tryz.prog:=
 aJ (cx:=Su) (c:=H6 (M.wZ)) (fz:=true) (fn:=Tryz.f168) ai (ae7) ay ⟨Tryz.func168,by kernel_rfl⟩ (aK (aI (by kernel_rfl))) ⟨⟨[.str],[]⟩,fun x=>x.1.1⟩ (fun x=>rfl) (fun x=>by kernel_rfl)
def Sv(y:((List UInt8)×Int)⊕((List UInt8))){R:Type}(k:Ex->List (AV K)->List (Ob K)->R):R:=match y with
 |.inl a0=>k Ex.ret (az.bc D ⟨[.any,.str,.int .i64],[.dead]⟩ (((),(a0.1,(a0.2,()))),((),()))) (az.bf D ⟨[.any,.str,.int .i64],[.dead]⟩ (((),(a0.1,(a0.2,()))),((),())))
 |.inr (a1)=>k (Ex.exit 0) (az.bc D ⟨[.str,.any,.any],[.dead]⟩ ((a1,((),((),()))),((),()))) (az.bf D ⟨[.str,.any,.any],[.dead]⟩ ((a1,((),((),()))),((),())))
def ae9:List (bR K (((List UInt8)×Int)⊕((List UInt8)))):=[⟨Ex.ret,⟨[.any,.str,.int .i64],[.dead]⟩,fun x=>.inl (x.1.2.1,x.1.2.2.1)⟩,⟨(Ex.exit 0),⟨[.str,.any,.any],[.dead]⟩,fun x=>.inr (x.1.1)⟩]
def Sz:bJ K:=bT D false 35 1 [0,6,13,14,15] [6,4,5] ⟨[.int .i64,.str,.own 1,.int .i64,.int .i64],[.dead,.arr U.i64]⟩ (fun x=>M.mK x.1.1 x.1.2.2.2.1 x.2.2.1 ah x.1.2.1 x.1.2.2.2.2.1) Sv
def Dw(m:Int->(List UInt8)->Option ((List UInt8)×Int)):aC K:={f:=148,sh:=⟨[.int .i64,.str],[]⟩,R:=(List UInt8)×Int,run:=fun x=>m x.1.1 x.1.2.1,dflt:=default,out:=fun r=>(Sh.enc D (.aX [.str,.int .i64]) (r.1,(r.2,())),aw.encs D [] ())}
def Dx:Cx K:={aL with mode:=aG .plain [(167,.fresh),(168,.plain),(100,.plain)],call:=callOf D [H7 M.rJ,H6 M.wZ,zF M.jf],loop:=aF [(5,Sz)]}
theorem SA:aD (Dx):=aN ai _ (aj afa (aj ae8 (aj H5 (ax))))
theorem afb:bM (Dx) (bN (bS Tryz.f148) 0) (Sz):=
 bV (cx:=Dx) (n:=35) (n0:=1) (ins:=[0,6,13,14,15]) (outs:=[6,4,5]) (sh:=⟨[.int .i64,.str,.own 1,.int .i64,.int .i64],[.dead,.arr U.i64]⟩) (run:=fun n x=>M.mK x.1.1 x.1.2.2.2.1 x.2.2.1 n x.1.2.1 x.1.2.2.2.2.1) (bP:=ae9) (out:=Sv) ai (SA) ay (aI (by kernel_rfl)) (fun _=>rfl) (fun m x=>by kernel_rfl) (aj ⟨dP,fun _ _ _=>rfl⟩ (aj ⟨bW,fun _ _ _=>rfl⟩ (ax))) false ah
theorem SB:(Dw (M.rK)).Ok D Tryz.prog:=
 aJ (cx:=Dx) (c:=Dw (M.rK)) (fz:=true) (fn:=Tryz.f148) ai (SA) ay ⟨Tryz.func148,by kernel_rfl⟩ (aK (bX 1 (by kernel_rfl) (bZ (.mk (by kernel_rfl) (afb))))) ⟨⟨[.aX [.str,.int .i64]],[]⟩,fun x=>(x.1.1.1,x.1.1.2.1)⟩ (fun x=>rfl) (fun x=>by kernel_rfl)
def Dy(m:Int->Option (Int)):aC K:={f:=149,sh:=⟨[.int .i64],[]⟩,R:=Int,run:=fun x=>m x.1.1,dflt:=default,out:=fun r=>(Sh.enc D (.int .i64) r,aw.encs D [] ())}
def SC:Cx K:={aL with mode:=aG .plain [],call:=callOf D [],loop:=aF []}
theorem afc:aD (SC):=aN ai _ (ax)
theorem SD:(Dy (M.oj)).Ok D Tryz.prog:=
 aJ (cx:=SC) (c:=Dy (M.oj)) (fz:=true) (fn:=Tryz.f149) ai (afc) ay ⟨Tryz.func149,by kernel_rfl⟩ (aK (aI (by kernel_rfl))) ⟨⟨[.int .i64],[]⟩,fun x=>x.1.1⟩ (fun x=>rfl) (fun x=>by kernel_rfl)
def SE(y:(List (List M.af))×Int){R:Type}(k:Ex->List (AV K)->List (Ob K)->R):R:=match y with
 |a0=>k (Ex.exit 0) (az.bc D ⟨[.an U.g9,.int .i64],[]⟩ ((a0.1,(a0.2,())),())) (az.bf D ⟨[.an U.g9,.int .i64],[]⟩ ((a0.1,(a0.2,())),()))
def afd:List (bR K ((List (List M.af))×Int)):=[⟨(Ex.exit 0),⟨[.an U.g9,.int .i64],[]⟩,fun x=>(x.1.1,x.1.2.1)⟩]
def SG:bJ K:=bT D false 36 0 [0,3,9,10,11] [0,3] ⟨[.an U.g9,.int .i64,.an U.g9,.int .i64,.int .i64],[]⟩ (fun x=>M.pI x.1.1 x.1.2.2.1 x.1.2.2.2.1 ah x.1.2.1 x.1.2.2.2.2.1) SE
def SH(y:(List M.af)){R:Type}(k:Ex->List (AV K)->List (Ob K)->R):R:=match y with
 |a0=>k (Ex.exit 2) (az.bc D ⟨[.own 1],[.dead,.arr U.Block]⟩ (((),()),((),(a0,())))) (az.bf D ⟨[.own 1],[.dead,.arr U.Block]⟩ (((),()),((),(a0,()))))
def afe:List (bR K ((List M.af))):=[⟨(Ex.exit 2),⟨[.own 1],[.dead,.arr U.Block]⟩,fun x=>x.2.2.1⟩]
def SI:bJ K:=bT D false 36 1 [6,25,26,27] [6] ⟨[.own 1,.an U.g9,.int .i64,.int .i64],[.dead,.arr U.Block]⟩ (fun x=>M.pJ x.1.2.1 x.1.2.2.1 ah x.1.2.2.2.1 x.2.2.1) SH
def H8(m:(List (List M.af))->Option ((List M.af))):aC K:={f:=169,sh:=⟨[.an U.g9],[]⟩,R:=(List M.af),run:=fun x=>m x.1.1,dflt:=default,out:=fun r=>(Sh.enc D (.own 0) (),aw.encs D [.arr U.Block] (r,()))}
def w8:Cx K:={aL with mode:=aG .plain [(180,.fresh)],fK:=[[some U.Block]],deep:=fun c=>dw (D.cells c (K.zero c)),call:=callOf D [H9 M.rL],loop:=aF [(3,SG),(11,SI)]}
theorem Ia:aD (w8):=aN ai _ (aj aff (ax))
theorem afg:bM (w8) (bN (bS Tryz.f169) 0) (SG):=
 bV (cx:=w8) (n:=36) (n0:=0) (ins:=[0,3,9,10,11]) (outs:=[0,3]) (sh:=⟨[.an U.g9,.int .i64,.an U.g9,.int .i64,.int .i64],[]⟩) (run:=fun n x=>M.pI x.1.1 x.1.2.2.1 x.1.2.2.2.1 n x.1.2.1 x.1.2.2.2.2.1) (bP:=afd) (out:=SE) ai (Ia) ay (aI (by kernel_rfl)) (fun _=>rfl) (fun m x=>by kernel_rfl) (aj ⟨bW,fun _ _ _=>rfl⟩ (ax)) false ah
theorem afh:bM (w8) (bN (bS Tryz.f169) 1) (SI):=
 bV (cx:=w8) (n:=36) (n0:=1) (ins:=[6,25,26,27]) (outs:=[6]) (sh:=⟨[.own 1,.an U.g9,.int .i64,.int .i64],[.dead,.arr U.Block]⟩) (run:=fun n x=>M.pJ x.1.2.1 x.1.2.2.1 n x.1.2.2.2.1 x.2.2.1) (bP:=afe) (out:=SH) ai (Ia) ay (aI (by kernel_rfl)) (fun _=>rfl) (fun m x=>by kernel_rfl) (aj ⟨bW,fun _ _ _=>rfl⟩ (ax)) false ah
theorem afi:(H8 (M.pK)).Ok D Tryz.prog:=
 aJ (cx:=w8) (c:=H8 (M.pK)) (fz:=false) (fn:=Tryz.f169) ai (Ia) ay ⟨Tryz.func169,by kernel_rfl⟩ (aK (bX 2 (by kernel_rfl) (lt_succ (bZ (.mk (by kernel_rfl) (afg))) (.mk (by kernel_rfl) (afh))))) ⟨⟨[.own 0],[.arr U.Block]⟩,fun x=>x.2.1⟩ (fun x=>rfl) (fun x=>by kernel_rfl)
def SJ(y:(Int×Int×(List UInt8)×(List M.af))⊕((List UInt8)×(List M.af))){R:Type}(k:Ex->List (AV K)->List (Ob K)->R):R:=match y with
 |.inl a0=>k Ex.ret (az.bc D ⟨[.int .i64,.int .i64],[.box [.own 3,.own 4],.dead,.dead,.arr U.u8,.arr U.Block]⟩ ((a0.1,(a0.2.1,())),(((),((),())),((),((),(a0.2.2.1,(a0.2.2.2,()))))))) (az.bf D ⟨[.int .i64,.int .i64],[.box [.own 3,.own 4],.dead,.dead,.arr U.u8,.arr U.Block]⟩ ((a0.1,(a0.2.1,())),(((),((),())),((),((),(a0.2.2.1,(a0.2.2.2,())))))))
 |.inr (a1)=>k (Ex.exit 0) (az.bc D ⟨[.any,.any],[.box [.own 3,.own 4],.dead,.dead,.arr U.u8,.arr U.Block]⟩ (((),((),())),(((),((),())),((),((),(a1.1,(a1.2,()))))))) (az.bf D ⟨[.any,.any],[.box [.own 3,.own 4],.dead,.dead,.arr U.u8,.arr U.Block]⟩ (((),((),())),(((),((),())),((),((),(a1.1,(a1.2,())))))))
def afj:List (bR K ((Int×Int×(List UInt8)×(List M.af))⊕((List UInt8)×(List M.af)))):=[⟨Ex.ret,⟨[.int .i64,.int .i64],[.box [.own 3,.own 4],.dead,.dead,.arr U.u8,.arr U.Block]⟩,fun x=>.inl (x.1.1,x.1.2.1,x.2.2.2.2.1,x.2.2.2.2.2.1)⟩,⟨(Ex.exit 0),⟨[.any,.any],[.box [.own 3,.own 4],.dead,.dead,.arr U.u8,.arr U.Block]⟩,fun x=>.inr ((x.2.2.2.2.1,x.2.2.2.2.2.1))⟩]
def SK:bJ K:=bT D false 90 3 [0,1,2,19,20,21] [6,7] ⟨[.ptr 0 0,.int .i64,.int .i64,.own 3,.int .i64,.int .i64],[.box [.own 4,.own 3],.dead,.dead,.arr U.Block,.arr U.u8]⟩ (fun x=>M.om x.1.2.1 x.1.2.2.1 x.1.2.2.2.2.1 x.2.2.2.2.1 x.2.2.2.2.2.1 ah x.1.2.2.2.2.2.1) SJ
def Ib(m:Int->Int->(List UInt8)->(List M.af)->Option (Int×Int×(List UInt8)×(List M.af))):aC K:={f:=155,sh:=⟨[.ptr 0 0,.int .i64,.int .i64],[.box [.own 1,.own 2],.arr U.u8,.arr U.Block]⟩,R:=Int×Int×(List UInt8)×(List M.af),run:=fun x=>m x.1.2.1 x.1.2.2.1 x.2.2.1 x.2.2.2.1,dflt:=default,out:=fun r=>(Sh.enc D (.aX [.int .i64,.int .i64]) (r.1,(r.2.1,())),aw.encs D [.box [.own 3,.own 4],.dead,.dead,.arr U.u8,.arr U.Block] (((),((),())),((),((),(r.2.2.1,(r.2.2.2,()))))))}
def Dz:Cx K:={aL with mode:=aG .plain [(146,.plain),(169,.fresh)],Ic:=true,mv:=true,call:=callOf D [tZ M.jx,H8 M.pK],loop:=aF [(4,SK)]}
theorem SL:aD (Dz):=aN ai _ (aj zD (aj afi (ax)))
theorem afk:bM (Dz) (bN (bS Tryz.f155) 0) (SK):=
 bV (cx:=Dz) (n:=90) (n0:=3) (ins:=[0,1,2,19,20,21]) (outs:=[6,7]) (sh:=⟨[.ptr 0 0,.int .i64,.int .i64,.own 3,.int .i64,.int .i64],[.box [.own 4,.own 3],.dead,.dead,.arr U.Block,.arr U.u8]⟩) (run:=fun n x=>M.om x.1.2.1 x.1.2.2.1 x.1.2.2.2.2.1 x.2.2.2.2.1 x.2.2.2.2.2.1 n x.1.2.2.2.2.2.1) (bP:=afj) (out:=SJ) ai (SL) ay (aI (by kernel_rfl)) (fun _=>rfl) (fun m x=>by kernel_rfl) (aj ⟨dP,fun _ _ _=>rfl⟩ (aj ⟨bW,fun _ _ _=>rfl⟩ (ax))) false ah
theorem afl:(Ib (M.w9)).Ok D Tryz.prog:=
 aJ (cx:=Dz) (c:=Ib (M.w9)) (fz:=true) (fn:=Tryz.f155) ai (SL) ay ⟨Tryz.func155,by kernel_rfl⟩ (aK (bX 1 (by kernel_rfl) (bZ (.mk (by kernel_rfl) (afk))))) ⟨⟨[.aX [.int .i64,.int .i64]],[.box [.own 3,.own 4],.dead,.dead,.arr U.u8,.arr U.Block]⟩,fun x=>(x.1.1.1,x.1.1.2.1,x.2.2.2.2.1,x.2.2.2.2.2.1)⟩ (fun x=>rfl) (fun x=>by kernel_rfl)
def DC(m:Int->Int->Int->Int->(List UInt8)->(List M.af)->Option (Int×Int×Int×(List UInt8)×(List M.af))):aC K:={f:=113,sh:=⟨[.ptr 0 0,.int .i64,.int .i64],[.box [.ptr 1 0,.int .i64,.int .i64],.box [.own 2,.own 3],.arr U.u8,.arr U.Block]⟩,R:=Int×Int×Int×(List UInt8)×(List M.af),run:=fun x=>m x.1.2.1 x.1.2.2.1 x.2.1.2.1 x.2.1.2.2.1 x.2.2.2.1 x.2.2.2.2.1,dflt:=default,out:=fun r=>(Sh.enc D (.int .i64) r.1,aw.encs D [.box [.ptr 1 0,.int .i64,.int .i64],.box [.own 4,.own 5],.dead,.dead,.arr U.u8,.arr U.Block] (((),(r.2.1,(r.2.2.1,()))),(((),((),())),((),((),(r.2.2.2.1,(r.2.2.2.2,())))))))}
def SN:Cx K:={aL with mode:=aG .plain [(155,.cX)],mv:=true,call:=callOf D [Ib M.w9],loop:=aF []}
theorem afm:aD (SN):=aN ai _ (aj afl (ax))
theorem SO:(DC (M.lZ)).Ok D Tryz.prog:=
 aJ (cx:=SN) (c:=DC (M.lZ)) (fz:=true) (fn:=Tryz.f113) ai (afm) ay ⟨Tryz.func113,by kernel_rfl⟩ (aK (aI (by kernel_rfl))) ⟨⟨[.int .i64],[.box [.ptr 1 0,.int .i64,.int .i64],.box [.own 4,.own 5],.dead,.dead,.arr U.u8,.arr U.Block]⟩,fun x=>(x.1.1,x.2.1.2.1,x.2.1.2.2.1,x.2.2.2.2.2.1,x.2.2.2.2.2.2.1)⟩ (fun x=>rfl) (fun x=>by kernel_rfl)
def Ie(m:Int->(List UInt8)->(List UInt8)->(List M.af)->Option (Bool×(List UInt8)×(List M.af))):aC K:={f:=151,sh:=⟨[.ptr 0 0,.int .i64,.str],[.box [.own 1,.own 2],.arr U.u8,.arr U.Block]⟩,R:=Bool×(List UInt8)×(List M.af),run:=fun x=>m x.1.2.1 x.1.2.2.1 x.2.2.1 x.2.2.2.1,dflt:=default,out:=fun r=>(Sh.enc D (.bool) r.1,aw.encs D [.box [.own 3,.own 4],.dead,.dead,.arr U.u8,.arr U.Block] (((),((),())),((),((),(r.2.1,(r.2.2,()))))))}
def SQ:Cx K:={aL with mode:=aG .plain [(132,.plain),(96,.plain)],Ic:=true,mv:=true,call:=callOf D [wO M.wP,H4 M.ub],loop:=aF []}
theorem afn:aD (SQ):=aN ai _ (aj Df (aj ae4 (ax)))
theorem afo:(Ie (M.xa)).Ok D Tryz.prog:=
 aJ (cx:=SQ) (c:=Ie (M.xa)) (fz:=true) (fn:=Tryz.f151) ai (afn) ay ⟨Tryz.func151,by kernel_rfl⟩ (aK (aI (by kernel_rfl))) ⟨⟨[.bool],[.box [.own 3,.own 4],.dead,.dead,.arr U.u8,.arr U.Block]⟩,fun x=>(x.1.1,x.2.2.2.2.1,x.2.2.2.2.2.1)⟩ (fun x=>rfl) (fun x=>by kernel_rfl)
def zG(m:Int->(List UInt8)->Int->Int->(List UInt8)->(List M.af)->Option (Int×Int×(List UInt8)×(List M.af))):aC K:={f:=99,sh:=⟨[.ptr 0 0,.int .i64,.str],[.box [.ptr 1 0,.int .i64,.int .i64],.box [.own 2,.own 3],.arr U.u8,.arr U.Block]⟩,R:=Int×Int×(List UInt8)×(List M.af),run:=fun x=>m x.1.2.1 x.1.2.2.1 x.2.1.2.1 x.2.1.2.2.1 x.2.2.2.1 x.2.2.2.2.1,dflt:=default,out:=fun r=>(Sh.enc D (.aX []) (),aw.encs D [.box [.ptr 1 0,.int .i64,.int .i64],.box [.own 4,.own 5],.dead,.dead,.arr U.u8,.arr U.Block] (((),(r.1,(r.2.1,()))),(((),((),())),((),((),(r.2.2.1,(r.2.2.2,())))))))}
def SR:Cx K:={aL with mode:=aG .plain [(151,.cX)],mv:=true,call:=callOf D [Ie M.xa],loop:=aF []}
theorem afp:aD (SR):=aN ai _ (aj afo (ax))
theorem Ig:(zG (M.jS)).Ok D Tryz.prog:=
 aJ (cx:=SR) (c:=zG (M.jS)) (fz:=true) (fn:=Tryz.f99) ai (afp) ay ⟨Tryz.func99,by kernel_rfl⟩ (aK (aI (by kernel_rfl))) ⟨⟨[.aX []],[.box [.ptr 1 0,.int .i64,.int .i64],.box [.own 4,.own 5],.dead,.dead,.arr U.u8,.arr U.Block]⟩,fun x=>(x.2.1.2.1,x.2.1.2.2.1,x.2.2.2.2.2.1,x.2.2.2.2.2.2.1)⟩ (fun x=>rfl) (fun x=>by kernel_rfl)
def lg(m:M.aa->M.ae->Int->Int->Int->(List UInt8)->(List M.af)->Option (Int×Int×(List UInt8)×(List M.af))):aC K:={f:=53,sh:=⟨[.ptr 0 0,.el U.Type,.el U.Value,.int .i64],[.box [.ptr 1 0,.int .i64,.int .i64],.box [.own 2,.own 3],.arr U.u8,.arr U.Block]⟩,R:=Int×Int×(List UInt8)×(List M.af),run:=fun x=>m x.1.2.1 x.1.2.2.1 x.1.2.2.2.1 x.2.1.2.1 x.2.1.2.2.1 x.2.2.2.1 x.2.2.2.2.1,dflt:=default,out:=fun r=>(Sh.enc D (.aX []) (),aw.encs D [.box [.ptr 1 0,.int .i64,.int .i64],.box [.own 4,.own 5],.dead,.dead,.arr U.u8,.arr U.Block] (((),(r.1,(r.2.1,()))),(((),((),())),((),((),(r.2.2.1,(r.2.2.2,())))))))}
def SS(y:Int×Int×Int×M.ae×(List UInt8)×(List M.af)){R:Type}(k:Ex->List (AV K)->List (Ob K)->R):R:=match y with
 |a0=>k (Ex.exit 0) (az.bc D ⟨[.ptr 1 0,.int .i64],[.box [.ptr 3 0,.int .i64,.int .i64],.el U.Value,.dead,.box [.own 6,.own 7],.dead,.dead,.arr U.u8,.arr U.Block]⟩ (((),(a0.1,())),(((),(a0.2.1,(a0.2.2.1,()))),(a0.2.2.2.1,((),(((),((),())),((),((),(a0.2.2.2.2.1,(a0.2.2.2.2.2,())))))))))) (az.bf D ⟨[.ptr 1 0,.int .i64],[.box [.ptr 3 0,.int .i64,.int .i64],.el U.Value,.dead,.box [.own 6,.own 7],.dead,.dead,.arr U.u8,.arr U.Block]⟩ (((),(a0.1,())),(((),(a0.2.1,(a0.2.2.1,()))),(a0.2.2.2.1,((),(((),((),())),((),((),(a0.2.2.2.2.1,(a0.2.2.2.2.2,()))))))))))
def afq:List (bR K (Int×Int×Int×M.ae×(List UInt8)×(List M.af))):=[⟨(Ex.exit 0),⟨[.ptr 1 0,.int .i64],[.box [.ptr 3 0,.int .i64,.int .i64],.el U.Value,.dead,.box [.own 6,.own 7],.dead,.dead,.arr U.u8,.arr U.Block]⟩,fun x=>(x.1.2.1,x.2.1.2.1,x.2.1.2.2.1,x.2.2.1,x.2.2.2.2.2.2.2.1,x.2.2.2.2.2.2.2.2.1)⟩]
def SU(cC:M.aa->M.ae->Int->Int->Int->(List UInt8)->(List M.af)->Option (Int×Int×(List UInt8)×(List M.af))):bJ K:=bT D false 96 6 [0,5,11,12,74,75,76] [5,12] ⟨[.ptr 0 0,.ptr 1 0,.ptr 2 0,.int .i64,.an U.Value,.int .i64,.int .i64],[.box [.ptr 3 0,.int .i64,.int .i64],.el U.Value,.el U.Type,.box [.own 6,.own 7],.dead,.dead,.arr U.u8,.arr U.Block]⟩ (fun x=>M.iL cC x.1.2.2.2.1 x.1.2.2.2.2.1 x.1.2.2.2.2.2.1 ah x.1.2.2.2.2.2.2.1 x.2.1.2.1 x.2.1.2.2.1 x.2.2.1 x.2.2.2.1 x.2.2.2.2.2.2.2.1 x.2.2.2.2.2.2.2.2.1) SS
def Ih(m:M.aa->M.ae->Int->Int->(List UInt8)->(List M.af)->Option (Int×Int×Int×Int×(List UInt8)×(List M.af))):aC K:={f:=98,sh:=⟨[.ptr 0 0,.el U.Type,.el U.Value],[.box [.ptr 1 0,.int .i64,.int .i64],.box [.own 2,.own 3],.arr U.u8,.arr U.Block]⟩,R:=Int×Int×Int×Int×(List UInt8)×(List M.af),run:=fun x=>m x.1.2.1 x.1.2.2.1 x.2.1.2.1 x.2.1.2.2.1 x.2.2.2.1 x.2.2.2.2.1,dflt:=default,out:=fun r=>(Sh.enc D (.aX [.int .i64,.int .i64]) (r.1,(r.2.1,())),aw.encs D [.box [.ptr 1 0,.int .i64,.int .i64],.box [.own 4,.own 5],.dead,.dead,.arr U.u8,.arr U.Block] (((),(r.2.2.1,(r.2.2.2.1,()))),(((),((),())),((),((),(r.2.2.2.2.1,(r.2.2.2.2.2,())))))))}
def DD(cC:M.aa->M.ae->Int->Int->Int->(List UInt8)->(List M.af)->Option (Int×Int×(List UInt8)×(List M.af))):Cx K:={aL with mode:=aG .plain [(148,.plain),(132,.plain),(149,.plain),(113,.cX),(99,.cX),(150,.plain),(97,.plain),(95,.plain),(53,.cX)],mv:=true,call:=callOf D [Dw M.rK,wO M.wP,Dy M.oj,DC M.lZ,zG M.jS,Cm M.CB,ip M.kq,ko M.im,lg cC],loop:=aF [(12,SU cC)]}
theorem SV(cC:M.aa->M.ae->Int->Int->Int->(List UInt8)->(List M.af)->Option (Int×Int×(List UInt8)×(List M.af)))(kr:(lg cC).Ok D Tryz.prog):aD (DD cC):=aN ai _ (aj SB (aj Df (aj SD (aj SO (aj Ig (aj PO (aj Du (aj wY (aj kr (ax))))))))))
theorem afr(cC:M.aa->M.ae->Int->Int->Int->(List UInt8)->(List M.af)->Option (Int×Int×(List UInt8)×(List M.af)))(kr:(lg cC).Ok D Tryz.prog):bM (DD cC) (bN (bS Tryz.f98) 0) (SU cC):=
 bV (cx:=DD cC) (n:=96) (n0:=6) (ins:=[0,5,11,12,74,75,76]) (outs:=[5,12]) (sh:=⟨[.ptr 0 0,.ptr 1 0,.ptr 2 0,.int .i64,.an U.Value,.int .i64,.int .i64],[.box [.ptr 3 0,.int .i64,.int .i64],.el U.Value,.el U.Type,.box [.own 6,.own 7],.dead,.dead,.arr U.u8,.arr U.Block]⟩) (run:=fun n x=>M.iL cC x.1.2.2.2.1 x.1.2.2.2.2.1 x.1.2.2.2.2.2.1 n x.1.2.2.2.2.2.2.1 x.2.1.2.1 x.2.1.2.2.1 x.2.2.1 x.2.2.2.1 x.2.2.2.2.2.2.2.1 x.2.2.2.2.2.2.2.2.1) (bP:=afq) (out:=SS) ai (SV cC kr) ay (aI (by kernel_rfl)) (fun _=>rfl) (fun m x=>by kernel_rfl) (aj ⟨bW,fun _ _ _=>rfl⟩ (ax)) false ah
theorem afs(cC:M.aa->M.ae->Int->Int->Int->(List UInt8)->(List M.af)->Option (Int×Int×(List UInt8)×(List M.af)))(kr:(lg cC).Ok D Tryz.prog):(Ih (M.rM cC)).Ok D Tryz.prog:=
 aJ (cx:=DD cC) (c:=Ih (M.rM cC)) (fz:=true) (fn:=Tryz.f98) ai (SV cC kr) ay ⟨Tryz.func98,by kernel_rfl⟩ (aK (bX 1 (by kernel_rfl) (bZ (.mk (by kernel_rfl) (afr cC kr))))) ⟨⟨[.aX [.int .i64,.int .i64]],[.box [.ptr 1 0,.int .i64,.int .i64],.box [.own 4,.own 5],.dead,.dead,.arr U.u8,.arr U.Block]⟩,fun x=>(x.1.1.1,x.1.1.2.1,x.2.1.2.1,x.2.1.2.2.1,x.2.2.2.2.2.1,x.2.2.2.2.2.2.1)⟩ (fun x=>rfl) (fun x=>by kernel_rfl)
def SX(y:Int×Int×(List UInt8)×(List M.af)){R:Type}(k:Ex->List (AV K)->List (Ob K)->R):R:=match y with
 |a0=>k (Ex.exit 1) (az.bc D ⟨[],[.box [.ptr 2 0,.int .i64,.int .i64],.dead,.box [.own 5,.own 6],.dead,.dead,.arr U.u8,.arr U.Block]⟩ ((),(((),(a0.1,(a0.2.1,()))),((),(((),((),())),((),((),(a0.2.2.1,(a0.2.2.2,()))))))))) (az.bf D ⟨[],[.box [.ptr 2 0,.int .i64,.int .i64],.dead,.box [.own 5,.own 6],.dead,.dead,.arr U.u8,.arr U.Block]⟩ ((),(((),(a0.1,(a0.2.1,()))),((),(((),((),())),((),((),(a0.2.2.1,(a0.2.2.2,())))))))))
def aft:List (bR K (Int×Int×(List UInt8)×(List M.af))):=[⟨(Ex.exit 1),⟨[],[.box [.ptr 2 0,.int .i64,.int .i64],.dead,.box [.own 5,.own 6],.dead,.dead,.arr U.u8,.arr U.Block]⟩,fun x=>(x.2.1.2.1,x.2.1.2.2.1,x.2.2.2.2.2.2.1,x.2.2.2.2.2.2.2.1)⟩]
def SY(cC:M.aa->M.ae->Int->Int->Int->(List UInt8)->(List M.af)->Option (Int×Int×(List UInt8)×(List M.af))):bJ K:=bT D false 113 5 [0,3,6,10,59,60,61] [] ⟨[.ptr 0 0,.int .i64,.ptr 1 0,.an U.i64,.an U.Type,.int .i64,.int .i64],[.box [.ptr 2 0,.int .i64,.int .i64],.el U.Value,.box [.own 5,.own 6],.dead,.dead,.arr U.u8,.arr U.Block]⟩ (fun x=>M.oo cC x.1.2.1 x.1.2.2.2.1 x.1.2.2.2.2.1 x.1.2.2.2.2.2.1 ah x.1.2.2.2.2.2.2.1 x.2.1.2.1 x.2.1.2.2.1 x.2.2.1 x.2.2.2.2.2.2.1 x.2.2.2.2.2.2.2.1) SX
def DF(cC:M.aa->M.ae->Int->Int->Int->(List UInt8)->(List M.af)->Option (Int×Int×(List UInt8)×(List M.af))):Cx K:={aL with mode:=aG .plain [(98,.cX),(100,.plain),(99,.cX),(101,.dI),(53,.cX),(102,.dI),(103,.plain),(97,.plain)],mv:=true,call:=callOf D [Ih (M.rM cC),zF M.jf,zG M.jS,Dp (M.rH M.kq),zj M.k7,Ds M.pH,lg cC,ip M.kq],loop:=aF [(12,SY cC)]}
theorem SZ(cC:M.aa->M.ae->Int->Int->Int->(List UInt8)->(List M.af)->Option (Int×Int×(List UInt8)×(List M.af)))(kr:(lg cC).Ok D Tryz.prog):aD (DF cC):=aN ai _ (aj (afs cC kr) (aj H5 (aj Ig (aj (RS M.kq Du) (aj G9 (aj RX (aj kr (aj Du (ax)))))))))
theorem afu(cC:M.aa->M.ae->Int->Int->Int->(List UInt8)->(List M.af)->Option (Int×Int×(List UInt8)×(List M.af)))(kr:(lg cC).Ok D Tryz.prog):bM (DF cC) (bN (bS Tryz.f53) 0) (SY cC):=
 bV (cx:=DF cC) (n:=113) (n0:=5) (ins:=[0,3,6,10,59,60,61]) (outs:=[]) (sh:=⟨[.ptr 0 0,.int .i64,.ptr 1 0,.an U.i64,.an U.Type,.int .i64,.int .i64],[.box [.ptr 2 0,.int .i64,.int .i64],.el U.Value,.box [.own 5,.own 6],.dead,.dead,.arr U.u8,.arr U.Block]⟩) (run:=fun n x=>M.oo cC x.1.2.1 x.1.2.2.2.1 x.1.2.2.2.2.1 x.1.2.2.2.2.2.1 n x.1.2.2.2.2.2.2.1 x.2.1.2.1 x.2.1.2.2.1 x.2.2.1 x.2.2.2.2.2.2.1 x.2.2.2.2.2.2.2.1) (bP:=aft) (out:=SX) ai (SZ cC kr) ay (aI (by kernel_rfl)) (fun _=>rfl) (fun m x=>by kernel_rfl) (aj ⟨bW,fun _ _ _=>rfl⟩ (ax)) false ah
theorem afv(cC:M.aa->M.ae->Int->Int->Int->(List UInt8)->(List M.af)->Option (Int×Int×(List UInt8)×(List M.af)))(kr:(lg cC).Ok D Tryz.prog):(lg (M.pL cC)).Ok D Tryz.prog:=
 aJ (cx:=DF cC) (c:=lg (M.pL cC)) (fz:=true) (fn:=Tryz.f53) ai (SZ cC kr) ay ⟨Tryz.func53,by kernel_rfl⟩ (aK (bX 1 (by kernel_rfl) (bZ (.mk (by kernel_rfl) (afu cC kr))))) ⟨⟨[.aX []],[.box [.ptr 1 0,.int .i64,.int .i64],.box [.own 4,.own 5],.dead,.dead,.arr U.u8,.arr U.Block]⟩,fun x=>(x.2.1.2.1,x.2.1.2.2.1,x.2.2.2.2.2.1,x.2.2.2.2.2.2.1)⟩ (fun x=>rfl) (fun x=>by kernel_rfl)
theorem S3:∀n,(lg (M.l4 n)).Ok D Tryz.prog
 |0=>dZ fun _=>rfl
 |n+1=>afv (M.l4 n) (S3 n)
theorem afw:(lg (M.xb)).Ok D Tryz.prog:=S3 ah
def Ii(m:M.hC->Option ((List UInt8)×(List M.af))):aC K:={f:=54,sh:=⟨[.rp U.store 0],[]⟩,R:=(List UInt8)×(List M.af),run:=fun x=>m x.1.1,dflt:=default,out:=fun r=>(Sh.enc D (.agg [.str,.own 0]) (r.1,((),())),aw.encs D [.arr U.Block] (r.2,()))}
def S4:Cx K:={aL with mode:=aG .plain [(94,.fresh)],fK:=[[none,some U.Block]],call:=callOf D [Dj M.mJ],loop:=aF []}
theorem afx:aD (S4):=aN ai _ (aj Rz (ax))
theorem afy:(Ii (M.xc)).Ok D Tryz.prog:=
 aJ (cx:=S4) (c:=Ii (M.xc)) (fz:=false) (fn:=Tryz.f54) ai (afx) ay ⟨Tryz.func54,by kernel_rfl⟩ (aK (aI (by kernel_rfl))) ⟨⟨[.agg [.str,.own 0]],[.arr U.Block]⟩,fun x=>(x.1.1.1,x.2.1)⟩ (fun x=>rfl) (fun x=>by kernel_rfl)
def ku(m:(List M.aa)->Option ((List Int))):aC K:={f:=110,sh:=⟨[.an U.Type],[]⟩,R:=(List Int),run:=fun x=>m x.1.1,dflt:=default,out:=fun r=>(Sh.enc D (.an U.i64) r,aw.encs D [] ())}
def oq(m:M.aa->Option ((List Int))):aC K:={f:=63,sh:=⟨[.el U.Type],[]⟩,R:=(List Int),run:=fun x=>m x.1.1,dflt:=default,out:=fun r=>(Sh.enc D (.an U.i64) r,aw.encs D [] ())}
def S5(y:(List Int)){R:Type}(k:Ex->List (AV K)->List (Ob K)->R):R:=match y with
 |a0=>k (Ex.exit 0) (az.bc D ⟨[.own 1],[.dead,.arr U.i64]⟩ (((),()),((),(a0,())))) (az.bf D ⟨[.own 1],[.dead,.arr U.i64]⟩ (((),()),((),(a0,()))))
def afz:List (bR K ((List Int))):=[⟨(Ex.exit 0),⟨[.own 1],[.dead,.arr U.i64]⟩,fun x=>x.2.2.1⟩]
def S7:bJ K:=bT D false 57 1 [0,1,5,6] [5] ⟨[.an U.i64,.an U.i64,.own 1,.int .i64],[.dead,.arr U.i64]⟩ (fun x=>M.ot x.1.1 x.1.2.1 ah x.1.2.2.2.1 x.2.2.1) S5
def DG(m:(List Int)->(List Int)->Option ((List Int))):aC K:={f:=111,sh:=⟨[.an U.i64,.an U.i64],[]⟩,R:=(List Int),run:=fun x=>m x.1.1 x.1.2.1,dflt:=default,out:=fun r=>(Sh.enc D (.own 0) (),aw.encs D [.arr U.i64] (r,()))}
def DI:Cx K:={aL with mode:=aG .plain [(115,.plain)],fK:=[[some U.i64]],call:=callOf D [vJ M.il],loop:=aF [(3,S7)]}
theorem S8:aD (DI):=aN ai _ (aj BH (ax))
theorem afA:bM (DI) (bN (bS Tryz.f111) 0) (S7):=
 bV (cx:=DI) (n:=57) (n0:=1) (ins:=[0,1,5,6]) (outs:=[5]) (sh:=⟨[.an U.i64,.an U.i64,.own 1,.int .i64],[.dead,.arr U.i64]⟩) (run:=fun n x=>M.ot x.1.1 x.1.2.1 n x.1.2.2.2.1 x.2.2.1) (bP:=afz) (out:=S5) ai (S8) ay (aI (by kernel_rfl)) (fun _=>rfl) (fun m x=>by kernel_rfl) (aj ⟨bW,fun _ _ _=>rfl⟩ (ax)) false ah
theorem S9:(DG (M.rN)).Ok D Tryz.prog:=
 aJ (cx:=DI) (c:=DG (M.rN)) (fz:=false) (fn:=Tryz.f111) ai (S8) ay ⟨Tryz.func111,by kernel_rfl⟩ (aK (bX 1 (by kernel_rfl) (bZ (.mk (by kernel_rfl) (afA))))) ⟨⟨[.own 0],[.arr U.i64]⟩,fun x=>x.2.1⟩ (fun x=>rfl) (fun x=>by kernel_rfl)
def Ta(y:(List Int)){R:Type}(k:Ex->List (AV K)->List (Ob K)->R):R:=match y with
 |a0=>k (Ex.exit 1) (az.bc D ⟨[.own 1],[.dead,.arr U.i64]⟩ (((),()),((),(a0,())))) (az.bf D ⟨[.own 1],[.dead,.arr U.i64]⟩ (((),()),((),(a0,()))))
def afB:List (bR K ((List Int))):=[⟨(Ex.exit 1),⟨[.own 1],[.dead,.arr U.i64]⟩,fun x=>x.2.2.1⟩]
def Tc(eU:M.aa->Option ((List Int))):bJ K:=bT D false 47 1 [3,4,5] [4] ⟨[.an U.Type,.own 1,.int .i64],[.dead,.arr U.i64]⟩ (fun x=>M.ou eU x.1.1 ah x.1.2.2.1 x.2.2.1) Ta
def DJ(cu:(List M.aa)->Option ((List Int)))(eU:M.aa->Option ((List Int))):Cx K:={aL with mode:=aG .plain [(110,.dI),(82,.dI),(63,.dI),(111,.fresh)],call:=callOf D [ku cu,pE M.iJ,oq eU,DG M.rN],loop:=aF [(18,Tc eU)]}
theorem Td(cu:(List M.aa)->Option ((List Int)))(iM:(ku cu).Ok D Tryz.prog)(eU:M.aa->Option ((List Int)))(xd:(oq eU).Ok D Tryz.prog):aD (DJ cu eU):=aN ai _ (aj iM (aj tU (aj xd (aj S9 (ax)))))
theorem afC(cu:(List M.aa)->Option ((List Int)))(iM:(ku cu).Ok D Tryz.prog)(eU:M.aa->Option ((List Int)))(xd:(oq eU).Ok D Tryz.prog):bM (DJ cu eU) (bN (bS Tryz.f63) 0) (Tc eU):=
 bV (cx:=DJ cu eU) (n:=47) (n0:=1) (ins:=[3,4,5]) (outs:=[4]) (sh:=⟨[.an U.Type,.own 1,.int .i64],[.dead,.arr U.i64]⟩) (run:=fun n x=>M.ou eU x.1.1 n x.1.2.2.1 x.2.2.1) (bP:=afB) (out:=Ta) ai (Td cu iM eU xd) ay (aI (by kernel_rfl)) (fun _=>rfl) (fun m x=>by kernel_rfl) (aj ⟨bW,fun _ _ _=>rfl⟩ (ax)) false ah
theorem afD(cu:(List M.aa)->Option ((List Int)))(iM:(ku cu).Ok D Tryz.prog)(eU:M.aa->Option ((List Int)))(xd:(oq eU).Ok D Tryz.prog):(oq (M.uc cu eU)).Ok D Tryz.prog:=
 aJ (cx:=DJ cu eU) (c:=oq (M.uc cu eU)) (fz:=true) (fn:=Tryz.f63) ai (Td cu iM eU xd) ay ⟨Tryz.func63,by kernel_rfl⟩ (aK (bX 1 (by kernel_rfl) (bZ (.mk (by kernel_rfl) (afC cu iM eU xd))))) ⟨⟨[.an U.i64],[]⟩,fun x=>x.1.1⟩ (fun x=>rfl) (fun x=>by kernel_rfl)
theorem Tf(cu:(List M.aa)->Option ((List Int)))(iM:(ku cu).Ok D Tryz.prog):∀n,(oq (M.lh cu n)).Ok D Tryz.prog
 |0=>dZ fun _=>rfl
 |n+1=>afD cu iM (M.lh cu n) (Tf cu iM n)
theorem Ti(cu:(List M.aa)->Option ((List Int)))(iM:(ku cu).Ok D Tryz.prog):(oq (M.pM cu)).Ok D Tryz.prog:=Tf cu iM ah
def Tj(y:(List Int)){R:Type}(k:Ex->List (AV K)->List (Ob K)->R):R:=match y with
 |a0=>k (Ex.exit 0) (az.bc D ⟨[.own 1],[.dead,.arr U.i64]⟩ (((),()),((),(a0,())))) (az.bf D ⟨[.own 1],[.dead,.arr U.i64]⟩ (((),()),((),(a0,()))))
def afE:List (bR K ((List Int))):=[⟨(Ex.exit 0),⟨[.own 1],[.dead,.arr U.i64]⟩,fun x=>x.2.2.1⟩]
def Tm(cu:(List M.aa)->Option ((List Int))):bJ K:=bT D false 20 1 [0,3,4] [3] ⟨[.an U.Type,.own 1,.int .i64],[.dead,.arr U.i64]⟩ (fun x=>M.rO cu x.1.1 ah x.1.2.2.1 x.2.2.1) Tj
def DK(cu:(List M.aa)->Option ((List Int))):Cx K:={aL with mode:=aG .plain [(63,.dI)],call:=callOf D [oq (M.pM cu)],loop:=aF [(3,Tm cu)]}
theorem Tn(cu:(List M.aa)->Option ((List Int)))(iM:(ku cu).Ok D Tryz.prog):aD (DK cu):=aN ai _ (aj (Ti cu iM) (ax))
theorem afF(cu:(List M.aa)->Option ((List Int)))(iM:(ku cu).Ok D Tryz.prog):bM (DK cu) (bN (bS Tryz.f110) 0) (Tm cu):=
 bV (cx:=DK cu) (n:=20) (n0:=1) (ins:=[0,3,4]) (outs:=[3]) (sh:=⟨[.an U.Type,.own 1,.int .i64],[.dead,.arr U.i64]⟩) (run:=fun n x=>M.rO cu x.1.1 n x.1.2.2.1 x.2.2.1) (bP:=afE) (out:=Tj) ai (Tn cu iM) ay (aI (by kernel_rfl)) (fun _=>rfl) (fun m x=>by kernel_rfl) (aj ⟨bW,fun _ _ _=>rfl⟩ (ax)) false ah
theorem afG(cu:(List M.aa)->Option ((List Int)))(iM:(ku cu).Ok D Tryz.prog):(ku (M.zH cu)).Ok D Tryz.prog:=
 aJ (cx:=DK cu) (c:=ku (M.zH cu)) (fz:=true) (fn:=Tryz.f110) ai (Tn cu iM) ay ⟨Tryz.func110,by kernel_rfl⟩ (aK (bX 1 (by kernel_rfl) (bZ (.mk (by kernel_rfl) (afF cu iM))))) ⟨⟨[.an U.i64],[]⟩,fun x=>x.1.1⟩ (fun x=>rfl) (fun x=>by kernel_rfl)
theorem To:∀n,(ku (M.pN n)).Ok D Tryz.prog
 |0=>dZ fun _=>rfl
 |n+1=>afG (M.pN n) (To n)
theorem Tq:(ku (M.jy)).Ok D Tryz.prog:=To ah
def Tt(y:Int×Int×(List UInt8)×Int×Int×(List M.af)){R:Type}(k:Ex->List (AV K)->List (Ob K)->R):R:=match y with
 |a0=>k (Ex.exit 0) (az.bc D ⟨[.int .i64,.int .i64],[.box [.str,.own 3,.int .i64,.int .i64],.dead,.dead,.arr U.Block]⟩ ((a0.1,(a0.2.1,())),((a0.2.2.1,((),(a0.2.2.2.1,(a0.2.2.2.2.1,())))),((),((),(a0.2.2.2.2.2,())))))) (az.bf D ⟨[.int .i64,.int .i64],[.box [.str,.own 3,.int .i64,.int .i64],.dead,.dead,.arr U.Block]⟩ ((a0.1,(a0.2.1,())),((a0.2.2.1,((),(a0.2.2.2.1,(a0.2.2.2.2.1,())))),((),((),(a0.2.2.2.2.2,()))))))
def afH:List (bR K (Int×Int×(List UInt8)×Int×Int×(List M.af))):=[⟨(Ex.exit 0),⟨[.int .i64,.int .i64],[.box [.str,.own 3,.int .i64,.int .i64],.dead,.dead,.arr U.Block]⟩,fun x=>(x.1.1,x.1.2.1,x.2.1.1,x.2.1.2.2.1,x.2.1.2.2.2.1,x.2.2.2.2.1)⟩]
def Tu:bJ K:=bT D false 52 3 [0,2,4,8,10,11,12] [10,11] ⟨[.ptr 0 0,.an U.Value,.ptr 1 0,.int .i64,.int .i64,.int .i64,.int .i64],[.box [.str,.own 3,.int .i64,.int .i64],.el U.Type,.dead,.arr U.Block]⟩ (fun x=>M.xe x.1.2.1 x.1.2.2.2.1 x.1.2.2.2.2.1 x.1.2.2.2.2.2.1 ah x.1.2.2.2.2.2.2.1 x.2.1.1 x.2.1.2.2.1 x.2.1.2.2.2.1 x.2.2.1 x.2.2.2.2.1) Tt
def Ij(m:M.aa->(List M.ae)->(List UInt8)->Int->Int->(List M.af)->Option (Int×Int×(List UInt8)×Int×Int×(List M.af))):aC K:={f:=128,sh:=⟨[.ptr 0 0,.el U.Type,.an U.Value],[.box [.str,.own 1,.int .i64,.int .i64],.arr U.Block]⟩,R:=Int×Int×(List UInt8)×Int×Int×(List M.af),run:=fun x=>m x.1.2.1 x.1.2.2.1 x.2.1.1 x.2.1.2.2.1 x.2.1.2.2.2.1 x.2.2.1,dflt:=default,out:=fun r=>(Sh.enc D (.aX [.int .i64,.int .i64]) (r.1,(r.2.1,())),aw.encs D [.box [.str,.own 2,.int .i64,.int .i64],.dead,.arr U.Block] ((r.2.2.1,((),(r.2.2.2.1,(r.2.2.2.2.1,())))),((),(r.2.2.2.2.2,()))))}
def DL:Cx K:={aL with mode:=aG .plain [(43,.plain),(64,.cX),(46,.cX)],mv:=true,call:=callOf D [jd M.je,zx M.nV,iK M.wN],loop:=aF [(5,Tu)]}
theorem Tv:aD (DL):=aN ai _ (aj zt (aj HB (aj aen (ax))))
theorem afI:bM (DL) (bN (bS Tryz.f128) 0) (Tu):=
 bV (cx:=DL) (n:=52) (n0:=3) (ins:=[0,2,4,8,10,11,12]) (outs:=[10,11]) (sh:=⟨[.ptr 0 0,.an U.Value,.ptr 1 0,.int .i64,.int .i64,.int .i64,.int .i64],[.box [.str,.own 3,.int .i64,.int .i64],.el U.Type,.dead,.arr U.Block]⟩) (run:=fun n x=>M.xe x.1.2.1 x.1.2.2.2.1 x.1.2.2.2.2.1 x.1.2.2.2.2.2.1 n x.1.2.2.2.2.2.2.1 x.2.1.1 x.2.1.2.2.1 x.2.1.2.2.2.1 x.2.2.1 x.2.2.2.2.1) (bP:=afH) (out:=Tt) ai (Tv) ay (aI (by kernel_rfl)) (fun _=>rfl) (fun m x=>by kernel_rfl) (aj ⟨bW,fun _ _ _=>rfl⟩ (ax)) false ah
theorem afJ:(Ij (M.zI)).Ok D Tryz.prog:=
 aJ (cx:=DL) (c:=Ij (M.zI)) (fz:=true) (fn:=Tryz.f128) ai (Tv) ay ⟨Tryz.func128,by kernel_rfl⟩ (aK (bX 1 (by kernel_rfl) (bZ (.mk (by kernel_rfl) (afI))))) ⟨⟨[.aX [.int .i64,.int .i64]],[.box [.str,.own 2,.int .i64,.int .i64],.dead,.arr U.Block]⟩,fun x=>(x.1.1.1,x.1.1.2.1,x.2.1.1,x.2.1.2.2.1,x.2.1.2.2.2.1,x.2.2.2.1)⟩ (fun x=>rfl) (fun x=>by kernel_rfl)
def DN(m:M.aa->M.ae->(List UInt8)->Int->Int->(List M.af)->Option (Int×Int×(List UInt8)×Int×Int×(List M.af))):aC K:={f:=84,sh:=⟨[.ptr 0 0,.el U.Type,.el U.Value],[.box [.str,.own 1,.int .i64,.int .i64],.arr U.Block]⟩,R:=Int×Int×(List UInt8)×Int×Int×(List M.af),run:=fun x=>m x.1.2.1 x.1.2.2.1 x.2.1.1 x.2.1.2.2.1 x.2.1.2.2.2.1 x.2.2.1,dflt:=default,out:=fun r=>(Sh.enc D (.aX [.int .i64,.int .i64]) (r.1,(r.2.1,())),aw.encs D [.box [.str,.own 2,.int .i64,.int .i64],.dead,.arr U.Block] ((r.2.2.1,((),(r.2.2.2.1,(r.2.2.2.2.1,())))),((),(r.2.2.2.2.2,()))))}
def Tz:Cx K:={aL with mode:=aG .plain [(127,.cX),(128,.cX)],mv:=true,call:=callOf D [Da M.rD,Ij M.zI],loop:=aF []}
theorem afK:aD (Tz):=aN ai _ (aj Q2 (aj afJ (ax)))
theorem TA:(DN (M.rP)).Ok D Tryz.prog:=
 aJ (cx:=Tz) (c:=DN (M.rP)) (fz:=true) (fn:=Tryz.f84) ai (afK) ay ⟨Tryz.func84,by kernel_rfl⟩ (aK (aI (by kernel_rfl))) ⟨⟨[.aX [.int .i64,.int .i64]],[.box [.str,.own 2,.int .i64,.int .i64],.dead,.arr U.Block]⟩,fun x=>(x.1.1.1,x.1.1.2.1,x.2.1.1,x.2.1.2.2.1,x.2.1.2.2.2.1,x.2.2.2.1)⟩ (fun x=>rfl) (fun x=>by kernel_rfl)
def ky(m:(List M.aa)->(List M.ae)->(List UInt8)->Int->Int->(List M.af)->Option ((List Int)×(List UInt8)×Int×Int×(List M.af))):aC K:={f:=70,sh:=⟨[.ptr 0 0,.an U.Type,.an U.Value],[.box [.str,.own 1,.int .i64,.int .i64],.arr U.Block]⟩,R:=(List Int)×(List UInt8)×Int×Int×(List M.af),run:=fun x=>m x.1.2.1 x.1.2.2.1 x.2.1.1 x.2.1.2.2.1 x.2.1.2.2.2.1 x.2.2.1,dflt:=default,out:=fun r=>(Sh.enc D (.an U.i64) r.1,aw.encs D [.box [.str,.own 2,.int .i64,.int .i64],.dead,.arr U.Block] ((r.2.1,((),(r.2.2.1,(r.2.2.2.1,())))),((),(r.2.2.2.2,()))))}
def pO(m:M.aa->M.ae->(List UInt8)->Int->Int->(List M.af)->Option ((List Int)×(List UInt8)×Int×Int×(List M.af))):aC K:={f:=60,sh:=⟨[.ptr 0 0,.el U.Type,.el U.Value],[.box [.str,.own 1,.int .i64,.int .i64],.arr U.Block]⟩,R:=(List Int)×(List UInt8)×Int×Int×(List M.af),run:=fun x=>m x.1.2.1 x.1.2.2.1 x.2.1.1 x.2.1.2.2.1 x.2.1.2.2.2.1 x.2.2.1,dflt:=default,out:=fun r=>(Sh.enc D (.an U.i64) r.1,aw.encs D [.box [.str,.own 2,.int .i64,.int .i64],.dead,.arr U.Block] ((r.2.1,((),(r.2.2.1,(r.2.2.2.1,())))),((),(r.2.2.2.2,()))))}
def DO(m:Int->Option (Int)):aC K:={f:=105,sh:=⟨[.int .i64],[]⟩,R:=Int,run:=fun x=>m x.1.1,dflt:=default,out:=fun r=>(Sh.enc D (.int .i64) r,aw.encs D [] ())}
def TB:Cx K:={aL with mode:=aG .plain [],call:=callOf D [],loop:=aF []}
theorem afL:aD (TB):=aN ai _ (ax)
theorem TC:(DO (M.DR)).Ok D Tryz.prog:=
 aJ (cx:=TB) (c:=DO (M.DR)) (fz:=true) (fn:=Tryz.f105) ai (afL) ay ⟨Tryz.func105,by kernel_rfl⟩ (aK (aI (by kernel_rfl))) ⟨⟨[.int .i64],[]⟩,fun x=>x.1.1⟩ (fun x=>rfl) (fun x=>by kernel_rfl)
def TD(y:(List Int)){R:Type}(k:Ex->List (AV K)->List (Ob K)->R):R:=match y with
 |a0=>k (Ex.exit 1) (az.bc D ⟨[.own 2],[.dead,.dead,.arr U.i64]⟩ (((),()),((),((),(a0,()))))) (az.bf D ⟨[.own 2],[.dead,.dead,.arr U.i64]⟩ (((),()),((),((),(a0,())))))
def afM:List (bR K ((List Int))):=[⟨(Ex.exit 1),⟨[.own 2],[.dead,.dead,.arr U.i64]⟩,fun x=>x.2.2.2.1⟩]
def TE:bJ K:=bT D false 80 2 [4,9] [9] ⟨[.ptr 0 0,.own 2],[.el U.Type,.dead,.arr U.i64]⟩ (fun x=>M.ov ah x.2.1 x.2.2.2.1) TD
def DT(cy:(List M.aa)->(List M.ae)->(List UInt8)->Int->Int->(List M.af)->Option ((List Int)×(List UInt8)×Int×Int×(List M.af)))(iq:M.aa->M.ae->(List UInt8)->Int->Int->(List M.af)->Option ((List Int)×(List UInt8)×Int×Int×(List M.af))):Cx K:={aL with mode:=aG .plain [(84,.cX),(70,.cX),(82,.dI),(60,.cX),(63,.dI),(105,.plain)],mv:=true,call:=callOf D [DN M.rP,ky cy,pE M.iJ,pO iq,DO M.DR,oq (M.pM M.jy)],loop:=aF [(19,TE)]}
theorem TF(cy:(List M.aa)->(List M.ae)->(List UInt8)->Int->Int->(List M.af)->Option ((List Int)×(List UInt8)×Int×Int×(List M.af)))(iN:(ky cy).Ok D Tryz.prog)(iq:M.aa->M.ae->(List UInt8)->Int->Int->(List M.af)->Option ((List Int)×(List UInt8)×Int×Int×(List M.af)))(xf:(pO iq).Ok D Tryz.prog):aD (DT cy iq):=aN ai _ (aj TA (aj iN (aj tU (aj xf (aj TC (aj (Ti M.jy Tq) (ax)))))))
theorem afN(cy:(List M.aa)->(List M.ae)->(List UInt8)->Int->Int->(List M.af)->Option ((List Int)×(List UInt8)×Int×Int×(List M.af)))(iN:(ky cy).Ok D Tryz.prog)(iq:M.aa->M.ae->(List UInt8)->Int->Int->(List M.af)->Option ((List Int)×(List UInt8)×Int×Int×(List M.af)))(xf:(pO iq).Ok D Tryz.prog):bM (DT cy iq) (bN (bS Tryz.f60) 0) (TE):=
 bV (cx:=DT cy iq) (n:=80) (n0:=2) (ins:=[4,9]) (outs:=[9]) (sh:=⟨[.ptr 0 0,.own 2],[.el U.Type,.dead,.arr U.i64]⟩) (run:=fun n x=>M.ov n x.2.1 x.2.2.2.1) (bP:=afM) (out:=TD) ai (TF cy iN iq xf) ay (aI (by kernel_rfl)) (fun _=>rfl) (fun m x=>by kernel_rfl) (aj ⟨bW,fun _ _ _=>rfl⟩ (ax)) false ah
theorem afO(cy:(List M.aa)->(List M.ae)->(List UInt8)->Int->Int->(List M.af)->Option ((List Int)×(List UInt8)×Int×Int×(List M.af)))(iN:(ky cy).Ok D Tryz.prog)(iq:M.aa->M.ae->(List UInt8)->Int->Int->(List M.af)->Option ((List Int)×(List UInt8)×Int×Int×(List M.af)))(xf:(pO iq).Ok D Tryz.prog):(pO (M.ud cy iq)).Ok D Tryz.prog:=
 aJ (cx:=DT cy iq) (c:=pO (M.ud cy iq)) (fz:=true) (fn:=Tryz.f60) ai (TF cy iN iq xf) ay ⟨Tryz.func60,by kernel_rfl⟩ (aK (bX 1 (by kernel_rfl) (bZ (.mk (by kernel_rfl) (afN cy iN iq xf))))) ⟨⟨[.an U.i64],[.box [.str,.own 2,.int .i64,.int .i64],.dead,.arr U.Block]⟩,fun x=>(x.1.1,x.2.1.1,x.2.1.2.2.1,x.2.1.2.2.2.1,x.2.2.2.1)⟩ (fun x=>rfl) (fun x=>by kernel_rfl)
theorem TG(cy:(List M.aa)->(List M.ae)->(List UInt8)->Int->Int->(List M.af)->Option ((List Int)×(List UInt8)×Int×Int×(List M.af)))(iN:(ky cy).Ok D Tryz.prog):∀n,(pO (M.ow cy n)).Ok D Tryz.prog
 |0=>dZ fun _=>rfl
 |n+1=>afO cy iN (M.ow cy n) (TG cy iN n)
theorem afP(cy:(List M.aa)->(List M.ae)->(List UInt8)->Int->Int->(List M.af)->Option ((List Int)×(List UInt8)×Int×Int×(List M.af)))(iN:(ky cy).Ok D Tryz.prog):(pO (M.ue cy)).Ok D Tryz.prog:=TG cy iN ah
def TI(y:(List UInt8)×Int×Int×(List Int)×(List M.af)){R:Type}(k:Ex->List (AV K)->List (Ob K)->R):R:=match y with
 |a0=>k (Ex.exit 0) (az.bc D ⟨[.own 3],[.box [.str,.own 4,.int .i64,.int .i64],.dead,.dead,.arr U.i64,.arr U.Block]⟩ (((),()),((a0.1,((),(a0.2.1,(a0.2.2.1,())))),((),((),(a0.2.2.2.1,(a0.2.2.2.2,()))))))) (az.bf D ⟨[.own 3],[.box [.str,.own 4,.int .i64,.int .i64],.dead,.dead,.arr U.i64,.arr U.Block]⟩ (((),()),((a0.1,((),(a0.2.1,(a0.2.2.1,())))),((),((),(a0.2.2.2.1,(a0.2.2.2.2,())))))))
def afQ:List (bR K ((List UInt8)×Int×Int×(List Int)×(List M.af))):=[⟨(Ex.exit 0),⟨[.own 3],[.box [.str,.own 4,.int .i64,.int .i64],.dead,.dead,.arr U.i64,.arr U.Block]⟩,fun x=>(x.2.1.1,x.2.1.2.2.1,x.2.1.2.2.2.1,x.2.2.2.2.1,x.2.2.2.2.2.1)⟩]
def TJ(cy:(List M.aa)->(List M.ae)->(List UInt8)->Int->Int->(List M.af)->Option ((List Int)×(List UInt8)×Int×Int×(List M.af))):bJ K:=bT D false 36 3 [0,1,2,7,8] [7] ⟨[.ptr 0 0,.an U.Type,.an U.Value,.own 3,.int .i64],[.box [.str,.own 4,.int .i64,.int .i64],.dead,.dead,.arr U.i64,.arr U.Block]⟩ (fun x=>M.pP cy x.1.2.1 x.1.2.2.1 ah x.1.2.2.2.2.1 x.2.1.1 x.2.1.2.2.1 x.2.1.2.2.2.1 x.2.2.2.2.1 x.2.2.2.2.2.1) TI
def DU(cy:(List M.aa)->(List M.ae)->(List UInt8)->Int->Int->(List M.af)->Option ((List Int)×(List UInt8)×Int×Int×(List M.af))):Cx K:={aL with mode:=aG .plain [(60,.cX)],mv:=true,call:=callOf D [pO (M.ue cy)],loop:=aF [(3,TJ cy)]}
theorem TK(cy:(List M.aa)->(List M.ae)->(List UInt8)->Int->Int->(List M.af)->Option ((List Int)×(List UInt8)×Int×Int×(List M.af)))(iN:(ky cy).Ok D Tryz.prog):aD (DU cy):=aN ai _ (aj (afP cy iN) (ax))
theorem afR(cy:(List M.aa)->(List M.ae)->(List UInt8)->Int->Int->(List M.af)->Option ((List Int)×(List UInt8)×Int×Int×(List M.af)))(iN:(ky cy).Ok D Tryz.prog):bM (DU cy) (bN (bS Tryz.f70) 0) (TJ cy):=
 bV (cx:=DU cy) (n:=36) (n0:=3) (ins:=[0,1,2,7,8]) (outs:=[7]) (sh:=⟨[.ptr 0 0,.an U.Type,.an U.Value,.own 3,.int .i64],[.box [.str,.own 4,.int .i64,.int .i64],.dead,.dead,.arr U.i64,.arr U.Block]⟩) (run:=fun n x=>M.pP cy x.1.2.1 x.1.2.2.1 n x.1.2.2.2.2.1 x.2.1.1 x.2.1.2.2.1 x.2.1.2.2.2.1 x.2.2.2.2.1 x.2.2.2.2.2.1) (bP:=afQ) (out:=TI) ai (TK cy iN) ay (aI (by kernel_rfl)) (fun _=>rfl) (fun m x=>by kernel_rfl) (aj ⟨bW,fun _ _ _=>rfl⟩ (ax)) false ah
theorem afS(cy:(List M.aa)->(List M.ae)->(List UInt8)->Int->Int->(List M.af)->Option ((List Int)×(List UInt8)×Int×Int×(List M.af)))(iN:(ky cy).Ok D Tryz.prog):(ky (M.zJ cy)).Ok D Tryz.prog:=
 aJ (cx:=DU cy) (c:=ky (M.zJ cy)) (fz:=true) (fn:=Tryz.f70) ai (TK cy iN) ay ⟨Tryz.func70,by kernel_rfl⟩ (aK (bX 1 (by kernel_rfl) (bZ (.mk (by kernel_rfl) (afR cy iN))))) ⟨⟨[.an U.i64],[.box [.str,.own 2,.int .i64,.int .i64],.dead,.arr U.Block]⟩,fun x=>(x.1.1,x.2.1.1,x.2.1.2.2.1,x.2.1.2.2.2.1,x.2.2.2.1)⟩ (fun x=>rfl) (fun x=>by kernel_rfl)
theorem TL:∀n,(ky (M.ox n)).Ok D Tryz.prog
 |0=>dZ fun _=>rfl
 |n+1=>afS (M.ox n) (TL n)
theorem afT:(ky (M.mL)).Ok D Tryz.prog:=TL ah
def lj(m:(List M.aa)->Option ((List Int))):aC K:={f:=153,sh:=⟨[.an U.Type],[]⟩,R:=(List Int),run:=fun x=>m x.1.1,dflt:=default,out:=fun r=>(Sh.enc D (.an U.i64) r,aw.encs D [] ())}
def oy(m:M.aa->Option ((List Int))):aC K:={f:=107,sh:=⟨[.el U.Type],[]⟩,R:=(List Int),run:=fun x=>m x.1.1,dflt:=default,out:=fun r=>(Sh.enc D (.an U.i64) r,aw.encs D [] ())}
def TM(y:(List Int)){R:Type}(k:Ex->List (AV K)->List (Ob K)->R):R:=match y with
 |a0=>k (Ex.exit 0) (az.bc D ⟨[.own 1],[.dead,.arr U.i64]⟩ (((),()),((),(a0,())))) (az.bf D ⟨[.own 1],[.dead,.arr U.i64]⟩ (((),()),((),(a0,()))))
def afU:List (bR K ((List Int))):=[⟨(Ex.exit 0),⟨[.own 1],[.dead,.arr U.i64]⟩,fun x=>x.2.2.1⟩]
def TN:bJ K:=bT D false 47 1 [0,1,5,13,14] [5] ⟨[.an U.i64,.an U.i64,.own 1,.int .i64,.int .i64],[.dead,.arr U.i64]⟩ (fun x=>M.rQ x.1.1 x.1.2.1 x.1.2.2.2.1 ah x.1.2.2.2.2.1 x.2.2.1) TM
def Ik(m:(List Int)->(List Int)->Option ((List Int))):aC K:={f:=154,sh:=⟨[.an U.i64,.an U.i64],[]⟩,R:=(List Int),run:=fun x=>m x.1.1 x.1.2.1,dflt:=default,out:=fun r=>(Sh.enc D (.own 0) (),aw.encs D [.arr U.i64] (r,()))}
def DV:Cx K:={aL with mode:=aG .plain [],fK:=[[some U.i64]],call:=callOf D [],loop:=aF [(3,TN)]}
theorem TP:aD (DV):=aN ai _ (ax)
theorem afV:bM (DV) (bN (bS Tryz.f154) 0) (TN):=
 bV (cx:=DV) (n:=47) (n0:=1) (ins:=[0,1,5,13,14]) (outs:=[5]) (sh:=⟨[.an U.i64,.an U.i64,.own 1,.int .i64,.int .i64],[.dead,.arr U.i64]⟩) (run:=fun n x=>M.rQ x.1.1 x.1.2.1 x.1.2.2.2.1 n x.1.2.2.2.2.1 x.2.2.1) (bP:=afU) (out:=TM) ai (TP) ay (aI (by kernel_rfl)) (fun _=>rfl) (fun m x=>by kernel_rfl) (aj ⟨bW,fun _ _ _=>rfl⟩ (ax)) false ah
theorem afW:(Ik (M.xg)).Ok D Tryz.prog:=
 aJ (cx:=DV) (c:=Ik (M.xg)) (fz:=false) (fn:=Tryz.f154) ai (TP) ay ⟨Tryz.func154,by kernel_rfl⟩ (aK (bX 1 (by kernel_rfl) (bZ (.mk (by kernel_rfl) (afV))))) ⟨⟨[.own 0],[.arr U.i64]⟩,fun x=>x.2.1⟩ (fun x=>rfl) (fun x=>by kernel_rfl)
def TQ(y:(List Int)){R:Type}(k:Ex->List (AV K)->List (Ob K)->R):R:=match y with
 |a0=>k (Ex.exit 1) (az.bc D ⟨[.own 1],[.dead,.arr U.i64]⟩ (((),()),((),(a0,())))) (az.bf D ⟨[.own 1],[.dead,.arr U.i64]⟩ (((),()),((),(a0,()))))
def afX:List (bR K ((List Int))):=[⟨(Ex.exit 1),⟨[.own 1],[.dead,.arr U.i64]⟩,fun x=>x.2.2.1⟩]
def TR(eX:M.aa->Option ((List Int))):bJ K:=bT D false 45 1 [3,30,31,32] [3] ⟨[.own 1,.an U.Type,.int .i64,.int .i64],[.dead,.arr U.i64]⟩ (fun x=>M.rR eX x.1.2.1 x.1.2.2.1 ah x.1.2.2.2.1 x.2.2.1) TQ
def DW(cz:(List M.aa)->Option ((List Int)))(eX:M.aa->Option ((List Int))):Cx K:={aL with mode:=aG .plain [(153,.dI),(143,.dI),(107,.dI),(154,.fresh)],call:=callOf D [lj cz,wX M.lY,oy eX,Ik M.xg],loop:=aF [(17,TR eX)]}
theorem TS(cz:(List M.aa)->Option ((List Int)))(iO:(lj cz).Ok D Tryz.prog)(eX:M.aa->Option ((List Int)))(xh:(oy eX).Ok D Tryz.prog):aD (DW cz eX):=aN ai _ (aj iO (aj Dm (aj xh (aj afW (ax)))))
theorem afY(cz:(List M.aa)->Option ((List Int)))(iO:(lj cz).Ok D Tryz.prog)(eX:M.aa->Option ((List Int)))(xh:(oy eX).Ok D Tryz.prog):bM (DW cz eX) (bN (bS Tryz.f107) 0) (TR eX):=
 bV (cx:=DW cz eX) (n:=45) (n0:=1) (ins:=[3,30,31,32]) (outs:=[3]) (sh:=⟨[.own 1,.an U.Type,.int .i64,.int .i64],[.dead,.arr U.i64]⟩) (run:=fun n x=>M.rR eX x.1.2.1 x.1.2.2.1 n x.1.2.2.2.1 x.2.2.1) (bP:=afX) (out:=TQ) ai (TS cz iO eX xh) ay (aI (by kernel_rfl)) (fun _=>rfl) (fun m x=>by kernel_rfl) (aj ⟨bW,fun _ _ _=>rfl⟩ (ax)) false ah
theorem afZ(cz:(List M.aa)->Option ((List Int)))(iO:(lj cz).Ok D Tryz.prog)(eX:M.aa->Option ((List Int)))(xh:(oy eX).Ok D Tryz.prog):(oy (M.zK cz eX)).Ok D Tryz.prog:=
 aJ (cx:=DW cz eX) (c:=oy (M.zK cz eX)) (fz:=true) (fn:=Tryz.f107) ai (TS cz iO eX xh) ay ⟨Tryz.func107,by kernel_rfl⟩ (aK (bX 1 (by kernel_rfl) (bZ (.mk (by kernel_rfl) (afY cz iO eX xh))))) ⟨⟨[.an U.i64],[]⟩,fun x=>x.1.1⟩ (fun x=>rfl) (fun x=>by kernel_rfl)
theorem TU(cz:(List M.aa)->Option ((List Int)))(iO:(lj cz).Ok D Tryz.prog):∀n,(oy (M.rS cz n)).Ok D Tryz.prog
 |0=>dZ fun _=>rfl
 |n+1=>afZ cz iO (M.rS cz n) (TU cz iO n)
theorem TV(cz:(List M.aa)->Option ((List Int)))(iO:(lj cz).Ok D Tryz.prog):(oy (M.rT cz)).Ok D Tryz.prog:=TU cz iO ah
def TW(y:(List Int)){R:Type}(k:Ex->List (AV K)->List (Ob K)->R):R:=match y with
 |a0=>k (Ex.exit 0) (az.bc D ⟨[.own 1],[.dead,.arr U.i64]⟩ (((),()),((),(a0,())))) (az.bf D ⟨[.own 1],[.dead,.arr U.i64]⟩ (((),()),((),(a0,()))))
def af0:List (bR K ((List Int))):=[⟨(Ex.exit 0),⟨[.own 1],[.dead,.arr U.i64]⟩,fun x=>x.2.2.1⟩]
def TX(cz:(List M.aa)->Option ((List Int))):bJ K:=bT D false 19 1 [3,7,8,9] [3] ⟨[.own 1,.an U.Type,.int .i64,.int .i64],[.dead,.arr U.i64]⟩ (fun x=>M.rU cz x.1.2.1 x.1.2.2.1 ah x.1.2.2.2.1 x.2.2.1) TW
def DX(cz:(List M.aa)->Option ((List Int))):Cx K:={aL with mode:=aG .plain [(107,.dI)],call:=callOf D [oy (M.rT cz)],loop:=aF [(3,TX cz)]}
theorem TY(cz:(List M.aa)->Option ((List Int)))(iO:(lj cz).Ok D Tryz.prog):aD (DX cz):=aN ai _ (aj (TV cz iO) (ax))
theorem af1(cz:(List M.aa)->Option ((List Int)))(iO:(lj cz).Ok D Tryz.prog):bM (DX cz) (bN (bS Tryz.f153) 0) (TX cz):=
 bV (cx:=DX cz) (n:=19) (n0:=1) (ins:=[3,7,8,9]) (outs:=[3]) (sh:=⟨[.own 1,.an U.Type,.int .i64,.int .i64],[.dead,.arr U.i64]⟩) (run:=fun n x=>M.rU cz x.1.2.1 x.1.2.2.1 n x.1.2.2.2.1 x.2.2.1) (bP:=af0) (out:=TW) ai (TY cz iO) ay (aI (by kernel_rfl)) (fun _=>rfl) (fun m x=>by kernel_rfl) (aj ⟨bW,fun _ _ _=>rfl⟩ (ax)) false ah
theorem af2(cz:(List M.aa)->Option ((List Int)))(iO:(lj cz).Ok D Tryz.prog):(lj (M.zL cz)).Ok D Tryz.prog:=
 aJ (cx:=DX cz) (c:=lj (M.zL cz)) (fz:=true) (fn:=Tryz.f153) ai (TY cz iO) ay ⟨Tryz.func153,by kernel_rfl⟩ (aK (bX 1 (by kernel_rfl) (bZ (.mk (by kernel_rfl) (af1 cz iO))))) ⟨⟨[.an U.i64],[]⟩,fun x=>x.1.1⟩ (fun x=>rfl) (fun x=>by kernel_rfl)
theorem TZ:∀n,(lj (M.pQ n)).Ok D Tryz.prog
 |0=>dZ fun _=>rfl
 |n+1=>af2 (M.pQ n) (TZ n)
theorem af4:(lj (M.uf)).Ok D Tryz.prog:=TZ ah
def T0(y:Int×Int×Int×M.ae×(List UInt8)×(List M.af)){R:Type}(k:Ex->List (AV K)->List (Ob K)->R):R:=match y with
 |a0=>k (Ex.exit 0) (az.bc D ⟨[.ptr 1 0,.int .i64],[.box [.ptr 3 0,.int .i64,.int .i64],.el U.Value,.dead,.box [.own 6,.own 7],.dead,.dead,.arr U.u8,.arr U.Block]⟩ (((),(a0.1,())),(((),(a0.2.1,(a0.2.2.1,()))),(a0.2.2.2.1,((),(((),((),())),((),((),(a0.2.2.2.2.1,(a0.2.2.2.2.2,())))))))))) (az.bf D ⟨[.ptr 1 0,.int .i64],[.box [.ptr 3 0,.int .i64,.int .i64],.el U.Value,.dead,.box [.own 6,.own 7],.dead,.dead,.arr U.u8,.arr U.Block]⟩ (((),(a0.1,())),(((),(a0.2.1,(a0.2.2.1,()))),(a0.2.2.2.1,((),(((),((),())),((),((),(a0.2.2.2.2.1,(a0.2.2.2.2.2,()))))))))))
def af5:List (bR K (Int×Int×Int×M.ae×(List UInt8)×(List M.af))):=[⟨(Ex.exit 0),⟨[.ptr 1 0,.int .i64],[.box [.ptr 3 0,.int .i64,.int .i64],.el U.Value,.dead,.box [.own 6,.own 7],.dead,.dead,.arr U.u8,.arr U.Block]⟩,fun x=>(x.1.2.1,x.2.1.2.1,x.2.1.2.2.1,x.2.2.1,x.2.2.2.2.2.2.2.1,x.2.2.2.2.2.2.2.2.1)⟩]
def T8:bJ K:=bT D false 96 6 [0,5,11,12,74,75,76] [5,12] ⟨[.ptr 0 0,.ptr 1 0,.ptr 2 0,.int .i64,.an U.Value,.int .i64,.int .i64],[.box [.ptr 3 0,.int .i64,.int .i64],.el U.Value,.el U.Type,.box [.own 6,.own 7],.dead,.dead,.arr U.u8,.arr U.Block]⟩ (fun x=>M.xi x.1.2.2.2.1 x.1.2.2.2.2.1 x.1.2.2.2.2.2.1 ah x.1.2.2.2.2.2.2.1 x.2.1.2.1 x.2.1.2.2.1 x.2.2.1 x.2.2.2.1 x.2.2.2.2.2.2.2.1 x.2.2.2.2.2.2.2.2.1) T0
def Il(m:M.aa->M.ae->Int->Int->(List UInt8)->(List M.af)->Option (Int×Int×Int×Int×(List UInt8)×(List M.af))):aC K:={f:=98,sh:=⟨[.ptr 0 0,.el U.Type,.el U.Value],[.box [.ptr 1 0,.int .i64,.int .i64],.box [.own 2,.own 3],.arr U.u8,.arr U.Block]⟩,R:=Int×Int×Int×Int×(List UInt8)×(List M.af),run:=fun x=>m x.1.2.1 x.1.2.2.1 x.2.1.2.1 x.2.1.2.2.1 x.2.2.2.1 x.2.2.2.2.1,dflt:=default,out:=fun r=>(Sh.enc D (.aX [.int .i64,.int .i64]) (r.1,(r.2.1,())),aw.encs D [.box [.ptr 1 0,.int .i64,.int .i64],.box [.own 4,.own 5],.dead,.dead,.arr U.u8,.arr U.Block] (((),(r.2.2.1,(r.2.2.2.1,()))),(((),((),())),((),((),(r.2.2.2.2.1,(r.2.2.2.2.2,())))))))}
def DY:Cx K:={aL with mode:=aG .plain [(148,.plain),(132,.plain),(149,.plain),(113,.cX),(99,.cX),(150,.plain),(97,.plain),(95,.plain),(53,.cX)],mv:=true,call:=callOf D [Dw M.rK,wO M.wP,Dy M.oj,DC M.lZ,zG M.jS,Cm M.CB,ip M.kq,ko M.im,lg M.xb],loop:=aF [(12,T8)]}
theorem T9:aD (DY):=aN ai _ (aj SB (aj Df (aj SD (aj SO (aj Ig (aj PO (aj Du (aj wY (aj afw (ax))))))))))
theorem af6:bM (DY) (bN (bS Tryz.f98) 0) (T8):=
 bV (cx:=DY) (n:=96) (n0:=6) (ins:=[0,5,11,12,74,75,76]) (outs:=[5,12]) (sh:=⟨[.ptr 0 0,.ptr 1 0,.ptr 2 0,.int .i64,.an U.Value,.int .i64,.int .i64],[.box [.ptr 3 0,.int .i64,.int .i64],.el U.Value,.el U.Type,.box [.own 6,.own 7],.dead,.dead,.arr U.u8,.arr U.Block]⟩) (run:=fun n x=>M.xi x.1.2.2.2.1 x.1.2.2.2.2.1 x.1.2.2.2.2.2.1 n x.1.2.2.2.2.2.2.1 x.2.1.2.1 x.2.1.2.2.1 x.2.2.1 x.2.2.2.1 x.2.2.2.2.2.2.2.1 x.2.2.2.2.2.2.2.2.1) (bP:=af5) (out:=T0) ai (T9) ay (aI (by kernel_rfl)) (fun _=>rfl) (fun m x=>by kernel_rfl) (aj ⟨bW,fun _ _ _=>rfl⟩ (ax)) false ah
theorem af7:(Il (M.xj)).Ok D Tryz.prog:=
 aJ (cx:=DY) (c:=Il (M.xj)) (fz:=true) (fn:=Tryz.f98) ai (T9) ay ⟨Tryz.func98,by kernel_rfl⟩ (aK (bX 1 (by kernel_rfl) (bZ (.mk (by kernel_rfl) (af6))))) ⟨⟨[.aX [.int .i64,.int .i64]],[.box [.ptr 1 0,.int .i64,.int .i64],.box [.own 4,.own 5],.dead,.dead,.arr U.u8,.arr U.Block]⟩,fun x=>(x.1.1.1,x.1.1.2.1,x.2.1.2.1,x.2.1.2.2.1,x.2.2.2.2.2.1,x.2.2.2.2.2.2.1)⟩ (fun x=>rfl) (fun x=>by kernel_rfl)
def l5(m:(List M.aa)->(List M.ae)->Int->Int->(List UInt8)->(List M.af)->Option (Int×Int×(List Int)×(List UInt8)×(List M.af))):aC K:={f:=106,sh:=⟨[.ptr 0 0,.an U.Type,.an U.Value],[.box [.ptr 1 0,.int .i64,.int .i64],.box [.own 2,.own 3],.arr U.u8,.arr U.Block]⟩,R:=Int×Int×(List Int)×(List UInt8)×(List M.af),run:=fun x=>m x.1.2.1 x.1.2.2.1 x.2.1.2.1 x.2.1.2.2.1 x.2.2.2.1 x.2.2.2.2.1,dflt:=default,out:=fun r=>(Sh.enc D (.own 4) (),aw.encs D [.box [.ptr 1 0,.int .i64,.int .i64],.box [.own 5,.own 6],.dead,.dead,.arr U.i64,.arr U.u8,.arr U.Block] (((),(r.1,(r.2.1,()))),(((),((),())),((),((),(r.2.2.1,(r.2.2.2.1,(r.2.2.2.2,()))))))))}
def pR(m:M.aa->M.ae->Int->Int->(List UInt8)->(List M.af)->Option (Int×Int×(List Int)×(List UInt8)×(List M.af))):aC K:={f:=62,sh:=⟨[.ptr 0 0,.el U.Type,.el U.Value],[.box [.ptr 1 0,.int .i64,.int .i64],.box [.own 2,.own 3],.arr U.u8,.arr U.Block]⟩,R:=Int×Int×(List Int)×(List UInt8)×(List M.af),run:=fun x=>m x.1.2.1 x.1.2.2.1 x.2.1.2.1 x.2.1.2.2.1 x.2.2.2.1 x.2.2.2.2.1,dflt:=default,out:=fun r=>(Sh.enc D (.own 4) (),aw.encs D [.box [.ptr 1 0,.int .i64,.int .i64],.box [.own 5,.own 6],.dead,.dead,.arr U.i64,.arr U.u8,.arr U.Block] (((),(r.1,(r.2.1,()))),(((),((),())),((),((),(r.2.2.1,(r.2.2.2.1,(r.2.2.2.2,()))))))))}
def Im(m:Int->Option (Int)):aC K:={f:=109,sh:=⟨[.int .i64],[]⟩,R:=Int,run:=fun x=>m x.1.1,dflt:=default,out:=fun r=>(Sh.enc D (.int .i64) r,aw.encs D [] ())}
def Ua:Cx K:={aL with mode:=aG .plain [],call:=callOf D [],loop:=aF []}
theorem af8:aD (Ua):=aN ai _ (ax)
theorem af9:(Im (M.Io)).Ok D Tryz.prog:=
 aJ (cx:=Ua) (c:=Im (M.Io)) (fz:=true) (fn:=Tryz.f109) ai (af8) ay ⟨Tryz.func109,by kernel_rfl⟩ (aK (aI (by kernel_rfl))) ⟨⟨[.int .i64],[]⟩,fun x=>x.1.1⟩ (fun x=>rfl) (fun x=>by kernel_rfl)
def Ub(cG:(List M.aa)->(List M.ae)->Int->Int->(List UInt8)->(List M.af)->Option (Int×Int×(List Int)×(List UInt8)×(List M.af)))(ln:M.aa->M.ae->Int->Int->(List UInt8)->(List M.af)->Option (Int×Int×(List Int)×(List UInt8)×(List M.af))):Cx K:={aL with mode:=aG .plain [(98,.cX),(106,.cX),(102,.dI),(62,.cX),(107,.dI),(108,.plain),(109,.plain)],fK:=[[some U.i64]],mv:=true,call:=callOf D [Il M.xj,l5 cG,zj M.k7,pR ln,oy (M.rT M.uf),CC M.nJ,Im M.Io],loop:=aF []}
theorem aga(cG:(List M.aa)->(List M.ae)->Int->Int->(List UInt8)->(List M.af)->Option (Int×Int×(List Int)×(List UInt8)×(List M.af)))(jT:(l5 cG).Ok D Tryz.prog)(ln:M.aa->M.ae->Int->Int->(List UInt8)->(List M.af)->Option (Int×Int×(List Int)×(List UInt8)×(List M.af)))(Ip:(pR ln).Ok D Tryz.prog):aD (Ub cG ln):=aN ai _ (aj af7 (aj jT (aj G9 (aj Ip (aj (TV M.uf af4) (aj PR (aj af9 (ax))))))))
theorem agb(cG:(List M.aa)->(List M.ae)->Int->Int->(List UInt8)->(List M.af)->Option (Int×Int×(List Int)×(List UInt8)×(List M.af)))(jT:(l5 cG).Ok D Tryz.prog)(ln:M.aa->M.ae->Int->Int->(List UInt8)->(List M.af)->Option (Int×Int×(List Int)×(List UInt8)×(List M.af)))(Ip:(pR ln).Ok D Tryz.prog):(pR (M.zM cG ln)).Ok D Tryz.prog:=
 aJ (cx:=Ub cG ln) (c:=pR (M.zM cG ln)) (fz:=false) (fn:=Tryz.f62) ai (aga cG jT ln Ip) ay ⟨Tryz.func62,by kernel_rfl⟩ (aK (aI (by kernel_rfl))) ⟨⟨[.own 4],[.box [.ptr 1 0,.int .i64,.int .i64],.box [.own 5,.own 6],.dead,.dead,.arr U.i64,.arr U.u8,.arr U.Block]⟩,fun x=>(x.2.1.2.1,x.2.1.2.2.1,x.2.2.2.2.2.1,x.2.2.2.2.2.2.1,x.2.2.2.2.2.2.2.1)⟩ (fun x=>rfl) (fun x=>by kernel_rfl)
theorem Uc(cG:(List M.aa)->(List M.ae)->Int->Int->(List UInt8)->(List M.af)->Option (Int×Int×(List Int)×(List UInt8)×(List M.af)))(jT:(l5 cG).Ok D Tryz.prog):∀n,(pR (M.xk cG n)).Ok D Tryz.prog
 |0=>dZ fun _=>rfl
 |n+1=>agb cG jT (M.xk cG n) (Uc cG jT n)
theorem Ud(cG:(List M.aa)->(List M.ae)->Int->Int->(List UInt8)->(List M.af)->Option (Int×Int×(List Int)×(List UInt8)×(List M.af)))(jT:(l5 cG).Ok D Tryz.prog):(pR (M.rV cG)).Ok D Tryz.prog:=Uc cG jT ah
def Ue(y:Int×Int×(List Int)×(List UInt8)×(List M.af)){R:Type}(k:Ex->List (AV K)->List (Ob K)->R):R:=match y with
 |a0=>k (Ex.exit 0) (az.bc D ⟨[.own 5],[.box [.ptr 2 0,.int .i64,.int .i64],.dead,.box [.own 6,.own 7],.dead,.dead,.arr U.i64,.arr U.u8,.arr U.Block]⟩ (((),()),(((),(a0.1,(a0.2.1,()))),((),(((),((),())),((),((),(a0.2.2.1,(a0.2.2.2.1,(a0.2.2.2.2,())))))))))) (az.bf D ⟨[.own 5],[.box [.ptr 2 0,.int .i64,.int .i64],.dead,.box [.own 6,.own 7],.dead,.dead,.arr U.i64,.arr U.u8,.arr U.Block]⟩ (((),()),(((),(a0.1,(a0.2.1,()))),((),(((),((),())),((),((),(a0.2.2.1,(a0.2.2.2.1,(a0.2.2.2.2,()))))))))))
def agc:List (bR K (Int×Int×(List Int)×(List UInt8)×(List M.af))):=[⟨(Ex.exit 0),⟨[.own 5],[.box [.ptr 2 0,.int .i64,.int .i64],.dead,.box [.own 6,.own 7],.dead,.dead,.arr U.i64,.arr U.u8,.arr U.Block]⟩,fun x=>(x.2.1.2.1,x.2.1.2.2.1,x.2.2.2.2.2.2.1,x.2.2.2.2.2.2.2.1,x.2.2.2.2.2.2.2.2.1)⟩]
def Uf(cG:(List M.aa)->(List M.ae)->Int->Int->(List UInt8)->(List M.af)->Option (Int×Int×(List Int)×(List UInt8)×(List M.af))):bJ K:=bT D false 29 5 [0,2,7,11,12,13] [7] ⟨[.ptr 0 0,.an U.Value,.own 5,.an U.Type,.int .i64,.int .i64],[.box [.ptr 2 0,.int .i64,.int .i64],.dead,.box [.own 6,.own 7],.dead,.dead,.arr U.i64,.arr U.u8,.arr U.Block]⟩ (fun x=>M.rW cG x.1.2.1 x.1.2.2.2.1 x.1.2.2.2.2.1 ah x.1.2.2.2.2.2.1 x.2.1.2.1 x.2.1.2.2.1 x.2.2.2.2.2.2.1 x.2.2.2.2.2.2.2.1 x.2.2.2.2.2.2.2.2.1) Ue
def DZ(cG:(List M.aa)->(List M.ae)->Int->Int->(List UInt8)->(List M.af)->Option (Int×Int×(List Int)×(List UInt8)×(List M.af))):Cx K:={aL with mode:=aG .plain [(62,.cX)],fK:=[[some U.i64]],mv:=true,call:=callOf D [pR (M.rV cG)],loop:=aF [(3,Uf cG)]}
theorem Ug(cG:(List M.aa)->(List M.ae)->Int->Int->(List UInt8)->(List M.af)->Option (Int×Int×(List Int)×(List UInt8)×(List M.af)))(jT:(l5 cG).Ok D Tryz.prog):aD (DZ cG):=aN ai _ (aj (Ud cG jT) (ax))
theorem agd(cG:(List M.aa)->(List M.ae)->Int->Int->(List UInt8)->(List M.af)->Option (Int×Int×(List Int)×(List UInt8)×(List M.af)))(jT:(l5 cG).Ok D Tryz.prog):bM (DZ cG) (bN (bS Tryz.f106) 0) (Uf cG):=
 bV (cx:=DZ cG) (n:=29) (n0:=5) (ins:=[0,2,7,11,12,13]) (outs:=[7]) (sh:=⟨[.ptr 0 0,.an U.Value,.own 5,.an U.Type,.int .i64,.int .i64],[.box [.ptr 2 0,.int .i64,.int .i64],.dead,.box [.own 6,.own 7],.dead,.dead,.arr U.i64,.arr U.u8,.arr U.Block]⟩) (run:=fun n x=>M.rW cG x.1.2.1 x.1.2.2.2.1 x.1.2.2.2.2.1 n x.1.2.2.2.2.2.1 x.2.1.2.1 x.2.1.2.2.1 x.2.2.2.2.2.2.1 x.2.2.2.2.2.2.2.1 x.2.2.2.2.2.2.2.2.1) (bP:=agc) (out:=Ue) ai (Ug cG jT) ay (aI (by kernel_rfl)) (fun _=>rfl) (fun m x=>by kernel_rfl) (aj ⟨bW,fun _ _ _=>rfl⟩ (ax)) false ah
theorem age(cG:(List M.aa)->(List M.ae)->Int->Int->(List UInt8)->(List M.af)->Option (Int×Int×(List Int)×(List UInt8)×(List M.af)))(jT:(l5 cG).Ok D Tryz.prog):(l5 (M.zN cG)).Ok D Tryz.prog:=
 aJ (cx:=DZ cG) (c:=l5 (M.zN cG)) (fz:=false) (fn:=Tryz.f106) ai (Ug cG jT) ay ⟨Tryz.func106,by kernel_rfl⟩ (aK (bX 1 (by kernel_rfl) (bZ (.mk (by kernel_rfl) (agd cG jT))))) ⟨⟨[.own 4],[.box [.ptr 1 0,.int .i64,.int .i64],.box [.own 5,.own 6],.dead,.dead,.arr U.i64,.arr U.u8,.arr U.Block]⟩,fun x=>(x.2.1.2.1,x.2.1.2.2.1,x.2.2.2.2.2.1,x.2.2.2.2.2.2.1,x.2.2.2.2.2.2.2.1)⟩ (fun x=>rfl) (fun x=>by kernel_rfl)
theorem Uh:∀n,(l5 (M.oz n)).Ok D Tryz.prog
 |0=>dZ fun _=>rfl
 |n+1=>age (M.oz n) (Uh n)
theorem agf:(l5 (M.ug)).Ok D Tryz.prog:=Uh ah
def ajS(m:Int->M.aa->M.ae->(List UInt8)->(List M.af)->Option ((List Int)×Int×(List UInt8)×(List M.af))):aC K:={f:=65,sh:=⟨[.ptr 0 0,.int .i64,.el U.Type,.el U.Value],[.box [.own 1,.own 2],.arr U.u8,.arr U.Block]⟩,R:=(List Int)×Int×(List UInt8)×(List M.af),run:=fun x=>m x.1.2.1 x.1.2.2.1 x.1.2.2.2.1 x.2.2.1 x.2.2.2.1,dflt:=default,out:=fun r=>(Sh.enc D (.aX [.an U.i64,.int .i64]) (r.1,(r.2.1,())),aw.encs D [.box [.own 3,.own 4],.dead,.dead,.arr U.u8,.arr U.Block] (((),((),())),((),((),(r.2.2.1,(r.2.2.2,()))))))}
def akk:Cx K:={aL with mode:=aG .plain [(107,.dI),(62,.cX),(97,.plain),(95,.plain),(113,.cX),(53,.cX)],mv:=true,call:=callOf D [oy (M.rT M.uf),pR (M.rV M.ug),ip M.kq,ko M.im,DC M.lZ,lg M.xb],loop:=aF []}
theorem alI:aD (akk):=aN ai _ (aj (TV M.uf af4) (aj (Ud M.ug agf) (aj Du (aj wY (aj SO (aj afw (ax)))))))
theorem alY:(ajS (M.ajk)).Ok D Tryz.prog:=
 aJ (cx:=akk) (c:=ajS (M.ajk)) (fz:=true) (fn:=Tryz.f65) ai (alI) ay ⟨Tryz.func65,by kernel_rfl⟩ (aK (aI (by kernel_rfl))) ⟨⟨[.aX [.an U.i64,.int .i64]],[.box [.own 3,.own 4],.dead,.dead,.arr U.u8,.arr U.Block]⟩,fun x=>(x.1.1.1,x.1.1.2.1,x.2.2.2.2.1,x.2.2.2.2.2.1)⟩ (fun x=>rfl) (fun x=>by kernel_rfl)
def mM(m:M.aa->M.ae->(List UInt8)->Int->Int->(List M.af)->Option ((List Int)×(List UInt8)×Int×Int×(List M.af))):aC K:={f:=60,sh:=⟨[.ptr 0 0,.el U.Type,.el U.Value],[.box [.str,.own 1,.int .i64,.int .i64],.arr U.Block]⟩,R:=(List Int)×(List UInt8)×Int×Int×(List M.af),run:=fun x=>m x.1.2.1 x.1.2.2.1 x.2.1.1 x.2.1.2.2.1 x.2.1.2.2.2.1 x.2.2.1,dflt:=default,out:=fun r=>(Sh.enc D (.an U.i64) r.1,aw.encs D [.box [.str,.own 2,.int .i64,.int .i64],.dead,.arr U.Block] ((r.2.1,((),(r.2.2.1,(r.2.2.2.1,())))),((),(r.2.2.2.2,()))))}
def pS(m:M.aa->Option ((List Int))):aC K:={f:=63,sh:=⟨[.el U.Type],[]⟩,R:=(List Int),run:=fun x=>m x.1.1,dflt:=default,out:=fun r=>(Sh.enc D (.an U.i64) r,aw.encs D [] ())}
def Uj(y:(List Int)){R:Type}(k:Ex->List (AV K)->List (Ob K)->R):R:=match y with
 |a0=>k (Ex.exit 1) (az.bc D ⟨[.own 1],[.dead,.arr U.i64]⟩ (((),()),((),(a0,())))) (az.bf D ⟨[.own 1],[.dead,.arr U.i64]⟩ (((),()),((),(a0,()))))
def agj:List (bR K ((List Int))):=[⟨(Ex.exit 1),⟨[.own 1],[.dead,.arr U.i64]⟩,fun x=>x.2.2.1⟩]
def Uk(eY:M.aa->Option ((List Int))):bJ K:=bT D false 47 1 [3,4,5] [4] ⟨[.an U.Type,.own 1,.int .i64],[.dead,.arr U.i64]⟩ (fun x=>M.xl eY x.1.1 ah x.1.2.2.1 x.2.2.1) Uj
def D1(eY:M.aa->Option ((List Int))):Cx K:={aL with mode:=aG .plain [(110,.dI),(82,.dI),(63,.dI),(111,.fresh)],call:=callOf D [ku M.jy,pE M.iJ,pS eY,DG M.rN],loop:=aF [(18,Uk eY)]}
theorem Ul(eY:M.aa->Option ((List Int)))(xm:(pS eY).Ok D Tryz.prog):aD (D1 eY):=aN ai _ (aj Tq (aj tU (aj xm (aj S9 (ax)))))
theorem agk(eY:M.aa->Option ((List Int)))(xm:(pS eY).Ok D Tryz.prog):bM (D1 eY) (bN (bS Tryz.f63) 0) (Uk eY):=
 bV (cx:=D1 eY) (n:=47) (n0:=1) (ins:=[3,4,5]) (outs:=[4]) (sh:=⟨[.an U.Type,.own 1,.int .i64],[.dead,.arr U.i64]⟩) (run:=fun n x=>M.xl eY x.1.1 n x.1.2.2.1 x.2.2.1) (bP:=agj) (out:=Uj) ai (Ul eY xm) ay (aI (by kernel_rfl)) (fun _=>rfl) (fun m x=>by kernel_rfl) (aj ⟨bW,fun _ _ _=>rfl⟩ (ax)) false ah
theorem agl(eY:M.aa->Option ((List Int)))(xm:(pS eY).Ok D Tryz.prog):(pS (M.zO eY)).Ok D Tryz.prog:=
 aJ (cx:=D1 eY) (c:=pS (M.zO eY)) (fz:=true) (fn:=Tryz.f63) ai (Ul eY xm) ay ⟨Tryz.func63,by kernel_rfl⟩ (aK (bX 1 (by kernel_rfl) (bZ (.mk (by kernel_rfl) (agk eY xm))))) ⟨⟨[.an U.i64],[]⟩,fun x=>x.1.1⟩ (fun x=>rfl) (fun x=>by kernel_rfl)
theorem Um:∀n,(pS (M.ui n)).Ok D Tryz.prog
 |0=>dZ fun _=>rfl
 |n+1=>agl (M.ui n) (Um n)
theorem agm:(pS (M.D2)).Ok D Tryz.prog:=Um ah
def Un(y:(List Int)){R:Type}(k:Ex->List (AV K)->List (Ob K)->R):R:=match y with
 |a0=>k (Ex.exit 1) (az.bc D ⟨[.own 2],[.dead,.dead,.arr U.i64]⟩ (((),()),((),((),(a0,()))))) (az.bf D ⟨[.own 2],[.dead,.dead,.arr U.i64]⟩ (((),()),((),((),(a0,())))))
def agn:List (bR K ((List Int))):=[⟨(Ex.exit 1),⟨[.own 2],[.dead,.dead,.arr U.i64]⟩,fun x=>x.2.2.2.1⟩]
def Uo:bJ K:=bT D false 80 2 [4,9] [9] ⟨[.ptr 0 0,.own 2],[.el U.Type,.dead,.arr U.i64]⟩ (fun x=>M.uj ah x.2.1 x.2.2.2.1) Un
def D3(iu:M.aa->M.ae->(List UInt8)->Int->Int->(List M.af)->Option ((List Int)×(List UInt8)×Int×Int×(List M.af))):Cx K:={aL with mode:=aG .plain [(84,.cX),(70,.cX),(82,.dI),(60,.cX),(63,.dI),(105,.plain)],mv:=true,call:=callOf D [DN M.rP,ky M.mL,pE M.iJ,mM iu,DO M.DR,pS M.D2],loop:=aF [(19,Uo)]}
theorem Up(iu:M.aa->M.ae->(List UInt8)->Int->Int->(List M.af)->Option ((List Int)×(List UInt8)×Int×Int×(List M.af)))(xn:(mM iu).Ok D Tryz.prog):aD (D3 iu):=aN ai _ (aj TA (aj afT (aj tU (aj xn (aj TC (aj agm (ax)))))))
theorem agp(iu:M.aa->M.ae->(List UInt8)->Int->Int->(List M.af)->Option ((List Int)×(List UInt8)×Int×Int×(List M.af)))(xn:(mM iu).Ok D Tryz.prog):bM (D3 iu) (bN (bS Tryz.f60) 0) (Uo):=
 bV (cx:=D3 iu) (n:=80) (n0:=2) (ins:=[4,9]) (outs:=[9]) (sh:=⟨[.ptr 0 0,.own 2],[.el U.Type,.dead,.arr U.i64]⟩) (run:=fun n x=>M.uj n x.2.1 x.2.2.2.1) (bP:=agn) (out:=Un) ai (Up iu xn) ay (aI (by kernel_rfl)) (fun _=>rfl) (fun m x=>by kernel_rfl) (aj ⟨bW,fun _ _ _=>rfl⟩ (ax)) false ah
theorem agq(iu:M.aa->M.ae->(List UInt8)->Int->Int->(List M.af)->Option ((List Int)×(List UInt8)×Int×Int×(List M.af)))(xn:(mM iu).Ok D Tryz.prog):(mM (M.zP iu)).Ok D Tryz.prog:=
 aJ (cx:=D3 iu) (c:=mM (M.zP iu)) (fz:=true) (fn:=Tryz.f60) ai (Up iu xn) ay ⟨Tryz.func60,by kernel_rfl⟩ (aK (bX 1 (by kernel_rfl) (bZ (.mk (by kernel_rfl) (agp iu xn))))) ⟨⟨[.an U.i64],[.box [.str,.own 2,.int .i64,.int .i64],.dead,.arr U.Block]⟩,fun x=>(x.1.1,x.2.1.1,x.2.1.2.2.1,x.2.1.2.2.2.1,x.2.2.2.1)⟩ (fun x=>rfl) (fun x=>by kernel_rfl)
theorem Ur:∀n,(mM (M.uk n)).Ok D Tryz.prog
 |0=>dZ fun _=>rfl
 |n+1=>agq (M.uk n) (Ur n)
theorem Ir:(mM (M.um)).Ok D Tryz.prog:=Ur ah
def Is(m:(List Int)->(List UInt8)->Int->Int->(List M.af)->Option ((List UInt8)×Int×(List UInt8)×Int×Int×(List M.af)×(List Int)×(List M.af))):aC K:={f:=61,sh:=⟨[.ptr 0 0,.an U.i64],[.box [.str,.own 1,.int .i64,.int .i64],.arr U.Block]⟩,R:=(List UInt8)×Int×(List UInt8)×Int×Int×(List M.af)×(List Int)×(List M.af),run:=fun x=>m x.1.2.1 x.2.1.1 x.2.1.2.2.1 x.2.1.2.2.2.1 x.2.2.1,dflt:=default,out:=fun r=>(Sh.enc D (.aX [.agg [.str,.own 2],.own 3,.int .i64]) ((r.1,((),())),((),(r.2.1,()))),aw.encs D [.box [.str,.own 4,.int .i64,.int .i64],.dead,.arr U.Block,.arr U.i64,.arr U.Block] ((r.2.2.1,((),(r.2.2.2.1,(r.2.2.2.2.1,())))),((),(r.2.2.2.2.2.1,(r.2.2.2.2.2.2.1,(r.2.2.2.2.2.2.2,()))))))}
def Us:Cx K:={aL with mode:=aG .plain [],fK:=[[none,some U.Block],[some U.i64],[]],mv:=true,call:=callOf D [],loop:=aF []}
theorem agr:aD (Us):=aN ai _ (ax)
theorem ags:(Is (M.xo)).Ok D Tryz.prog:=
 aJ (cx:=Us) (c:=Is (M.xo)) (fz:=false) (fn:=Tryz.f61) ai (agr) ay ⟨Tryz.func61,by kernel_rfl⟩ (aK (aI (by kernel_rfl))) ⟨⟨[.aX [.agg [.str,.own 2],.own 3,.int .i64]],[.box [.str,.own 4,.int .i64,.int .i64],.dead,.arr U.Block,.arr U.i64,.arr U.Block]⟩,fun x=>(x.1.1.1.1,x.1.1.2.2.1,x.2.1.1,x.2.1.2.2.1,x.2.1.2.2.2.1,x.2.2.2.1,x.2.2.2.2.1,x.2.2.2.2.2.1)⟩ (fun x=>rfl) (fun x=>by kernel_rfl)
def It(m:(List Int)->(List UInt8)->Int->Int->(List M.af)->Option ((List UInt8)×(List Int)×Int×(List UInt8)×Int×Int×(List M.af))):aC K:={f:=61,sh:=⟨[.ptr 0 0,.an U.i64],[.box [.str,.own 1,.int .i64,.int .i64],.arr U.Block]⟩,R:=(List UInt8)×(List Int)×Int×(List UInt8)×Int×Int×(List M.af),run:=fun x=>m x.1.2.1 x.2.1.1 x.2.1.2.2.1 x.2.1.2.2.2.1 x.2.2.1,dflt:=default,out:=fun r=>(Sh.enc D (.aX [.agg [.str,.own 2],.an U.i64,.int .i64]) ((r.1,((),())),(r.2.1,(r.2.2.1,()))),aw.encs D [.box [.str,.own 2,.int .i64,.int .i64],.dead,.arr U.Block] ((r.2.2.2.1,((),(r.2.2.2.2.1,(r.2.2.2.2.2.1,())))),((),(r.2.2.2.2.2.2,()))))}
def Ut:Cx K:={aL with mode:=aG .plain [],fK:=[[none,some U.Block],[some U.i64],[]],mv:=true,call:=callOf D [],loop:=aF []}
theorem agt:aD (Ut):=aN ai _ (ax)
theorem agu:(It (M.xp)).Ok D Tryz.prog:=
 aJ (cx:=Ut) (c:=It (M.xp)) (fz:=false) (fn:=Tryz.f61) ai (agt) ay ⟨Tryz.func61,by kernel_rfl⟩ (aK (aI (by kernel_rfl))) ⟨⟨[.aX [.agg [.str,.own 2],.an U.i64,.int .i64]],[.box [.str,.own 2,.int .i64,.int .i64],.dead,.arr U.Block]⟩,fun x=>(x.1.1.1.1,x.1.1.2.1,x.1.1.2.2.1,x.2.1.1,x.2.1.2.2.1,x.2.1.2.2.2.1,x.2.2.2.1)⟩ (fun x=>rfl) (fun x=>by kernel_rfl)
def Iu(m:M.aB->Int->M.aa->M.ae->Option (M.aB×(List Int)×Int)):aC K:={f:=22,sh:=⟨[.el U.dO,.int .i64,.el U.Type,.el U.Value],[]⟩,R:=M.aB×(List Int)×Int,run:=fun x=>m x.1.1 x.1.2.1 x.1.2.2.1 x.1.2.2.2.1,dflt:=default,out:=fun r=>(Sh.enc D (.aX [.el U.dO,.an U.i64,.int .i64]) (r.1,(r.2.1,(r.2.2,()))),aw.encs D [] ())}
def Uu:Cx K:={P:=Tryz.prog,D:=D,ty:=Bn,lV:=MZ,mode:=aG .plain [(41,.plain),(42,.plain),(45,.fresh),(60,.cX),(61,.cX)],call:=callOf D [zq M.rA,zi M.rq,tV M.jw,mM M.um],alt:=fun b=>cond b (callOf D [zq M.rA,zi M.rq,tV M.jw,mM M.um,It M.xp]) (callOf D [zq M.rA,zi M.rq,tV M.jw,mM M.um,Is M.xo]),loop:=aF []}
theorem agv:aD (Uu):=agw ai _ _ _ (aj Hr (aj G3 (aj zu (aj Ir (ax))))) (aj Hr (aj G3 (aj zu (aj Ir (aj agu (ax)))))) (aj Hr (aj G3 (aj zu (aj Ir (aj ags (ax))))))
theorem agx:(Iu (M.uo)).Ok D Tryz.prog:=
 aJ (cx:=Uu) (c:=Iu (M.uo)) (fz:=true) (fn:=Tryz.f22) ai (agv) ay ⟨Tryz.func22,by kernel_rfl⟩ (aK (aI (by kernel_rfl))) ⟨⟨[.aX [.el U.dO,.an U.i64,.int .i64]],[]⟩,fun x=>(x.1.1.1,x.1.1.2.1,x.1.1.2.2.1)⟩ (fun x=>rfl) (fun x=>by kernel_rfl)
def ajT(m:M.aB->Int->M.aa->M.ae->Option (M.aB×(List Int)×Int)):aC K:={f:=27,sh:=⟨[.el U.dO,.int .i64,.el U.Type,.el U.Value],[]⟩,R:=M.aB×(List Int)×Int,run:=fun x=>m x.1.1 x.1.2.1 x.1.2.2.1 x.1.2.2.2.1,dflt:=default,out:=fun r=>(Sh.enc D (.aX [.el U.dO,.an U.i64,.int .i64]) (r.1,(r.2.1,(r.2.2,()))),aw.encs D [] ())}
def akK:Cx K:={P:=Tryz.prog,D:=D,ty:=Bn,lV:=MZ,mode:=aG .plain [(41,.plain),(42,.plain),(63,.dI),(22,.dI),(43,.plain),(45,.fresh),(64,.cX),(46,.cX),(61,.cX)],call:=callOf D [zq M.rA,zi M.rq,pS M.D2,Iu M.uo,jd M.je,tV M.jw,zx M.nV,iK M.wN],alt:=fun b=>cond b (callOf D [zq M.rA,zi M.rq,pS M.D2,Iu M.uo,jd M.je,tV M.jw,zx M.nV,iK M.wN,It M.xp]) (callOf D [zq M.rA,zi M.rq,pS M.D2,Iu M.uo,jd M.je,tV M.jw,zx M.nV,iK M.wN,Is M.xo]),loop:=aF []}
theorem al0:aD (akK):=agw ai _ _ _ (aj Hr (aj G3 (aj agm (aj agx (aj zt (aj zu (aj HB (aj aen (ax))))))))) (aj Hr (aj G3 (aj agm (aj agx (aj zt (aj zu (aj HB (aj aen (aj agu (ax)))))))))) (aj Hr (aj G3 (aj agm (aj agx (aj zt (aj zu (aj HB (aj aen (aj ags (ax))))))))))
theorem al1:(ajT (M.ajB)).Ok D Tryz.prog:=
 aJ (cx:=akK) (c:=ajT (M.ajB)) (fz:=true) (fn:=Tryz.f27) ai (al0) ay ⟨Tryz.func27,by kernel_rfl⟩ (aK (aI (by kernel_rfl))) ⟨⟨[.aX [.el U.dO,.an U.i64,.int .i64]],[]⟩,fun x=>(x.1.1.1,x.1.1.2.1,x.1.1.2.2.1)⟩ (fun x=>rfl) (fun x=>by kernel_rfl)
def akh(m:M.aB->Int->M.aa->M.ae->Option ((List UInt8)×Int×(List M.af)×(List Int))):aC K:={f:=28,sh:=⟨[.el U.dO,.int .i64,.el U.Type,.el U.Value],[]⟩,R:=(List UInt8)×Int×(List M.af)×(List Int),run:=fun x=>m x.1.1 x.1.2.1 x.1.2.2.1 x.1.2.2.2.1,dflt:=default,out:=fun r=>(Sh.enc D (.aX [.agg [.str,.own 0],.own 1,.int .i64]) ((r.1,((),())),((),(r.2.1,()))),aw.encs D [.arr U.Block,.arr U.i64] (r.2.2.1,(r.2.2.2,())))}
def ak6:Cx K:={aL with mode:=aG .plain [(49,.plain),(50,.plain),(51,.ir),(65,.cX),(54,.fresh),(66,.fresh)],fK:=[[none,some U.Block],[some U.i64],[]],call:=callOf D [HT M.wV,pA M.CH,HU M.wW,ajS M.ajk,Ii M.xc,ahw M.IV],loop:=aF []}
theorem al7:aD (ak6):=aN ai _ (aj aeG (aj ac6 (aj aeI (aj alY (aj afy (aj ama (ax)))))))
theorem amH:(akh (M.ajR)).Ok D Tryz.prog:=
 aJ (cx:=ak6) (c:=akh (M.ajR)) (fz:=false) (fn:=Tryz.f28) ai (al7) ay ⟨Tryz.func28,by kernel_rfl⟩ (aK (aI (by kernel_rfl))) ⟨⟨[.aX [.agg [.str,.own 0],.own 1,.int .i64]],[.arr U.Block,.arr U.i64]⟩,fun x=>(x.1.1.1.1,x.1.1.2.2.1,x.2.1,x.2.2.1)⟩ (fun x=>rfl) (fun x=>by kernel_rfl)
def Iw(m:(List M.af)->Int->Option (Int)):aC K:={f:=39,sh:=⟨[.an U.Block,.int .i64],[]⟩,R:=Int,run:=fun x=>m x.1.1 x.1.2.1,dflt:=default,out:=fun r=>(Sh.enc D (.int .i64) r,aw.encs D [] ())}
def Uw:Cx K:={aL with mode:=aG .plain [],call:=callOf D [],loop:=aF []}
theorem agy:aD (Uw):=aN ai _ (ax)
theorem agz:(Iw (M.xq)).Ok D Tryz.prog:=
 aJ (cx:=Uw) (c:=Iw (M.xq)) (fz:=true) (fn:=Tryz.f39) ai (agy) ay ⟨Tryz.func39,by kernel_rfl⟩ (aK (aI (by kernel_rfl))) ⟨⟨[.int .i64],[]⟩,fun x=>x.1.1⟩ (fun x=>rfl) (fun x=>by kernel_rfl)
def Ix(m:M.aB->Int->Option (Int)):aC K:={f:=7,sh:=⟨[.el U.dO,.int .i64],[]⟩,R:=Int,run:=fun x=>m x.1.1 x.1.2.1,dflt:=default,out:=fun r=>(Sh.enc D (.int .i64) r,aw.encs D [] ())}
def Ux:Cx K:={aL with mode:=aG .plain [(39,.plain)],call:=callOf D [Iw M.xq],loop:=aF []}
theorem agA:aD (Ux):=aN ai _ (aj agz (ax))
theorem agB:(Ix (M.xr)).Ok D Tryz.prog:=
 aJ (cx:=Ux) (c:=Ix (M.xr)) (fz:=true) (fn:=Tryz.f7) ai (agA) ay ⟨Tryz.func7,by kernel_rfl⟩ (aK (aI (by kernel_rfl))) ⟨⟨[.int .i64],[]⟩,fun x=>x.1.1⟩ (fun x=>rfl) (fun x=>by kernel_rfl)
def Iy(m:M.af->Option (M.af)):aC K:={f:=87,sh:=⟨[.el U.Block],[]⟩,R:=M.af,run:=fun x=>m x.1.1,dflt:=default,out:=fun r=>(Sh.enc D (.el U.Block) r,aw.encs D [] ())}
def Uy:Cx K:={aL with mode:=aG .plain [],fK:=[[]],deep:=fun c=>dw (D.cells c (K.zero c)),call:=callOf D [],loop:=aF []}
theorem agC:aD (Uy):=aN ai _ (ax)
theorem agD:(Iy (M.zQ)).Ok D Tryz.prog:=
 aJ (cx:=Uy) (c:=Iy (M.zQ)) (fz:=false) (fn:=Tryz.f87) ai (agC) ay ⟨Tryz.func87,by kernel_rfl⟩ (aK (aI (by kernel_rfl))) ⟨⟨[.el U.Block],[]⟩,fun x=>x.1.1⟩ (fun x=>rfl) (fun x=>by kernel_rfl)
def Uz(y:(List M.af)){R:Type}(k:Ex->List (AV K)->List (Ob K)->R):R:=match y with
 |a0=>k (Ex.exit 0) (az.bc D ⟨[.own 1],[.dead,.arr U.Block]⟩ (((),()),((),(a0,())))) (az.bf D ⟨[.own 1],[.dead,.arr U.Block]⟩ (((),()),((),(a0,()))))
def agE:List (bR K ((List M.af))):=[⟨(Ex.exit 0),⟨[.own 1],[.dead,.arr U.Block]⟩,fun x=>x.2.2.1⟩]
def UA:bJ K:=bT D false 23 1 [0,3,4] [3] ⟨[.an U.Block,.own 1,.int .i64],[.dead,.arr U.Block]⟩ (fun x=>M.rX x.1.1 ah x.1.2.2.1 x.2.2.1) Uz
def Iz(m:(List M.af)->Option ((List M.af))):aC K:={f:=47,sh:=⟨[.an U.Block],[]⟩,R:=(List M.af),run:=fun x=>m x.1.1,dflt:=default,out:=fun r=>(Sh.enc D (.own 0) (),aw.encs D [.arr U.Block] (r,()))}
def D4:Cx K:={aL with mode:=aG .plain [(87,.fresh)],fK:=[[some U.Block]],deep:=fun c=>dw (D.cells c (K.zero c)),call:=callOf D [Iy M.zQ],loop:=aF [(3,UA)]}
theorem UB:aD (D4):=aN ai _ (aj agD (ax))
theorem agF:bM (D4) (bN (bS Tryz.f47) 0) (UA):=
 bV (cx:=D4) (n:=23) (n0:=1) (ins:=[0,3,4]) (outs:=[3]) (sh:=⟨[.an U.Block,.own 1,.int .i64],[.dead,.arr U.Block]⟩) (run:=fun n x=>M.rX x.1.1 n x.1.2.2.1 x.2.2.1) (bP:=agE) (out:=Uz) ai (UB) ay (aI (by kernel_rfl)) (fun _=>rfl) (fun m x=>by kernel_rfl) (aj ⟨bW,fun _ _ _=>rfl⟩ (ax)) false ah
theorem agG:(Iz (M.xt)).Ok D Tryz.prog:=
 aJ (cx:=D4) (c:=Iz (M.xt)) (fz:=false) (fn:=Tryz.f47) ai (UB) ay ⟨Tryz.func47,by kernel_rfl⟩ (aK (bX 1 (by kernel_rfl) (bZ (.mk (by kernel_rfl) (agF))))) ⟨⟨[.own 0],[.arr U.Block]⟩,fun x=>x.2.1⟩ (fun x=>rfl) (fun x=>by kernel_rfl)
def IA(m:M.aB->Option ((List UInt8)×(List M.af))):aC K:={f:=11,sh:=⟨[.el U.dO],[]⟩,R:=(List UInt8)×(List M.af),run:=fun x=>m x.1.1,dflt:=default,out:=fun r=>(Sh.enc D (.agg [.str,.own 0]) (r.1,((),())),aw.encs D [.arr U.Block] (r.2,()))}
def UC:Cx K:={aL with mode:=aG .plain [(47,.fresh)],fK:=[[none,some U.Block]],deep:=fun c=>dw (D.cells c (K.zero c)),call:=callOf D [Iz M.xt],loop:=aF []}
theorem agH:aD (UC):=aN ai _ (aj agG (ax))
theorem agI:(IA (M.xu)).Ok D Tryz.prog:=
 aJ (cx:=UC) (c:=IA (M.xu)) (fz:=false) (fn:=Tryz.f11) ai (agH) ay ⟨Tryz.func11,by kernel_rfl⟩ (aK (aI (by kernel_rfl))) ⟨⟨[.agg [.str,.own 0]],[.arr U.Block]⟩,fun x=>(x.1.1.1,x.2.1)⟩ (fun x=>rfl) (fun x=>by kernel_rfl)
def IB(m:M.af->M.af->Option (Bool)):aC K:={f:=104,sh:=⟨[.el U.Block,.el U.Block],[]⟩,R:=Bool,run:=fun x=>m x.1.1 x.1.2.1,dflt:=default,out:=fun r=>(Sh.enc D (.bool) r,aw.encs D [] ())}
def UD:Cx K:={aL with mode:=aG .plain [],call:=callOf D [],loop:=aF []}
theorem agJ:aD (UD):=aN ai _ (ax)
theorem agK:(IB (M.xw)).Ok D Tryz.prog:=
 aJ (cx:=UD) (c:=IB (M.xw)) (fz:=true) (fn:=Tryz.f104) ai (agJ) ay ⟨Tryz.func104,by kernel_rfl⟩ (aK (aI (by kernel_rfl))) ⟨⟨[.bool],[]⟩,fun x=>x.1.1⟩ (fun x=>rfl) (fun x=>by kernel_rfl)
def UE(y:(Bool)⊕(Unit)){R:Type}(k:Ex->List (AV K)->List (Ob K)->R):R:=match y with
 |.inl a0=>k Ex.ret (az.bc D ⟨[.bool],[]⟩ ((a0,()),())) (az.bf D ⟨[.bool],[]⟩ ((a0,()),()))
 |.inr (a1)=>k (Ex.exit 0) (az.bc D ⟨[.any],[]⟩ (((),()),())) (az.bf D ⟨[.any],[]⟩ (((),()),()))
def agL:List (bR K ((Bool)⊕(Unit))):=[⟨Ex.ret,⟨[.bool],[]⟩,fun x=>.inl x.1.1⟩,⟨(Ex.exit 0),⟨[.any],[]⟩,fun x=>.inr (())⟩]
def UF:bJ K:=bT D false 27 0 [0,1,5] [4] ⟨[.an U.Block,.an U.Block,.int .i64],[]⟩ (fun x=>M.uu x.1.1 x.1.2.1 ah x.1.2.2.1) UE
def IC(m:(List M.af)->(List M.af)->Option (Bool)):aC K:={f:=55,sh:=⟨[.an U.Block,.an U.Block],[]⟩,R:=Bool,run:=fun x=>m x.1.1 x.1.2.1,dflt:=default,out:=fun r=>(Sh.enc D (.bool) r,aw.encs D [] ())}
def D5:Cx K:={aL with mode:=aG .plain [(104,.plain)],call:=callOf D [IB M.xw],loop:=aF [(4,UF)]}
theorem UG:aD (D5):=aN ai _ (aj agK (ax))
theorem agM:bM (D5) (bN (bS Tryz.f55) 0) (UF):=
 bV (cx:=D5) (n:=27) (n0:=0) (ins:=[0,1,5]) (outs:=[4]) (sh:=⟨[.an U.Block,.an U.Block,.int .i64],[]⟩) (run:=fun n x=>M.uu x.1.1 x.1.2.1 n x.1.2.2.1) (bP:=agL) (out:=UE) ai (UG) ay (aI (by kernel_rfl)) (fun _=>rfl) (fun m x=>by kernel_rfl) (aj ⟨dP,fun _ _ _=>rfl⟩ (aj ⟨bW,fun _ _ _=>rfl⟩ (ax))) false ah
theorem agN:(IC (M.xx)).Ok D Tryz.prog:=
 aJ (cx:=D5) (c:=IC (M.xx)) (fz:=true) (fn:=Tryz.f55) ai (UG) ay ⟨Tryz.func55,by kernel_rfl⟩ (aK (bX 1 (by kernel_rfl) (bZ (.mk (by kernel_rfl) (agM))))) ⟨⟨[.bool],[]⟩,fun x=>x.1.1⟩ (fun x=>rfl) (fun x=>by kernel_rfl)
def ID(m:M.aB->M.aB->Option (Bool)):aC K:={f:=15,sh:=⟨[.el U.dO,.el U.dO],[]⟩,R:=Bool,run:=fun x=>m x.1.1 x.1.2.1,dflt:=default,out:=fun r=>(Sh.enc D (.bool) r,aw.encs D [] ())}
def UH:Cx K:={aL with mode:=aG .plain [(55,.plain)],call:=callOf D [IC M.xx],loop:=aF []}
theorem agO:aD (UH):=aN ai _ (aj agN (ax))
theorem agP:(ID (M.pT)).Ok D Tryz.prog:=
 aJ (cx:=UH) (c:=ID (M.pT)) (fz:=true) (fn:=Tryz.f15) ai (agO) ay ⟨Tryz.func15,by kernel_rfl⟩ (aK (aI (by kernel_rfl))) ⟨⟨[.bool],[]⟩,fun x=>x.1.1⟩ (fun x=>rfl) (fun x=>by kernel_rfl)
def UI(y:Int×(List M.af)){R:Type}(k:Ex->List (AV K)->List (Ob K)->R):R:=match y with
 |a0=>k (Ex.exit 0) (az.bc D ⟨[.int .i64],[.arr U.Block]⟩ ((a0.1,()),(a0.2,()))) (az.bf D ⟨[.int .i64],[.arr U.Block]⟩ ((a0.1,()),(a0.2,())))
def agQ:List (bR K (Int×(List M.af))):=[⟨(Ex.exit 0),⟨[.int .i64],[.arr U.Block]⟩,fun x=>(x.1.1,x.2.1)⟩]
def UJ:bJ K:=bT D true 27 1 [0,1,5] [1] ⟨[.own 0,.int .i64,.int .i64],[.arr U.Block]⟩ (fun x=>M.uv ah x.1.2.1 x.1.2.2.1 x.2.1) UI
def IE(m:Int->(List M.af)->Option (Int×(List M.af))):aC K:={f:=57,sh:=⟨[.own 0,.int .i64],[.arr U.Block]⟩,R:=Int×(List M.af),run:=fun x=>m x.1.2.1 x.2.1,dflt:=default,out:=fun r=>(Sh.enc D (.int .i64) r.1,aw.encs D [.arr U.Block] (r.2,()))}
def D6:Cx K:={aL with mode:=aG .plain [],deep:=fun c=>dw (D.cells c (K.zero c)),opn:=true,call:=callOf D [],loop:=aF [(2,UJ)]}
theorem UK:aD (D6):=aN ai _ (ax)
theorem agR:bM (D6) (bN (bS Tryz.f57) 0) (UJ):=
 bV (cx:=D6) (n:=27) (n0:=1) (ins:=[0,1,5]) (outs:=[1]) (sh:=⟨[.own 0,.int .i64,.int .i64],[.arr U.Block]⟩) (run:=fun n x=>M.uv n x.1.2.1 x.1.2.2.1 x.2.1) (bP:=agQ) (out:=UI) ai (UK) ay (aI (by kernel_rfl)) (fun _=>rfl) (fun m x=>by kernel_rfl) (aj ⟨bW,fun _ _ _=>rfl⟩ (ax)) true ah
theorem agS:(IE (M.xy)).Ok D Tryz.prog:=
 aJ (cx:=D6) (c:=IE (M.xy)) (fz:=true) (fn:=Tryz.f57) ai (UK) ay ⟨Tryz.func57,by kernel_rfl⟩ (aK (bX 1 (by kernel_rfl) (bZ (.mk (by kernel_rfl) (agR))))) ⟨⟨[.int .i64],[.arr U.Block]⟩,fun x=>(x.1.1,x.2.1)⟩ (fun x=>rfl) (fun x=>by kernel_rfl)
def IF(m:(List UInt8)->Int->(List M.af)->Option (Int×(List M.af))):aC K:={f:=18,sh:=⟨[.agg [.str,.own 0],.int .i64],[.arr U.Block]⟩,R:=Int×(List M.af),run:=fun x=>m x.1.1.1 x.1.2.1 x.2.1,dflt:=default,out:=fun r=>(Sh.enc D (.int .i64) r.1,aw.encs D [.arr U.Block] (r.2,()))}
def UL:Cx K:={aL with mode:=aG .plain [(57,.pass)],deep:=fun c=>dw (D.cells c (K.zero c)),opn:=true,call:=callOf D [IE M.xy],loop:=aF []}
theorem agT:aD (UL):=aN ai _ (aj agS (ax))
theorem agU:(IF (M.uw)).Ok D Tryz.prog:=
 aJ (cx:=UL) (c:=IF (M.uw)) (fz:=true) (fn:=Tryz.f18) ai (agT) ay ⟨Tryz.func18,by kernel_rfl⟩ (aK (aI (by kernel_rfl))) ⟨⟨[.int .i64],[.arr U.Block]⟩,fun x=>(x.1.1,x.2.1)⟩ (fun x=>rfl) (fun x=>by kernel_rfl)
def UM(y:(Int)⊕(Int)){R:Type}(k:Ex->List (AV K)->List (Ob K)->R):R:=match y with
 |.inl a0=>k Ex.ret (az.bc D ⟨[.any,.int .i64],[]⟩ (((),(a0,())),())) (az.bf D ⟨[.any,.int .i64],[]⟩ (((),(a0,())),()))
 |.inr (a1)=>k (Ex.exit 0) (az.bc D ⟨[.int .i64,.any],[]⟩ ((a1,((),())),())) (az.bf D ⟨[.int .i64,.any],[]⟩ ((a1,((),())),()))
def agV:List (bR K ((Int)⊕(Int))):=[⟨Ex.ret,⟨[.any,.int .i64],[]⟩,fun x=>.inl x.1.2.1⟩,⟨(Ex.exit 0),⟨[.int .i64,.any],[]⟩,fun x=>.inr (x.1.1)⟩]
def UN:bJ K:=bT D false 31 0 [0,1,5] [1,4] ⟨[.an U.Block,.int .i64,.int .i64],[]⟩ (fun x=>M.ux x.1.1 ah x.1.2.1 x.1.2.2.1) UM
def IG(m:(List M.af)->Int->Option (Int)):aC K:={f:=59,sh:=⟨[.an U.Block,.int .i64],[]⟩,R:=Int,run:=fun x=>m x.1.1 x.1.2.1,dflt:=default,out:=fun r=>(Sh.enc D (.int .i64) r,aw.encs D [] ())}
def D7:Cx K:={aL with mode:=aG .plain [],call:=callOf D [],loop:=aF [(2,UN)]}
theorem UO:aD (D7):=aN ai _ (ax)
theorem agW:bM (D7) (bN (bS Tryz.f59) 0) (UN):=
 bV (cx:=D7) (n:=31) (n0:=0) (ins:=[0,1,5]) (outs:=[1,4]) (sh:=⟨[.an U.Block,.int .i64,.int .i64],[]⟩) (run:=fun n x=>M.ux x.1.1 n x.1.2.1 x.1.2.2.1) (bP:=agV) (out:=UM) ai (UO) ay (aI (by kernel_rfl)) (fun _=>rfl) (fun m x=>by kernel_rfl) (aj ⟨dP,fun _ _ _=>rfl⟩ (aj ⟨bW,fun _ _ _=>rfl⟩ (ax))) false ah
theorem agX:(IG (M.uy)).Ok D Tryz.prog:=
 aJ (cx:=D7) (c:=IG (M.uy)) (fz:=true) (fn:=Tryz.f59) ai (UO) ay ⟨Tryz.func59,by kernel_rfl⟩ (aK (bX 1 (by kernel_rfl) (bZ (.mk (by kernel_rfl) (agW))))) ⟨⟨[.int .i64],[]⟩,fun x=>x.1.1⟩ (fun x=>rfl) (fun x=>by kernel_rfl)
def IH(m:M.aB->Int->Option (Int)):aC K:={f:=21,sh:=⟨[.el U.dO,.int .i64],[]⟩,R:=Int,run:=fun x=>m x.1.1 x.1.2.1,dflt:=default,out:=fun r=>(Sh.enc D (.int .i64) r,aw.encs D [] ())}
def UP:Cx K:={aL with mode:=aG .plain [(59,.plain)],call:=callOf D [IG M.uy],loop:=aF []}
theorem agY:aD (UP):=aN ai _ (aj agX (ax))
theorem agZ:(IH (M.xz)).Ok D Tryz.prog:=
 aJ (cx:=UP) (c:=IH (M.xz)) (fz:=true) (fn:=Tryz.f21) ai (agY) ay ⟨Tryz.func21,by kernel_rfl⟩ (aK (aI (by kernel_rfl))) ⟨⟨[.int .i64],[]⟩,fun x=>x.1.1⟩ (fun x=>rfl) (fun x=>by kernel_rfl)
def II(m:Int->Int->(List UInt8)->Int->(List M.ae)->Option (Int×(List M.ae))):aC K:={f:=20,sh:=⟨[.agg [.int .i64,.int .i64,.str,.own 0],.int .i64],[.tree U.Value]⟩,R:=Int×(List M.ae),run:=fun x=>m x.1.1.1 x.1.1.2.1 x.1.1.2.2.1 x.1.2.1 x.2.1,dflt:=default,out:=fun r=>(Sh.enc D (.int .i64) r.1,aw.encs D [.tree U.Value] (r.2,()))}
def UQ:Cx K:={aL with mode:=aG .plain [(38,.pass)],deep:=fun c=>dw (D.cells c (K.zero c)),opn:=true,call:=callOf D [pC M.CQ],loop:=aF []}
theorem ag0:aD (UQ):=aN ai _ (aj adn (ax))
theorem ag1:(II (M.xA)).Ok D Tryz.prog:=
 aJ (cx:=UQ) (c:=II (M.xA)) (fz:=true) (fn:=Tryz.f20) ai (ag0) ay ⟨Tryz.func20,by kernel_rfl⟩ (aK (aI (by kernel_rfl))) ⟨⟨[.int .i64],[.tree U.Value]⟩,fun x=>(x.1.1,x.2.1)⟩ (fun x=>rfl) (fun x=>by kernel_rfl)
def aki(m:M.aB->Int->M.aa->M.ae->Option (Bool)):aC K:={f:=5,sh:=⟨[.el U.dO,.int .i64,.el U.Type,.el U.Value],[]⟩,R:=Bool,run:=fun x=>m x.1.1 x.1.2.1 x.1.2.2.1 x.1.2.2.2.1,dflt:=default,out:=fun r=>(Sh.enc D (.bool) r,aw.encs D [] ())}
def alh:Cx K:={aL with mode:=aG .plain [(7,.plain),(8,.plain),(9,.plain),(11,.fresh),(12,.fresh),(13,.fresh),(27,.fresh),(28,.fresh),(15,.plain),(24,.plain),(16,.plain),(17,.plain),(18,.pass),(19,.pass),(20,.pass),(25,.pass),(21,.plain),(26,.plain)],deep:=fun c=>dw (D.cells c (K.zero c)),call:=callOf D [Ix M.xr,mB M.BA,mF M.CU,IA M.xu,mC M.BD,mG M.CW,ajT M.ajB,akh M.ajR,ID M.pT,Ge M.vB,mD M.BG,mA M.Bq,IF M.uw,Hh M.wA,II M.xA,Gf M.tc,IH M.xz,Gg M.vC],loop:=aF []}
theorem anq:aD (alh):=aN ai _ (aj agB (aj aaA (aj adt (aj agI (aj aaJ (aj adz (aj al1 (aj amH (aj agP (aj aal (aj aaS (aj aai (aj agU (aj adi (aj ag1 (aj aao (aj agZ (aj aar (ax)))))))))))))))))))
theorem anv:(aki (M.aim)).Ok D Tryz.prog:=
 aJ (cx:=alh) (c:=aki (M.aim)) (fz:=true) (fn:=Tryz.f5) ai (anq) ay ⟨Tryz.func5,by kernel_rfl⟩ (aK (aI (by kernel_rfl))) ⟨⟨[.bool],[]⟩,fun x=>x.1.1⟩ (fun x=>rfl) (fun x=>by kernel_rfl)
