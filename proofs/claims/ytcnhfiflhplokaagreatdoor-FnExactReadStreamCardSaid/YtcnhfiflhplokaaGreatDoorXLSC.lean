/-
  Part of the proof of the claim.
-/
import Derived.Test.YtcnhfiflhplokaaGreatDoorXLSM
import Derived.Test.YtcnhfiflhplokaaGreatDoorXQHd3
import Derived.Test.YtcnhfiflhplokaaGreatDoorXQHdR
import Derived.Test.YtcnhfiflhplokaaGreatDoorXQHdU
import Derived.Test.YtcnhfiflhplokaaGreatDoorXQHdS
import Derived.Test.YtcnhfiflhplokaaGreatDoorProg
set_option linter.unusedVariables false
set_option maxRecDepth 100000
open Go Go.Proofs
open Go.V (U)
noncomputable def aT :Go.TypeId->Option U:=Go.V.bC [(2,U.i64),(3,U.i64),(4,U.bool),(5,U.u8),(6,U.u8),(9,U.str),(10,U.str),(11,U.str),(12,U.u64),(21,U.i32),(22,U.Uu),(23,U.IE),(25,U.Type),(26,U.CQ),(28,U.Stream),(30,U.IE),(32,U.Type),(33,U.CQ),(35,U.Stream),(52,U.pq),(55,U.pq),(72,U.Value),(75,U.Value),(88,U.lI),(92,U.lI),(112,U.abS),(129,U.u64),(133,U.GV),(150,U.u64),(151,U.u32),(170,U.i64),(180,U.u64),(196,U.u8),(197,U.u8),(200,U.i32),(201,U.i32)]
noncomputable def aC :Go.TypeId->List (Option U):=Go.V.bD [] [(22,[some U.str]),(23,[some U.Type]),(25,[none,none,some U.str,some U.Type]),(26,[some U.Value]),(28,[none,none,some U.str,some U.Type,none,none,some U.Value,none,none,none,none]),(30,[some U.Type]),(32,[none,none,some U.str,some U.Type]),(33,[some U.Value]),(35,[none,none,some U.str,some U.Type,none,none,some U.Value,none,none,none,none]),(52,[some U.lI]),(55,[some U.lI]),(72,[none,none,none,some U.Value]),(75,[none,none,none,some U.Value]),(112,[some U.u8]),(133,[some U.i64])]
theorem ai : Tryz.prog.follows .mixedOrders=true:=by kernel_rfl
noncomputable def AA (y:(Int)⊕(Int)) {R:Type} (k:Go.V.Ex->List (Go.V.AV Go.V.K)->List (Go.V.Ob Go.V.K)->R):R:=match y with
 | .inl a0=>k Go.V.Ex.ret (Go.V.eQ.fA Go.V.D ⟨[.any, .int .i64],[]⟩ (((),(a0,())),())) (Go.V.eQ.eP Go.V.D ⟨[.any, .int .i64],[]⟩ (((),(a0,())),()))
 | .inr (a1)=>k (Go.V.Ex.exit 0) (Go.V.eQ.fA Go.V.D ⟨[.int .i64, .any],[]⟩ ((a1,((),())),())) (Go.V.eQ.eP Go.V.D ⟨[.int .i64, .any],[]⟩ ((a1,((),())),()))
noncomputable def NT :List (Go.V.gB Go.V.K ((Int)⊕(Int))):=[⟨Go.V.Ex.ret,⟨[.any, .int .i64],[]⟩,fun x=> .inl x.1.2.1⟩,⟨(Go.V.Ex.exit 0),⟨[.int .i64, .any],[]⟩,fun x=> .inr (x.1.1)⟩]
noncomputable def Eh :Go.V.fJ Go.V.K:=Go.V.gU Go.V.D false 28 0 [0,1,5] [1,4] ⟨[.cO U.str, .int .i64, .int .i64],[]⟩ (fun x=>M.lM x.1.1 Go.V.aG x.1.2.1 x.1.2.2.1) AA
noncomputable def zy (m:(List (List UInt8))->Int->Option (Int)):Go.V.df Go.V.K:={f:=67,sh:=⟨[.cO U.str, .int .i64],[]⟩,R:=Int,run:=fun x=>m x.1.1 x.1.2.1,dflt:=default,out:=fun r=>(Go.V.Sh.enc Go.V.D (.int .i64) r,Go.V.dY.encs Go.V.D [] ())}
noncomputable def vP :Go.V.Cx Go.V.K:={P:=Tryz.prog,D:=Go.V.D,ty:=aT,jo:=aC,mode:=Go.V.bD .plain [],call:=Go.V.callOf Go.V.D [],loop:=Go.V.bC [(5,Eh)]}
theorem Ei : Go.V.aI (vP):=Go.V.ax Go.V.aH _ (Go.V.bM)
theorem MM : Go.V.dQ (vP) (Go.V.dX (Go.V.ed Tryz.f67) 0) (Eh):=
 Go.V.dE (cx:=vP) (n:=28) (n0:=0) (ins:=[0,1,5]) (outs:=[1,4]) (sh:=⟨[.cO U.str, .int .i64, .int .i64],[]⟩) (run:=fun n x=>M.lM x.1.1 n x.1.2.1 x.1.2.2.1) (fZ:=NT) (out:=AA) Go.V.aH (Ei) ai (Go.V.ay (by kernel_rfl)) (fun _=>rfl) (fun m x=>by kernel_rfl) (Go.V.aB ⟨Go.V.jq,fun _ _ _=>rfl⟩ (Go.V.aB ⟨Go.V.dF,fun _ _ _=>rfl⟩ (Go.V.bM))) false Go.V.aG
theorem Uw : (zy (M.uK)).Ok Go.V.D Tryz.prog:=
 Go.V.bG (cx:=vP) (c:=zy (M.uK)) (fz:=true) (fn:=Tryz.f67) Go.V.aH (Ei) ai ⟨Tryz.func67,by kernel_rfl⟩ (Go.V.bH (Go.V.bK 1 (by kernel_rfl) (Go.V.eF (.mk (by kernel_rfl) (MM))))) ⟨⟨[.int .i64],[]⟩,fun x=>x.1.1⟩ (fun x=>rfl) (fun x=>by kernel_rfl)
noncomputable def iZ (m:M.ae->Int->Option (Int)):Go.V.df Go.V.K:={f:=32,sh:=⟨[.el U.Type, .int .i64],[]⟩,R:=Int,run:=fun x=>m x.1.1 x.1.2.1,dflt:=default,out:=fun r=>(Go.V.Sh.enc Go.V.D (.int .i64) r,Go.V.dY.encs Go.V.D [] ())}
noncomputable def Ej (y:(Int)⊕(Int)) {R:Type} (k:Go.V.Ex->List (Go.V.AV Go.V.K)->List (Go.V.Ob Go.V.K)->R):R:=match y with
 | .inl a0=>k Go.V.Ex.ret (Go.V.eQ.fA Go.V.D ⟨[.any, .int .i64],[]⟩ (((),(a0,())),())) (Go.V.eQ.eP Go.V.D ⟨[.any, .int .i64],[]⟩ (((),(a0,())),()))
 | .inr (a1)=>k (Go.V.Ex.exit 0) (Go.V.eQ.fA Go.V.D ⟨[.int .i64, .any],[]⟩ ((a1,((),())),())) (Go.V.eQ.eP Go.V.D ⟨[.int .i64, .any],[]⟩ ((a1,((),())),()))
noncomputable def SV :List (Go.V.gB Go.V.K ((Int)⊕(Int))):=[⟨Go.V.Ex.ret,⟨[.any, .int .i64],[]⟩,fun x=> .inl x.1.2.1⟩,⟨(Go.V.Ex.exit 0),⟨[.int .i64, .any],[]⟩,fun x=> .inr (x.1.1)⟩]
noncomputable def IG (aV:M.ae->Int->Option (Int)):Go.V.fJ Go.V.K:=Go.V.gU Go.V.D false 27 0 [0,1,5] [1,4] ⟨[.cO U.Type, .int .i64, .int .i64],[]⟩ (fun x=>M.pM aV x.1.1 Go.V.aG x.1.2.1 x.1.2.2.1) Ej
noncomputable def DV (m:(List M.ae)->Int->Option (Int)):Go.V.df Go.V.K:={f:=68,sh:=⟨[.cO U.Type, .int .i64],[]⟩,R:=Int,run:=fun x=>m x.1.1 x.1.2.1,dflt:=default,out:=fun r=>(Go.V.Sh.enc Go.V.D (.int .i64) r,Go.V.dY.encs Go.V.D [] ())}
noncomputable def zS (aV:M.ae->Int->Option (Int)):Go.V.Cx Go.V.K:={P:=Tryz.prog,D:=Go.V.D,ty:=aT,jo:=aC,mode:=Go.V.bD .plain [(32, .plain)],call:=Go.V.callOf Go.V.D [iZ aV],loop:=Go.V.bC [(5,IG aV)]}
theorem II (aV:M.ae->Int->Option (Int)) (iO:(iZ aV).Ok Go.V.D Tryz.prog):Go.V.aI (zS aV):=Go.V.ax Go.V.aH _ (Go.V.aB iO (Go.V.bM))
theorem PV (aV:M.ae->Int->Option (Int)) (iO:(iZ aV).Ok Go.V.D Tryz.prog):Go.V.dQ (zS aV) (Go.V.dX (Go.V.ed Tryz.f68) 0) (IG aV):=
 Go.V.dE (cx:=zS aV) (n:=27) (n0:=0) (ins:=[0,1,5]) (outs:=[1,4]) (sh:=⟨[.cO U.Type, .int .i64, .int .i64],[]⟩) (run:=fun n x=>M.pM aV x.1.1 n x.1.2.1 x.1.2.2.1) (fZ:=SV) (out:=Ej) Go.V.aH (II aV iO) ai (Go.V.ay (by kernel_rfl)) (fun _=>rfl) (fun m x=>by kernel_rfl) (Go.V.aB ⟨Go.V.jq,fun _ _ _=>rfl⟩ (Go.V.aB ⟨Go.V.dF,fun _ _ _=>rfl⟩ (Go.V.bM))) false Go.V.aG
theorem YM (aV:M.ae->Int->Option (Int)) (iO:(iZ aV).Ok Go.V.D Tryz.prog):(DV (M.xA aV)).Ok Go.V.D Tryz.prog:=
 Go.V.bG (cx:=zS aV) (c:=DV (M.xA aV)) (fz:=true) (fn:=Tryz.f68) Go.V.aH (II aV iO) ai ⟨Tryz.func68,by kernel_rfl⟩ (Go.V.bH (Go.V.bK 1 (by kernel_rfl) (Go.V.eF (.mk (by kernel_rfl) (PV aV iO))))) ⟨⟨[.int .i64],[]⟩,fun x=>x.1.1⟩ (fun x=>rfl) (fun x=>by kernel_rfl)
noncomputable def QX (aV:M.ae->Int->Option (Int)):Go.V.Cx Go.V.K:={P:=Tryz.prog,D:=Go.V.D,ty:=aT,jo:=aC,mode:=Go.V.bD .plain [(67, .plain),(68, .plain)],call:=Go.V.callOf Go.V.D [zy M.uK,DV (M.xA aV)],loop:=Go.V.bC []}
theorem WY (aV:M.ae->Int->Option (Int)) (iO:(iZ aV).Ok Go.V.D Tryz.prog):Go.V.aI (QX aV):=Go.V.ax Go.V.aH _ (Go.V.aB Uw (Go.V.aB (YM aV iO) (Go.V.bM)))
theorem WZ (aV:M.ae->Int->Option (Int)) (iO:(iZ aV).Ok Go.V.D Tryz.prog):(iZ (M.AB aV)).Ok Go.V.D Tryz.prog:=
 Go.V.bG (cx:=QX aV) (c:=iZ (M.AB aV)) (fz:=true) (fn:=Tryz.f32) Go.V.aH (WY aV iO) ai ⟨Tryz.func32,by kernel_rfl⟩ (Go.V.bH (Go.V.ay (by kernel_rfl))) ⟨⟨[.int .i64],[]⟩,fun x=>x.1.1⟩ (fun x=>rfl) (fun x=>by kernel_rfl)
theorem KW : ∀n,(iZ (M.uf n)).Ok Go.V.D Tryz.prog
 |0=>Go.V.ja fun _=>rfl
 |n+1=>WZ (M.uf n) (KW n)
theorem Z7 : (iZ (M.IJ)).Ok Go.V.D Tryz.prog:=KW Go.V.aG
noncomputable def AL (y:(List (List UInt8))) {R:Type} (k:Go.V.Ex->List (Go.V.AV Go.V.K)->List (Go.V.Ob Go.V.K)->R):R:=match y with
 |a0=>k (Go.V.Ex.exit 0) (Go.V.eQ.fA Go.V.D ⟨[.own 1],[.dead, .arr U.str]⟩ (((),()),((),(a0,())))) (Go.V.eQ.eP Go.V.D ⟨[.own 1],[.dead, .arr U.str]⟩ (((),()),((),(a0,()))))
noncomputable def NU :List (Go.V.gB Go.V.K ((List (List UInt8)))):=[⟨(Go.V.Ex.exit 0),⟨[.own 1],[.dead, .arr U.str]⟩,fun x=>x.2.2.1⟩]
noncomputable def Em :Go.V.fJ Go.V.K:=Go.V.gU Go.V.D false 22 1 [0,3,4] [3] ⟨[.cO U.str, .own 1, .int .i64],[.dead, .arr U.str]⟩ (fun x=>M.jM x.1.1 Go.V.aG x.1.2.2.1 x.2.2.1) AL
noncomputable def zA (m:(List (List UInt8))->Option ((List (List UInt8)))):Go.V.df Go.V.K:={f:=72,sh:=⟨[.cO U.str],[]⟩,R:=(List (List UInt8)),run:=fun x=>m x.1.1,dflt:=default,out:=fun r=>(Go.V.Sh.enc Go.V.D (.own 0) (),Go.V.dY.encs Go.V.D [.arr U.str] (r,()))}
noncomputable def vS :Go.V.Cx Go.V.K:={P:=Tryz.prog,D:=Go.V.D,ty:=aT,jo:=aC,mode:=Go.V.bD .plain [],rsl:=[[some U.str]],deep:=fun c=>Go.V.bZ (Go.V.D.cells c (Go.V.K.zero c)),call:=Go.V.callOf Go.V.D [],loop:=Go.V.bC [(3,Em)]}
theorem En : Go.V.aI (vS):=Go.V.ax Go.V.aH _ (Go.V.bM)
theorem MN : Go.V.dQ (vS) (Go.V.dX (Go.V.ed Tryz.f72) 0) (Em):=
 Go.V.dE (cx:=vS) (n:=22) (n0:=1) (ins:=[0,3,4]) (outs:=[3]) (sh:=⟨[.cO U.str, .own 1, .int .i64],[.dead, .arr U.str]⟩) (run:=fun n x=>M.jM x.1.1 n x.1.2.2.1 x.2.2.1) (fZ:=NU) (out:=AL) Go.V.aH (En) ai (Go.V.ay (by kernel_rfl)) (fun _=>rfl) (fun m x=>by kernel_rfl) (Go.V.aB ⟨Go.V.dF,fun _ _ _=>rfl⟩ (Go.V.bM)) false Go.V.aG
theorem Ux : (zA (M.uM)).Ok Go.V.D Tryz.prog:=
 Go.V.bG (cx:=vS) (c:=zA (M.uM)) (fz:=false) (fn:=Tryz.f72) Go.V.aH (En) ai ⟨Tryz.func72,by kernel_rfl⟩ (Go.V.bH (Go.V.bK 1 (by kernel_rfl) (Go.V.eF (.mk (by kernel_rfl) (MN))))) ⟨⟨[.own 0],[.arr U.str]⟩,fun x=>x.2.1⟩ (fun x=>rfl) (fun x=>by kernel_rfl)
noncomputable def jb (m:M.ae->Option (Int×(List UInt8)×(List (List UInt8))×(List M.ae))):Go.V.df Go.V.K:={f:=36,sh:=⟨[.el U.Type],[]⟩,R:=Int×(List UInt8)×(List (List UInt8))×(List M.ae),run:=fun x=>m x.1.1,dflt:=default,out:=fun r=>(Go.V.Sh.enc Go.V.D (.agg [.int .i64, .str, .own 0, .own 1]) (r.1,(r.2.1,((),((),())))),Go.V.dY.encs Go.V.D [.arr U.str, .tree U.Type] (r.2.2.1,(r.2.2.2,())))}
noncomputable def Eo (y:(List M.ae)) {R:Type} (k:Go.V.Ex->List (Go.V.AV Go.V.K)->List (Go.V.Ob Go.V.K)->R):R:=match y with
 |a0=>k (Go.V.Ex.exit 0) (Go.V.eQ.fA Go.V.D ⟨[.own 1],[.dead, .tree U.Type]⟩ (((),()),((),(a0,())))) (Go.V.eQ.eP Go.V.D ⟨[.own 1],[.dead, .tree U.Type]⟩ (((),()),((),(a0,()))))
noncomputable def SX :List (Go.V.gB Go.V.K ((List M.ae))):=[⟨(Go.V.Ex.exit 0),⟨[.own 1],[.dead, .tree U.Type]⟩,fun x=>x.2.2.1⟩]
noncomputable def IK (aX:M.ae->Option (Int×(List UInt8)×(List (List UInt8))×(List M.ae))):Go.V.fJ Go.V.K:=Go.V.gU Go.V.D false 23 1 [0,3,4] [3] ⟨[.cO U.Type, .own 1, .int .i64],[.dead, .tree U.Type]⟩ (fun x=>M.nz aX x.1.1 Go.V.aG x.1.2.2.1 x.2.2.1) Eo
noncomputable def DW (m:(List M.ae)->Option ((List M.ae))):Go.V.df Go.V.K:={f:=73,sh:=⟨[.cO U.Type],[]⟩,R:=(List M.ae),run:=fun x=>m x.1.1,dflt:=default,out:=fun r=>(Go.V.Sh.enc Go.V.D (.own 0) (),Go.V.dY.encs Go.V.D [.tree U.Type] (r,()))}
noncomputable def zT (aX:M.ae->Option (Int×(List UInt8)×(List (List UInt8))×(List M.ae))):Go.V.Cx Go.V.K:={P:=Tryz.prog,D:=Go.V.D,ty:=aT,jo:=aC,mode:=Go.V.bD .plain [(36, .fresh)],rsl:=[[some U.Type]],deep:=fun c=>Go.V.bZ (Go.V.D.cells c (Go.V.K.zero c)),call:=Go.V.callOf Go.V.D [jb aX],loop:=Go.V.bC [(3,IK aX)]}
theorem IL (aX:M.ae->Option (Int×(List UInt8)×(List (List UInt8))×(List M.ae))) (iP:(jb aX).Ok Go.V.D Tryz.prog):Go.V.aI (zT aX):=Go.V.ax Go.V.aH _ (Go.V.aB iP (Go.V.bM))
theorem PW (aX:M.ae->Option (Int×(List UInt8)×(List (List UInt8))×(List M.ae))) (iP:(jb aX).Ok Go.V.D Tryz.prog):Go.V.dQ (zT aX) (Go.V.dX (Go.V.ed Tryz.f73) 0) (IK aX):=
 Go.V.dE (cx:=zT aX) (n:=23) (n0:=1) (ins:=[0,3,4]) (outs:=[3]) (sh:=⟨[.cO U.Type, .own 1, .int .i64],[.dead, .tree U.Type]⟩) (run:=fun n x=>M.nz aX x.1.1 n x.1.2.2.1 x.2.2.1) (fZ:=SX) (out:=Eo) Go.V.aH (IL aX iP) ai (Go.V.ay (by kernel_rfl)) (fun _=>rfl) (fun m x=>by kernel_rfl) (Go.V.aB ⟨Go.V.dF,fun _ _ _=>rfl⟩ (Go.V.bM)) false Go.V.aG
theorem YN (aX:M.ae->Option (Int×(List UInt8)×(List (List UInt8))×(List M.ae))) (iP:(jb aX).Ok Go.V.D Tryz.prog):(DW (M.xB aX)).Ok Go.V.D Tryz.prog:=
 Go.V.bG (cx:=zT aX) (c:=DW (M.xB aX)) (fz:=false) (fn:=Tryz.f73) Go.V.aH (IL aX iP) ai ⟨Tryz.func73,by kernel_rfl⟩ (Go.V.bH (Go.V.bK 1 (by kernel_rfl) (Go.V.eF (.mk (by kernel_rfl) (PW aX iP))))) ⟨⟨[.own 0],[.tree U.Type]⟩,fun x=>x.2.1⟩ (fun x=>rfl) (fun x=>by kernel_rfl)
noncomputable def QY (aX:M.ae->Option (Int×(List UInt8)×(List (List UInt8))×(List M.ae))):Go.V.Cx Go.V.K:={P:=Tryz.prog,D:=Go.V.D,ty:=aT,jo:=aC,mode:=Go.V.bD .plain [(72, .fresh),(73, .fresh)],rsl:=[[none,none,some U.str,some U.Type]],deep:=fun c=>Go.V.bZ (Go.V.D.cells c (Go.V.K.zero c)),call:=Go.V.callOf Go.V.D [zA M.uM,DW (M.xB aX)],loop:=Go.V.bC []}
theorem W9 (aX:M.ae->Option (Int×(List UInt8)×(List (List UInt8))×(List M.ae))) (iP:(jb aX).Ok Go.V.D Tryz.prog):Go.V.aI (QY aX):=Go.V.ax Go.V.aH _ (Go.V.aB Ux (Go.V.aB (YN aX iP) (Go.V.bM)))
theorem Xa (aX:M.ae->Option (Int×(List UInt8)×(List (List UInt8))×(List M.ae))) (iP:(jb aX).Ok Go.V.D Tryz.prog):(jb (M.AO aX)).Ok Go.V.D Tryz.prog:=
 Go.V.bG (cx:=QY aX) (c:=jb (M.AO aX)) (fz:=false) (fn:=Tryz.f36) Go.V.aH (W9 aX iP) ai ⟨Tryz.func36,by kernel_rfl⟩ (Go.V.bH (Go.V.ay (by kernel_rfl))) ⟨⟨[.agg [.int .i64, .str, .own 0, .own 1]],[.arr U.str, .tree U.Type]⟩,fun x=>(x.1.1.1,x.1.1.2.1,x.2.1,x.2.2.1)⟩ (fun x=>rfl) (fun x=>by kernel_rfl)
theorem KX : ∀n,(jb (M.ug n)).Ok Go.V.D Tryz.prog
 |0=>Go.V.ja fun _=>rfl
 |n+1=>Xa (M.ug n) (KX n)
theorem Z8 : (jb (M.IM)).Ok Go.V.D Tryz.prog:=KX Go.V.aG
noncomputable def AP (y:(Bool)⊕(Unit)) {R:Type} (k:Go.V.Ex->List (Go.V.AV Go.V.K)->List (Go.V.Ob Go.V.K)->R):R:=match y with
 | .inl a0=>k Go.V.Ex.ret (Go.V.eQ.fA Go.V.D ⟨[.bool],[]⟩ ((a0,()),())) (Go.V.eQ.eP Go.V.D ⟨[.bool],[]⟩ ((a0,()),()))
 | .inr (a1)=>k (Go.V.Ex.exit 0) (Go.V.eQ.fA Go.V.D ⟨[.any],[]⟩ (((),()),())) (Go.V.eQ.eP Go.V.D ⟨[.any],[]⟩ (((),()),()))
noncomputable def NV :List (Go.V.gB Go.V.K ((Bool)⊕(Unit))):=[⟨Go.V.Ex.ret,⟨[.bool],[]⟩,fun x=> .inl x.1.1⟩,⟨(Go.V.Ex.exit 0),⟨[.any],[]⟩,fun x=> .inr (())⟩]
noncomputable def Ep :Go.V.fJ Go.V.K:=Go.V.gU Go.V.D false 26 0 [0,1,5] [4] ⟨[.cO U.str, .cO U.str, .int .i64],[]⟩ (fun x=>M.lN x.1.1 x.1.2.1 Go.V.aG x.1.2.2.1) AP
noncomputable def zB (m:(List (List UInt8))->(List (List UInt8))->Option (Bool)):Go.V.df Go.V.K:={f:=74,sh:=⟨[.cO U.str, .cO U.str],[]⟩,R:=Bool,run:=fun x=>m x.1.1 x.1.2.1,dflt:=default,out:=fun r=>(Go.V.Sh.enc Go.V.D (.bool) r,Go.V.dY.encs Go.V.D [] ())}
noncomputable def vT :Go.V.Cx Go.V.K:={P:=Tryz.prog,D:=Go.V.D,ty:=aT,jo:=aC,mode:=Go.V.bD .plain [],call:=Go.V.callOf Go.V.D [],loop:=Go.V.bC [(4,Ep)]}
theorem Es : Go.V.aI (vT):=Go.V.ax Go.V.aH _ (Go.V.bM)
theorem MO : Go.V.dQ (vT) (Go.V.dX (Go.V.ed Tryz.f74) 0) (Ep):=
 Go.V.dE (cx:=vT) (n:=26) (n0:=0) (ins:=[0,1,5]) (outs:=[4]) (sh:=⟨[.cO U.str, .cO U.str, .int .i64],[]⟩) (run:=fun n x=>M.lN x.1.1 x.1.2.1 n x.1.2.2.1) (fZ:=NV) (out:=AP) Go.V.aH (Es) ai (Go.V.ay (by kernel_rfl)) (fun _=>rfl) (fun m x=>by kernel_rfl) (Go.V.aB ⟨Go.V.jq,fun _ _ _=>rfl⟩ (Go.V.aB ⟨Go.V.dF,fun _ _ _=>rfl⟩ (Go.V.bM))) false Go.V.aG
theorem Uy : (zB (M.uN)).Ok Go.V.D Tryz.prog:=
 Go.V.bG (cx:=vT) (c:=zB (M.uN)) (fz:=true) (fn:=Tryz.f74) Go.V.aH (Es) ai ⟨Tryz.func74,by kernel_rfl⟩ (Go.V.bH (Go.V.bK 1 (by kernel_rfl) (Go.V.eF (.mk (by kernel_rfl) (MO))))) ⟨⟨[.bool],[]⟩,fun x=>x.1.1⟩ (fun x=>rfl) (fun x=>by kernel_rfl)
noncomputable def jc (m:M.ae->M.ae->Option (Bool)):Go.V.df Go.V.K:={f:=39,sh:=⟨[.el U.Type, .el U.Type],[]⟩,R:=Bool,run:=fun x=>m x.1.1 x.1.2.1,dflt:=default,out:=fun r=>(Go.V.Sh.enc Go.V.D (.bool) r,Go.V.dY.encs Go.V.D [] ())}
noncomputable def Et (y:(Bool)⊕(Unit)) {R:Type} (k:Go.V.Ex->List (Go.V.AV Go.V.K)->List (Go.V.Ob Go.V.K)->R):R:=match y with
 | .inl a0=>k Go.V.Ex.ret (Go.V.eQ.fA Go.V.D ⟨[.bool],[]⟩ ((a0,()),())) (Go.V.eQ.eP Go.V.D ⟨[.bool],[]⟩ ((a0,()),()))
 | .inr (a1)=>k (Go.V.Ex.exit 0) (Go.V.eQ.fA Go.V.D ⟨[.any],[]⟩ (((),()),())) (Go.V.eQ.eP Go.V.D ⟨[.any],[]⟩ (((),()),()))
noncomputable def SY :List (Go.V.gB Go.V.K ((Bool)⊕(Unit))):=[⟨Go.V.Ex.ret,⟨[.bool],[]⟩,fun x=> .inl x.1.1⟩,⟨(Go.V.Ex.exit 0),⟨[.any],[]⟩,fun x=> .inr (())⟩]
noncomputable def IP (aW:M.ae->M.ae->Option (Bool)):Go.V.fJ Go.V.K:=Go.V.gU Go.V.D false 27 0 [0,1,5] [4] ⟨[.cO U.Type, .cO U.Type, .int .i64],[]⟩ (fun x=>M.pO aW x.1.1 x.1.2.1 Go.V.aG x.1.2.2.1) Et
noncomputable def DX (m:(List M.ae)->(List M.ae)->Option (Bool)):Go.V.df Go.V.K:={f:=75,sh:=⟨[.cO U.Type, .cO U.Type],[]⟩,R:=Bool,run:=fun x=>m x.1.1 x.1.2.1,dflt:=default,out:=fun r=>(Go.V.Sh.enc Go.V.D (.bool) r,Go.V.dY.encs Go.V.D [] ())}
noncomputable def zU (aW:M.ae->M.ae->Option (Bool)):Go.V.Cx Go.V.K:={P:=Tryz.prog,D:=Go.V.D,ty:=aT,jo:=aC,mode:=Go.V.bD .plain [(39, .plain)],call:=Go.V.callOf Go.V.D [jc aW],loop:=Go.V.bC [(4,IP aW)]}
theorem IQ (aW:M.ae->M.ae->Option (Bool)) (iQ:(jc aW).Ok Go.V.D Tryz.prog):Go.V.aI (zU aW):=Go.V.ax Go.V.aH _ (Go.V.aB iQ (Go.V.bM))
theorem PX (aW:M.ae->M.ae->Option (Bool)) (iQ:(jc aW).Ok Go.V.D Tryz.prog):Go.V.dQ (zU aW) (Go.V.dX (Go.V.ed Tryz.f75) 0) (IP aW):=
 Go.V.dE (cx:=zU aW) (n:=27) (n0:=0) (ins:=[0,1,5]) (outs:=[4]) (sh:=⟨[.cO U.Type, .cO U.Type, .int .i64],[]⟩) (run:=fun n x=>M.pO aW x.1.1 x.1.2.1 n x.1.2.2.1) (fZ:=SY) (out:=Et) Go.V.aH (IQ aW iQ) ai (Go.V.ay (by kernel_rfl)) (fun _=>rfl) (fun m x=>by kernel_rfl) (Go.V.aB ⟨Go.V.jq,fun _ _ _=>rfl⟩ (Go.V.aB ⟨Go.V.dF,fun _ _ _=>rfl⟩ (Go.V.bM))) false Go.V.aG
theorem YO (aW:M.ae->M.ae->Option (Bool)) (iQ:(jc aW).Ok Go.V.D Tryz.prog):(DX (M.xC aW)).Ok Go.V.D Tryz.prog:=
 Go.V.bG (cx:=zU aW) (c:=DX (M.xC aW)) (fz:=true) (fn:=Tryz.f75) Go.V.aH (IQ aW iQ) ai ⟨Tryz.func75,by kernel_rfl⟩ (Go.V.bH (Go.V.bK 1 (by kernel_rfl) (Go.V.eF (.mk (by kernel_rfl) (PX aW iQ))))) ⟨⟨[.bool],[]⟩,fun x=>x.1.1⟩ (fun x=>rfl) (fun x=>by kernel_rfl)
noncomputable def QZ (aW:M.ae->M.ae->Option (Bool)):Go.V.Cx Go.V.K:={P:=Tryz.prog,D:=Go.V.D,ty:=aT,jo:=aC,mode:=Go.V.bD .plain [(74, .plain),(75, .plain)],call:=Go.V.callOf Go.V.D [zB M.uN,DX (M.xC aW)],loop:=Go.V.bC []}
theorem Xb (aW:M.ae->M.ae->Option (Bool)) (iQ:(jc aW).Ok Go.V.D Tryz.prog):Go.V.aI (QZ aW):=Go.V.ax Go.V.aH _ (Go.V.aB Uy (Go.V.aB (YO aW iQ) (Go.V.bM)))
theorem Xc (aW:M.ae->M.ae->Option (Bool)) (iQ:(jc aW).Ok Go.V.D Tryz.prog):(jc (M.AQ aW)).Ok Go.V.D Tryz.prog:=
 Go.V.bG (cx:=QZ aW) (c:=jc (M.AQ aW)) (fz:=true) (fn:=Tryz.f39) Go.V.aH (Xb aW iQ) ai ⟨Tryz.func39,by kernel_rfl⟩ (Go.V.bH (Go.V.ay (by kernel_rfl))) ⟨⟨[.bool],[]⟩,fun x=>x.1.1⟩ (fun x=>rfl) (fun x=>by kernel_rfl)
theorem KY : ∀n,(jc (M.uh n)).Ok Go.V.D Tryz.prog
 |0=>Go.V.ja fun _=>rfl
 |n+1=>Xc (M.uh n) (KY n)
theorem Z9 : (jc (M.IU)).Ok Go.V.D Tryz.prog:=KY Go.V.aG
noncomputable def iR (m:M.af->Int->Option (Int)):Go.V.df Go.V.K:={f:=44,sh:=⟨[.el U.Value, .int .i64],[]⟩,R:=Int,run:=fun x=>m x.1.1 x.1.2.1,dflt:=default,out:=fun r=>(Go.V.Sh.enc Go.V.D (.int .i64) r,Go.V.dY.encs Go.V.D [] ())}
noncomputable def CS (y:(Int)⊕(Int)) {R:Type} (k:Go.V.Ex->List (Go.V.AV Go.V.K)->List (Go.V.Ob Go.V.K)->R):R:=match y with
 | .inl a0=>k Go.V.Ex.ret (Go.V.eQ.fA Go.V.D ⟨[.any, .int .i64],[]⟩ (((),(a0,())),())) (Go.V.eQ.eP Go.V.D ⟨[.any, .int .i64],[]⟩ (((),(a0,())),()))
 | .inr (a1)=>k (Go.V.Ex.exit 0) (Go.V.eQ.fA Go.V.D ⟨[.int .i64, .any],[]⟩ ((a1,((),())),())) (Go.V.eQ.eP Go.V.D ⟨[.int .i64, .any],[]⟩ ((a1,((),())),()))
noncomputable def PY :List (Go.V.gB Go.V.K ((Int)⊕(Int))):=[⟨Go.V.Ex.ret,⟨[.any, .int .i64],[]⟩,fun x=> .inl x.1.2.1⟩,⟨(Go.V.Ex.exit 0),⟨[.int .i64, .any],[]⟩,fun x=> .inr (x.1.1)⟩]
noncomputable def GX (aN:M.af->Int->Option (Int)):Go.V.fJ Go.V.K:=Go.V.gU Go.V.D false 27 0 [0,1,5] [1,4] ⟨[.cO U.Value, .int .i64, .int .i64],[]⟩ (fun x=>M.nY aN x.1.1 Go.V.aG x.1.2.1 x.1.2.2.1) CS
noncomputable def vU (m:(List M.af)->Int->Option (Int)):Go.V.df Go.V.K:={f:=17,sh:=⟨[.cO U.Value, .int .i64],[]⟩,R:=Int,run:=fun x=>m x.1.1 x.1.2.1,dflt:=default,out:=fun r=>(Go.V.Sh.enc Go.V.D (.int .i64) r,Go.V.dY.encs Go.V.D [] ())}
noncomputable def yu (aN:M.af->Int->Option (Int)):Go.V.Cx Go.V.K:={P:=Tryz.prog,D:=Go.V.D,ty:=aT,jo:=aC,mode:=Go.V.bD .plain [(44, .plain)],call:=Go.V.callOf Go.V.D [iR aN],loop:=Go.V.bC [(5,GX aN)]}
theorem GY (aN:M.af->Int->Option (Int)) (gX:(iR aN).Ok Go.V.D Tryz.prog):Go.V.aI (yu aN):=Go.V.ax Go.V.aH _ (Go.V.aB gX (Go.V.bM))
theorem NW (aN:M.af->Int->Option (Int)) (gX:(iR aN).Ok Go.V.D Tryz.prog):Go.V.dQ (yu aN) (Go.V.dX (Go.V.ed Tryz.f17) 0) (GX aN):=
 Go.V.dE (cx:=yu aN) (n:=27) (n0:=0) (ins:=[0,1,5]) (outs:=[1,4]) (sh:=⟨[.cO U.Value, .int .i64, .int .i64],[]⟩) (run:=fun n x=>M.nY aN x.1.1 n x.1.2.1 x.1.2.2.1) (fZ:=PY) (out:=CS) Go.V.aH (GY aN gX) ai (Go.V.ay (by kernel_rfl)) (fun _=>rfl) (fun m x=>by kernel_rfl) (Go.V.aB ⟨Go.V.jq,fun _ _ _=>rfl⟩ (Go.V.aB ⟨Go.V.dF,fun _ _ _=>rfl⟩ (Go.V.bM))) false Go.V.aG
theorem KZ (aN:M.af->Int->Option (Int)) (gX:(iR aN).Ok Go.V.D Tryz.prog):(vU (M.pR aN)).Ok Go.V.D Tryz.prog:=
 Go.V.bG (cx:=yu aN) (c:=vU (M.pR aN)) (fz:=true) (fn:=Tryz.f17) Go.V.aH (GY aN gX) ai ⟨Tryz.func17,by kernel_rfl⟩ (Go.V.bH (Go.V.bK 1 (by kernel_rfl) (Go.V.eF (.mk (by kernel_rfl) (NW aN gX))))) ⟨⟨[.int .i64],[]⟩,fun x=>x.1.1⟩ (fun x=>rfl) (fun x=>by kernel_rfl)
noncomputable def NY (aN:M.af->Int->Option (Int)):Go.V.Cx Go.V.K:={P:=Tryz.prog,D:=Go.V.D,ty:=aT,jo:=aC,mode:=Go.V.bD .plain [(17, .plain)],call:=Go.V.callOf Go.V.D [vU (M.pR aN)],loop:=Go.V.bC []}
theorem Uz (aN:M.af->Int->Option (Int)) (gX:(iR aN).Ok Go.V.D Tryz.prog):Go.V.aI (NY aN):=Go.V.ax Go.V.aH _ (Go.V.aB (KZ aN gX) (Go.V.bM))
theorem UA (aN:M.af->Int->Option (Int)) (gX:(iR aN).Ok Go.V.D Tryz.prog):(iR (M.yN aN)).Ok Go.V.D Tryz.prog:=
 Go.V.bG (cx:=NY aN) (c:=iR (M.yN aN)) (fz:=true) (fn:=Tryz.f44) Go.V.aH (Uz aN gX) ai ⟨Tryz.func44,by kernel_rfl⟩ (Go.V.bH (Go.V.ay (by kernel_rfl))) ⟨⟨[.int .i64],[]⟩,fun x=>x.1.1⟩ (fun x=>rfl) (fun x=>by kernel_rfl)
theorem IV : ∀n,(iR (M.qO n)).Ok Go.V.D Tryz.prog
 |0=>Go.V.ja fun _=>rfl
 |n+1=>UA (M.qO n) (IV n)
theorem YP : (iR (M.Ak)).Ok Go.V.D Tryz.prog:=IV Go.V.aG
noncomputable def iT (m:M.af->Option (Int×Int×(List UInt8)×(List M.af))):Go.V.df Go.V.K:={f:=47,sh:=⟨[.el U.Value],[]⟩,R:=Int×Int×(List UInt8)×(List M.af),run:=fun x=>m x.1.1,dflt:=default,out:=fun r=>(Go.V.Sh.enc Go.V.D (.agg [.int .i64, .int .i64, .str, .own 0]) (r.1,(r.2.1,(r.2.2.1,((),())))),Go.V.dY.encs Go.V.D [.tree U.Value] (r.2.2.2,()))}
noncomputable def CU (y:(List M.af)) {R:Type} (k:Go.V.Ex->List (Go.V.AV Go.V.K)->List (Go.V.Ob Go.V.K)->R):R:=match y with
 |a0=>k (Go.V.Ex.exit 0) (Go.V.eQ.fA Go.V.D ⟨[.own 1],[.dead, .tree U.Value]⟩ (((),()),((),(a0,())))) (Go.V.eQ.eP Go.V.D ⟨[.own 1],[.dead, .tree U.Value]⟩ (((),()),((),(a0,()))))
noncomputable def PZ :List (Go.V.gB Go.V.K ((List M.af))):=[⟨(Go.V.Ex.exit 0),⟨[.own 1],[.dead, .tree U.Value]⟩,fun x=>x.2.2.1⟩]
noncomputable def GZ (aP:M.af->Option (Int×Int×(List UInt8)×(List M.af))):Go.V.fJ Go.V.K:=Go.V.gU Go.V.D false 23 1 [0,3,4] [3] ⟨[.cO U.Value, .own 1, .int .i64],[.dead, .tree U.Value]⟩ (fun x=>M.kS aP x.1.1 Go.V.aG x.1.2.2.1 x.2.2.1) CU
noncomputable def vV (m:(List M.af)->Option ((List M.af))):Go.V.df Go.V.K:={f:=19,sh:=⟨[.cO U.Value],[]⟩,R:=(List M.af),run:=fun x=>m x.1.1,dflt:=default,out:=fun r=>(Go.V.Sh.enc Go.V.D (.own 0) (),Go.V.dY.encs Go.V.D [.tree U.Value] (r,()))}
noncomputable def yw (aP:M.af->Option (Int×Int×(List UInt8)×(List M.af))):Go.V.Cx Go.V.K:={P:=Tryz.prog,D:=Go.V.D,ty:=aT,jo:=aC,mode:=Go.V.bD .plain [(47, .fresh)],rsl:=[[some U.Value]],deep:=fun c=>Go.V.bZ (Go.V.D.cells c (Go.V.K.zero c)),call:=Go.V.callOf Go.V.D [iT aP],loop:=Go.V.bC [(3,GZ aP)]}
theorem G5 (aP:M.af->Option (Int×Int×(List UInt8)×(List M.af))) (gY:(iT aP).Ok Go.V.D Tryz.prog):Go.V.aI (yw aP):=Go.V.ax Go.V.aH _ (Go.V.aB gY (Go.V.bM))
theorem NZ (aP:M.af->Option (Int×Int×(List UInt8)×(List M.af))) (gY:(iT aP).Ok Go.V.D Tryz.prog):Go.V.dQ (yw aP) (Go.V.dX (Go.V.ed Tryz.f19) 0) (GZ aP):=
 Go.V.dE (cx:=yw aP) (n:=23) (n0:=1) (ins:=[0,3,4]) (outs:=[3]) (sh:=⟨[.cO U.Value, .own 1, .int .i64],[.dead, .tree U.Value]⟩) (run:=fun n x=>M.kS aP x.1.1 n x.1.2.2.1 x.2.2.1) (fZ:=PZ) (out:=CU) Go.V.aH (G5 aP gY) ai (Go.V.ay (by kernel_rfl)) (fun _=>rfl) (fun m x=>by kernel_rfl) (Go.V.aB ⟨Go.V.dF,fun _ _ _=>rfl⟩ (Go.V.bM)) false Go.V.aG
theorem La (aP:M.af->Option (Int×Int×(List UInt8)×(List M.af))) (gY:(iT aP).Ok Go.V.D Tryz.prog):(vV (M.pU aP)).Ok Go.V.D Tryz.prog:=
 Go.V.bG (cx:=yw aP) (c:=vV (M.pU aP)) (fz:=false) (fn:=Tryz.f19) Go.V.aH (G5 aP gY) ai ⟨Tryz.func19,by kernel_rfl⟩ (Go.V.bH (Go.V.bK 1 (by kernel_rfl) (Go.V.eF (.mk (by kernel_rfl) (NZ aP gY))))) ⟨⟨[.own 0],[.tree U.Value]⟩,fun x=>x.2.1⟩ (fun x=>rfl) (fun x=>by kernel_rfl)
noncomputable def N7 (aP:M.af->Option (Int×Int×(List UInt8)×(List M.af))):Go.V.Cx Go.V.K:={P:=Tryz.prog,D:=Go.V.D,ty:=aT,jo:=aC,mode:=Go.V.bD .plain [(19, .fresh)],rsl:=[[none,none,none,some U.Value]],deep:=fun c=>Go.V.bZ (Go.V.D.cells c (Go.V.K.zero c)),call:=Go.V.callOf Go.V.D [vV (M.pU aP)],loop:=Go.V.bC []}
theorem UB (aP:M.af->Option (Int×Int×(List UInt8)×(List M.af))) (gY:(iT aP).Ok Go.V.D Tryz.prog):Go.V.aI (N7 aP):=Go.V.ax Go.V.aH _ (Go.V.aB (La aP gY) (Go.V.bM))
theorem UC (aP:M.af->Option (Int×Int×(List UInt8)×(List M.af))) (gY:(iT aP).Ok Go.V.D Tryz.prog):(iT (M.yO aP)).Ok Go.V.D Tryz.prog:=
 Go.V.bG (cx:=N7 aP) (c:=iT (M.yO aP)) (fz:=false) (fn:=Tryz.f47) Go.V.aH (UB aP gY) ai ⟨Tryz.func47,by kernel_rfl⟩ (Go.V.bH (Go.V.ay (by kernel_rfl))) ⟨⟨[.agg [.int .i64, .int .i64, .str, .own 0]],[.tree U.Value]⟩,fun x=>(x.1.1.1,x.1.1.2.1,x.1.1.2.2.1,x.2.1)⟩ (fun x=>rfl) (fun x=>by kernel_rfl)
theorem IW : ∀n,(iT (M.qP n)).Ok Go.V.D Tryz.prog
 |0=>Go.V.ja fun _=>rfl
 |n+1=>UC (M.qP n) (IW n)
theorem YQ : (iT (M.Am)).Ok Go.V.D Tryz.prog:=IW Go.V.aG
noncomputable def iU (m:M.af->M.af->Option (Bool)):Go.V.df Go.V.K:={f:=54,sh:=⟨[.el U.Value, .el U.Value],[]⟩,R:=Bool,run:=fun x=>m x.1.1 x.1.2.1,dflt:=default,out:=fun r=>(Go.V.Sh.enc Go.V.D (.bool) r,Go.V.dY.encs Go.V.D [] ())}
noncomputable def CV (y:(Bool)⊕(Unit)) {R:Type} (k:Go.V.Ex->List (Go.V.AV Go.V.K)->List (Go.V.Ob Go.V.K)->R):R:=match y with
 | .inl a0=>k Go.V.Ex.ret (Go.V.eQ.fA Go.V.D ⟨[.bool],[]⟩ ((a0,()),())) (Go.V.eQ.eP Go.V.D ⟨[.bool],[]⟩ ((a0,()),()))
 | .inr (a1)=>k (Go.V.Ex.exit 0) (Go.V.eQ.fA Go.V.D ⟨[.any],[]⟩ (((),()),())) (Go.V.eQ.eP Go.V.D ⟨[.any],[]⟩ (((),()),()))
noncomputable def P5 :List (Go.V.gB Go.V.K ((Bool)⊕(Unit))):=[⟨Go.V.Ex.ret,⟨[.bool],[]⟩,fun x=> .inl x.1.1⟩,⟨(Go.V.Ex.exit 0),⟨[.any],[]⟩,fun x=> .inr (())⟩]
noncomputable def G6 (aO:M.af->M.af->Option (Bool)):Go.V.fJ Go.V.K:=Go.V.gU Go.V.D false 27 0 [0,1,5] [4] ⟨[.cO U.Value, .cO U.Value, .int .i64],[]⟩ (fun x=>M.nZ aO x.1.1 x.1.2.1 Go.V.aG x.1.2.2.1) CV
noncomputable def vW (m:(List M.af)->(List M.af)->Option (Bool)):Go.V.df Go.V.K:={f:=21,sh:=⟨[.cO U.Value, .cO U.Value],[]⟩,R:=Bool,run:=fun x=>m x.1.1 x.1.2.1,dflt:=default,out:=fun r=>(Go.V.Sh.enc Go.V.D (.bool) r,Go.V.dY.encs Go.V.D [] ())}
noncomputable def yx (aO:M.af->M.af->Option (Bool)):Go.V.Cx Go.V.K:={P:=Tryz.prog,D:=Go.V.D,ty:=aT,jo:=aC,mode:=Go.V.bD .plain [(54, .plain)],call:=Go.V.callOf Go.V.D [iU aO],loop:=Go.V.bC [(4,G6 aO)]}
theorem G7 (aO:M.af->M.af->Option (Bool)) (gZ:(iU aO).Ok Go.V.D Tryz.prog):Go.V.aI (yx aO):=Go.V.ax Go.V.aH _ (Go.V.aB gZ (Go.V.bM))
theorem N8 (aO:M.af->M.af->Option (Bool)) (gZ:(iU aO).Ok Go.V.D Tryz.prog):Go.V.dQ (yx aO) (Go.V.dX (Go.V.ed Tryz.f21) 0) (G6 aO):=
 Go.V.dE (cx:=yx aO) (n:=27) (n0:=0) (ins:=[0,1,5]) (outs:=[4]) (sh:=⟨[.cO U.Value, .cO U.Value, .int .i64],[]⟩) (run:=fun n x=>M.nZ aO x.1.1 x.1.2.1 n x.1.2.2.1) (fZ:=P5) (out:=CV) Go.V.aH (G7 aO gZ) ai (Go.V.ay (by kernel_rfl)) (fun _=>rfl) (fun m x=>by kernel_rfl) (Go.V.aB ⟨Go.V.jq,fun _ _ _=>rfl⟩ (Go.V.aB ⟨Go.V.dF,fun _ _ _=>rfl⟩ (Go.V.bM))) false Go.V.aG
theorem Lc (aO:M.af->M.af->Option (Bool)) (gZ:(iU aO).Ok Go.V.D Tryz.prog):(vW (M.pV aO)).Ok Go.V.D Tryz.prog:=
 Go.V.bG (cx:=yx aO) (c:=vW (M.pV aO)) (fz:=true) (fn:=Tryz.f21) Go.V.aH (G7 aO gZ) ai ⟨Tryz.func21,by kernel_rfl⟩ (Go.V.bH (Go.V.bK 1 (by kernel_rfl) (Go.V.eF (.mk (by kernel_rfl) (N8 aO gZ))))) ⟨⟨[.bool],[]⟩,fun x=>x.1.1⟩ (fun x=>rfl) (fun x=>by kernel_rfl)
noncomputable def N9 (aO:M.af->M.af->Option (Bool)):Go.V.Cx Go.V.K:={P:=Tryz.prog,D:=Go.V.D,ty:=aT,jo:=aC,mode:=Go.V.bD .plain [(21, .plain)],call:=Go.V.callOf Go.V.D [vW (M.pV aO)],loop:=Go.V.bC []}
theorem UD (aO:M.af->M.af->Option (Bool)) (gZ:(iU aO).Ok Go.V.D Tryz.prog):Go.V.aI (N9 aO):=Go.V.ax Go.V.aH _ (Go.V.aB (Lc aO gZ) (Go.V.bM))
theorem UE (aO:M.af->M.af->Option (Bool)) (gZ:(iU aO).Ok Go.V.D Tryz.prog):(iU (M.yP aO)).Ok Go.V.D Tryz.prog:=
 Go.V.bG (cx:=N9 aO) (c:=iU (M.yP aO)) (fz:=true) (fn:=Tryz.f54) Go.V.aH (UD aO gZ) ai ⟨Tryz.func54,by kernel_rfl⟩ (Go.V.bH (Go.V.ay (by kernel_rfl))) ⟨⟨[.bool],[]⟩,fun x=>x.1.1⟩ (fun x=>rfl) (fun x=>by kernel_rfl)
theorem IX : ∀n,(iU (M.qQ n)).Ok Go.V.D Tryz.prog
 |0=>Go.V.ja fun _=>rfl
 |n+1=>UE (M.qQ n) (IX n)
theorem YR : (iU (M.Ap)).Ok Go.V.D Tryz.prog:=IX Go.V.aG
noncomputable def jE (m:M.ae->Int->Option (Int×Int)):Go.V.df Go.V.K:={f:=112,sh:=⟨[.el U.Type, .int .i64],[]⟩,R:=Int×Int,run:=fun x=>m x.1.1 x.1.2.1,dflt:=default,out:=fun r=>(Go.V.Sh.enc Go.V.D (.mJ [.int .i64, .int .i64]) (r.1,(r.2,())),Go.V.dY.encs Go.V.D [] ())}
noncomputable def FP (m:Int->Int->Option (Int)):Go.V.df Go.V.K:={f:=60,sh:=⟨[.int .i64, .int .i64],[]⟩,R:=Int,run:=fun x=>m x.1.1 x.1.2.1,dflt:=default,out:=fun r=>(Go.V.Sh.enc Go.V.D (.int .i64) r,Go.V.dY.encs Go.V.D [] ())}
noncomputable def Q3 :Go.V.Cx Go.V.K:={P:=Tryz.prog,D:=Go.V.D,ty:=aT,jo:=aC,mode:=Go.V.bD .plain [],call:=Go.V.callOf Go.V.D [],loop:=Go.V.bC []}
theorem Xd : Go.V.aI (Q3):=Go.V.ax Go.V.aH _ (Go.V.bM)
theorem aab : (FP (M.yQ)).Ok Go.V.D Tryz.prog:=
 Go.V.bG (cx:=Q3) (c:=FP (M.yQ)) (fz:=true) (fn:=Tryz.f60) Go.V.aH (Xd) ai ⟨Tryz.func60,by kernel_rfl⟩ (Go.V.bH (Go.V.ay (by kernel_rfl))) ⟨⟨[.int .i64],[]⟩,fun x=>x.1.1⟩ (fun x=>rfl) (fun x=>by kernel_rfl)
noncomputable def Eu (y:(Int×Int)⊕(Int×Int)) {R:Type} (k:Go.V.Ex->List (Go.V.AV Go.V.K)->List (Go.V.Ob Go.V.K)->R):R:=match y with
 | .inl a0=>k Go.V.Ex.ret (Go.V.eQ.fA Go.V.D ⟨[.any, .any, .int .i64, .int .i64],[.dead]⟩ (((),((),(a0.1,(a0.2,())))),((),()))) (Go.V.eQ.eP Go.V.D ⟨[.any, .any, .int .i64, .int .i64],[.dead]⟩ (((),((),(a0.1,(a0.2,())))),((),())))
 | .inr (a1)=>k (Go.V.Ex.exit 0) (Go.V.eQ.fA Go.V.D ⟨[.int .i64, .int .i64, .any, .any],[.dead]⟩ ((a1.1,(a1.2,((),((),())))),((),()))) (Go.V.eQ.eP Go.V.D ⟨[.int .i64, .int .i64, .any, .any],[.dead]⟩ ((a1.1,(a1.2,((),((),())))),((),())))
noncomputable def S9 :List (Go.V.gB Go.V.K ((Int×Int)⊕(Int×Int))):=[⟨Go.V.Ex.ret,⟨[.any, .any, .int .i64, .int .i64],[.dead]⟩,fun x=> .inl (x.1.2.2.1,x.1.2.2.2.1)⟩,⟨(Go.V.Ex.exit 0),⟨[.int .i64, .int .i64, .any, .any],[.dead]⟩,fun x=> .inr ((x.1.1,x.1.2.1))⟩]
noncomputable def IY (bJ:M.ae->Int->Option (Int×Int)):Go.V.fJ Go.V.K:=Go.V.gU Go.V.D false 48 1 [1,2,6,7,8] [6,7,4,5] ⟨[.int .i64, .ptr 0 0, .int .i64, .int .i64, .int .i64],[.el U.Type]⟩ (fun x=>M.nC bJ x.1.1 Go.V.aG x.1.2.2.1 x.1.2.2.2.1 x.1.2.2.2.2.1 x.2.1) Eu
noncomputable def zV (bJ:M.ae->Int->Option (Int×Int)):Go.V.Cx Go.V.K:={P:=Tryz.prog,D:=Go.V.D,ty:=aT,jo:=aC,mode:=Go.V.bD .plain [(112, .plain),(60, .plain)],call:=Go.V.callOf Go.V.D [jE bJ,FP M.yQ],loop:=Go.V.bC [(6,IY bJ)]}
theorem IZ (bJ:M.ae->Int->Option (Int×Int)) (oN:(jE bJ).Ok Go.V.D Tryz.prog):Go.V.aI (zV bJ):=Go.V.ax Go.V.aH _ (Go.V.aB oN (Go.V.aB aab (Go.V.bM)))
theorem P6 (bJ:M.ae->Int->Option (Int×Int)) (oN:(jE bJ).Ok Go.V.D Tryz.prog):Go.V.dQ (zV bJ) (Go.V.dX (Go.V.ed Tryz.f112) 0) (IY bJ):=
 Go.V.dE (cx:=zV bJ) (n:=48) (n0:=1) (ins:=[1,2,6,7,8]) (outs:=[6,7,4,5]) (sh:=⟨[.int .i64, .ptr 0 0, .int .i64, .int .i64, .int .i64],[.el U.Type]⟩) (run:=fun n x=>M.nC bJ x.1.1 n x.1.2.2.1 x.1.2.2.2.1 x.1.2.2.2.2.1 x.2.1) (fZ:=S9) (out:=Eu) Go.V.aH (IZ bJ oN) ai (Go.V.ay (by kernel_rfl)) (fun _=>rfl) (fun m x=>by kernel_rfl) (Go.V.aB ⟨Go.V.jq,fun _ _ _=>rfl⟩ (Go.V.aB ⟨Go.V.dF,fun _ _ _=>rfl⟩ (Go.V.bM))) false Go.V.aG
theorem UF (bJ:M.ae->Int->Option (Int×Int)) (oN:(jE bJ).Ok Go.V.D Tryz.prog):(jE (M.yR bJ)).Ok Go.V.D Tryz.prog:=
 Go.V.bG (cx:=zV bJ) (c:=jE (M.yR bJ)) (fz:=true) (fn:=Tryz.f112) Go.V.aH (IZ bJ oN) ai ⟨Tryz.func112,by kernel_rfl⟩ (Go.V.bH (Go.V.bK 1 (by kernel_rfl) (Go.V.eF (.mk (by kernel_rfl) (P6 bJ oN))))) ⟨⟨[.mJ [.int .i64, .int .i64]],[]⟩,fun x=>(x.1.1.1,x.1.1.2.1)⟩ (fun x=>rfl) (fun x=>by kernel_rfl)
theorem I4 : ∀n,(jE (M.pz n)).Ok Go.V.D Tryz.prog
 |0=>Go.V.ja fun _=>rfl
 |n+1=>UF (M.pz n) (I4 n)
theorem YS : (jE (M.J5)).Ok Go.V.D Tryz.prog:=I4 Go.V.aG
noncomputable def qR (m:Int->Int->Int->Option (Bool)):Go.V.df Go.V.K:={f:=56,sh:=⟨[.int .i64, .int .i64, .int .i64],[]⟩,R:=Bool,run:=fun x=>m x.1.1 x.1.2.1 x.1.2.2.1,dflt:=default,out:=fun r=>(Go.V.Sh.enc Go.V.D (.bool) r,Go.V.dY.encs Go.V.D [] ())}
noncomputable def UG :Go.V.Cx Go.V.K:={P:=Tryz.prog,D:=Go.V.D,ty:=aT,jo:=aC,mode:=Go.V.bD .plain [],call:=Go.V.callOf Go.V.D [],loop:=Go.V.bC []}
theorem YT : Go.V.aI (UG):=Go.V.ax Go.V.aH _ (Go.V.bM)
theorem AU : (qR (M.FQ)).Ok Go.V.D Tryz.prog:=
 Go.V.bG (cx:=UG) (c:=qR (M.FQ)) (fz:=true) (fn:=Tryz.f56) Go.V.aH (YT) ai ⟨Tryz.func56,by kernel_rfl⟩ (Go.V.bH (Go.V.ay (by kernel_rfl))) ⟨⟨[.bool],[]⟩,fun x=>x.1.1⟩ (fun x=>rfl) (fun x=>by kernel_rfl)
noncomputable def Ew (y:(Bool)⊕(Unit)) {R:Type} (k:Go.V.Ex->List (Go.V.AV Go.V.K)->List (Go.V.Ob Go.V.K)->R):R:=match y with
 | .inl a0=>k Go.V.Ex.ret (Go.V.eQ.fA Go.V.D ⟨[.bool],[]⟩ ((a0,()),())) (Go.V.eQ.eP Go.V.D ⟨[.bool],[]⟩ ((a0,()),()))
 | .inr (a1)=>k (Go.V.Ex.exit 0) (Go.V.eQ.fA Go.V.D ⟨[.any],[]⟩ (((),()),())) (Go.V.eQ.eP Go.V.D ⟨[.any],[]⟩ (((),()),()))
noncomputable def Tc :List (Go.V.gB Go.V.K ((Bool)⊕(Unit))):=[⟨Go.V.Ex.ret,⟨[.bool],[]⟩,fun x=> .inl x.1.1⟩,⟨(Go.V.Ex.exit 0),⟨[.any],[]⟩,fun x=> .inr (())⟩]
noncomputable def I5 :Go.V.fJ Go.V.K:=Go.V.gU Go.V.D false 69 0 [0,3] [2] ⟨[.str, .int .i64],[]⟩ (fun x=>M.pW x.1.1 Go.V.aG x.1.2.1) Ew
noncomputable def yz (m:(List UInt8)->Option (Bool)):Go.V.df Go.V.K:={f:=139,sh:=⟨[.str],[]⟩,R:=Bool,run:=fun x=>m x.1.1,dflt:=default,out:=fun r=>(Go.V.Sh.enc Go.V.D (.bool) r,Go.V.dY.encs Go.V.D [] ())}
noncomputable def zW :Go.V.Cx Go.V.K:={P:=Tryz.prog,D:=Go.V.D,ty:=aT,jo:=aC,mode:=Go.V.bD .plain [],call:=Go.V.callOf Go.V.D [],loop:=Go.V.bC [(4,I5)]}
theorem I7 : Go.V.aI (zW):=Go.V.ax Go.V.aH _ (Go.V.bM)
theorem P7 : Go.V.dQ (zW) (Go.V.dX (Go.V.ed Tryz.f139) 0) (I5):=
 Go.V.dE (cx:=zW) (n:=69) (n0:=0) (ins:=[0,3]) (outs:=[2]) (sh:=⟨[.str, .int .i64],[]⟩) (run:=fun n x=>M.pW x.1.1 n x.1.2.1) (fZ:=Tc) (out:=Ew) Go.V.aH (I7) ai (Go.V.ay (by kernel_rfl)) (fun _=>rfl) (fun m x=>by kernel_rfl) (Go.V.aB ⟨Go.V.jq,fun _ _ _=>rfl⟩ (Go.V.aB ⟨Go.V.dF,fun _ _ _=>rfl⟩ (Go.V.bM))) false Go.V.aG
theorem Oa : (yz (M.uO)).Ok Go.V.D Tryz.prog:=
 Go.V.bG (cx:=zW) (c:=yz (M.uO)) (fz:=true) (fn:=Tryz.f139) Go.V.aH (I7) ai ⟨Tryz.func139,by kernel_rfl⟩ (Go.V.bH (Go.V.bK 1 (by kernel_rfl) (Go.V.eF (.mk (by kernel_rfl) (P7))))) ⟨⟨[.bool],[]⟩,fun x=>x.1.1⟩ (fun x=>rfl) (fun x=>by kernel_rfl)
noncomputable def yS (y:(Bool)⊕((List (List UInt8))×Int)) {R:Type} (k:Go.V.Ex->List (Go.V.AV Go.V.K)->List (Go.V.Ob Go.V.K)->R):R:=match y with
 | .inl a0=>k Go.V.Ex.ret (Go.V.eQ.fA Go.V.D ⟨[.any, .any, .bool],[]⟩ (((),((),(a0,()))),())) (Go.V.eQ.eP Go.V.D ⟨[.any, .any, .bool],[]⟩ (((),((),(a0,()))),()))
 | .inr (a1)=>k (Go.V.Ex.exit 2) (Go.V.eQ.fA Go.V.D ⟨[.cO U.str, .int .i64, .any],[]⟩ ((a1.1,(a1.2,((),()))),())) (Go.V.eQ.eP Go.V.D ⟨[.cO U.str, .int .i64, .any],[]⟩ ((a1.1,(a1.2,((),()))),()))
noncomputable def KH :List (Go.V.gB Go.V.K ((Bool)⊕((List (List UInt8))×Int))):=[⟨Go.V.Ex.ret,⟨[.any, .any, .bool],[]⟩,fun x=> .inl x.1.2.2.1⟩,⟨(Go.V.Ex.exit 2),⟨[.cO U.str, .int .i64, .any],[]⟩,fun x=> .inr ((x.1.1,x.1.2.1))⟩]
noncomputable def AX :Go.V.fJ Go.V.K:=Go.V.gU Go.V.D false 39 0 [0,3,4] [0,3,2] ⟨[.cO U.str, .int .i64, .int .i64],[]⟩ (fun x=>M.iI x.1.1 x.1.2.1 Go.V.aG x.1.2.2.1) yS
noncomputable def AY (y:(Bool)⊕(Unit)) {R:Type} (k:Go.V.Ex->List (Go.V.AV Go.V.K)->List (Go.V.Ob Go.V.K)->R):R:=match y with
 | .inl a0=>k Go.V.Ex.ret (Go.V.eQ.fA Go.V.D ⟨[.bool],[]⟩ ((a0,()),())) (Go.V.eQ.eP Go.V.D ⟨[.bool],[]⟩ ((a0,()),()))
 | .inr (a1)=>k (Go.V.Ex.exit 0) (Go.V.eQ.fA Go.V.D ⟨[.any],[]⟩ (((),()),())) (Go.V.eQ.eP Go.V.D ⟨[.any],[]⟩ (((),()),()))
noncomputable def Oc :List (Go.V.gB Go.V.K ((Bool)⊕(Unit))):=[⟨Go.V.Ex.ret,⟨[.bool],[]⟩,fun x=> .inl x.1.1⟩,⟨(Go.V.Ex.exit 0),⟨[.any],[]⟩,fun x=> .inr (())⟩]
noncomputable def Ey :Go.V.fJ Go.V.K:=Go.V.gU Go.V.D false 39 0 [0,3] [2] ⟨[.cO U.str, .int .i64],[]⟩ (fun x=>M.jd Go.V.aG x.1.1 x.1.2.1) AY
noncomputable def zC (m:(List (List UInt8))->Option (Bool)):Go.V.df Go.V.K:={f:=140,sh:=⟨[.cO U.str],[]⟩,R:=Bool,run:=fun x=>m x.1.1,dflt:=default,out:=fun r=>(Go.V.Sh.enc Go.V.D (.bool) r,Go.V.dY.encs Go.V.D [] ())}
noncomputable def oO :Go.V.Cx Go.V.K:={P:=Tryz.prog,D:=Go.V.D,ty:=aT,jo:=aC,mode:=Go.V.bD .plain [(139, .plain)],call:=Go.V.callOf Go.V.D [yz M.uO],loop:=Go.V.bC [(9,AX),(4,Ey)]}
theorem xE : Go.V.aI (oO):=Go.V.ax Go.V.aH _ (Go.V.aB Oa (Go.V.bM))
theorem I8 : Go.V.dQ (oO) (Go.V.dX (Go.V.dX (Go.V.ed Tryz.f140) 0) 0) (AX):=
 Go.V.dE (cx:=oO) (n:=39) (n0:=0) (ins:=[0,3,4]) (outs:=[0,3,2]) (sh:=⟨[.cO U.str, .int .i64, .int .i64],[]⟩) (run:=fun n x=>M.iI x.1.1 x.1.2.1 n x.1.2.2.1) (fZ:=KH) (out:=yS) Go.V.aH (xE) ai (Go.V.ay (by kernel_rfl)) (fun _=>rfl) (fun m x=>by kernel_rfl) (Go.V.aB ⟨Go.V.jq,fun _ _ _=>rfl⟩ (Go.V.aB ⟨Go.V.dF,fun _ _ _=>rfl⟩ (Go.V.bM))) false Go.V.aG
theorem MP : Go.V.dQ (oO) (Go.V.dX (Go.V.ed Tryz.f140) 0) (Ey):=
 Go.V.dE (cx:=oO) (n:=39) (n0:=0) (ins:=[0,3]) (outs:=[2]) (sh:=⟨[.cO U.str, .int .i64],[]⟩) (run:=fun n x=>M.jd n x.1.1 x.1.2.1) (fZ:=Oc) (out:=AY) Go.V.aH (xE) ai (Go.V.bK 1 (by kernel_rfl) (Go.V.eF (.mk (by kernel_rfl) (I8)))) (fun _=>rfl) (fun m x=>by kernel_rfl) (Go.V.aB ⟨Go.V.jq,fun _ _ _=>rfl⟩ (Go.V.aB ⟨Go.V.dF,fun _ _ _=>rfl⟩ (Go.V.bM))) false Go.V.aG
theorem UH : (zC (M.uP)).Ok Go.V.D Tryz.prog:=
 Go.V.bG (cx:=oO) (c:=zC (M.uP)) (fz:=true) (fn:=Tryz.f140) Go.V.aH (xE) ai ⟨Tryz.func140,by kernel_rfl⟩ (Go.V.bH (Go.V.bK 1 (by kernel_rfl) (Go.V.eF (.mk (by kernel_rfl) (MP))))) ⟨⟨[.bool],[]⟩,fun x=>x.1.1⟩ (fun x=>rfl) (fun x=>by kernel_rfl)
noncomputable def CW (y:(Bool)⊕(Unit)) {R:Type} (k:Go.V.Ex->List (Go.V.AV Go.V.K)->List (Go.V.Ob Go.V.K)->R):R:=match y with
 | .inl a0=>k Go.V.Ex.ret (Go.V.eQ.fA Go.V.D ⟨[.bool],[.dead]⟩ ((a0,()),((),()))) (Go.V.eQ.eP Go.V.D ⟨[.bool],[.dead]⟩ ((a0,()),((),())))
 | .inr (a1)=>k (Go.V.Ex.exit 0) (Go.V.eQ.fA Go.V.D ⟨[.any],[.dead]⟩ (((),()),((),()))) (Go.V.eQ.eP Go.V.D ⟨[.any],[.dead]⟩ (((),()),((),())))
noncomputable def P8 :List (Go.V.gB Go.V.K ((Bool)⊕(Unit))):=[⟨Go.V.Ex.ret,⟨[.bool],[.dead]⟩,fun x=> .inl x.1.1⟩,⟨(Go.V.Ex.exit 0),⟨[.any],[.dead]⟩,fun x=> .inr (())⟩]
noncomputable def G8 :Go.V.fJ Go.V.K:=Go.V.gU Go.V.D false 18 1 [1,3] [2] ⟨[.ptr 0 0, .int .i64],[.el U.Type]⟩ (fun x=>M.iV Go.V.aG x.1.2.1 x.2.1) CW
noncomputable def AZ (m:M.ae->Option (Bool)):Go.V.df Go.V.K:={f:=141,sh:=⟨[.el U.Type],[]⟩,R:=Bool,run:=fun x=>m x.1.1,dflt:=default,out:=fun r=>(Go.V.Sh.enc Go.V.D (.bool) r,Go.V.dY.encs Go.V.D [] ())}
noncomputable def yA :Go.V.Cx Go.V.K:={P:=Tryz.prog,D:=Go.V.D,ty:=aT,jo:=aC,mode:=Go.V.bD .plain [],call:=Go.V.callOf Go.V.D [],loop:=Go.V.bC [(2,G8)]}
theorem G9 : Go.V.aI (yA):=Go.V.ax Go.V.aH _ (Go.V.bM)
theorem Oe : Go.V.dQ (yA) (Go.V.dX (Go.V.ed Tryz.f141) 0) (G8):=
 Go.V.dE (cx:=yA) (n:=18) (n0:=1) (ins:=[1,3]) (outs:=[2]) (sh:=⟨[.ptr 0 0, .int .i64],[.el U.Type]⟩) (run:=fun n x=>M.iV n x.1.2.1 x.2.1) (fZ:=P8) (out:=CW) Go.V.aH (G9) ai (Go.V.ay (by kernel_rfl)) (fun _=>rfl) (fun m x=>by kernel_rfl) (Go.V.aB ⟨Go.V.jq,fun _ _ _=>rfl⟩ (Go.V.aB ⟨Go.V.dF,fun _ _ _=>rfl⟩ (Go.V.bM))) false Go.V.aG
theorem Xe : (AZ (M.qU)).Ok Go.V.D Tryz.prog:=
 Go.V.bG (cx:=yA) (c:=AZ (M.qU)) (fz:=true) (fn:=Tryz.f141) Go.V.aH (G9) ai ⟨Tryz.func141,by kernel_rfl⟩ (Go.V.bH (Go.V.bK 1 (by kernel_rfl) (Go.V.eF (.mk (by kernel_rfl) (Oe))))) ⟨⟨[.bool],[]⟩,fun x=>x.1.1⟩ (fun x=>rfl) (fun x=>by kernel_rfl)
noncomputable def jF (m:M.ae->Int->Int->Option (Bool)):Go.V.df Go.V.K:={f:=96,sh:=⟨[.el U.Type, .int .i64, .int .i64],[]⟩,R:=Bool,run:=fun x=>m x.1.1 x.1.2.1 x.1.2.2.1,dflt:=default,out:=fun r=>(Go.V.Sh.enc Go.V.D (.bool) r,Go.V.dY.encs Go.V.D [] ())}
noncomputable def Ha (y:(Bool)⊕(Unit)) {R:Type} (k:Go.V.Ex->List (Go.V.AV Go.V.K)->List (Go.V.Ob Go.V.K)->R):R:=match y with
 | .inl a0=>k Go.V.Ex.ret (Go.V.eQ.fA Go.V.D ⟨[.bool],[.dead]⟩ ((a0,()),((),()))) (Go.V.eQ.eP Go.V.D ⟨[.bool],[.dead]⟩ ((a0,()),((),())))
 | .inr (a1)=>k (Go.V.Ex.exit 0) (Go.V.eQ.fA Go.V.D ⟨[.any],[.dead]⟩ (((),()),((),()))) (Go.V.eQ.eP Go.V.D ⟨[.any],[.dead]⟩ (((),()),((),())))
noncomputable def UI :List (Go.V.gB Go.V.K ((Bool)⊕(Unit))):=[⟨Go.V.Ex.ret,⟨[.bool],[.dead]⟩,fun x=> .inl x.1.1⟩,⟨(Go.V.Ex.exit 0),⟨[.any],[.dead]⟩,fun x=> .inr (())⟩]
noncomputable def Ld (bP:M.ae->Int->Int->Option (Bool)):Go.V.fJ Go.V.K:=Go.V.gU Go.V.D false 28 1 [1,2,3,7] [6] ⟨[.int .i64, .int .i64, .ptr 0 0, .int .i64],[.el U.Type]⟩ (fun x=>M.kU bP x.1.1 x.1.2.1 Go.V.aG x.1.2.2.2.1 x.2.1) Ha
noncomputable def CX (bP:M.ae->Int->Int->Option (Bool)):Go.V.Cx Go.V.K:={P:=Tryz.prog,D:=Go.V.D,ty:=aT,jo:=aC,mode:=Go.V.bD .plain [(56, .plain),(96, .plain)],call:=Go.V.callOf Go.V.D [qR M.FQ,jF bP],loop:=Go.V.bC [(4,Ld bP)]}
theorem Le (bP:M.ae->Int->Int->Option (Bool)) (qx:(jF bP).Ok Go.V.D Tryz.prog):Go.V.aI (CX bP):=Go.V.ax Go.V.aH _ (Go.V.aB AU (Go.V.aB qx (Go.V.bM)))
theorem Td (bP:M.ae->Int->Int->Option (Bool)) (qx:(jF bP).Ok Go.V.D Tryz.prog):Go.V.dQ (CX bP) (Go.V.dX (Go.V.ed Tryz.f96) 0) (Ld bP):=
 Go.V.dE (cx:=CX bP) (n:=28) (n0:=1) (ins:=[1,2,3,7]) (outs:=[6]) (sh:=⟨[.int .i64, .int .i64, .ptr 0 0, .int .i64],[.el U.Type]⟩) (run:=fun n x=>M.kU bP x.1.1 x.1.2.1 n x.1.2.2.2.1 x.2.1) (fZ:=UI) (out:=Ha) Go.V.aH (Le bP qx) ai (Go.V.ay (by kernel_rfl)) (fun _=>rfl) (fun m x=>by kernel_rfl) (Go.V.aB ⟨Go.V.jq,fun _ _ _=>rfl⟩ (Go.V.aB ⟨Go.V.dF,fun _ _ _=>rfl⟩ (Go.V.bM))) false Go.V.aG
theorem Xf (bP:M.ae->Int->Int->Option (Bool)) (qx:(jF bP).Ok Go.V.D Tryz.prog):(jF (M.A7 bP)).Ok Go.V.D Tryz.prog:=
 Go.V.bG (cx:=CX bP) (c:=jF (M.A7 bP)) (fz:=true) (fn:=Tryz.f96) Go.V.aH (Le bP qx) ai ⟨Tryz.func96,by kernel_rfl⟩ (Go.V.bH (Go.V.bK 1 (by kernel_rfl) (Go.V.eF (.mk (by kernel_rfl) (Td bP qx))))) ⟨⟨[.bool],[]⟩,fun x=>x.1.1⟩ (fun x=>rfl) (fun x=>by kernel_rfl)
theorem Lh : ∀n,(jF (M.lQ n)).Ok Go.V.D Tryz.prog
 |0=>Go.V.ja fun _=>rfl
 |n+1=>Xf (M.lQ n) (Lh n)
theorem Q4 : (jF (M.sS)).Ok Go.V.D Tryz.prog:=Lh Go.V.aG
noncomputable def A8 (m:M.ae->Option (Bool)):Go.V.df Go.V.K:={f:=129,sh:=⟨[.el U.Type],[]⟩,R:=Bool,run:=fun x=>m x.1.1,dflt:=default,out:=fun r=>(Go.V.Sh.enc Go.V.D (.bool) r,Go.V.dY.encs Go.V.D [] ())}
noncomputable def Lj :Go.V.Cx Go.V.K:={P:=Tryz.prog,D:=Go.V.D,ty:=aT,jo:=aC,mode:=Go.V.bD .plain [(56, .plain),(139, .plain),(140, .plain),(141, .plain),(96, .plain)],call:=Go.V.callOf Go.V.D [qR M.FQ,yz M.uO,zC M.uP,AZ M.qU,jF M.sS],loop:=Go.V.bC []}
theorem Tf : Go.V.aI (Lj):=Go.V.ax Go.V.aH _ (Go.V.aB AU (Go.V.aB Oa (Go.V.aB UH (Go.V.aB Xe (Go.V.aB Q4 (Go.V.bM))))))
theorem Xg : (A8 (M.xG)).Ok Go.V.D Tryz.prog:=
 Go.V.bG (cx:=Lj) (c:=A8 (M.xG)) (fz:=true) (fn:=Tryz.f129) Go.V.aH (Tf) ai ⟨Tryz.func129,by kernel_rfl⟩ (Go.V.bH (Go.V.ay (by kernel_rfl))) ⟨⟨[.bool],[]⟩,fun x=>x.1.1⟩ (fun x=>rfl) (fun x=>by kernel_rfl)
noncomputable def je (m:M.ae->Option (Bool)):Go.V.df Go.V.K:={f:=113,sh:=⟨[.el U.Type],[]⟩,R:=Bool,run:=fun x=>m x.1.1,dflt:=default,out:=fun r=>(Go.V.Sh.enc Go.V.D (.bool) r,Go.V.dY.encs Go.V.D [] ())}
noncomputable def CY (y:(Bool)⊕(Unit)) {R:Type} (k:Go.V.Ex->List (Go.V.AV Go.V.K)->List (Go.V.Ob Go.V.K)->R):R:=match y with
 | .inl a0=>k Go.V.Ex.ret (Go.V.eQ.fA Go.V.D ⟨[.bool],[.dead]⟩ ((a0,()),((),()))) (Go.V.eQ.eP Go.V.D ⟨[.bool],[.dead]⟩ ((a0,()),((),())))
 | .inr (a1)=>k (Go.V.Ex.exit 0) (Go.V.eQ.fA Go.V.D ⟨[.any],[.dead]⟩ (((),()),((),()))) (Go.V.eQ.eP Go.V.D ⟨[.any],[.dead]⟩ (((),()),((),())))
noncomputable def P9 :List (Go.V.gB Go.V.K ((Bool)⊕(Unit))):=[⟨Go.V.Ex.ret,⟨[.bool],[.dead]⟩,fun x=> .inl x.1.1⟩,⟨(Go.V.Ex.exit 0),⟨[.any],[.dead]⟩,fun x=> .inr (())⟩]
noncomputable def He (bz:M.ae->Option (Bool)):Go.V.fJ Go.V.K:=Go.V.gU Go.V.D false 21 1 [1,3] [2] ⟨[.ptr 0 0, .int .i64],[.el U.Type]⟩ (fun x=>M.iW bz Go.V.aG x.1.2.1 x.2.1) CY
noncomputable def yB (bz:M.ae->Option (Bool)):Go.V.Cx Go.V.K:={P:=Tryz.prog,D:=Go.V.D,ty:=aT,jo:=aC,mode:=Go.V.bD .plain [(129, .plain),(113, .plain)],call:=Go.V.callOf Go.V.D [A8 M.xG,je bz],loop:=Go.V.bC [(4,He bz)]}
theorem Hg (bz:M.ae->Option (Bool)) (ng:(je bz).Ok Go.V.D Tryz.prog):Go.V.aI (yB bz):=Go.V.ax Go.V.aH _ (Go.V.aB Xg (Go.V.aB ng (Go.V.bM)))
theorem Og (bz:M.ae->Option (Bool)) (ng:(je bz).Ok Go.V.D Tryz.prog):Go.V.dQ (yB bz) (Go.V.dX (Go.V.ed Tryz.f113) 0) (He bz):=
 Go.V.dE (cx:=yB bz) (n:=21) (n0:=1) (ins:=[1,3]) (outs:=[2]) (sh:=⟨[.ptr 0 0, .int .i64],[.el U.Type]⟩) (run:=fun n x=>M.iW bz n x.1.2.1 x.2.1) (fZ:=P9) (out:=CY) Go.V.aH (Hg bz ng) ai (Go.V.ay (by kernel_rfl)) (fun _=>rfl) (fun m x=>by kernel_rfl) (Go.V.aB ⟨Go.V.jq,fun _ _ _=>rfl⟩ (Go.V.aB ⟨Go.V.dF,fun _ _ _=>rfl⟩ (Go.V.bM))) false Go.V.aG
theorem Ti (bz:M.ae->Option (Bool)) (ng:(je bz).Ok Go.V.D Tryz.prog):(je (M.vX bz)).Ok Go.V.D Tryz.prog:=
 Go.V.bG (cx:=yB bz) (c:=je (M.vX bz)) (fz:=true) (fn:=Tryz.f113) Go.V.aH (Hg bz ng) ai ⟨Tryz.func113,by kernel_rfl⟩ (Go.V.bH (Go.V.bK 1 (by kernel_rfl) (Go.V.eF (.mk (by kernel_rfl) (Og bz ng))))) ⟨⟨[.bool],[]⟩,fun x=>x.1.1⟩ (fun x=>rfl) (fun x=>by kernel_rfl)
theorem Hl : ∀n,(je (M.jG n)).Ok Go.V.D Tryz.prog
 |0=>Go.V.ja fun _=>rfl
 |n+1=>Ti (M.jG n) (Hl n)
theorem Xh : (je (M.FT)).Ok Go.V.D Tryz.prog:=Hl Go.V.aG
noncomputable def pX (m:M.ae->Int->Option (Int)):Go.V.df Go.V.K:={f:=120,sh:=⟨[.el U.Type, .int .i64],[]⟩,R:=Int,run:=fun x=>m x.1.1 x.1.2.1,dflt:=default,out:=fun r=>(Go.V.Sh.enc Go.V.D (.int .i64) r,Go.V.dY.encs Go.V.D [] ())}
noncomputable def Ll (y:Int) {R:Type} (k:Go.V.Ex->List (Go.V.AV Go.V.K)->List (Go.V.Ob Go.V.K)->R):R:=match y with
 |a0=>k (Go.V.Ex.exit 0) (Go.V.eQ.fA Go.V.D ⟨[.int .i64],[]⟩ ((a0,()),())) (Go.V.eQ.eP Go.V.D ⟨[.int .i64],[]⟩ ((a0,()),()))
noncomputable def YU :List (Go.V.gB Go.V.K (Int)):=[⟨(Go.V.Ex.exit 0),⟨[.int .i64],[]⟩,fun x=>x.1.1⟩]
noncomputable def Q5 (dD:M.ae->Int->Option (Int)):Go.V.fJ Go.V.K:=Go.V.gU Go.V.D false 26 0 [1,5,11,12,13] [5] ⟨[.int .i64, .int .i64, .cO U.Type, .int .i64, .int .i64],[]⟩ (fun x=>M.uQ dD x.1.1 x.1.2.2.1 x.1.2.2.2.1 Go.V.aG x.1.2.1 x.1.2.2.2.2.1) Ll
noncomputable def J6 (dD:M.ae->Int->Option (Int)):Go.V.Cx Go.V.K:={P:=Tryz.prog,D:=Go.V.D,ty:=aT,jo:=aC,mode:=Go.V.bD .plain [(120, .plain)],call:=Go.V.callOf Go.V.D [pX dD],loop:=Go.V.bC [(5,Q5 dD)]}
theorem Q7 (dD:M.ae->Int->Option (Int)) (uS:(pX dD).Ok Go.V.D Tryz.prog):Go.V.aI (J6 dD):=Go.V.ax Go.V.aH _ (Go.V.aB uS (Go.V.bM))
theorem Xi (dD:M.ae->Int->Option (Int)) (uS:(pX dD).Ok Go.V.D Tryz.prog):Go.V.dQ (J6 dD) (Go.V.dX (Go.V.ed Tryz.f120) 0) (Q5 dD):=
 Go.V.dE (cx:=J6 dD) (n:=26) (n0:=0) (ins:=[1,5,11,12,13]) (outs:=[5]) (sh:=⟨[.int .i64, .int .i64, .cO U.Type, .int .i64, .int .i64],[]⟩) (run:=fun n x=>M.uQ dD x.1.1 x.1.2.2.1 x.1.2.2.2.1 n x.1.2.1 x.1.2.2.2.2.1) (fZ:=YU) (out:=Ll) Go.V.aH (Q7 dD uS) ai (Go.V.ay (by kernel_rfl)) (fun _=>rfl) (fun m x=>by kernel_rfl) (Go.V.aB ⟨Go.V.dF,fun _ _ _=>rfl⟩ (Go.V.bM)) false Go.V.aG
theorem aac (dD:M.ae->Int->Option (Int)) (uS:(pX dD).Ok Go.V.D Tryz.prog):(pX (M.I9 dD)).Ok Go.V.D Tryz.prog:=
 Go.V.bG (cx:=J6 dD) (c:=pX (M.I9 dD)) (fz:=true) (fn:=Tryz.f120) Go.V.aH (Q7 dD uS) ai ⟨Tryz.func120,by kernel_rfl⟩ (Go.V.bH (Go.V.bK 1 (by kernel_rfl) (Go.V.eF (.mk (by kernel_rfl) (Xi dD uS))))) ⟨⟨[.int .i64],[]⟩,fun x=>x.1.1⟩ (fun x=>rfl) (fun x=>by kernel_rfl)
theorem Q8 : ∀n,(pX (M.yT n)).Ok Go.V.D Tryz.prog
 |0=>Go.V.ja fun _=>rfl
 |n+1=>aac (M.yT n) (Q8 n)
theorem adR : (pX (M.YV)).Ok Go.V.D Tryz.prog:=Q8 Go.V.aG
noncomputable def nD (m:M.ae->Option (Int)):Go.V.df Go.V.K:={f:=121,sh:=⟨[.el U.Type],[]⟩,R:=Int,run:=fun x=>m x.1.1,dflt:=default,out:=fun r=>(Go.V.Sh.enc Go.V.D (.int .i64) r,Go.V.dY.encs Go.V.D [] ())}
noncomputable def Ja (y:Int) {R:Type} (k:Go.V.Ex->List (Go.V.AV Go.V.K)->List (Go.V.Ob Go.V.K)->R):R:=match y with
 |a0=>k (Go.V.Ex.exit 0) (Go.V.eQ.fA Go.V.D ⟨[.int .i64],[]⟩ ((a0,()),())) (Go.V.eQ.eP Go.V.D ⟨[.int .i64],[]⟩ ((a0,()),()))
noncomputable def Xj :List (Go.V.gB Go.V.K (Int)):=[⟨(Go.V.Ex.exit 0),⟨[.int .i64],[]⟩,fun x=>x.1.1⟩]
noncomputable def Oh (dh:M.ae->Option (Int)):Go.V.fJ Go.V.K:=Go.V.gU Go.V.D false 19 0 [3,7,8,9] [3] ⟨[.int .i64, .cO U.Type, .int .i64, .int .i64],[]⟩ (fun x=>M.qV dh x.1.2.1 x.1.2.2.1 Go.V.aG x.1.1 x.1.2.2.2.1) Ja
noncomputable def FU (dh:M.ae->Option (Int)):Go.V.Cx Go.V.K:={P:=Tryz.prog,D:=Go.V.D,ty:=aT,jo:=aC,mode:=Go.V.bD .plain [(121, .plain)],call:=Go.V.callOf Go.V.D [nD dh],loop:=Go.V.bC [(3,Oh dh)]}
theorem Oi (dh:M.ae->Option (Int)) (rP:(nD dh).Ok Go.V.D Tryz.prog):Go.V.aI (FU dh):=Go.V.ax Go.V.aH _ (Go.V.aB rP (Go.V.bM))
theorem UJ (dh:M.ae->Option (Int)) (rP:(nD dh).Ok Go.V.D Tryz.prog):Go.V.dQ (FU dh) (Go.V.dX (Go.V.ed Tryz.f121) 0) (Oh dh):=
 Go.V.dE (cx:=FU dh) (n:=19) (n0:=0) (ins:=[3,7,8,9]) (outs:=[3]) (sh:=⟨[.int .i64, .cO U.Type, .int .i64, .int .i64],[]⟩) (run:=fun n x=>M.qV dh x.1.2.1 x.1.2.2.1 n x.1.1 x.1.2.2.2.1) (fZ:=Xj) (out:=Ja) Go.V.aH (Oi dh rP) ai (Go.V.ay (by kernel_rfl)) (fun _=>rfl) (fun m x=>by kernel_rfl) (Go.V.aB ⟨Go.V.dF,fun _ _ _=>rfl⟩ (Go.V.bM)) false Go.V.aG
theorem YW (dh:M.ae->Option (Int)) (rP:(nD dh).Ok Go.V.D Tryz.prog):(nD (M.Ez dh)).Ok Go.V.D Tryz.prog:=
 Go.V.bG (cx:=FU dh) (c:=nD (M.Ez dh)) (fz:=true) (fn:=Tryz.f121) Go.V.aH (Oi dh rP) ai ⟨Tryz.func121,by kernel_rfl⟩ (Go.V.bH (Go.V.bK 1 (by kernel_rfl) (Go.V.eF (.mk (by kernel_rfl) (UJ dh rP))))) ⟨⟨[.int .i64],[]⟩,fun x=>x.1.1⟩ (fun x=>rfl) (fun x=>by kernel_rfl)
theorem Oj : ∀n,(nD (M.uT n)).Ok Go.V.D Tryz.prog
 |0=>Go.V.ja fun _=>rfl
 |n+1=>YW (M.uT n) (Oj n)
theorem abT : (nD (M.Uk)).Ok Go.V.D Tryz.prog:=Oj Go.V.aG
noncomputable def eG (m:M.ae->Option (Bool)):Go.V.df Go.V.K:={f:=122,sh:=⟨[.el U.Type],[]⟩,R:=Bool,run:=fun x=>m x.1.1,dflt:=default,out:=fun r=>(Go.V.Sh.enc Go.V.D (.bool) r,Go.V.dY.encs Go.V.D [] ())}
noncomputable def xH (m:M.ae->Option (Bool)):Go.V.df Go.V.K:={f:=131,sh:=⟨[.el U.Type],[]⟩,R:=Bool,run:=fun x=>m x.1.1,dflt:=default,out:=fun r=>(Go.V.Sh.enc Go.V.D (.bool) r,Go.V.dY.encs Go.V.D [] ())}
noncomputable def Hm (az:M.ae->Option (Bool)):Go.V.Cx Go.V.K:={P:=Tryz.prog,D:=Go.V.D,ty:=aT,jo:=aC,mode:=Go.V.bD .plain [(122, .plain)],call:=Go.V.callOf Go.V.D [eG az],loop:=Go.V.bC []}
theorem Ol (az:M.ae->Option (Bool)) (dB:(eG az).Ok Go.V.D Tryz.prog):Go.V.aI (Hm az):=Go.V.ax Go.V.aH _ (Go.V.aB dB (Go.V.bM))
theorem Tj (az:M.ae->Option (Bool)) (dB:(eG az).Ok Go.V.D Tryz.prog):(xH (M.rQ az)).Ok Go.V.D Tryz.prog:=
 Go.V.bG (cx:=Hm az) (c:=xH (M.rQ az)) (fz:=true) (fn:=Tryz.f131) Go.V.aH (Ol az dB) ai ⟨Tryz.func131,by kernel_rfl⟩ (Go.V.bH (Go.V.ay (by kernel_rfl))) ⟨⟨[.bool],[]⟩,fun x=>x.1.1⟩ (fun x=>rfl) (fun x=>by kernel_rfl)
noncomputable def mM (y:(Int)⊕(Unit)) {R:Type} (k:Go.V.Ex->List (Go.V.AV Go.V.K)->List (Go.V.Ob Go.V.K)->R):R:=match y with
 | .inl a0=>k Go.V.Ex.ret (Go.V.eQ.fA Go.V.D ⟨[.int .i64],[]⟩ ((a0,()),())) (Go.V.eQ.eP Go.V.D ⟨[.int .i64],[]⟩ ((a0,()),()))
 | .inr (a1)=>k (Go.V.Ex.exit 0) (Go.V.eQ.fA Go.V.D ⟨[.any],[]⟩ (((),()),())) (Go.V.eQ.eP Go.V.D ⟨[.any],[]⟩ (((),()),()))
noncomputable def vY :List (Go.V.gB Go.V.K ((Int)⊕(Unit))):=[⟨Go.V.Ex.ret,⟨[.int .i64],[]⟩,fun x=> .inl x.1.1⟩,⟨(Go.V.Ex.exit 0),⟨[.any],[]⟩,fun x=> .inr (())⟩]
noncomputable def oI (az:M.ae->Option (Bool)):Go.V.fJ Go.V.K:=Go.V.gU Go.V.D false 19 0 [0,1,7,8] [4] ⟨[.cO U.Type, .fn 131 [], .int .i64, .int .i64],[]⟩ (fun x=>M.dJ az x.1.1 x.1.2.2.1 Go.V.aG x.1.2.2.2.1) mM
noncomputable def jy (m:(List M.ae)->Option (Int)):Go.V.df Go.V.K:={f:=136,sh:=⟨[.cO U.Type, .fn 131 []],[]⟩,R:=Int,run:=fun x=>m x.1.1,dflt:=default,out:=fun r=>(Go.V.Sh.enc Go.V.D (.int .i64) r,Go.V.dY.encs Go.V.D [] ())}
noncomputable def gV (az:M.ae->Option (Bool)):Go.V.Cx Go.V.K:={P:=Tryz.prog,D:=Go.V.D,ty:=aT,jo:=aC,mode:=Go.V.bD .plain [(131, .plain)],call:=Go.V.callOf Go.V.D [xH (M.rQ az)],loop:=Go.V.bC [(2,oI az)]}
theorem oJ (az:M.ae->Option (Bool)) (dB:(eG az).Ok Go.V.D Tryz.prog):Go.V.aI (gV az):=Go.V.ax Go.V.aH _ (Go.V.aB (Tj az dB) (Go.V.bM))
theorem vM (az:M.ae->Option (Bool)) (dB:(eG az).Ok Go.V.D Tryz.prog):Go.V.dQ (gV az) (Go.V.dX (Go.V.ed Tryz.f136) 0) (oI az):=
 Go.V.dE (cx:=gV az) (n:=19) (n0:=0) (ins:=[0,1,7,8]) (outs:=[4]) (sh:=⟨[.cO U.Type, .fn 131 [], .int .i64, .int .i64],[]⟩) (run:=fun n x=>M.dJ az x.1.1 x.1.2.2.1 n x.1.2.2.2.1) (fZ:=vY) (out:=mM) Go.V.aH (oJ az dB) ai (Go.V.ay (by kernel_rfl)) (fun _=>rfl) (fun m x=>by kernel_rfl) (Go.V.aB ⟨Go.V.jq,fun _ _ _=>rfl⟩ (Go.V.aB ⟨Go.V.dF,fun _ _ _=>rfl⟩ (Go.V.bM))) false Go.V.aG
theorem yU (az:M.ae->Option (Bool)) (dB:(eG az).Ok Go.V.D Tryz.prog):(jy (M.gm az)).Ok Go.V.D Tryz.prog:=
 Go.V.bG (cx:=gV az) (c:=jy (M.gm az)) (fz:=true) (fn:=Tryz.f136) Go.V.aH (oJ az dB) ai ⟨Tryz.func136,by kernel_rfl⟩ (Go.V.bH (Go.V.bK 1 (by kernel_rfl) (Go.V.eF (.mk (by kernel_rfl) (vM az dB))))) ⟨⟨[.int .i64],[]⟩,fun x=>x.1.1⟩ (fun x=>rfl) (fun x=>by kernel_rfl)
noncomputable def iM (m:(List M.ae)->Option (Bool)):Go.V.df Go.V.K:={f:=124,sh:=⟨[.cO U.Type, .fn 131 []],[]⟩,R:=Bool,run:=fun x=>m x.1.1,dflt:=default,out:=fun r=>(Go.V.Sh.enc Go.V.D (.bool) r,Go.V.dY.encs Go.V.D [] ())}
noncomputable def nG (az:M.ae->Option (Bool)):Go.V.Cx Go.V.K:={P:=Tryz.prog,D:=Go.V.D,ty:=aT,jo:=aC,mode:=Go.V.bD .plain [(136, .plain)],call:=Go.V.callOf Go.V.D [jy (M.gm az)],loop:=Go.V.bC []}
theorem ui (az:M.ae->Option (Bool)) (dB:(eG az).Ok Go.V.D Tryz.prog):Go.V.aI (nG az):=Go.V.ax Go.V.aH _ (Go.V.aB (yU az dB) (Go.V.bM))
theorem vZ (az:M.ae->Option (Bool)) (dB:(eG az).Ok Go.V.D Tryz.prog):(iM (M.dK az)).Ok Go.V.D Tryz.prog:=
 Go.V.bG (cx:=nG az) (c:=iM (M.dK az)) (fz:=true) (fn:=Tryz.f124) Go.V.aH (ui az dB) ai ⟨Tryz.func124,by kernel_rfl⟩ (Go.V.bH (Go.V.ay (by kernel_rfl))) ⟨⟨[.bool],[]⟩,fun x=>x.1.1⟩ (fun x=>rfl) (fun x=>by kernel_rfl)
noncomputable def nH (m:Int->Int->Int->Option (Bool)):Go.V.df Go.V.K:={f:=62,sh:=⟨[.int .i64, .int .i64, .int .i64],[]⟩,R:=Bool,run:=fun x=>m x.1.1 x.1.2.1 x.1.2.2.1,dflt:=default,out:=fun r=>(Go.V.Sh.enc Go.V.D (.bool) r,Go.V.dY.encs Go.V.D [] ())}
noncomputable def Q9 :Go.V.Cx Go.V.K:={P:=Tryz.prog,D:=Go.V.D,ty:=aT,jo:=aC,mode:=Go.V.bD .plain [],call:=Go.V.callOf Go.V.D [],loop:=Go.V.bC []}
theorem Xk : Go.V.aI (Q9):=Go.V.ax Go.V.aH _ (Go.V.bM)
theorem uU : (nH (M.yV)).Ok Go.V.D Tryz.prog:=
 Go.V.bG (cx:=Q9) (c:=nH (M.yV)) (fz:=true) (fn:=Tryz.f62) Go.V.aH (Xk) ai ⟨Tryz.func62,by kernel_rfl⟩ (Go.V.bH (Go.V.ay (by kernel_rfl))) ⟨⟨[.bool],[]⟩,fun x=>x.1.1⟩ (fun x=>rfl) (fun x=>by kernel_rfl)
noncomputable def nI (m:(List (List UInt8))->Option (Int)):Go.V.df Go.V.K:={f:=105,sh:=⟨[.cO U.str],[]⟩,R:=Int,run:=fun x=>m x.1.1,dflt:=default,out:=fun r=>(Go.V.Sh.enc Go.V.D (.int .i64) r,Go.V.dY.encs Go.V.D [] ())}
noncomputable def EC :Go.V.Cx Go.V.K:={P:=Tryz.prog,D:=Go.V.D,ty:=aT,jo:=aC,mode:=Go.V.bD .plain [],call:=Go.V.callOf Go.V.D [],loop:=Go.V.bC []}
theorem MQ : Go.V.aI (EC):=Go.V.ax Go.V.aH _ (Go.V.bM)
theorem xI : (nI (M.sU)).Ok Go.V.D Tryz.prog:=
 Go.V.bG (cx:=EC) (c:=nI (M.sU)) (fz:=true) (fn:=Tryz.f105) Go.V.aH (MQ) ai ⟨Tryz.func105,by kernel_rfl⟩ (Go.V.bH (Go.V.ay (by kernel_rfl))) ⟨⟨[.int .i64],[]⟩,fun x=>x.1.1⟩ (fun x=>rfl) (fun x=>by kernel_rfl)
noncomputable def Hq (y:(Bool)⊕((List UInt8))) {R:Type} (k:Go.V.Ex->List (Go.V.AV Go.V.K)->List (Go.V.Ob Go.V.K)->R):R:=match y with
 | .inl a0=>k Go.V.Ex.ret (Go.V.eQ.fA Go.V.D ⟨[.any, .bool],[]⟩ (((),(a0,())),())) (Go.V.eQ.eP Go.V.D ⟨[.any, .bool],[]⟩ (((),(a0,())),()))
 | .inr (a1)=>k (Go.V.Ex.exit 0) (Go.V.eQ.fA Go.V.D ⟨[.str, .any],[]⟩ ((a1,((),())),())) (Go.V.eQ.eP Go.V.D ⟨[.str, .any],[]⟩ ((a1,((),())),()))
noncomputable def UK :List (Go.V.gB Go.V.K ((Bool)⊕((List UInt8)))):=[⟨Go.V.Ex.ret,⟨[.any, .bool],[]⟩,fun x=> .inl x.1.2.1⟩,⟨(Go.V.Ex.exit 0),⟨[.str, .any],[]⟩,fun x=> .inr (x.1.1)⟩]
noncomputable def Lm :Go.V.fJ Go.V.K:=Go.V.gU Go.V.D false 75 0 [0,7,8] [0,2] ⟨[.str, .int .i64, .int .i64],[]⟩ (fun x=>M.pF x.1.1 x.1.2.1 Go.V.aG x.1.2.2.1) Hq
noncomputable def zX (m:(List UInt8)->Option (Bool)):Go.V.df Go.V.K:={f:=133,sh:=⟨[.str],[]⟩,R:=Bool,run:=fun x=>m x.1.1,dflt:=default,out:=fun r=>(Go.V.Sh.enc Go.V.D (.bool) r,Go.V.dY.encs Go.V.D [] ())}
noncomputable def CZ :Go.V.Cx Go.V.K:={P:=Tryz.prog,D:=Go.V.D,ty:=aT,jo:=aC,mode:=Go.V.bD .plain [],call:=Go.V.callOf Go.V.D [],loop:=Go.V.bC [(2,Lm)]}
theorem Lp : Go.V.aI (CZ):=Go.V.ax Go.V.aH _ (Go.V.bM)
theorem Tm : Go.V.dQ (CZ) (Go.V.dX (Go.V.ed Tryz.f133) 0) (Lm):=
 Go.V.dE (cx:=CZ) (n:=75) (n0:=0) (ins:=[0,7,8]) (outs:=[0,2]) (sh:=⟨[.str, .int .i64, .int .i64],[]⟩) (run:=fun n x=>M.pF x.1.1 x.1.2.1 n x.1.2.2.1) (fZ:=UK) (out:=Hq) Go.V.aH (Lp) ai (Go.V.ay (by kernel_rfl)) (fun _=>rfl) (fun m x=>by kernel_rfl) (Go.V.aB ⟨Go.V.jq,fun _ _ _=>rfl⟩ (Go.V.aB ⟨Go.V.dF,fun _ _ _=>rfl⟩ (Go.V.bM))) false Go.V.aG
theorem Rf : (zX (M.yX)).Ok Go.V.D Tryz.prog:=
 Go.V.bG (cx:=CZ) (c:=zX (M.yX)) (fz:=true) (fn:=Tryz.f133) Go.V.aH (Lp) ai ⟨Tryz.func133,by kernel_rfl⟩ (Go.V.bH (Go.V.bK 1 (by kernel_rfl) (Go.V.eF (.mk (by kernel_rfl) (Tm))))) ⟨⟨[.bool],[]⟩,fun x=>x.1.1⟩ (fun x=>rfl) (fun x=>by kernel_rfl)
noncomputable def wo (m:(List UInt8)->Option (Bool)):Go.V.df Go.V.K:={f:=145,sh:=⟨[.str],[]⟩,R:=Bool,run:=fun x=>m x.1.1,dflt:=default,out:=fun r=>(Go.V.Sh.enc Go.V.D (.bool) r,Go.V.dY.encs Go.V.D [] ())}
noncomputable def ED :Go.V.Cx Go.V.K:={P:=Tryz.prog,D:=Go.V.D,ty:=aT,jo:=aC,mode:=Go.V.bD .plain [(133, .plain)],call:=Go.V.callOf Go.V.D [zX M.yX],loop:=Go.V.bC []}
theorem MR : Go.V.aI (ED):=Go.V.ax Go.V.aH _ (Go.V.aB Rf (Go.V.bM))
theorem Qa : (wo (M.qy)).Ok Go.V.D Tryz.prog:=
 Go.V.bG (cx:=ED) (c:=wo (M.qy)) (fz:=true) (fn:=Tryz.f145) Go.V.aH (MR) ai ⟨Tryz.func145,by kernel_rfl⟩ (Go.V.bH (Go.V.ay (by kernel_rfl))) ⟨⟨[.bool],[]⟩,fun x=>x.1.1⟩ (fun x=>rfl) (fun x=>by kernel_rfl)
noncomputable def jU (y:(Int)⊕(Unit)) {R:Type} (k:Go.V.Ex->List (Go.V.AV Go.V.K)->List (Go.V.Ob Go.V.K)->R):R:=match y with
 | .inl a0=>k Go.V.Ex.ret (Go.V.eQ.fA Go.V.D ⟨[.int .i64],[]⟩ ((a0,()),())) (Go.V.eQ.eP Go.V.D ⟨[.int .i64],[]⟩ ((a0,()),()))
 | .inr (a1)=>k (Go.V.Ex.exit 0) (Go.V.eQ.fA Go.V.D ⟨[.any],[]⟩ (((),()),())) (Go.V.eQ.eP Go.V.D ⟨[.any],[]⟩ (((),()),()))
noncomputable def sG :List (Go.V.gB Go.V.K ((Int)⊕(Unit))):=[⟨Go.V.Ex.ret,⟨[.int .i64],[]⟩,fun x=> .inl x.1.1⟩,⟨(Go.V.Ex.exit 0),⟨[.any],[]⟩,fun x=> .inr (())⟩]
noncomputable def kV :Go.V.fJ Go.V.K:=Go.V.gU Go.V.D false 19 0 [0,1,7,8] [4] ⟨[.cO U.str, .fn 145 [], .int .i64, .int .i64],[]⟩ (fun x=>M.di x.1.1 x.1.2.2.1 Go.V.aG x.1.2.2.2.1) jU
noncomputable def iG (m:(List (List UInt8))->Option (Int)):Go.V.df Go.V.K:={f:=150,sh:=⟨[.cO U.str, .fn 145 []],[]⟩,R:=Int,run:=fun x=>m x.1.1,dflt:=default,out:=fun r=>(Go.V.Sh.enc Go.V.D (.int .i64) r,Go.V.dY.encs Go.V.D [] ())}
noncomputable def fG :Go.V.Cx Go.V.K:={P:=Tryz.prog,D:=Go.V.D,ty:=aT,jo:=aC,mode:=Go.V.bD .plain [(145, .plain)],call:=Go.V.callOf Go.V.D [wo M.qy],loop:=Go.V.bC [(2,kV)]}
theorem kW : Go.V.aI (fG):=Go.V.ax Go.V.aH _ (Go.V.aB Qa (Go.V.bM))
theorem rU : Go.V.dQ (fG) (Go.V.dX (Go.V.ed Tryz.f150) 0) (kV):=
 Go.V.dE (cx:=fG) (n:=19) (n0:=0) (ins:=[0,1,7,8]) (outs:=[4]) (sh:=⟨[.cO U.str, .fn 145 [], .int .i64, .int .i64],[]⟩) (run:=fun n x=>M.di x.1.1 x.1.2.2.1 n x.1.2.2.2.1) (fZ:=sG) (out:=jU) Go.V.aH (kW) ai (Go.V.ay (by kernel_rfl)) (fun _=>rfl) (fun m x=>by kernel_rfl) (Go.V.aB ⟨Go.V.jq,fun _ _ _=>rfl⟩ (Go.V.aB ⟨Go.V.dF,fun _ _ _=>rfl⟩ (Go.V.bM))) false Go.V.aG
theorem vN : (iG (M.eX)).Ok Go.V.D Tryz.prog:=
 Go.V.bG (cx:=fG) (c:=iG (M.eX)) (fz:=true) (fn:=Tryz.f150) Go.V.aH (kW) ai ⟨Tryz.func150,by kernel_rfl⟩ (Go.V.bH (Go.V.bK 1 (by kernel_rfl) (Go.V.eF (.mk (by kernel_rfl) (rU))))) ⟨⟨[.int .i64],[]⟩,fun x=>x.1.1⟩ (fun x=>rfl) (fun x=>by kernel_rfl)
noncomputable def gG (m:(List (List UInt8))->Option (Bool)):Go.V.df Go.V.K:={f:=144,sh:=⟨[.cO U.str, .fn 145 []],[]⟩,R:=Bool,run:=fun x=>m x.1.1,dflt:=default,out:=fun r=>(Go.V.Sh.enc Go.V.D (.bool) r,Go.V.dY.encs Go.V.D [] ())}
noncomputable def kG :Go.V.Cx Go.V.K:={P:=Tryz.prog,D:=Go.V.D,ty:=aT,jo:=aC,mode:=Go.V.bD .plain [(150, .plain)],call:=Go.V.callOf Go.V.D [iG M.eX],loop:=Go.V.bC []}
theorem qW : Go.V.aI (kG):=Go.V.ax Go.V.aH _ (Go.V.aB vN (Go.V.bM))
theorem sH : (gG (M.dI)).Ok Go.V.D Tryz.prog:=
 Go.V.bG (cx:=kG) (c:=gG (M.dI)) (fz:=true) (fn:=Tryz.f144) Go.V.aH (qW) ai ⟨Tryz.func144,by kernel_rfl⟩ (Go.V.bH (Go.V.ay (by kernel_rfl))) ⟨⟨[.bool],[]⟩,fun x=>x.1.1⟩ (fun x=>rfl) (fun x=>by kernel_rfl)
noncomputable def Ba (m:(List (List UInt8))->Option (Bool)):Go.V.df Go.V.K:={f:=132,sh:=⟨[.cO U.str],[]⟩,R:=Bool,run:=fun x=>m x.1.1,dflt:=default,out:=fun r=>(Go.V.Sh.enc Go.V.D (.bool) r,Go.V.dY.encs Go.V.D [] ())}
noncomputable def Lr :Go.V.Cx Go.V.K:={P:=Tryz.prog,D:=Go.V.D,ty:=aT,jo:=aC,mode:=Go.V.bD .plain [(105, .plain),(62, .plain),(143, .plain),(144, .plain)],call:=Go.V.callOf Go.V.D [nI M.sU,nH M.yV,Bc M.qX,gG M.dI],loop:=Go.V.bC []}
theorem Tn : Go.V.aI (Lr):=Go.V.ax Go.V.aH _ (Go.V.aB xI (Go.V.aB uU (Go.V.aB Xl (Go.V.aB sH (Go.V.bM)))))
theorem Xm : (Ba (M.xJ)).Ok Go.V.D Tryz.prog:=
 Go.V.bG (cx:=Lr) (c:=Ba (M.xJ)) (fz:=true) (fn:=Tryz.f132) Go.V.aH (Tn) ai ⟨Tryz.func132,by kernel_rfl⟩ (Go.V.bH (Go.V.ay (by kernel_rfl))) ⟨⟨[.bool],[]⟩,fun x=>x.1.1⟩ (fun x=>rfl) (fun x=>by kernel_rfl)
noncomputable def qo (m:(List M.ae)->Option (Int)):Go.V.df Go.V.K:={f:=128,sh:=⟨[.cO U.Type],[]⟩,R:=Int,run:=fun x=>m x.1.1,dflt:=default,out:=fun r=>(Go.V.Sh.enc Go.V.D (.int .i64) r,Go.V.dY.encs Go.V.D [] ())}
noncomputable def Jb :Go.V.Cx Go.V.K:={P:=Tryz.prog,D:=Go.V.D,ty:=aT,jo:=aC,mode:=Go.V.bD .plain [],call:=Go.V.callOf Go.V.D [],loop:=Go.V.bC []}
theorem Qb : Go.V.aI (Jb):=Go.V.ax Go.V.aH _ (Go.V.bM)
theorem Bd : (qo (M.yY)).Ok Go.V.D Tryz.prog:=
 Go.V.bG (cx:=Jb) (c:=qo (M.yY)) (fz:=true) (fn:=Tryz.f128) Go.V.aH (Qb) ai ⟨Tryz.func128,by kernel_rfl⟩ (Go.V.bH (Go.V.ay (by kernel_rfl))) ⟨⟨[.int .i64],[]⟩,fun x=>x.1.1⟩ (fun x=>rfl) (fun x=>by kernel_rfl)
noncomputable def wu (m:M.ae->Option (Bool)):Go.V.df Go.V.K:={f:=101,sh:=⟨[.el U.Type],[]⟩,R:=Bool,run:=fun x=>m x.1.1,dflt:=default,out:=fun r=>(Go.V.Sh.enc Go.V.D (.bool) r,Go.V.dY.encs Go.V.D [] ())}
noncomputable def Rh :Go.V.Cx Go.V.K:={P:=Tryz.prog,D:=Go.V.D,ty:=aT,jo:=aC,mode:=Go.V.bD .plain [],call:=Go.V.callOf Go.V.D [],loop:=Go.V.bC []}
theorem Xn : Go.V.aI (Rh):=Go.V.ax Go.V.aH _ (Go.V.bM)
theorem Jc : (wu (M.Jd)).Ok Go.V.D Tryz.prog:=
 Go.V.bG (cx:=Rh) (c:=wu (M.Jd)) (fz:=true) (fn:=Tryz.f101) Go.V.aH (Xn) ai ⟨Tryz.func101,by kernel_rfl⟩ (Go.V.bH (Go.V.ay (by kernel_rfl))) ⟨⟨[.bool],[]⟩,fun x=>x.1.1⟩ (fun x=>rfl) (fun x=>by kernel_rfl)
noncomputable def kX (y:(Int)⊕(Unit)) {R:Type} (k:Go.V.Ex->List (Go.V.AV Go.V.K)->List (Go.V.Ob Go.V.K)->R):R:=match y with
 | .inl a0=>k Go.V.Ex.ret (Go.V.eQ.fA Go.V.D ⟨[.int .i64],[]⟩ ((a0,()),())) (Go.V.eQ.eP Go.V.D ⟨[.int .i64],[]⟩ ((a0,()),()))
 | .inr (a1)=>k (Go.V.Ex.exit 0) (Go.V.eQ.fA Go.V.D ⟨[.any],[]⟩ (((),()),())) (Go.V.eQ.eP Go.V.D ⟨[.any],[]⟩ (((),()),()))
noncomputable def uj :List (Go.V.gB Go.V.K ((Int)⊕(Unit))):=[⟨Go.V.Ex.ret,⟨[.int .i64],[]⟩,fun x=> .inl x.1.1⟩,⟨(Go.V.Ex.exit 0),⟨[.any],[]⟩,fun x=> .inr (())⟩]
noncomputable def mO :Go.V.fJ Go.V.K:=Go.V.gU Go.V.D false 19 0 [0,1,7,8] [4] ⟨[.cO U.Type, .fn 101 [], .int .i64, .int .i64],[]⟩ (fun x=>M.dm x.1.1 x.1.2.2.1 Go.V.aG x.1.2.2.2.1) kX
noncomputable def jf (m:(List M.ae)->Option (Int)):Go.V.df Go.V.K:={f:=136,sh:=⟨[.cO U.Type, .fn 101 []],[]⟩,R:=Int,run:=fun x=>m x.1.1,dflt:=default,out:=fun r=>(Go.V.Sh.enc Go.V.D (.int .i64) r,Go.V.dY.encs Go.V.D [] ())}
noncomputable def fP :Go.V.Cx Go.V.K:={P:=Tryz.prog,D:=Go.V.D,ty:=aT,jo:=aC,mode:=Go.V.bD .plain [(101, .plain)],call:=Go.V.callOf Go.V.D [wu M.Jd],loop:=Go.V.bC [(2,mO)]}
theorem mP : Go.V.aI (fP):=Go.V.ax Go.V.aH _ (Go.V.aB Jc (Go.V.bM))
theorem sV : Go.V.dQ (fP) (Go.V.dX (Go.V.ed Tryz.f136) 0) (mO):=
 Go.V.dE (cx:=fP) (n:=19) (n0:=0) (ins:=[0,1,7,8]) (outs:=[4]) (sh:=⟨[.cO U.Type, .fn 101 [], .int .i64, .int .i64],[]⟩) (run:=fun n x=>M.dm x.1.1 x.1.2.2.1 n x.1.2.2.2.1) (fZ:=uj) (out:=kX) Go.V.aH (mP) ai (Go.V.ay (by kernel_rfl)) (fun _=>rfl) (fun m x=>by kernel_rfl) (Go.V.aB ⟨Go.V.jq,fun _ _ _=>rfl⟩ (Go.V.aB ⟨Go.V.dF,fun _ _ _=>rfl⟩ (Go.V.bM))) false Go.V.aG
theorem xn : (jf (M.fD)).Ok Go.V.D Tryz.prog:=
 Go.V.bG (cx:=fP) (c:=jf (M.fD)) (fz:=true) (fn:=Tryz.f136) Go.V.aH (mP) ai ⟨Tryz.func136,by kernel_rfl⟩ (Go.V.bH (Go.V.bK 1 (by kernel_rfl) (Go.V.eF (.mk (by kernel_rfl) (sV))))) ⟨⟨[.int .i64],[]⟩,fun x=>x.1.1⟩ (fun x=>rfl) (fun x=>by kernel_rfl)
noncomputable def ig (m:(List M.ae)->Option (Bool)):Go.V.df Go.V.K:={f:=124,sh:=⟨[.cO U.Type, .fn 101 []],[]⟩,R:=Bool,run:=fun x=>m x.1.1,dflt:=default,out:=fun r=>(Go.V.Sh.enc Go.V.D (.bool) r,Go.V.dY.encs Go.V.D [] ())}
noncomputable def lS :Go.V.Cx Go.V.K:={P:=Tryz.prog,D:=Go.V.D,ty:=aT,jo:=aC,mode:=Go.V.bD .plain [(136, .plain)],call:=Go.V.callOf Go.V.D [jf M.fD],loop:=Go.V.bC []}
theorem sJ : Go.V.aI (lS):=Go.V.ax Go.V.aH _ (Go.V.aB xn (Go.V.bM))
theorem uk : (ig (M.dN)).Ok Go.V.D Tryz.prog:=
 Go.V.bG (cx:=lS) (c:=ig (M.dN)) (fz:=true) (fn:=Tryz.f124) Go.V.aH (sJ) ai ⟨Tryz.func124,by kernel_rfl⟩ (Go.V.bH (Go.V.ay (by kernel_rfl))) ⟨⟨[.bool],[]⟩,fun x=>x.1.1⟩ (fun x=>rfl) (fun x=>by kernel_rfl)
noncomputable def FV (m:M.ae->Int->Option (Bool)):Go.V.df Go.V.K:={f:=134,sh:=⟨[.el U.Type, .int .i64],[]⟩,R:=Bool,run:=fun x=>m x.1.1 x.1.2.1,dflt:=default,out:=fun r=>(Go.V.Sh.enc Go.V.D (.bool) r,Go.V.dY.encs Go.V.D [] ())}
noncomputable def Ri :Go.V.Cx Go.V.K:={P:=Tryz.prog,D:=Go.V.D,ty:=aT,jo:=aC,mode:=Go.V.bD .plain [(128, .plain),(124, .plain)],call:=Go.V.callOf Go.V.D [qo M.yY,ig M.dN],loop:=Go.V.bC []}
theorem Xo : Go.V.aI (Ri):=Go.V.ax Go.V.aH _ (Go.V.aB Bd (Go.V.aB uk (Go.V.bM)))
theorem aad : (FV (M.wz)).Ok Go.V.D Tryz.prog:=
 Go.V.bG (cx:=Ri) (c:=FV (M.wz)) (fz:=true) (fn:=Tryz.f134) Go.V.aH (Xo) ai ⟨Tryz.func134,by kernel_rfl⟩ (Go.V.bH (Go.V.ay (by kernel_rfl))) ⟨⟨[.bool],[]⟩,fun x=>x.1.1⟩ (fun x=>rfl) (fun x=>by kernel_rfl)
noncomputable def oK (y:(Int)⊕(Unit)) {R:Type} (k:Go.V.Ex->List (Go.V.AV Go.V.K)->List (Go.V.Ob Go.V.K)->R):R:=match y with
 | .inl a0=>k Go.V.Ex.ret (Go.V.eQ.fA Go.V.D ⟨[.int .i64],[]⟩ ((a0,()),())) (Go.V.eQ.eP Go.V.D ⟨[.int .i64],[]⟩ ((a0,()),()))
 | .inr (a1)=>k (Go.V.Ex.exit 0) (Go.V.eQ.fA Go.V.D ⟨[.any],[]⟩ (((),()),())) (Go.V.eQ.eP Go.V.D ⟨[.any],[]⟩ (((),()),()))
noncomputable def xK :List (Go.V.gB Go.V.K ((Int)⊕(Unit))):=[⟨Go.V.Ex.ret,⟨[.int .i64],[]⟩,fun x=> .inl x.1.1⟩,⟨(Go.V.Ex.exit 0),⟨[.any],[]⟩,fun x=> .inr (())⟩]
noncomputable def pG :Go.V.fJ Go.V.K:=Go.V.gU Go.V.D false 19 0 [0,1,7,8] [4] ⟨[.cO U.i64, .int .i64, .int .i64, .int .i64],[]⟩ (fun x=>M.dR x.1.1 x.1.2.1 x.1.2.2.1 Go.V.aG x.1.2.2.2.1) oK
noncomputable def jZ (m:(List Int)->Int->Option (Int)):Go.V.df Go.V.K:={f:=135,sh:=⟨[.cO U.i64, .int .i64],[]⟩,R:=Int,run:=fun x=>m x.1.1 x.1.2.1,dflt:=default,out:=fun r=>(Go.V.Sh.enc Go.V.D (.int .i64) r,Go.V.dY.encs Go.V.D [] ())}
noncomputable def iL :Go.V.Cx Go.V.K:={P:=Tryz.prog,D:=Go.V.D,ty:=aT,jo:=aC,mode:=Go.V.bD .plain [],call:=Go.V.callOf Go.V.D [],loop:=Go.V.bC [(2,pG)]}
theorem pI : Go.V.aI (iL):=Go.V.ax Go.V.aH _ (Go.V.bM)
theorem xq : Go.V.dQ (iL) (Go.V.dX (Go.V.ed Tryz.f135) 0) (pG):=
 Go.V.dE (cx:=iL) (n:=19) (n0:=0) (ins:=[0,1,7,8]) (outs:=[4]) (sh:=⟨[.cO U.i64, .int .i64, .int .i64, .int .i64],[]⟩) (run:=fun n x=>M.dR x.1.1 x.1.2.1 x.1.2.2.1 n x.1.2.2.2.1) (fZ:=xK) (out:=oK) Go.V.aH (pI) ai (Go.V.ay (by kernel_rfl)) (fun _=>rfl) (fun m x=>by kernel_rfl) (Go.V.aB ⟨Go.V.jq,fun _ _ _=>rfl⟩ (Go.V.aB ⟨Go.V.dF,fun _ _ _=>rfl⟩ (Go.V.bM))) false Go.V.aG
theorem zY : (jZ (M.ik)).Ok Go.V.D Tryz.prog:=
 Go.V.bG (cx:=iL) (c:=jZ (M.ik)) (fz:=true) (fn:=Tryz.f135) Go.V.aH (pI) ai ⟨Tryz.func135,by kernel_rfl⟩ (Go.V.bH (Go.V.bK 1 (by kernel_rfl) (Go.V.eF (.mk (by kernel_rfl) (xq))))) ⟨⟨[.int .i64],[]⟩,fun x=>x.1.1⟩ (fun x=>rfl) (fun x=>by kernel_rfl)
noncomputable def jr (m:(List Int)->Int->Option (Bool)):Go.V.df Go.V.K:={f:=123,sh:=⟨[.cO U.i64, .int .i64],[]⟩,R:=Bool,run:=fun x=>m x.1.1 x.1.2.1,dflt:=default,out:=fun r=>(Go.V.Sh.enc Go.V.D (.bool) r,Go.V.dY.encs Go.V.D [] ())}
noncomputable def oP :Go.V.Cx Go.V.K:={P:=Tryz.prog,D:=Go.V.D,ty:=aT,jo:=aC,mode:=Go.V.bD .plain [(135, .plain)],call:=Go.V.callOf Go.V.D [jZ M.ik],loop:=Go.V.bC []}
theorem wB : Go.V.aI (oP):=Go.V.ax Go.V.aH _ (Go.V.aB zY (Go.V.bM))
theorem xM : (jr (M.eH)).Ok Go.V.D Tryz.prog:=
 Go.V.bG (cx:=oP) (c:=jr (M.eH)) (fz:=true) (fn:=Tryz.f123) Go.V.aH (wB) ai ⟨Tryz.func123,by kernel_rfl⟩ (Go.V.bH (Go.V.ay (by kernel_rfl))) ⟨⟨[.bool],[]⟩,fun x=>x.1.1⟩ (fun x=>rfl) (fun x=>by kernel_rfl)
noncomputable def eu (m:M.ae->(List Int)->Option (Bool)):Go.V.df Go.V.K:={f:=102,sh:=⟨[.el U.Type, .cO U.i64],[]⟩,R:=Bool,run:=fun x=>m x.1.1 x.1.2.1,dflt:=default,out:=fun r=>(Go.V.Sh.enc Go.V.D (.bool) r,Go.V.dY.encs Go.V.D [] ())}
noncomputable def xN (m:M.ae->(List Int)->Option (Bool)):Go.V.df Go.V.K:={f:=125,sh:=⟨[.el U.Type, .rp U.GV 0],[]⟩,R:=Bool,run:=fun x=>m x.1.1 x.1.2.1,dflt:=default,out:=fun r=>(Go.V.Sh.enc Go.V.D (.bool) r,Go.V.dY.encs Go.V.D [] ())}
noncomputable def Hr (aA:M.ae->(List Int)->Option (Bool)):Go.V.Cx Go.V.K:={P:=Tryz.prog,D:=Go.V.D,ty:=aT,jo:=aC,mode:=Go.V.bD .plain [(102, .plain)],call:=Go.V.callOf Go.V.D [eu aA],loop:=Go.V.bC []}
theorem Om (aA:M.ae->(List Int)->Option (Bool)) (dC:(eu aA).Ok Go.V.D Tryz.prog):Go.V.aI (Hr aA):=Go.V.ax Go.V.aH _ (Go.V.aB dC (Go.V.bM))
theorem Tq (aA:M.ae->(List Int)->Option (Bool)) (dC:(eu aA).Ok Go.V.D Tryz.prog):(xN (M.rV aA)).Ok Go.V.D Tryz.prog:=
 Go.V.bG (cx:=Hr aA) (c:=xN (M.rV aA)) (fz:=true) (fn:=Tryz.f125) Go.V.aH (Om aA dC) ai ⟨Tryz.func125,by kernel_rfl⟩ (Go.V.bH (Go.V.ay (by kernel_rfl))) ⟨⟨[.bool],[]⟩,fun x=>x.1.1⟩ (fun x=>rfl) (fun x=>by kernel_rfl)
noncomputable def kY (y:(Int)⊕(Unit)) {R:Type} (k:Go.V.Ex->List (Go.V.AV Go.V.K)->List (Go.V.Ob Go.V.K)->R):R:=match y with
 | .inl a0=>k Go.V.Ex.ret (Go.V.eQ.fA Go.V.D ⟨[.int .i64],[]⟩ ((a0,()),())) (Go.V.eQ.eP Go.V.D ⟨[.int .i64],[]⟩ ((a0,()),()))
 | .inr (a1)=>k (Go.V.Ex.exit 0) (Go.V.eQ.fA Go.V.D ⟨[.any],[]⟩ (((),()),())) (Go.V.eQ.eP Go.V.D ⟨[.any],[]⟩ (((),()),()))
noncomputable def um :List (Go.V.gB Go.V.K ((Int)⊕(Unit))):=[⟨Go.V.Ex.ret,⟨[.int .i64],[]⟩,fun x=> .inl x.1.1⟩,⟨(Go.V.Ex.exit 0),⟨[.any],[]⟩,fun x=> .inr (())⟩]
noncomputable def mQ (aA:M.ae->(List Int)->Option (Bool)):Go.V.fJ Go.V.K:=Go.V.gU Go.V.D false 19 0 [0,1,7,8] [4] ⟨[.cO U.Type, .fn 125 [.rp U.GV 0], .int .i64, .int .i64],[]⟩ (fun x=>M.dn aA x.1.1 x.1.2.1.1 x.1.2.2.1 Go.V.aG x.1.2.2.2.1) kY
noncomputable def jg (m:(List M.ae)->(List Int)->Option (Int)):Go.V.df Go.V.K:={f:=136,sh:=⟨[.cO U.Type, .fn 125 [.rp U.GV 0]],[]⟩,R:=Int,run:=fun x=>m x.1.1 x.1.2.1.1,dflt:=default,out:=fun r=>(Go.V.Sh.enc Go.V.D (.int .i64) r,Go.V.dY.encs Go.V.D [] ())}
noncomputable def fQ (aA:M.ae->(List Int)->Option (Bool)):Go.V.Cx Go.V.K:={P:=Tryz.prog,D:=Go.V.D,ty:=aT,jo:=aC,mode:=Go.V.bD .plain [(125, .plain)],call:=Go.V.callOf Go.V.D [xN (M.rV aA)],loop:=Go.V.bC [(2,mQ aA)]}
theorem mV (aA:M.ae->(List Int)->Option (Bool)) (dC:(eu aA).Ok Go.V.D Tryz.prog):Go.V.aI (fQ aA):=Go.V.ax Go.V.aH _ (Go.V.aB (Tq aA dC) (Go.V.bM))
theorem sW (aA:M.ae->(List Int)->Option (Bool)) (dC:(eu aA).Ok Go.V.D Tryz.prog):Go.V.dQ (fQ aA) (Go.V.dX (Go.V.ed Tryz.f136) 0) (mQ aA):=
 Go.V.dE (cx:=fQ aA) (n:=19) (n0:=0) (ins:=[0,1,7,8]) (outs:=[4]) (sh:=⟨[.cO U.Type, .fn 125 [.rp U.GV 0], .int .i64, .int .i64],[]⟩) (run:=fun n x=>M.dn aA x.1.1 x.1.2.1.1 x.1.2.2.1 n x.1.2.2.2.1) (fZ:=um) (out:=kY) Go.V.aH (mV aA dC) ai (Go.V.ay (by kernel_rfl)) (fun _=>rfl) (fun m x=>by kernel_rfl) (Go.V.aB ⟨Go.V.jq,fun _ _ _=>rfl⟩ (Go.V.aB ⟨Go.V.dF,fun _ _ _=>rfl⟩ (Go.V.bM))) false Go.V.aG
theorem xu (aA:M.ae->(List Int)->Option (Bool)) (dC:(eu aA).Ok Go.V.D Tryz.prog):(jg (M.fE aA)).Ok Go.V.D Tryz.prog:=
 Go.V.bG (cx:=fQ aA) (c:=jg (M.fE aA)) (fz:=true) (fn:=Tryz.f136) Go.V.aH (mV aA dC) ai ⟨Tryz.func136,by kernel_rfl⟩ (Go.V.bH (Go.V.bK 1 (by kernel_rfl) (Go.V.eF (.mk (by kernel_rfl) (sW aA dC))))) ⟨⟨[.int .i64],[]⟩,fun x=>x.1.1⟩ (fun x=>rfl) (fun x=>by kernel_rfl)
noncomputable def iq (m:(List M.ae)->(List Int)->Option (Bool)):Go.V.df Go.V.K:={f:=124,sh:=⟨[.cO U.Type, .fn 125 [.rp U.GV 0]],[]⟩,R:=Bool,run:=fun x=>m x.1.1 x.1.2.1.1,dflt:=default,out:=fun r=>(Go.V.Sh.enc Go.V.D (.bool) r,Go.V.dY.encs Go.V.D [] ())}
noncomputable def lT (aA:M.ae->(List Int)->Option (Bool)):Go.V.Cx Go.V.K:={P:=Tryz.prog,D:=Go.V.D,ty:=aT,jo:=aC,mode:=Go.V.bD .plain [(136, .plain)],call:=Go.V.callOf Go.V.D [jg (M.fE aA)],loop:=Go.V.bC []}
theorem sK (aA:M.ae->(List Int)->Option (Bool)) (dC:(eu aA).Ok Go.V.D Tryz.prog):Go.V.aI (lT aA):=Go.V.ax Go.V.aH _ (Go.V.aB (xu aA dC) (Go.V.bM))
theorem uo (aA:M.ae->(List Int)->Option (Bool)) (dC:(eu aA).Ok Go.V.D Tryz.prog):(iq (M.dO aA)).Ok Go.V.D Tryz.prog:=
 Go.V.bG (cx:=lT aA) (c:=iq (M.dO aA)) (fz:=true) (fn:=Tryz.f124) Go.V.aH (sK aA dC) ai ⟨Tryz.func124,by kernel_rfl⟩ (Go.V.bH (Go.V.ay (by kernel_rfl))) ⟨⟨[.bool],[]⟩,fun x=>x.1.1⟩ (fun x=>rfl) (fun x=>by kernel_rfl)
noncomputable def Oo (aA:M.ae->(List Int)->Option (Bool)):Go.V.Cx Go.V.K:={P:=Tryz.prog,D:=Go.V.D,ty:=aT,jo:=aC,mode:=Go.V.bD .plain [(123, .plain),(124, .plain)],call:=Go.V.callOf Go.V.D [jr M.eH,iq (M.dO aA)],loop:=Go.V.bC []}
theorem UL (aA:M.ae->(List Int)->Option (Bool)) (dC:(eu aA).Ok Go.V.D Tryz.prog):Go.V.aI (Oo aA):=Go.V.ax Go.V.aH _ (Go.V.aB xM (Go.V.aB (uo aA dC) (Go.V.bM)))
theorem UM (aA:M.ae->(List Int)->Option (Bool)) (dC:(eu aA).Ok Go.V.D Tryz.prog):(eu (M.yZ aA)).Ok Go.V.D Tryz.prog:=
 Go.V.bG (cx:=Oo aA) (c:=eu (M.yZ aA)) (fz:=true) (fn:=Tryz.f102) Go.V.aH (UL aA dC) ai ⟨Tryz.func102,by kernel_rfl⟩ (Go.V.bH (Go.V.ay (by kernel_rfl))) ⟨⟨[.bool],[]⟩,fun x=>x.1.1⟩ (fun x=>rfl) (fun x=>by kernel_rfl)
theorem Je : ∀n,(eu (M.kZ n)).Ok Go.V.D Tryz.prog
 |0=>Go.V.ja fun _=>rfl
 |n+1=>UM (M.kZ n) (Je n)
theorem Oq : (eu (M.qA)).Ok Go.V.D Tryz.prog:=Je Go.V.aG
noncomputable def Ot (az:M.ae->Option (Bool)):Go.V.Cx Go.V.K:={P:=Tryz.prog,D:=Go.V.D,ty:=aT,jo:=aC,mode:=Go.V.bD .plain [(124, .plain),(62, .plain),(132, .plain),(133, .plain),(134, .plain),(128, .plain),(105, .plain),(102, .plain)],call:=Go.V.callOf Go.V.D [iM (M.dK az),nH M.yV,Ba M.xJ,zX M.yX,FV M.wz,qo M.yY,nI M.sU,eu M.qA],loop:=Go.V.bC []}
theorem UN (az:M.ae->Option (Bool)) (dB:(eG az).Ok Go.V.D Tryz.prog):Go.V.aI (Ot az):=Go.V.ax Go.V.aH _ (Go.V.aB (vZ az dB) (Go.V.aB uU (Go.V.aB Xm (Go.V.aB Rf (Go.V.aB aad (Go.V.aB Bd (Go.V.aB xI (Go.V.aB Oq (Go.V.bM)))))))))
theorem UO (az:M.ae->Option (Bool)) (dB:(eG az).Ok Go.V.D Tryz.prog):(eG (M.uV az)).Ok Go.V.D Tryz.prog:=
 Go.V.bG (cx:=Ot az) (c:=eG (M.uV az)) (fz:=true) (fn:=Tryz.f122) Go.V.aH (UN az dB) ai ⟨Tryz.func122,by kernel_rfl⟩ (Go.V.bH (Go.V.ay (by kernel_rfl))) ⟨⟨[.bool],[]⟩,fun x=>x.1.1⟩ (fun x=>rfl) (fun x=>by kernel_rfl)
theorem Jf : ∀n,(eG (M.nJ n)).Ok Go.V.D Tryz.prog
 |0=>Go.V.ja fun _=>rfl
 |n+1=>UO (M.nJ n) (Jf n)
theorem YX : (eG (M.J7)).Ok Go.V.D Tryz.prog:=Jf Go.V.aG
noncomputable def C9 (m:M.ae->Option (Bool)):Go.V.df Go.V.K:={f:=95,sh:=⟨[.el U.Type],[]⟩,R:=Bool,run:=fun x=>m x.1.1,dflt:=default,out:=fun r=>(Go.V.Sh.enc Go.V.D (.bool) r,Go.V.dY.encs Go.V.D [] ())}
noncomputable def UQ :Go.V.Cx Go.V.K:={P:=Tryz.prog,D:=Go.V.D,ty:=aT,jo:=aC,mode:=Go.V.bD .plain [(112, .plain),(113, .plain)],call:=Go.V.callOf Go.V.D [jE M.J5,je M.FT],loop:=Go.V.bC []}
theorem YY : Go.V.aI (UQ):=Go.V.ax Go.V.aH _ (Go.V.aB YS (Go.V.aB Xh (Go.V.bM)))
theorem UR : (C9 (M.Dc)).Ok Go.V.D Tryz.prog:=
 Go.V.bG (cx:=UQ) (c:=C9 (M.Dc)) (fz:=true) (fn:=Tryz.f95) Go.V.aH (YY) ai ⟨Tryz.func95,by kernel_rfl⟩ (Go.V.bH (Go.V.ay (by kernel_rfl))) ⟨⟨[.bool],[]⟩,fun x=>x.1.1⟩ (fun x=>rfl) (fun x=>by kernel_rfl)
noncomputable def gp (m:M.ae->Option (Int×(List UInt8)×(List (List UInt8))×(List M.ae))):Go.V.df Go.V.K:={f:=91,sh:=⟨[.el U.Type],[]⟩,R:=Int×(List UInt8)×(List (List UInt8))×(List M.ae),run:=fun x=>m x.1.1,dflt:=default,out:=fun r=>(Go.V.Sh.enc Go.V.D (.agg [.int .i64, .str, .own 0, .own 1]) (r.1,(r.2.1,((),((),())))),Go.V.dY.encs Go.V.D [.arr U.str, .tree U.Type] (r.2.2.1,(r.2.2.2,())))}
noncomputable def Be (y:(List M.ae)) {R:Type} (k:Go.V.Ex->List (Go.V.AV Go.V.K)->List (Go.V.Ob Go.V.K)->R):R:=match y with
 |a0=>k (Go.V.Ex.exit 0) (Go.V.eQ.fA Go.V.D ⟨[.own 1],[.dead, .tree U.Type]⟩ (((),()),((),(a0,())))) (Go.V.eQ.eP Go.V.D ⟨[.own 1],[.dead, .tree U.Type]⟩ (((),()),((),(a0,()))))
noncomputable def Ou :List (Go.V.gB Go.V.K ((List M.ae))):=[⟨(Go.V.Ex.exit 0),⟨[.own 1],[.dead, .tree U.Type]⟩,fun x=>x.2.2.1⟩]
noncomputable def EE (aJ:M.ae->Option (Int×(List UInt8)×(List (List UInt8))×(List M.ae))):Go.V.fJ Go.V.K:=Go.V.gU Go.V.D false 20 1 [3,7,8,9] [3] ⟨[.own 1, .cO U.Type, .int .i64, .int .i64],[.dead, .tree U.Type]⟩ (fun x=>M.lU aJ x.1.2.1 x.1.2.2.1 Go.V.aG x.1.2.2.2.1 x.2.2.1) Be
noncomputable def zD (m:(List M.ae)->Option ((List M.ae))):Go.V.df Go.V.K:={f:=110,sh:=⟨[.cO U.Type],[]⟩,R:=(List M.ae),run:=fun x=>m x.1.1,dflt:=default,out:=fun r=>(Go.V.Sh.enc Go.V.D (.own 0) (),Go.V.dY.encs Go.V.D [.tree U.Type] (r,()))}
noncomputable def wC (aJ:M.ae->Option (Int×(List UInt8)×(List (List UInt8))×(List M.ae))):Go.V.Cx Go.V.K:={P:=Tryz.prog,D:=Go.V.D,ty:=aT,jo:=aC,mode:=Go.V.bD .plain [(91, .fresh)],rsl:=[[some U.Type]],deep:=fun c=>Go.V.bZ (Go.V.D.cells c (Go.V.K.zero c)),call:=Go.V.callOf Go.V.D [gp aJ],loop:=Go.V.bC [(3,EE aJ)]}
theorem EF (aJ:M.ae->Option (Int×(List UInt8)×(List (List UInt8))×(List M.ae))) (gu:(gp aJ).Ok Go.V.D Tryz.prog):Go.V.aI (wC aJ):=Go.V.ax Go.V.aH _ (Go.V.aB gu (Go.V.bM))
theorem MS (aJ:M.ae->Option (Int×(List UInt8)×(List (List UInt8))×(List M.ae))) (gu:(gp aJ).Ok Go.V.D Tryz.prog):Go.V.dQ (wC aJ) (Go.V.dX (Go.V.ed Tryz.f110) 0) (EE aJ):=
 Go.V.dE (cx:=wC aJ) (n:=20) (n0:=1) (ins:=[3,7,8,9]) (outs:=[3]) (sh:=⟨[.own 1, .cO U.Type, .int .i64, .int .i64],[.dead, .tree U.Type]⟩) (run:=fun n x=>M.lU aJ x.1.2.1 x.1.2.2.1 n x.1.2.2.2.1 x.2.2.1) (fZ:=Ou) (out:=Be) Go.V.aH (EF aJ gu) ai (Go.V.ay (by kernel_rfl)) (fun _=>rfl) (fun m x=>by kernel_rfl) (Go.V.aB ⟨Go.V.dF,fun _ _ _=>rfl⟩ (Go.V.bM)) false Go.V.aG
theorem UT (aJ:M.ae->Option (Int×(List UInt8)×(List (List UInt8))×(List M.ae))) (gu:(gp aJ).Ok Go.V.D Tryz.prog):(zD (M.uX aJ)).Ok Go.V.D Tryz.prog:=
 Go.V.bG (cx:=wC aJ) (c:=zD (M.uX aJ)) (fz:=false) (fn:=Tryz.f110) Go.V.aH (EF aJ gu) ai ⟨Tryz.func110,by kernel_rfl⟩ (Go.V.bH (Go.V.bK 1 (by kernel_rfl) (Go.V.eF (.mk (by kernel_rfl) (MS aJ gu))))) ⟨⟨[.own 0],[.tree U.Type]⟩,fun x=>x.2.1⟩ (fun x=>rfl) (fun x=>by kernel_rfl)
noncomputable def Ls (aJ:M.ae->Option (Int×(List UInt8)×(List (List UInt8))×(List M.ae))):Go.V.Cx Go.V.K:={P:=Tryz.prog,D:=Go.V.D,ty:=aT,jo:=aC,mode:=Go.V.bD .plain [(109, .fresh),(110, .fresh)],rsl:=[[none,none,some U.str,some U.Type]],deep:=fun c=>Go.V.bZ (Go.V.D.cells c (Go.V.K.zero c)),call:=Go.V.callOf Go.V.D [jA M.dL,zD (M.uX aJ)],loop:=Go.V.bC []}
theorem Tt (aJ:M.ae->Option (Int×(List UInt8)×(List (List UInt8))×(List M.ae))) (gu:(gp aJ).Ok Go.V.D Tryz.prog):Go.V.aI (Ls aJ):=Go.V.ax Go.V.aH _ (Go.V.aB y7 (Go.V.aB (UT aJ gu) (Go.V.bM)))
theorem Tu (aJ:M.ae->Option (Int×(List UInt8)×(List (List UInt8))×(List M.ae))) (gu:(gp aJ).Ok Go.V.D Tryz.prog):(gp (M.wE aJ)).Ok Go.V.D Tryz.prog:=
 Go.V.bG (cx:=Ls aJ) (c:=gp (M.wE aJ)) (fz:=false) (fn:=Tryz.f91) Go.V.aH (Tt aJ gu) ai ⟨Tryz.func91,by kernel_rfl⟩ (Go.V.bH (Go.V.ay (by kernel_rfl))) ⟨⟨[.agg [.int .i64, .str, .own 0, .own 1]],[.arr U.str, .tree U.Type]⟩,fun x=>(x.1.1.1,x.1.1.2.1,x.2.1,x.2.2.1)⟩ (fun x=>rfl) (fun x=>by kernel_rfl)
theorem Ht : ∀n,(gp (M.nK n)).Ok Go.V.D Tryz.prog
 |0=>Go.V.ja fun _=>rfl
 |n+1=>Tu (M.nK n) (Ht n)
theorem Xp : (gp (M.FW)).Ok Go.V.D Tryz.prog:=Ht Go.V.aG
noncomputable def gz (m:M.af->Option (Int×Int×(List UInt8)×(List M.af))):Go.V.df Go.V.K:={f:=111,sh:=⟨[.el U.Value],[]⟩,R:=Int×Int×(List UInt8)×(List M.af),run:=fun x=>m x.1.1,dflt:=default,out:=fun r=>(Go.V.Sh.enc Go.V.D (.agg [.int .i64, .int .i64, .str, .own 0]) (r.1,(r.2.1,(r.2.2.1,((),())))),Go.V.dY.encs Go.V.D [.tree U.Value] (r.2.2.2,()))}
noncomputable def zJ (y:(List M.af)) {R:Type} (k:Go.V.Ex->List (Go.V.AV Go.V.K)->List (Go.V.Ob Go.V.K)->R):R:=match y with
 |a0=>k (Go.V.Ex.exit 0) (Go.V.eQ.fA Go.V.D ⟨[.own 1],[.dead, .tree U.Value]⟩ (((),()),((),(a0,())))) (Go.V.eQ.eP Go.V.D ⟨[.own 1],[.dead, .tree U.Value]⟩ (((),()),((),(a0,()))))
noncomputable def MV :List (Go.V.gB Go.V.K ((List M.af))):=[⟨(Go.V.Ex.exit 0),⟨[.own 1],[.dead, .tree U.Value]⟩,fun x=>x.2.2.1⟩]
noncomputable def Df (aF:M.af->Option (Int×Int×(List UInt8)×(List M.af))):Go.V.fJ Go.V.K:=Go.V.gU Go.V.D false 20 1 [3,7,8,9] [3] ⟨[.own 1, .cO U.Value, .int .i64, .int .i64],[.dead, .tree U.Value]⟩ (fun x=>M.ku aF x.1.2.1 x.1.2.2.1 Go.V.aG x.1.2.2.2.1 x.2.2.1) zJ
noncomputable def rW (m:(List M.af)->Option ((List M.af))):Go.V.df Go.V.K:={f:=92,sh:=⟨[.cO U.Value],[]⟩,R:=(List M.af),run:=fun x=>m x.1.1,dflt:=default,out:=fun r=>(Go.V.Sh.enc Go.V.D (.own 0) (),Go.V.dY.encs Go.V.D [.tree U.Value] (r,()))}
noncomputable def tN (aF:M.af->Option (Int×Int×(List UInt8)×(List M.af))):Go.V.Cx Go.V.K:={P:=Tryz.prog,D:=Go.V.D,ty:=aT,jo:=aC,mode:=Go.V.bD .plain [(111, .fresh)],rsl:=[[some U.Value]],deep:=fun c=>Go.V.bZ (Go.V.D.cells c (Go.V.K.zero c)),call:=Go.V.callOf Go.V.D [gz aF],loop:=Go.V.bC [(3,Df aF)]}
theorem Dh (aF:M.af->Option (Int×Int×(List UInt8)×(List M.af))) (fH:(gz aF).Ok Go.V.D Tryz.prog):Go.V.aI (tN aF):=Go.V.ax Go.V.aH _ (Go.V.aB fH (Go.V.bM))
theorem KI (aF:M.af->Option (Int×Int×(List UInt8)×(List M.af))) (fH:(gz aF).Ok Go.V.D Tryz.prog):Go.V.dQ (tN aF) (Go.V.dX (Go.V.ed Tryz.f92) 0) (Df aF):=
 Go.V.dE (cx:=tN aF) (n:=20) (n0:=1) (ins:=[3,7,8,9]) (outs:=[3]) (sh:=⟨[.own 1, .cO U.Value, .int .i64, .int .i64],[.dead, .tree U.Value]⟩) (run:=fun n x=>M.ku aF x.1.2.1 x.1.2.2.1 n x.1.2.2.2.1 x.2.2.1) (fZ:=MV) (out:=zJ) Go.V.aH (Dh aF fH) ai (Go.V.ay (by kernel_rfl)) (fun _=>rfl) (fun m x=>by kernel_rfl) (Go.V.aB ⟨Go.V.dF,fun _ _ _=>rfl⟩ (Go.V.bM)) false Go.V.aG
theorem Hu (aF:M.af->Option (Int×Int×(List UInt8)×(List M.af))) (fH:(gz aF).Ok Go.V.D Tryz.prog):(rW (M.kL aF)).Ok Go.V.D Tryz.prog:=
 Go.V.bG (cx:=tN aF) (c:=rW (M.kL aF)) (fz:=false) (fn:=Tryz.f92) Go.V.aH (Dh aF fH) ai ⟨Tryz.func92,by kernel_rfl⟩ (Go.V.bH (Go.V.bK 1 (by kernel_rfl) (Go.V.eF (.mk (by kernel_rfl) (KI aF fH))))) ⟨⟨[.own 0],[.tree U.Value]⟩,fun x=>x.2.1⟩ (fun x=>rfl) (fun x=>by kernel_rfl)
noncomputable def Jg (aF:M.af->Option (Int×Int×(List UInt8)×(List M.af))):Go.V.Cx Go.V.K:={P:=Tryz.prog,D:=Go.V.D,ty:=aT,jo:=aC,mode:=Go.V.bD .plain [(92, .fresh)],rsl:=[[none,none,none,some U.Value]],deep:=fun c=>Go.V.bZ (Go.V.D.cells c (Go.V.K.zero c)),call:=Go.V.callOf Go.V.D [rW (M.kL aF)],loop:=Go.V.bC []}
theorem Qc (aF:M.af->Option (Int×Int×(List UInt8)×(List M.af))) (fH:(gz aF).Ok Go.V.D Tryz.prog):Go.V.aI (Jg aF):=Go.V.ax Go.V.aH _ (Go.V.aB (Hu aF fH) (Go.V.bM))
theorem Qd (aF:M.af->Option (Int×Int×(List UInt8)×(List M.af))) (fH:(gz aF).Ok Go.V.D Tryz.prog):(gz (M.sZ aF)).Ok Go.V.D Tryz.prog:=
 Go.V.bG (cx:=Jg aF) (c:=gz (M.sZ aF)) (fz:=false) (fn:=Tryz.f111) Go.V.aH (Qc aF fH) ai ⟨Tryz.func111,by kernel_rfl⟩ (Go.V.bH (Go.V.ay (by kernel_rfl))) ⟨⟨[.agg [.int .i64, .int .i64, .str, .own 0]],[.tree U.Value]⟩,fun x=>(x.1.1.1,x.1.1.2.1,x.1.1.2.2.1,x.2.1)⟩ (fun x=>rfl) (fun x=>by kernel_rfl)
theorem EG : ∀n,(gz (M.oh n)).Ok Go.V.D Tryz.prog
 |0=>Go.V.ja fun _=>rfl
 |n+1=>Qd (M.oh n) (EG n)
theorem UU : (gz (M.uY)).Ok Go.V.D Tryz.prog:=EG Go.V.aG
noncomputable def Bf (m:M.ah->Int->Option (Int)):Go.V.df Go.V.K:={f:=8,sh:=⟨[.el U.Stream, .int .i64],[]⟩,R:=Int,run:=fun x=>m x.1.1 x.1.2.1,dflt:=default,out:=fun r=>(Go.V.Sh.enc Go.V.D (.int .i64) r,Go.V.dY.encs Go.V.D [] ())}
noncomputable def Lt :Go.V.Cx Go.V.K:={P:=Tryz.prog,D:=Go.V.D,ty:=aT,jo:=aC,mode:=Go.V.bD .plain [(32, .plain),(17, .plain)],call:=Go.V.callOf Go.V.D [iZ M.IJ,vU (M.pR M.Ak)],loop:=Go.V.bC []}
theorem Tv : Go.V.aI (Lt):=Go.V.ax Go.V.aH _ (Go.V.aB Z7 (Go.V.aB (KZ M.Ak YP) (Go.V.bM)))
theorem Xq : (Bf (M.uu)).Ok Go.V.D Tryz.prog:=
 Go.V.bG (cx:=Lt) (c:=Bf (M.uu)) (fz:=true) (fn:=Tryz.f8) Go.V.aH (Tv) ai ⟨Tryz.func8,by kernel_rfl⟩ (Go.V.bH (Go.V.ay (by kernel_rfl))) ⟨⟨[.int .i64],[]⟩,fun x=>x.1.1⟩ (fun x=>rfl) (fun x=>by kernel_rfl)
noncomputable def Bg (m:M.ah->Option (Int×(List UInt8)×Int×Bool×Int×Int×Bool×Bool×(List (List UInt8))×(List M.ae)×(List M.af))):Go.V.df Go.V.K:={f:=10,sh:=⟨[.el U.Stream],[]⟩,R:=Int×(List UInt8)×Int×Bool×Int×Int×Bool×Bool×(List (List UInt8))×(List M.ae)×(List M.af),run:=fun x=>m x.1.1,dflt:=default,out:=fun r=>(Go.V.Sh.enc Go.V.D (.agg [.int .i64, .str, .own 0, .own 1, .int .i64, .bool, .own 2, .int .i64, .int .i64, .bool, .bool]) (r.1,(r.2.1,((),((),(r.2.2.1,(r.2.2.2.1,((),(r.2.2.2.2.1,(r.2.2.2.2.2.1,(r.2.2.2.2.2.2.1,(r.2.2.2.2.2.2.2.1,()))))))))))),Go.V.dY.encs Go.V.D [.arr U.str, .tree U.Type, .tree U.Value] (r.2.2.2.2.2.2.2.2.1,(r.2.2.2.2.2.2.2.2.2.1,(r.2.2.2.2.2.2.2.2.2.2,()))))}
noncomputable def Lu :Go.V.Cx Go.V.K:={P:=Tryz.prog,D:=Go.V.D,ty:=aT,jo:=aC,mode:=Go.V.bD .plain [(36, .fresh),(19, .fresh)],rsl:=[[none,none,some U.str,some U.Type,none,none,some U.Value,none,none,none,none]],deep:=fun c=>Go.V.bZ (Go.V.D.cells c (Go.V.K.zero c)),call:=Go.V.callOf Go.V.D [jb M.IM,vV (M.pU M.Am)],loop:=Go.V.bC []}
theorem Tz : Go.V.aI (Lu):=Go.V.ax Go.V.aH _ (Go.V.aB Z8 (Go.V.aB (La M.Am YQ) (Go.V.bM)))
theorem Xr : (Bg (M.uw)).Ok Go.V.D Tryz.prog:=
 Go.V.bG (cx:=Lu) (c:=Bg (M.uw)) (fz:=false) (fn:=Tryz.f10) Go.V.aH (Tz) ai ⟨Tryz.func10,by kernel_rfl⟩ (Go.V.bH (Go.V.ay (by kernel_rfl))) ⟨⟨[.agg [.int .i64, .str, .own 0, .own 1, .int .i64, .bool, .own 2, .int .i64, .int .i64, .bool, .bool]],[.arr U.str, .tree U.Type, .tree U.Value]⟩,fun x=>(x.1.1.1,x.1.1.2.1,x.1.1.2.2.2.2.1,x.1.1.2.2.2.2.2.1,x.1.1.2.2.2.2.2.2.2.1,x.1.1.2.2.2.2.2.2.2.2.1,x.1.1.2.2.2.2.2.2.2.2.2.1,x.1.1.2.2.2.2.2.2.2.2.2.2.1,x.2.1,x.2.2.1,x.2.2.2.1)⟩ (fun x=>rfl) (fun x=>by kernel_rfl)
noncomputable def DY (m:M.ae->Option (Bool)):Go.V.df Go.V.K:={f:=69,sh:=⟨[.el U.Type],[]⟩,R:=Bool,run:=fun x=>m x.1.1,dflt:=default,out:=fun r=>(Go.V.Sh.enc Go.V.D (.bool) r,Go.V.dY.encs Go.V.D [] ())}
noncomputable def Ov :Go.V.Cx Go.V.K:={P:=Tryz.prog,D:=Go.V.D,ty:=aT,jo:=aC,mode:=Go.V.bD .plain [(95, .plain),(96, .plain)],call:=Go.V.callOf Go.V.D [C9 M.Dc,jF M.sS],loop:=Go.V.bC []}
theorem UW : Go.V.aI (Ov):=Go.V.ax Go.V.aH _ (Go.V.aB UR (Go.V.aB Q4 (Go.V.bM)))
theorem YZ : (DY (M.Aq)).Ok Go.V.D Tryz.prog:=
 Go.V.bG (cx:=Ov) (c:=DY (M.Aq)) (fz:=true) (fn:=Tryz.f69) Go.V.aH (UW) ai ⟨Tryz.func69,by kernel_rfl⟩ (Go.V.bH (Go.V.ay (by kernel_rfl))) ⟨⟨[.bool],[]⟩,fun x=>x.1.1⟩ (fun x=>rfl) (fun x=>by kernel_rfl)
noncomputable def FX (m:M.ae->Option (Bool)):Go.V.df Go.V.K:={f:=98,sh:=⟨[.el U.Type],[]⟩,R:=Bool,run:=fun x=>m x.1.1,dflt:=default,out:=fun r=>(Go.V.Sh.enc Go.V.D (.bool) r,Go.V.dY.encs Go.V.D [] ())}
noncomputable def Rj :Go.V.Cx Go.V.K:={P:=Tryz.prog,D:=Go.V.D,ty:=aT,jo:=aC,mode:=Go.V.bD .plain [(95, .plain)],call:=Go.V.callOf Go.V.D [C9 M.Dc],loop:=Go.V.bC []}
theorem Xt : Go.V.aI (Rj):=Go.V.ax Go.V.aH _ (Go.V.aB UR (Go.V.bM))
theorem aae : (FX (M.EH)).Ok Go.V.D Tryz.prog:=
 Go.V.bG (cx:=Rj) (c:=FX (M.EH)) (fz:=true) (fn:=Tryz.f98) Go.V.aH (Xt) ai ⟨Tryz.func98,by kernel_rfl⟩ (Go.V.bH (Go.V.ay (by kernel_rfl))) ⟨⟨[.bool],[]⟩,fun x=>x.1.1⟩ (fun x=>rfl) (fun x=>by kernel_rfl)
noncomputable def dM (m:M.af->M.ae->Option (Bool)):Go.V.df Go.V.K:={f:=99,sh:=⟨[.el U.Value, .el U.Type],[]⟩,R:=Bool,run:=fun x=>m x.1.1 x.1.2.1,dflt:=default,out:=fun r=>(Go.V.Sh.enc Go.V.D (.bool) r,Go.V.dY.encs Go.V.D [] ())}
noncomputable def DZ (m:(List M.af)->M.ae->Option (Bool)):Go.V.df Go.V.K:={f:=119,sh:=⟨[.cO U.Value, .el U.Type],[]⟩,R:=Bool,run:=fun x=>m x.1.1 x.1.2.1,dflt:=default,out:=fun r=>(Go.V.Sh.enc Go.V.D (.bool) r,Go.V.dY.encs Go.V.D [] ())}
noncomputable def Ox (aj:M.af->M.ae->Option (Bool)):Go.V.Cx Go.V.K:={P:=Tryz.prog,D:=Go.V.D,ty:=aT,jo:=aC,mode:=Go.V.bD .plain [(99, .plain)],call:=Go.V.callOf Go.V.D [dM aj],loop:=Go.V.bC []}
theorem UX (aj:M.af->M.ae->Option (Bool)) (bQ:(dM aj).Ok Go.V.D Tryz.prog):Go.V.aI (Ox aj):=Go.V.ax Go.V.aH _ (Go.V.aB bQ (Go.V.bM))
theorem Y0 (aj:M.af->M.ae->Option (Bool)) (bQ:(dM aj).Ok Go.V.D Tryz.prog):(DZ (M.xO aj)).Ok Go.V.D Tryz.prog:=
 Go.V.bG (cx:=Ox aj) (c:=DZ (M.xO aj)) (fz:=true) (fn:=Tryz.f119) Go.V.aH (UX aj bQ) ai ⟨Tryz.func119,by kernel_rfl⟩ (Go.V.bH (Go.V.ay (by kernel_rfl))) ⟨⟨[.bool],[]⟩,fun x=>x.1.1⟩ (fun x=>rfl) (fun x=>by kernel_rfl)
noncomputable def Di (y:(Bool)⊕(Unit)) {R:Type} (k:Go.V.Ex->List (Go.V.AV Go.V.K)->List (Go.V.Ob Go.V.K)->R):R:=match y with
 | .inl a0=>k Go.V.Ex.ret (Go.V.eQ.fA Go.V.D ⟨[.bool],[.dead]⟩ ((a0,()),((),()))) (Go.V.eQ.eP Go.V.D ⟨[.bool],[.dead]⟩ ((a0,()),((),())))
 | .inr (a1)=>k (Go.V.Ex.exit 0) (Go.V.eQ.fA Go.V.D ⟨[.any],[.dead]⟩ (((),()),((),()))) (Go.V.eQ.eP Go.V.D ⟨[.any],[.dead]⟩ (((),()),((),())))
noncomputable def Qe :List (Go.V.gB Go.V.K ((Bool)⊕(Unit))):=[⟨Go.V.Ex.ret,⟨[.bool],[.dead]⟩,fun x=> .inl x.1.1⟩,⟨(Go.V.Ex.exit 0),⟨[.any],[.dead]⟩,fun x=> .inr (())⟩]
noncomputable def Hw (aj:M.af->M.ae->Option (Bool)):Go.V.fJ Go.V.K:=Go.V.gU Go.V.D false 25 1 [0,5,7] [6] ⟨[.cO U.Value, .ptr 0 0, .int .i64],[.el U.Type]⟩ (fun x=>M.iY aj x.1.1 Go.V.aG x.1.2.2.1 x.2.1) Di
noncomputable def Bh (m:(List M.af)->Int->M.ae->Option (Bool)):Go.V.df Go.V.K:={f:=114,sh:=⟨[.cO U.Value, .int .i64, .el U.Type],[]⟩,R:=Bool,run:=fun x=>m x.1.1 x.1.2.1 x.1.2.2.1,dflt:=default,out:=fun r=>(Go.V.Sh.enc Go.V.D (.bool) r,Go.V.dY.encs Go.V.D [] ())}
noncomputable def yC (aj:M.af->M.ae->Option (Bool)):Go.V.Cx Go.V.K:={P:=Tryz.prog,D:=Go.V.D,ty:=aT,jo:=aC,mode:=Go.V.bD .plain [(99, .plain)],call:=Go.V.callOf Go.V.D [dM aj],loop:=Go.V.bC [(4,Hw aj)]}
theorem Hy (aj:M.af->M.ae->Option (Bool)) (bQ:(dM aj).Ok Go.V.D Tryz.prog):Go.V.aI (yC aj):=Go.V.ax Go.V.aH _ (Go.V.aB bQ (Go.V.bM))
theorem Oy (aj:M.af->M.ae->Option (Bool)) (bQ:(dM aj).Ok Go.V.D Tryz.prog):Go.V.dQ (yC aj) (Go.V.dX (Go.V.ed Tryz.f114) 0) (Hw aj):=
 Go.V.dE (cx:=yC aj) (n:=25) (n0:=1) (ins:=[0,5,7]) (outs:=[6]) (sh:=⟨[.cO U.Value, .ptr 0 0, .int .i64],[.el U.Type]⟩) (run:=fun n x=>M.iY aj x.1.1 n x.1.2.2.1 x.2.1) (fZ:=Qe) (out:=Di) Go.V.aH (Hy aj bQ) ai (Go.V.ay (by kernel_rfl)) (fun _=>rfl) (fun m x=>by kernel_rfl) (Go.V.aB ⟨Go.V.jq,fun _ _ _=>rfl⟩ (Go.V.aB ⟨Go.V.dF,fun _ _ _=>rfl⟩ (Go.V.bM))) false Go.V.aG
theorem Xu (aj:M.af->M.ae->Option (Bool)) (bQ:(dM aj).Ok Go.V.D Tryz.prog):(Bh (M.uy aj)).Ok Go.V.D Tryz.prog:=
 Go.V.bG (cx:=yC aj) (c:=Bh (M.uy aj)) (fz:=true) (fn:=Tryz.f114) Go.V.aH (Hy aj bQ) ai ⟨Tryz.func114,by kernel_rfl⟩ (Go.V.bH (Go.V.bK 1 (by kernel_rfl) (Go.V.eF (.mk (by kernel_rfl) (Oy aj bQ))))) ⟨⟨[.bool],[]⟩,fun x=>x.1.1⟩ (fun x=>rfl) (fun x=>by kernel_rfl)
noncomputable def zZ (m:Int->Option (Bool)):Go.V.df Go.V.K:={f:=115,sh:=⟨[.int .i64],[]⟩,R:=Bool,run:=fun x=>m x.1.1,dflt:=default,out:=fun r=>(Go.V.Sh.enc Go.V.D (.bool) r,Go.V.dY.encs Go.V.D [] ())}
noncomputable def Rk :Go.V.Cx Go.V.K:={P:=Tryz.prog,D:=Go.V.D,ty:=aT,jo:=aC,mode:=Go.V.bD .plain [(56, .plain)],call:=Go.V.callOf Go.V.D [qR M.FQ],loop:=Go.V.bC []}
theorem Xv : Go.V.aI (Rk):=Go.V.ax Go.V.aH _ (Go.V.aB AU (Go.V.bM))
theorem Rl : (zZ (M.kH)).Ok Go.V.D Tryz.prog:=
 Go.V.bG (cx:=Rk) (c:=zZ (M.kH)) (fz:=true) (fn:=Tryz.f115) Go.V.aH (Xv) ai ⟨Tryz.func115,by kernel_rfl⟩ (Go.V.bH (Go.V.ay (by kernel_rfl))) ⟨⟨[.bool],[]⟩,fun x=>x.1.1⟩ (fun x=>rfl) (fun x=>by kernel_rfl)
noncomputable def Dj (y:(List UInt8)×Int×Int) {R:Type} (k:Go.V.Ex->List (Go.V.AV Go.V.K)->List (Go.V.Ob Go.V.K)->R):R:=match y with
 |a0=>k (Go.V.Ex.exit 1) (Go.V.eQ.fA Go.V.D ⟨[.str, .int .i64, .int .i64],[]⟩ ((a0.1,(a0.2.1,(a0.2.2,()))),())) (Go.V.eQ.eP Go.V.D ⟨[.str, .int .i64, .int .i64],[]⟩ ((a0.1,(a0.2.1,(a0.2.2,()))),()))
noncomputable def Qg :List (Go.V.gB Go.V.K ((List UInt8)×Int×Int)):=[⟨(Go.V.Ex.exit 1),⟨[.str, .int .i64, .int .i64],[]⟩,fun x=>(x.1.1,x.1.2.1,x.1.2.2.1)⟩]
noncomputable def Hz :Go.V.fJ Go.V.K:=Go.V.gU Go.V.D false 66 0 [0,4,5,6] [0,4,5] ⟨[.str, .int .i64, .int .i64, .int .i64],[]⟩ (fun x=>M.lg x.1.1 x.1.2.1 Go.V.aG x.1.2.2.1 x.1.2.2.2.1) Dj
noncomputable def D5 (m:Int->Option ((List UInt8))):Go.V.df Go.V.K:={f:=146,sh:=⟨[.int .i64],[]⟩,R:=(List UInt8),run:=fun x=>m x.1.1,dflt:=default,out:=fun r=>(Go.V.Sh.enc Go.V.D (.str) r,Go.V.dY.encs Go.V.D [] ())}
noncomputable def Oz :Go.V.Cx Go.V.K:={P:=Tryz.prog,D:=Go.V.D,ty:=aT,jo:=aC,mode:=Go.V.bD .plain [],call:=Go.V.callOf Go.V.D [],loop:=Go.V.bC []}
theorem UY : Go.V.aI (Oz):=Go.V.ax Go.V.aH _ (Go.V.bM)
theorem Y1 : (D5 (M.rX)).Ok Go.V.D Tryz.prog:=
 Go.V.bG (cx:=Oz) (c:=D5 (M.rX)) (fz:=true) (fn:=Tryz.f146) Go.V.aH (UY) ai ⟨Tryz.func146,by kernel_rfl⟩ (Go.V.bH (Go.V.ay (by kernel_rfl))) ⟨⟨[.str],[]⟩,fun x=>x.1.1⟩ (fun x=>rfl) (fun x=>by kernel_rfl)
noncomputable def Bi (m:(List UInt8)->Option (Int×Int)):Go.V.df Go.V.K:={f:=142,sh:=⟨[.str],[]⟩,R:=Int×Int,run:=fun x=>m x.1.1,dflt:=default,out:=fun r=>(Go.V.Sh.enc Go.V.D (.mJ [.int .i64, .int .i64]) (r.1,(r.2,())),Go.V.dY.encs Go.V.D [] ())}
noncomputable def yD :Go.V.Cx Go.V.K:={P:=Tryz.prog,D:=Go.V.D,ty:=aT,jo:=aC,mode:=Go.V.bD .plain [(115, .plain),(146, .plain)],call:=Go.V.callOf Go.V.D [zZ M.kH,D5 M.rX],loop:=Go.V.bC [(13,Hz)]}
theorem HY : Go.V.aI (yD):=Go.V.ax Go.V.aH _ (Go.V.aB Rl (Go.V.aB Y1 (Go.V.bM)))
theorem OA : Go.V.dQ (yD) (Go.V.dX (Go.V.ed Tryz.f142) 0) (Hz):=
 Go.V.dE (cx:=yD) (n:=66) (n0:=0) (ins:=[0,4,5,6]) (outs:=[0,4,5]) (sh:=⟨[.str, .int .i64, .int .i64, .int .i64],[]⟩) (run:=fun n x=>M.lg x.1.1 x.1.2.1 n x.1.2.2.1 x.1.2.2.2.1) (fZ:=Qg) (out:=Dj) Go.V.aH (HY) ai (Go.V.ay (by kernel_rfl)) (fun _=>rfl) (fun m x=>by kernel_rfl) (Go.V.aB ⟨Go.V.dF,fun _ _ _=>rfl⟩ (Go.V.bM)) false Go.V.aG
theorem Xw : (Bi (M.xP)).Ok Go.V.D Tryz.prog:=
 Go.V.bG (cx:=yD) (c:=Bi (M.xP)) (fz:=true) (fn:=Tryz.f142) Go.V.aH (HY) ai ⟨Tryz.func142,by kernel_rfl⟩ (Go.V.bH (Go.V.bK 1 (by kernel_rfl) (Go.V.eF (.mk (by kernel_rfl) (OA))))) ⟨⟨[.mJ [.int .i64, .int .i64]],[]⟩,fun x=>(x.1.1.1,x.1.1.2.1)⟩ (fun x=>rfl) (fun x=>by kernel_rfl)
noncomputable def Bj (y:(Bool×(List Int))⊕((List Int))) {R:Type} (k:Go.V.Ex->List (Go.V.AV Go.V.K)->List (Go.V.Ob Go.V.K)->R):R:=match y with
 | .inl a0=>k Go.V.Ex.ret (Go.V.eQ.fA Go.V.D ⟨[.any, .own 2, .bool],[.dead, .dead, .arr U.i64]⟩ (((),((),(a0.1,()))),((),((),(a0.2,()))))) (Go.V.eQ.eP Go.V.D ⟨[.any, .own 2, .bool],[.dead, .dead, .arr U.i64]⟩ (((),((),(a0.1,()))),((),((),(a0.2,())))))
 | .inr (a1)=>k (Go.V.Ex.exit 0) (Go.V.eQ.fA Go.V.D ⟨[.own 1, .any, .any],[.dead, .arr U.i64]⟩ (((),((),((),()))),((),(a1,())))) (Go.V.eQ.eP Go.V.D ⟨[.own 1, .any, .any],[.dead, .arr U.i64]⟩ (((),((),((),()))),((),(a1,()))))
noncomputable def OB :List (Go.V.gB Go.V.K ((Bool×(List Int))⊕((List Int)))):=[⟨Go.V.Ex.ret,⟨[.any, .own 2, .bool],[.dead, .dead, .arr U.i64]⟩,fun x=> .inl (x.1.2.2.1,x.2.2.2.1)⟩,⟨(Go.V.Ex.exit 0),⟨[.own 1, .any, .any],[.dead, .arr U.i64]⟩,fun x=> .inr (x.2.2.1)⟩]
noncomputable def EI :Go.V.fJ Go.V.K:=Go.V.gU Go.V.D false 26 1 [0,4] [4,2,3] ⟨[.str, .own 1],[.dead, .arr U.i64]⟩ (fun x=>M.lV Go.V.aG x.1.1 x.2.2.1) Bj
noncomputable def zF (m:(List UInt8)->Option ((List Int)×Bool)):Go.V.df Go.V.K:={f:=130,sh:=⟨[.str],[]⟩,R:=(List Int)×Bool,run:=fun x=>m x.1.1,dflt:=default,out:=fun r=>(Go.V.Sh.enc Go.V.D (.mJ [.cO U.i64, .bool]) (r.1,(r.2,())),Go.V.dY.encs Go.V.D [] ())}
noncomputable def wF :Go.V.Cx Go.V.K:={P:=Tryz.prog,D:=Go.V.D,ty:=aT,jo:=aC,mode:=Go.V.bD .plain [(142, .plain)],call:=Go.V.callOf Go.V.D [Bi M.xP],loop:=Go.V.bC [(2,EI)]}
theorem EJ : Go.V.aI (wF):=Go.V.ax Go.V.aH _ (Go.V.aB Xw (Go.V.bM))
theorem MW : Go.V.dQ (wF) (Go.V.dX (Go.V.ed Tryz.f130) 0) (EI):=
 Go.V.dE (cx:=wF) (n:=26) (n0:=1) (ins:=[0,4]) (outs:=[4,2,3]) (sh:=⟨[.str, .own 1],[.dead, .arr U.i64]⟩) (run:=fun n x=>M.lV n x.1.1 x.2.2.1) (fZ:=OB) (out:=Bj) Go.V.aH (EJ) ai (Go.V.ay (by kernel_rfl)) (fun _=>rfl) (fun m x=>by kernel_rfl) (Go.V.aB ⟨Go.V.jq,fun _ _ _=>rfl⟩ (Go.V.aB ⟨Go.V.dF,fun _ _ _=>rfl⟩ (Go.V.bM))) false Go.V.aG
theorem UZ : (zF (M.uZ)).Ok Go.V.D Tryz.prog:=
 Go.V.bG (cx:=wF) (c:=zF (M.uZ)) (fz:=true) (fn:=Tryz.f130) Go.V.aH (EJ) ai ⟨Tryz.func130,by kernel_rfl⟩ (Go.V.bH (Go.V.bK 1 (by kernel_rfl) (Go.V.eF (.mk (by kernel_rfl) (MW))))) ⟨⟨[.mJ [.cO U.i64, .bool]],[]⟩,fun x=>(x.1.1.1,x.1.1.2.1)⟩ (fun x=>rfl) (fun x=>by kernel_rfl)
noncomputable def FY (m:(List UInt8)->Option (Bool)):Go.V.df Go.V.K:={f:=116,sh:=⟨[.str],[]⟩,R:=Bool,run:=fun x=>m x.1.1,dflt:=default,out:=fun r=>(Go.V.Sh.enc Go.V.D (.bool) r,Go.V.dY.encs Go.V.D [] ())}
noncomputable def Rn :Go.V.Cx Go.V.K:={P:=Tryz.prog,D:=Go.V.D,ty:=aT,jo:=aC,mode:=Go.V.bD .plain [(130, .uz)],call:=Go.V.callOf Go.V.D [zF M.uZ],loop:=Go.V.bC []}
theorem Xx : Go.V.aI (Rn):=Go.V.ax Go.V.aH _ (Go.V.aB UZ (Go.V.bM))
theorem aaf : (FY (M.EK)).Ok Go.V.D Tryz.prog:=
 Go.V.bG (cx:=Rn) (c:=FY (M.EK)) (fz:=true) (fn:=Tryz.f116) Go.V.aH (Xx) ai ⟨Tryz.func116,by kernel_rfl⟩ (Go.V.bH (Go.V.ay (by kernel_rfl))) ⟨⟨[.bool],[]⟩,fun x=>x.1.1⟩ (fun x=>rfl) (fun x=>by kernel_rfl)
noncomputable def H5 (y:(Bool)⊕(Unit)) {R:Type} (k:Go.V.Ex->List (Go.V.AV Go.V.K)->List (Go.V.Ob Go.V.K)->R):R:=match y with
 | .inl a0=>k Go.V.Ex.ret (Go.V.eQ.fA Go.V.D ⟨[.bool],[]⟩ ((a0,()),())) (Go.V.eQ.eP Go.V.D ⟨[.bool],[]⟩ ((a0,()),()))
 | .inr (a1)=>k (Go.V.Ex.exit 0) (Go.V.eQ.fA Go.V.D ⟨[.any],[]⟩ (((),()),())) (Go.V.eQ.eP Go.V.D ⟨[.any],[]⟩ (((),()),()))
noncomputable def U0 :List (Go.V.gB Go.V.K ((Bool)⊕(Unit))):=[⟨Go.V.Ex.ret,⟨[.bool],[]⟩,fun x=> .inl x.1.1⟩,⟨(Go.V.Ex.exit 0),⟨[.any],[]⟩,fun x=> .inr (())⟩]
noncomputable def LC (aj:M.af->M.ae->Option (Bool)):Go.V.fJ Go.V.K:=Go.V.gU Go.V.D false 27 0 [0,1,5] [4] ⟨[.cO U.Value, .cO U.Type, .int .i64],[]⟩ (fun x=>M.lh aj x.1.1 x.1.2.1 Go.V.aG x.1.2.2.1) H5
noncomputable def FZ (m:(List M.af)->(List M.ae)->Option (Bool)):Go.V.df Go.V.K:={f:=117,sh:=⟨[.cO U.Value, .cO U.Type],[]⟩,R:=Bool,run:=fun x=>m x.1.1 x.1.2.1,dflt:=default,out:=fun r=>(Go.V.Sh.enc Go.V.D (.bool) r,Go.V.dY.encs Go.V.D [] ())}
noncomputable def Dk (aj:M.af->M.ae->Option (Bool)):Go.V.Cx Go.V.K:={P:=Tryz.prog,D:=Go.V.D,ty:=aT,jo:=aC,mode:=Go.V.bD .plain [(99, .plain)],call:=Go.V.callOf Go.V.D [dM aj],loop:=Go.V.bC [(4,LC aj)]}
theorem LD (aj:M.af->M.ae->Option (Bool)) (bQ:(dM aj).Ok Go.V.D Tryz.prog):Go.V.aI (Dk aj):=Go.V.ax Go.V.aH _ (Go.V.aB bQ (Go.V.bM))
theorem TA (aj:M.af->M.ae->Option (Bool)) (bQ:(dM aj).Ok Go.V.D Tryz.prog):Go.V.dQ (Dk aj) (Go.V.dX (Go.V.ed Tryz.f117) 0) (LC aj):=
 Go.V.dE (cx:=Dk aj) (n:=27) (n0:=0) (ins:=[0,1,5]) (outs:=[4]) (sh:=⟨[.cO U.Value, .cO U.Type, .int .i64],[]⟩) (run:=fun n x=>M.lh aj x.1.1 x.1.2.1 n x.1.2.2.1) (fZ:=U0) (out:=H5) Go.V.aH (LD aj bQ) ai (Go.V.ay (by kernel_rfl)) (fun _=>rfl) (fun m x=>by kernel_rfl) (Go.V.aB ⟨Go.V.jq,fun _ _ _=>rfl⟩ (Go.V.aB ⟨Go.V.dF,fun _ _ _=>rfl⟩ (Go.V.bM))) false Go.V.aG
theorem aag (aj:M.af->M.ae->Option (Bool)) (bQ:(dM aj).Ok Go.V.D Tryz.prog):(FZ (M.EL aj)).Ok Go.V.D Tryz.prog:=
 Go.V.bG (cx:=Dk aj) (c:=FZ (M.EL aj)) (fz:=true) (fn:=Tryz.f117) Go.V.aH (LD aj bQ) ai ⟨Tryz.func117,by kernel_rfl⟩ (Go.V.bH (Go.V.bK 1 (by kernel_rfl) (Go.V.eF (.mk (by kernel_rfl) (TA aj bQ))))) ⟨⟨[.bool],[]⟩,fun x=>x.1.1⟩ (fun x=>rfl) (fun x=>by kernel_rfl)
noncomputable def Bl (m:Int->Option (Int×Int×Bool)):Go.V.df Go.V.K:={f:=118,sh:=⟨[.int .i64],[]⟩,R:=Int×Int×Bool,run:=fun x=>m x.1.1,dflt:=default,out:=fun r=>(Go.V.Sh.enc Go.V.D (.mJ [.int .i64, .int .i64, .bool]) (r.1,(r.2.1,(r.2.2,()))),Go.V.dY.encs Go.V.D [] ())}
noncomputable def LG :Go.V.Cx Go.V.K:={P:=Tryz.prog,D:=Go.V.D,ty:=aT,jo:=aC,mode:=Go.V.bD .plain [],call:=Go.V.callOf Go.V.D [],loop:=Go.V.bC []}
theorem TB : Go.V.aI (LG):=Go.V.ax Go.V.aH _ (Go.V.bM)
theorem Xy : (Bl (M.Bo)).Ok Go.V.D Tryz.prog:=
 Go.V.bG (cx:=LG) (c:=Bl (M.Bo)) (fz:=true) (fn:=Tryz.f118) Go.V.aH (TB) ai ⟨Tryz.func118,by kernel_rfl⟩ (Go.V.bH (Go.V.ay (by kernel_rfl))) ⟨⟨[.mJ [.int .i64, .int .i64, .bool]],[]⟩,fun x=>(x.1.1.1,x.1.1.2.1,x.1.1.2.2.1)⟩ (fun x=>rfl) (fun x=>by kernel_rfl)
noncomputable def OC (aj:M.af->M.ae->Option (Bool)):Go.V.Cx Go.V.K:={P:=Tryz.prog,D:=Go.V.D,ty:=aT,jo:=aC,mode:=Go.V.bD .plain [(114, .plain),(115, .plain),(116, .plain),(117, .plain),(118, .plain),(56, .plain),(119, .plain)],call:=Go.V.callOf Go.V.D [qR M.FQ,DZ (M.xO aj),Bh (M.uy aj),zZ M.kH,FY M.EK,FZ (M.EL aj),Bl M.Bo],loop:=Go.V.bC []}
theorem U1 (aj:M.af->M.ae->Option (Bool)) (bQ:(dM aj).Ok Go.V.D Tryz.prog):Go.V.aI (OC aj):=Go.V.ax Go.V.aH _ (Go.V.aB AU (Go.V.aB (Y0 aj bQ) (Go.V.aB (Xu aj bQ) (Go.V.aB Rl (Go.V.aB aaf (Go.V.aB (aag aj bQ) (Go.V.aB Xy (Go.V.bM))))))))
theorem U2 (aj:M.af->M.ae->Option (Bool)) (bQ:(dM aj).Ok Go.V.D Tryz.prog):(dM (M.nM aj)).Ok Go.V.D Tryz.prog:=
 Go.V.bG (cx:=OC aj) (c:=dM (M.nM aj)) (fz:=true) (fn:=Tryz.f99) Go.V.aH (U1 aj bQ) ai ⟨Tryz.func99,by kernel_rfl⟩ (Go.V.bH (Go.V.ay (by kernel_rfl))) ⟨⟨[.bool],[]⟩,fun x=>x.1.1⟩ (fun x=>rfl) (fun x=>by kernel_rfl)
theorem Jh : ∀n,(dM (M.qY n)).Ok Go.V.D Tryz.prog
 |0=>Go.V.ja fun _=>rfl
 |n+1=>U2 (M.qY n) (Jh n)
theorem Y2 : (dM (M.J8)).Ok Go.V.D Tryz.prog:=Jh Go.V.aG
noncomputable def MX (m:M.af->M.ae->Option (Bool)):Go.V.df Go.V.K:={f:=80,sh:=⟨[.el U.Value, .el U.Type],[]⟩,R:=Bool,run:=fun x=>m x.1.1 x.1.2.1,dflt:=default,out:=fun r=>(Go.V.Sh.enc Go.V.D (.bool) r,Go.V.dY.encs Go.V.D [] ())}
noncomputable def X8 :Go.V.Cx Go.V.K:={P:=Tryz.prog,D:=Go.V.D,ty:=aT,jo:=aC,mode:=Go.V.bD .plain [(98, .plain),(99, .plain)],call:=Go.V.callOf Go.V.D [FX M.EH,dM M.J8],loop:=Go.V.bC []}
theorem aah : Go.V.aI (X8):=Go.V.ax Go.V.aH _ (Go.V.aB aae (Go.V.aB Y2 (Go.V.bM)))
theorem adS : (MX (M.Qh)).Ok Go.V.D Tryz.prog:=
 Go.V.bG (cx:=X8) (c:=MX (M.Qh)) (fz:=true) (fn:=Tryz.f80) Go.V.aH (aah) ai ⟨Tryz.func80,by kernel_rfl⟩ (Go.V.bH (Go.V.ay (by kernel_rfl))) ⟨⟨[.bool],[]⟩,fun x=>x.1.1⟩ (fun x=>rfl) (fun x=>by kernel_rfl)
noncomputable def EM (y:(Bool)⊕(Unit)) {R:Type} (k:Go.V.Ex->List (Go.V.AV Go.V.K)->List (Go.V.Ob Go.V.K)->R):R:=match y with
 | .inl a0=>k Go.V.Ex.ret (Go.V.eQ.fA Go.V.D ⟨[.bool],[.dead]⟩ ((a0,()),((),()))) (Go.V.eQ.eP Go.V.D ⟨[.bool],[.dead]⟩ ((a0,()),((),())))
 | .inr (a1)=>k (Go.V.Ex.exit 0) (Go.V.eQ.fA Go.V.D ⟨[.any],[.dead]⟩ (((),()),((),()))) (Go.V.eQ.eP Go.V.D ⟨[.any],[.dead]⟩ (((),()),((),())))
noncomputable def TC :List (Go.V.gB Go.V.K ((Bool)⊕(Unit))):=[⟨Go.V.Ex.ret,⟨[.bool],[.dead]⟩,fun x=> .inl x.1.1⟩,⟨(Go.V.Ex.exit 0),⟨[.any],[.dead]⟩,fun x=> .inr (())⟩]
noncomputable def Ji :Go.V.fJ Go.V.K:=Go.V.gU Go.V.D false 25 1 [0,4,7] [6] ⟨[.cO U.Value, .ptr 0 0, .int .i64],[.el U.Type]⟩ (fun x=>M.jH x.1.1 Go.V.aG x.1.2.2.1 x.2.1) EM
noncomputable def D6 (m:(List M.af)->M.ae->Int->Option (Bool)):Go.V.df Go.V.K:={f:=45,sh:=⟨[.cO U.Value, .el U.Type, .int .i64],[]⟩,R:=Bool,run:=fun x=>m x.1.1 x.1.2.1 x.1.2.2.1,dflt:=default,out:=fun r=>(Go.V.Sh.enc Go.V.D (.bool) r,Go.V.dY.encs Go.V.D [] ())}
noncomputable def Aa :Go.V.Cx Go.V.K:={P:=Tryz.prog,D:=Go.V.D,ty:=aT,jo:=aC,mode:=Go.V.bD .plain [(80, .plain)],call:=Go.V.callOf Go.V.D [MX M.Qh],loop:=Go.V.bC [(4,Ji)]}
theorem Jj : Go.V.aI (Aa):=Go.V.ax Go.V.aH _ (Go.V.aB adS (Go.V.bM))
theorem Qi : Go.V.dQ (Aa) (Go.V.dX (Go.V.ed Tryz.f45) 0) (Ji):=
 Go.V.dE (cx:=Aa) (n:=25) (n0:=1) (ins:=[0,4,7]) (outs:=[6]) (sh:=⟨[.cO U.Value, .ptr 0 0, .int .i64],[.el U.Type]⟩) (run:=fun n x=>M.jH x.1.1 n x.1.2.2.1 x.2.1) (fZ:=TC) (out:=EM) Go.V.aH (Jj) ai (Go.V.ay (by kernel_rfl)) (fun _=>rfl) (fun m x=>by kernel_rfl) (Go.V.aB ⟨Go.V.jq,fun _ _ _=>rfl⟩ (Go.V.aB ⟨Go.V.dF,fun _ _ _=>rfl⟩ (Go.V.bM))) false Go.V.aG
theorem Y3 : (D6 (M.Ar)).Ok Go.V.D Tryz.prog:=
 Go.V.bG (cx:=Aa) (c:=D6 (M.Ar)) (fz:=true) (fn:=Tryz.f45) Go.V.aH (Jj) ai ⟨Tryz.func45,by kernel_rfl⟩ (Go.V.bH (Go.V.bK 1 (by kernel_rfl) (Go.V.eF (.mk (by kernel_rfl) (Qi))))) ⟨⟨[.bool],[]⟩,fun x=>x.1.1⟩ (fun x=>rfl) (fun x=>by kernel_rfl)
noncomputable def Bq (m:M.ah->Option (Bool)):Go.V.df Go.V.K:={f:=33,sh:=⟨[.el U.Stream],[]⟩,R:=Bool,run:=fun x=>m x.1.1,dflt:=default,out:=fun r=>(Go.V.Sh.enc Go.V.D (.bool) r,Go.V.dY.encs Go.V.D [] ())}
noncomputable def LH :Go.V.Cx Go.V.K:={P:=Tryz.prog,D:=Go.V.D,ty:=aT,jo:=aC,mode:=Go.V.bD .plain [(69, .plain),(56, .plain),(45, .plain)],call:=Go.V.callOf Go.V.D [DY M.Aq,qR M.FQ,D6 M.Ar],loop:=Go.V.bC []}
theorem TD : Go.V.aI (LH):=Go.V.ax Go.V.aH _ (Go.V.aB YZ (Go.V.aB AU (Go.V.aB Y3 (Go.V.bM))))
theorem Xz : (Bq (M.uA)).Ok Go.V.D Tryz.prog:=
 Go.V.bG (cx:=LH) (c:=Bq (M.uA)) (fz:=true) (fn:=Tryz.f33) Go.V.aH (TD) ai ⟨Tryz.func33,by kernel_rfl⟩ (Go.V.bH (Go.V.ay (by kernel_rfl))) ⟨⟨[.bool],[]⟩,fun x=>x.1.1⟩ (fun x=>rfl) (fun x=>by kernel_rfl)
noncomputable def kM (m:M.ae->Option (M.ae)):Go.V.df Go.V.K:={f:=70,sh:=⟨[.el U.Type],[]⟩,R:=M.ae,run:=fun x=>m x.1.1,dflt:=default,out:=fun r=>(Go.V.Sh.enc Go.V.D (.el U.Type) r,Go.V.dY.encs Go.V.D [] ())}
noncomputable def H6 (y:Int×(List UInt8)×Int×(List UInt8)×(List (List UInt8))×(List M.ae)×(List (List UInt8))×(List M.ae)) {R:Type} (k:Go.V.Ex->List (Go.V.AV Go.V.K)->List (Go.V.Ob Go.V.K)->R):R:=match y with
 |a0=>k (Go.V.Ex.exit 0) (Go.V.eQ.fA Go.V.D ⟨[.ptr 1 0, .ptr 2 0],[.dead, .box [.int .i64, .str, .own 7, .own 8], .box [.int .i64, .str, .own 9, .own 10], .dead, .dead, .dead, .dead, .arr U.str, .arr U.Type, .arr U.str, .arr U.Type]⟩ (((),((),())),((),((a0.1,(a0.2.1,((),((),())))),((a0.2.2.1,(a0.2.2.2.1,((),((),())))),((),((),((),((),(a0.2.2.2.2.1,(a0.2.2.2.2.2.1,(a0.2.2.2.2.2.2.1,(a0.2.2.2.2.2.2.2,()))))))))))))) (Go.V.eQ.eP Go.V.D ⟨[.ptr 1 0, .ptr 2 0],[.dead, .box [.int .i64, .str, .own 7, .own 8], .box [.int .i64, .str, .own 9, .own 10], .dead, .dead, .dead, .dead, .arr U.str, .arr U.Type, .arr U.str, .arr U.Type]⟩ (((),((),())),((),((a0.1,(a0.2.1,((),((),())))),((a0.2.2.1,(a0.2.2.2.1,((),((),())))),((),((),((),((),(a0.2.2.2.2.1,(a0.2.2.2.2.2.1,(a0.2.2.2.2.2.2.1,(a0.2.2.2.2.2.2.2,())))))))))))))
noncomputable def U3 :List (Go.V.gB Go.V.K (Int×(List UInt8)×Int×(List UInt8)×(List (List UInt8))×(List M.ae)×(List (List UInt8))×(List M.ae))):=[⟨(Go.V.Ex.exit 0),⟨[.ptr 1 0, .ptr 2 0],[.dead, .box [.int .i64, .str, .own 7, .own 8], .box [.int .i64, .str, .own 9, .own 10], .dead, .dead, .dead, .dead, .arr U.str, .arr U.Type, .arr U.str, .arr U.Type]⟩,fun x=>(x.2.2.1.1,x.2.2.1.2.1,x.2.2.2.1.1,x.2.2.2.1.2.1,x.2.2.2.2.2.2.2.2.1,x.2.2.2.2.2.2.2.2.2.1,x.2.2.2.2.2.2.2.2.2.2.1,x.2.2.2.2.2.2.2.2.2.2.2.1)⟩]
noncomputable def LJ (bV:M.ae->Option (M.ae)):Go.V.fJ Go.V.K:=Go.V.gU Go.V.D false 33 7 [1,2,3,4] [2,3] ⟨[.ptr 0 0, .ptr 1 0, .ptr 2 0, .int .i64],[.el U.Type, .box [.int .i64, .str, .own 7, .own 8], .box [.int .i64, .str, .own 9, .own 10], .dead, .dead, .dead, .dead, .arr U.str, .arr U.Type, .arr U.str, .arr U.Type]⟩ (fun x=>M.pJ bV x.2.2.1.1 x.2.2.1.2.1 x.2.2.2.1.1 x.2.2.2.1.2.1 x.2.2.2.2.2.2.2.2.1 x.2.2.2.2.2.2.2.2.2.1 x.2.2.2.2.2.2.2.2.2.2.1 Go.V.aG x.1.2.2.2.1 x.2.1 x.2.2.2.2.2.2.2.2.2.2.2.1) H6
noncomputable def Dl (bV:M.ae->Option (M.ae)):Go.V.Cx Go.V.K:={P:=Tryz.prog,D:=Go.V.D,ty:=aT,jo:=aC,mode:=Go.V.bD .plain [(70, .uz)],call:=Go.V.callOf Go.V.D [kM bV],loop:=Go.V.bC [(3,LJ bV)]}
theorem LK (bV:M.ae->Option (M.ae)) (qB:(kM bV).Ok Go.V.D Tryz.prog):Go.V.aI (Dl bV):=Go.V.ax Go.V.aH _ (Go.V.aB qB (Go.V.bM))
theorem TE (bV:M.ae->Option (M.ae)) (qB:(kM bV).Ok Go.V.D Tryz.prog):Go.V.dQ (Dl bV) (Go.V.dX (Go.V.ed Tryz.f70) 0) (LJ bV):=
 Go.V.dE (cx:=Dl bV) (n:=33) (n0:=7) (ins:=[1,2,3,4]) (outs:=[2,3]) (sh:=⟨[.ptr 0 0, .ptr 1 0, .ptr 2 0, .int .i64],[.el U.Type, .box [.int .i64, .str, .own 7, .own 8], .box [.int .i64, .str, .own 9, .own 10], .dead, .dead, .dead, .dead, .arr U.str, .arr U.Type, .arr U.str, .arr U.Type]⟩) (run:=fun n x=>M.pJ bV x.2.2.1.1 x.2.2.1.2.1 x.2.2.2.1.1 x.2.2.2.1.2.1 x.2.2.2.2.2.2.2.2.1 x.2.2.2.2.2.2.2.2.2.1 x.2.2.2.2.2.2.2.2.2.2.1 n x.1.2.2.2.1 x.2.1 x.2.2.2.2.2.2.2.2.2.2.2.1) (fZ:=U3) (out:=H6) Go.V.aH (LK bV qB) ai (Go.V.ay (by kernel_rfl)) (fun _=>rfl) (fun m x=>by kernel_rfl) (Go.V.aB ⟨Go.V.dF,fun _ _ _=>rfl⟩ (Go.V.bM)) false Go.V.aG
theorem XA (bV:M.ae->Option (M.ae)) (qB:(kM bV).Ok Go.V.D Tryz.prog):(kM (M.Bv bV)).Ok Go.V.D Tryz.prog:=
 Go.V.bG (cx:=Dl bV) (c:=kM (M.Bv bV)) (fz:=true) (fn:=Tryz.f70) Go.V.aH (LK bV qB) ai ⟨Tryz.func70,by kernel_rfl⟩ (Go.V.bH (Go.V.bK 1 (by kernel_rfl) (Go.V.eF (.mk (by kernel_rfl) (TE bV qB))))) ⟨⟨[.el U.Type],[]⟩,fun x=>x.1.1⟩ (fun x=>rfl) (fun x=>by kernel_rfl)
theorem LM : ∀n,(kM (M.qZ n)).Ok Go.V.D Tryz.prog
 |0=>Go.V.ja fun _=>rfl
 |n+1=>XA (M.qZ n) (LM n)
theorem aai : (kM (M.OD)).Ok Go.V.D Tryz.prog:=LM Go.V.aG
noncomputable def jh (m:M.af->Option (M.af)):Go.V.df Go.V.K:={f:=97,sh:=⟨[.el U.Value],[]⟩,R:=M.af,run:=fun x=>m x.1.1,dflt:=default,out:=fun r=>(Go.V.Sh.enc Go.V.D (.el U.Value) r,Go.V.dY.encs Go.V.D [] ())}
noncomputable def Dn (y:Int×Int×(List UInt8)×Int×Int×(List UInt8)×(List M.af)×(List M.af)) {R:Type} (k:Go.V.Ex->List (Go.V.AV Go.V.K)->List (Go.V.Ob Go.V.K)->R):R:=match y with
 |a0=>k (Go.V.Ex.exit 0) (Go.V.eQ.fA Go.V.D ⟨[.ptr 1 0, .ptr 2 0],[.dead, .box [.int .i64, .int .i64, .str, .own 5], .box [.int .i64, .int .i64, .str, .own 6], .dead, .dead, .arr U.Value, .arr U.Value]⟩ (((),((),())),((),((a0.1,(a0.2.1,(a0.2.2.1,((),())))),((a0.2.2.2.1,(a0.2.2.2.2.1,(a0.2.2.2.2.2.1,((),())))),((),((),(a0.2.2.2.2.2.2.1,(a0.2.2.2.2.2.2.2,()))))))))) (Go.V.eQ.eP Go.V.D ⟨[.ptr 1 0, .ptr 2 0],[.dead, .box [.int .i64, .int .i64, .str, .own 5], .box [.int .i64, .int .i64, .str, .own 6], .dead, .dead, .arr U.Value, .arr U.Value]⟩ (((),((),())),((),((a0.1,(a0.2.1,(a0.2.2.1,((),())))),((a0.2.2.2.1,(a0.2.2.2.2.1,(a0.2.2.2.2.2.1,((),())))),((),((),(a0.2.2.2.2.2.2.1,(a0.2.2.2.2.2.2.2,())))))))))
noncomputable def Qj :List (Go.V.gB Go.V.K (Int×Int×(List UInt8)×Int×Int×(List UInt8)×(List M.af)×(List M.af))):=[⟨(Go.V.Ex.exit 0),⟨[.ptr 1 0, .ptr 2 0],[.dead, .box [.int .i64, .int .i64, .str, .own 5], .box [.int .i64, .int .i64, .str, .own 6], .dead, .dead, .arr U.Value, .arr U.Value]⟩,fun x=>(x.2.2.1.1,x.2.2.1.2.1,x.2.2.1.2.2.1,x.2.2.2.1.1,x.2.2.2.1.2.1,x.2.2.2.1.2.2.1,x.2.2.2.2.2.2.1,x.2.2.2.2.2.2.2.1)⟩]
noncomputable def H7 (bF:M.af->Option (M.af)):Go.V.fJ Go.V.K:=Go.V.gU Go.V.D false 31 5 [1,2,3,4] [2,3] ⟨[.ptr 0 0, .ptr 1 0, .ptr 2 0, .int .i64],[.el U.Value, .box [.int .i64, .int .i64, .str, .own 5], .box [.int .i64, .int .i64, .str, .own 6], .dead, .dead, .arr U.Value, .arr U.Value]⟩ (fun x=>M.jI bF x.2.2.1.1 x.2.2.1.2.1 x.2.2.1.2.2.1 x.2.2.2.1.1 x.2.2.2.1.2.1 x.2.2.2.1.2.2.1 x.2.2.2.2.2.2.1 Go.V.aG x.1.2.2.2.1 x.2.1 x.2.2.2.2.2.2.2.1) Dn
noncomputable def yE (bF:M.af->Option (M.af)):Go.V.Cx Go.V.K:={P:=Tryz.prog,D:=Go.V.D,ty:=aT,jo:=aC,mode:=Go.V.bD .plain [(97, .uz)],call:=Go.V.callOf Go.V.D [jh bF],loop:=Go.V.bC [(3,H7 bF)]}
theorem H8 (bF:M.af->Option (M.af)) (ni:(jh bF).Ok Go.V.D Tryz.prog):Go.V.aI (yE bF):=Go.V.ax Go.V.aH _ (Go.V.aB ni (Go.V.bM))
theorem OE (bF:M.af->Option (M.af)) (ni:(jh bF).Ok Go.V.D Tryz.prog):Go.V.dQ (yE bF) (Go.V.dX (Go.V.ed Tryz.f97) 0) (H7 bF):=
 Go.V.dE (cx:=yE bF) (n:=31) (n0:=5) (ins:=[1,2,3,4]) (outs:=[2,3]) (sh:=⟨[.ptr 0 0, .ptr 1 0, .ptr 2 0, .int .i64],[.el U.Value, .box [.int .i64, .int .i64, .str, .own 5], .box [.int .i64, .int .i64, .str, .own 6], .dead, .dead, .arr U.Value, .arr U.Value]⟩) (run:=fun n x=>M.jI bF x.2.2.1.1 x.2.2.1.2.1 x.2.2.1.2.2.1 x.2.2.2.1.1 x.2.2.2.1.2.1 x.2.2.2.1.2.2.1 x.2.2.2.2.2.2.1 n x.1.2.2.2.1 x.2.1 x.2.2.2.2.2.2.2.1) (fZ:=Qj) (out:=Dn) Go.V.aH (H8 bF ni) ai (Go.V.ay (by kernel_rfl)) (fun _=>rfl) (fun m x=>by kernel_rfl) (Go.V.aB ⟨Go.V.dF,fun _ _ _=>rfl⟩ (Go.V.bM)) false Go.V.aG
theorem TF (bF:M.af->Option (M.af)) (ni:(jh bF).Ok Go.V.D Tryz.prog):(jh (M.wG bF)).Ok Go.V.D Tryz.prog:=
 Go.V.bG (cx:=yE bF) (c:=jh (M.wG bF)) (fz:=true) (fn:=Tryz.f97) Go.V.aH (H8 bF ni) ai ⟨Tryz.func97,by kernel_rfl⟩ (Go.V.bH (Go.V.bK 1 (by kernel_rfl) (Go.V.eF (.mk (by kernel_rfl) (OE bF ni))))) ⟨⟨[.el U.Value],[]⟩,fun x=>x.1.1⟩ (fun x=>rfl) (fun x=>by kernel_rfl)
theorem H9 : ∀n,(jh (M.kN n)).Ok Go.V.D Tryz.prog
 |0=>Go.V.ja fun _=>rfl
 |n+1=>TF (M.kN n) (H9 n)
theorem XB : (jh (M.F5)).Ok Go.V.D Tryz.prog:=H9 Go.V.aG
noncomputable def Bz (y:(List M.af)) {R:Type} (k:Go.V.Ex->List (Go.V.AV Go.V.K)->List (Go.V.Ob Go.V.K)->R):R:=match y with
 |a0=>k (Go.V.Ex.exit 0) (Go.V.eQ.fA Go.V.D ⟨[.own 1],[.dead, .arr U.Value]⟩ (((),()),((),(a0,())))) (Go.V.eQ.eP Go.V.D ⟨[.own 1],[.dead, .arr U.Value]⟩ (((),()),((),(a0,()))))
noncomputable def OG :List (Go.V.gB Go.V.K ((List M.af))):=[⟨(Go.V.Ex.exit 0),⟨[.own 1],[.dead, .arr U.Value]⟩,fun x=>x.2.2.1⟩]
noncomputable def EN :Go.V.fJ Go.V.K:=Go.V.gU Go.V.D false 21 1 [0,3,4] [3] ⟨[.cO U.Value, .own 1, .int .i64],[.dead, .arr U.Value]⟩ (fun x=>M.lW x.1.1 Go.V.aG x.1.2.2.1 x.2.2.1) Bz
noncomputable def zG (m:(List M.af)->Option ((List M.af))):Go.V.df Go.V.K:={f:=71,sh:=⟨[.cO U.Value],[]⟩,R:=(List M.af),run:=fun x=>m x.1.1,dflt:=default,out:=fun r=>(Go.V.Sh.enc Go.V.D (.cO U.Value) r,Go.V.dY.encs Go.V.D [] ())}
noncomputable def wH :Go.V.Cx Go.V.K:={P:=Tryz.prog,D:=Go.V.D,ty:=aT,jo:=aC,mode:=Go.V.bD .plain [(97, .uz)],call:=Go.V.callOf Go.V.D [jh M.F5],loop:=Go.V.bC [(3,EN)]}
theorem EO : Go.V.aI (wH):=Go.V.ax Go.V.aH _ (Go.V.aB XB (Go.V.bM))
theorem MZ : Go.V.dQ (wH) (Go.V.dX (Go.V.ed Tryz.f71) 0) (EN):=
 Go.V.dE (cx:=wH) (n:=21) (n0:=1) (ins:=[0,3,4]) (outs:=[3]) (sh:=⟨[.cO U.Value, .own 1, .int .i64],[.dead, .arr U.Value]⟩) (run:=fun n x=>M.lW x.1.1 n x.1.2.2.1 x.2.2.1) (fZ:=OG) (out:=Bz) Go.V.aH (EO) ai (Go.V.ay (by kernel_rfl)) (fun _=>rfl) (fun m x=>by kernel_rfl) (Go.V.aB ⟨Go.V.dF,fun _ _ _=>rfl⟩ (Go.V.bM)) false Go.V.aG
theorem U4 : (zG (M.ve)).Ok Go.V.D Tryz.prog:=
 Go.V.bG (cx:=wH) (c:=zG (M.ve)) (fz:=true) (fn:=Tryz.f71) Go.V.aH (EO) ai ⟨Tryz.func71,by kernel_rfl⟩ (Go.V.bH (Go.V.bK 1 (by kernel_rfl) (Go.V.eF (.mk (by kernel_rfl) (MZ))))) ⟨⟨[.cO U.Value],[]⟩,fun x=>x.1.1⟩ (fun x=>rfl) (fun x=>by kernel_rfl)
noncomputable def F6 (m:M.ah->Option (M.ah)):Go.V.df Go.V.K:={f:=35,sh:=⟨[.el U.Stream],[]⟩,R:=M.ah,run:=fun x=>m x.1.1,dflt:=default,out:=fun r=>(Go.V.Sh.enc Go.V.D (.el U.Stream) r,Go.V.dY.encs Go.V.D [] ())}
noncomputable def Ro :Go.V.Cx Go.V.K:={P:=Tryz.prog,D:=Go.V.D,ty:=aT,jo:=aC,mode:=Go.V.bD .plain [(70, .uz),(71, .uz)],call:=Go.V.callOf Go.V.D [kM M.OD,zG M.ve],loop:=Go.V.bC []}
theorem XC : Go.V.aI (Ro):=Go.V.ax Go.V.aH _ (Go.V.aB aai (Go.V.aB U4 (Go.V.bM)))
theorem aaj : (F6 (M.BA)).Ok Go.V.D Tryz.prog:=
 Go.V.bG (cx:=Ro) (c:=F6 (M.BA)) (fz:=true) (fn:=Tryz.f35) Go.V.aH (XC) ai ⟨Tryz.func35,by kernel_rfl⟩ (Go.V.bH (Go.V.ay (by kernel_rfl))) ⟨⟨[.el U.Stream],[]⟩,fun x=>x.1.1⟩ (fun x=>rfl) (fun x=>by kernel_rfl)
noncomputable def F7 (m:M.ae->Option (Bool)):Go.V.df Go.V.K:={f:=100,sh:=⟨[.el U.Type],[]⟩,R:=Bool,run:=fun x=>m x.1.1,dflt:=default,out:=fun r=>(Go.V.Sh.enc Go.V.D (.bool) r,Go.V.dY.encs Go.V.D [] ())}
noncomputable def Rq :Go.V.Cx Go.V.K:={P:=Tryz.prog,D:=Go.V.D,ty:=aT,jo:=aC,mode:=Go.V.bD .plain [(120, .plain),(121, .plain),(122, .plain)],call:=Go.V.callOf Go.V.D [pX M.YV,nD M.Uk,eG M.J7],loop:=Go.V.bC []}
theorem XE : Go.V.aI (Rq):=Go.V.ax Go.V.aH _ (Go.V.aB adR (Go.V.aB abT (Go.V.aB YX (Go.V.bM))))
theorem aak : (F7 (M.ER)).Ok Go.V.D Tryz.prog:=
 Go.V.bG (cx:=Rq) (c:=F7 (M.ER)) (fz:=true) (fn:=Tryz.f100) Go.V.aH (XE) ai ⟨Tryz.func100,by kernel_rfl⟩ (Go.V.bH (Go.V.ay (by kernel_rfl))) ⟨⟨[.bool],[]⟩,fun x=>x.1.1⟩ (fun x=>rfl) (fun x=>by kernel_rfl)
noncomputable def xQ (m:M.ae->Option (Bool)):Go.V.df Go.V.K:={f:=83,sh:=⟨[.el U.Type],[]⟩,R:=Bool,run:=fun x=>m x.1.1,dflt:=default,out:=fun r=>(Go.V.Sh.enc Go.V.D (.bool) r,Go.V.dY.encs Go.V.D [] ())}
noncomputable def Ia :Go.V.Cx Go.V.K:={P:=Tryz.prog,D:=Go.V.D,ty:=aT,jo:=aC,mode:=Go.V.bD .plain [(100, .plain),(101, .plain),(102, .plain)],call:=Go.V.callOf Go.V.D [F7 M.ER,wu M.Jd,eu M.qA],loop:=Go.V.bC []}
theorem OH : Go.V.aI (Ia):=Go.V.ax Go.V.aH _ (Go.V.aB aak (Go.V.aB Jc (Go.V.aB Oq (Go.V.bM))))
theorem TI : (xQ (M.rY)).Ok Go.V.D Tryz.prog:=
 Go.V.bG (cx:=Ia) (c:=xQ (M.rY)) (fz:=true) (fn:=Tryz.f83) Go.V.aH (OH) ai ⟨Tryz.func83,by kernel_rfl⟩ (Go.V.bH (Go.V.ay (by kernel_rfl))) ⟨⟨[.bool],[]⟩,fun x=>x.1.1⟩ (fun x=>rfl) (fun x=>by kernel_rfl)
noncomputable def xR (m:(List M.af)->Option (Int)):Go.V.df Go.V.K:={f:=84,sh:=⟨[.cO U.Value],[]⟩,R:=Int,run:=fun x=>m x.1.1,dflt:=default,out:=fun r=>(Go.V.Sh.enc Go.V.D (.int .i64) r,Go.V.dY.encs Go.V.D [] ())}
noncomputable def Ib :Go.V.Cx Go.V.K:={P:=Tryz.prog,D:=Go.V.D,ty:=aT,jo:=aC,mode:=Go.V.bD .plain [],call:=Go.V.callOf Go.V.D [],loop:=Go.V.bC []}
theorem OI : Go.V.aI (Ib):=Go.V.ax Go.V.aH _ (Go.V.bM)
theorem TJ : (xR (M.F8)).Ok Go.V.D Tryz.prog:=
 Go.V.bG (cx:=Ib) (c:=xR (M.F8)) (fz:=true) (fn:=Tryz.f84) Go.V.aH (OI) ai ⟨Tryz.func84,by kernel_rfl⟩ (Go.V.bH (Go.V.ay (by kernel_rfl))) ⟨⟨[.int .i64],[]⟩,fun x=>x.1.1⟩ (fun x=>rfl) (fun x=>by kernel_rfl)
noncomputable def BD (m:Int->Option (Int×Int×Bool)):Go.V.df Go.V.K:={f:=103,sh:=⟨[.int .i64],[]⟩,R:=Int×Int×Bool,run:=fun x=>m x.1.1,dflt:=default,out:=fun r=>(Go.V.Sh.enc Go.V.D (.mJ [.int .i64, .int .i64, .bool]) (r.1,(r.2.1,(r.2.2,()))),Go.V.dY.encs Go.V.D [] ())}
noncomputable def LQ :Go.V.Cx Go.V.K:={P:=Tryz.prog,D:=Go.V.D,ty:=aT,jo:=aC,mode:=Go.V.bD .plain [],call:=Go.V.callOf Go.V.D [],loop:=Go.V.bC []}
theorem TK : Go.V.aI (LQ):=Go.V.ax Go.V.aH _ (Go.V.bM)
theorem XF : (BD (M.xU)).Ok Go.V.D Tryz.prog:=
 Go.V.bG (cx:=LQ) (c:=BD (M.xU)) (fz:=true) (fn:=Tryz.f103) Go.V.aH (TK) ai ⟨Tryz.func103,by kernel_rfl⟩ (Go.V.bH (Go.V.ay (by kernel_rfl))) ⟨⟨[.mJ [.int .i64, .int .i64, .bool]],[]⟩,fun x=>(x.1.1.1,x.1.1.2.1,x.1.1.2.2.1)⟩ (fun x=>rfl) (fun x=>by kernel_rfl)
noncomputable def F9 (m:Int->Option (Bool)):Go.V.df Go.V.K:={f:=104,sh:=⟨[.int .i64],[]⟩,R:=Bool,run:=fun x=>m x.1.1,dflt:=default,out:=fun r=>(Go.V.Sh.enc Go.V.D (.bool) r,Go.V.dY.encs Go.V.D [] ())}
noncomputable def Rt :Go.V.Cx Go.V.K:={P:=Tryz.prog,D:=Go.V.D,ty:=aT,jo:=aC,mode:=Go.V.bD .plain [(62, .plain)],call:=Go.V.callOf Go.V.D [nH M.yV],loop:=Go.V.bC []}
theorem XG : Go.V.aI (Rt):=Go.V.ax Go.V.aH _ (Go.V.aB uU (Go.V.bM))
theorem aal : (F9 (M.OJ)).Ok Go.V.D Tryz.prog:=
 Go.V.bG (cx:=Rt) (c:=F9 (M.OJ)) (fz:=true) (fn:=Tryz.f104) Go.V.aH (XG) ai ⟨Tryz.func104,by kernel_rfl⟩ (Go.V.bH (Go.V.ay (by kernel_rfl))) ⟨⟨[.bool],[]⟩,fun x=>x.1.1⟩ (fun x=>rfl) (fun x=>by kernel_rfl)
noncomputable def Jk (m:M.af->M.ae->Option (Bool)):Go.V.df Go.V.K:={f:=88,sh:=⟨[.el U.Value, .el U.Type],[]⟩,R:=Bool,run:=fun x=>m x.1.1 x.1.2.1,dflt:=default,out:=fun r=>(Go.V.Sh.enc Go.V.D (.bool) r,Go.V.dY.encs Go.V.D [] ())}
noncomputable def U5 :Go.V.Cx Go.V.K:={P:=Tryz.prog,D:=Go.V.D,ty:=aT,jo:=aC,mode:=Go.V.bD .plain [(103, .plain),(104, .plain),(105, .plain),(62, .plain)],call:=Go.V.callOf Go.V.D [nH M.yV,BD M.xU,F9 M.OJ,nI M.sU],loop:=Go.V.bC []}
theorem Y4 : Go.V.aI (U5):=Go.V.ax Go.V.aH _ (Go.V.aB uU (Go.V.aB XF (Go.V.aB aal (Go.V.aB xI (Go.V.bM)))))
theorem abU : (Jk (M.J9)).Ok Go.V.D Tryz.prog:=
 Go.V.bG (cx:=U5) (c:=Jk (M.J9)) (fz:=true) (fn:=Tryz.f88) Go.V.aH (Y4) ai ⟨Tryz.func88,by kernel_rfl⟩ (Go.V.bH (Go.V.ay (by kernel_rfl))) ⟨⟨[.bool],[]⟩,fun x=>x.1.1⟩ (fun x=>rfl) (fun x=>by kernel_rfl)
noncomputable def Gf (m:(List UInt8)->Option (Bool)):Go.V.df Go.V.K:={f:=89,sh:=⟨[.str],[]⟩,R:=Bool,run:=fun x=>m x.1.1,dflt:=default,out:=fun r=>(Go.V.Sh.enc Go.V.D (.bool) r,Go.V.dY.encs Go.V.D [] ())}
noncomputable def Ru :Go.V.Cx Go.V.K:={P:=Tryz.prog,D:=Go.V.D,ty:=aT,jo:=aC,mode:=Go.V.bD .plain [(106, .plain)],call:=Go.V.callOf Go.V.D [kz M.dU],loop:=Go.V.bC []}
theorem XH : Go.V.aI (Ru):=Go.V.ax Go.V.aH _ (Go.V.aB Ac (Go.V.bM))
theorem aam : (Gf (M.ES)).Ok Go.V.D Tryz.prog:=
 Go.V.bG (cx:=Ru) (c:=Gf (M.ES)) (fz:=true) (fn:=Tryz.f89) Go.V.aH (XH) ai ⟨Tryz.func89,by kernel_rfl⟩ (Go.V.bH (Go.V.ay (by kernel_rfl))) ⟨⟨[.bool],[]⟩,fun x=>x.1.1⟩ (fun x=>rfl) (fun x=>by kernel_rfl)
noncomputable def BF (m:M.ae->Int->Option (M.ae×Bool)):Go.V.df Go.V.K:={f:=108,sh:=⟨[.el U.Type, .int .i64],[]⟩,R:=M.ae×Bool,run:=fun x=>m x.1.1 x.1.2.1,dflt:=default,out:=fun r=>(Go.V.Sh.enc Go.V.D (.mJ [.el U.Type, .bool]) (r.1,(r.2,())),Go.V.dY.encs Go.V.D [] ())}
noncomputable def LU :Go.V.Cx Go.V.K:={P:=Tryz.prog,D:=Go.V.D,ty:=aT,jo:=aC,mode:=Go.V.bD .plain [(128, .plain),(62, .plain)],call:=Go.V.callOf Go.V.D [qo M.yY,nH M.yV],loop:=Go.V.bC []}
theorem TL : Go.V.aI (LU):=Go.V.ax Go.V.aH _ (Go.V.aB Bd (Go.V.aB uU (Go.V.bM)))
theorem XI : (BF (M.rf)).Ok Go.V.D Tryz.prog:=
 Go.V.bG (cx:=LU) (c:=BF (M.rf)) (fz:=true) (fn:=Tryz.f108) Go.V.aH (TL) ai ⟨Tryz.func108,by kernel_rfl⟩ (Go.V.bH (Go.V.ay (by kernel_rfl))) ⟨⟨[.mJ [.el U.Type, .bool]],[]⟩,fun x=>(x.1.1.1,x.1.1.2.1)⟩ (fun x=>rfl) (fun x=>by kernel_rfl)
noncomputable def BG (m:M.af->M.ae->Option ((List M.ae)×Bool)):Go.V.df Go.V.K:={f:=90,sh:=⟨[.el U.Value, .el U.Type],[]⟩,R:=(List M.ae)×Bool,run:=fun x=>m x.1.1 x.1.2.1,dflt:=default,out:=fun r=>(Go.V.Sh.enc Go.V.D (.mJ [.cO U.Type, .bool]) (r.1,(r.2,())),Go.V.dY.encs Go.V.D [] ())}
noncomputable def LV :Go.V.Cx Go.V.K:={P:=Tryz.prog,D:=Go.V.D,ty:=aT,jo:=aC,mode:=Go.V.bD .plain [(107, .uz),(108, .uz),(101, .plain)],call:=Go.V.callOf Go.V.D [kP M.dZ,BF M.rf,wu M.Jd],loop:=Go.V.bC []}
theorem TM : Go.V.aI (LV):=Go.V.ax Go.V.aH _ (Go.V.aB BH (Go.V.aB XI (Go.V.aB Jc (Go.V.bM))))
theorem XJ : (BG (M.xW)).Ok Go.V.D Tryz.prog:=
 Go.V.bG (cx:=LV) (c:=BG (M.xW)) (fz:=true) (fn:=Tryz.f90) Go.V.aH (TM) ai ⟨Tryz.func90,by kernel_rfl⟩ (Go.V.bH (Go.V.ay (by kernel_rfl))) ⟨⟨[.mJ [.cO U.Type, .bool]],[]⟩,fun x=>(x.1.1.1,x.1.1.2.1)⟩ (fun x=>rfl) (fun x=>by kernel_rfl)
noncomputable def pY (m:M.af->M.ae->Option (Bool)):Go.V.df Go.V.K:={f:=51,sh:=⟨[.el U.Value, .el U.Type],[]⟩,R:=Bool,run:=fun x=>m x.1.1 x.1.2.1,dflt:=default,out:=fun r=>(Go.V.Sh.enc Go.V.D (.bool) r,Go.V.dY.encs Go.V.D [] ())}
noncomputable def LW (y:(Bool)⊕(Unit)) {R:Type} (k:Go.V.Ex->List (Go.V.AV Go.V.K)->List (Go.V.Ob Go.V.K)->R):R:=match y with
 | .inl a0=>k Go.V.Ex.ret (Go.V.eQ.fA Go.V.D ⟨[.bool],[]⟩ ((a0,()),())) (Go.V.eQ.eP Go.V.D ⟨[.bool],[]⟩ ((a0,()),()))
 | .inr (a1)=>k (Go.V.Ex.exit 0) (Go.V.eQ.fA Go.V.D ⟨[.any],[]⟩ (((),()),())) (Go.V.eQ.eP Go.V.D ⟨[.any],[]⟩ (((),()),()))
noncomputable def Y5 :List (Go.V.gB Go.V.K ((Bool)⊕(Unit))):=[⟨Go.V.Ex.ret,⟨[.bool],[]⟩,fun x=> .inl x.1.1⟩,⟨(Go.V.Ex.exit 0),⟨[.any],[]⟩,fun x=> .inr (())⟩]
noncomputable def Rw (dw:M.af->M.ae->Option (Bool)):Go.V.fJ Go.V.K:=Go.V.gU Go.V.D false 68 0 [5,53,54,55] [4] ⟨[.cO U.Type, .cO U.Value, .int .i64, .int .i64],[]⟩ (fun x=>M.qE dw x.1.1 x.1.2.1 x.1.2.2.1 Go.V.aG x.1.2.2.2.1) LW
noncomputable def Ko (dw:M.af->M.ae->Option (Bool)):Go.V.Cx Go.V.K:={P:=Tryz.prog,D:=Go.V.D,ty:=aT,jo:=aC,mode:=Go.V.bD .plain [(88, .plain),(89, .plain),(90, .uz),(51, .plain)],call:=Go.V.callOf Go.V.D [Jk M.J9,Gf M.ES,BG M.xW,pY dw],loop:=Go.V.bC [(7,Rw dw)]}
theorem Rx (dw:M.af->M.ae->Option (Bool)) (vg:(pY dw).Ok Go.V.D Tryz.prog):Go.V.aI (Ko dw):=Go.V.ax Go.V.aH _ (Go.V.aB abU (Go.V.aB aam (Go.V.aB XJ (Go.V.aB vg (Go.V.bM)))))
theorem XK (dw:M.af->M.ae->Option (Bool)) (vg:(pY dw).Ok Go.V.D Tryz.prog):Go.V.dQ (Ko dw) (Go.V.dX (Go.V.ed Tryz.f51) 0) (Rw dw):=
 Go.V.dE (cx:=Ko dw) (n:=68) (n0:=0) (ins:=[5,53,54,55]) (outs:=[4]) (sh:=⟨[.cO U.Type, .cO U.Value, .int .i64, .int .i64],[]⟩) (run:=fun n x=>M.qE dw x.1.1 x.1.2.1 x.1.2.2.1 n x.1.2.2.2.1) (fZ:=Y5) (out:=LW) Go.V.aH (Rx dw vg) ai (Go.V.ay (by kernel_rfl)) (fun _=>rfl) (fun m x=>by kernel_rfl) (Go.V.aB ⟨Go.V.jq,fun _ _ _=>rfl⟩ (Go.V.aB ⟨Go.V.dF,fun _ _ _=>rfl⟩ (Go.V.bM))) false Go.V.aG
theorem aan (dw:M.af->M.ae->Option (Bool)) (vg:(pY dw).Ok Go.V.D Tryz.prog):(pY (M.Jl dw)).Ok Go.V.D Tryz.prog:=
 Go.V.bG (cx:=Ko dw) (c:=pY (M.Jl dw)) (fz:=true) (fn:=Tryz.f51) Go.V.aH (Rx dw vg) ai ⟨Tryz.func51,by kernel_rfl⟩ (Go.V.bH (Go.V.bK 1 (by kernel_rfl) (Go.V.eF (.mk (by kernel_rfl) (XK dw vg))))) ⟨⟨[.bool],[]⟩,fun x=>x.1.1⟩ (fun x=>rfl) (fun x=>by kernel_rfl)
theorem Ry : ∀n,(pY (M.tq n)).Ok Go.V.D Tryz.prog
 |0=>Go.V.ja fun _=>rfl
 |n+1=>aan (M.tq n) (Ry n)
theorem adT : (pY (M.Y6)).Ok Go.V.D Tryz.prog:=Ry Go.V.aG
noncomputable def wJ (m:M.af->M.ah->Option (Bool)):Go.V.df Go.V.K:={f:=85,sh:=⟨[.el U.Value, .rp U.Stream 0],[]⟩,R:=Bool,run:=fun x=>m x.1.1 x.1.2.1,dflt:=default,out:=fun r=>(Go.V.Sh.enc Go.V.D (.bool) r,Go.V.dY.encs Go.V.D [] ())}
noncomputable def ET :Go.V.Cx Go.V.K:={P:=Tryz.prog,D:=Go.V.D,ty:=aT,jo:=aC,mode:=Go.V.bD .plain [(51, .plain)],call:=Go.V.callOf Go.V.D [pY M.Y6],loop:=Go.V.bC []}
theorem Nb : Go.V.aI (ET):=Go.V.ax Go.V.aH _ (Go.V.aB adT (Go.V.bM))
theorem Ql : (wJ (M.qF)).Ok Go.V.D Tryz.prog:=
 Go.V.bG (cx:=ET) (c:=wJ (M.qF)) (fz:=true) (fn:=Tryz.f85) Go.V.aH (Nb) ai ⟨Tryz.func85,by kernel_rfl⟩ (Go.V.bH (Go.V.ay (by kernel_rfl))) ⟨⟨[.bool],[]⟩,fun x=>x.1.1⟩ (fun x=>rfl) (fun x=>by kernel_rfl)
noncomputable def lq (y:(Int)⊕(Unit)) {R:Type} (k:Go.V.Ex->List (Go.V.AV Go.V.K)->List (Go.V.Ob Go.V.K)->R):R:=match y with
 | .inl a0=>k Go.V.Ex.ret (Go.V.eQ.fA Go.V.D ⟨[.int .i64],[]⟩ ((a0,()),())) (Go.V.eQ.eP Go.V.D ⟨[.int .i64],[]⟩ ((a0,()),()))
 | .inr (a1)=>k (Go.V.Ex.exit 0) (Go.V.eQ.fA Go.V.D ⟨[.any],[]⟩ (((),()),())) (Go.V.eQ.eP Go.V.D ⟨[.any],[]⟩ (((),()),()))
noncomputable def uB :List (Go.V.gB Go.V.K ((Int)⊕(Unit))):=[⟨Go.V.Ex.ret,⟨[.int .i64],[]⟩,fun x=> .inl x.1.1⟩,⟨(Go.V.Ex.exit 0),⟨[.any],[]⟩,fun x=> .inr (())⟩]
noncomputable def mW :Go.V.fJ Go.V.K:=Go.V.gU Go.V.D false 19 0 [0,1,7,8] [4] ⟨[.cO U.Value, .fn 85 [.rp U.Stream 0], .int .i64, .int .i64],[]⟩ (fun x=>M.dA x.1.1 x.1.2.1.1 x.1.2.2.1 Go.V.aG x.1.2.2.2.1) lq
noncomputable def ji (m:(List M.af)->M.ah->Option (Int)):Go.V.df Go.V.K:={f:=87,sh:=⟨[.cO U.Value, .fn 85 [.rp U.Stream 0]],[]⟩,R:=Int,run:=fun x=>m x.1.1 x.1.2.1.1,dflt:=default,out:=fun r=>(Go.V.Sh.enc Go.V.D (.int .i64) r,Go.V.dY.encs Go.V.D [] ())}
noncomputable def fU :Go.V.Cx Go.V.K:={P:=Tryz.prog,D:=Go.V.D,ty:=aT,jo:=aC,mode:=Go.V.bD .plain [(85, .plain)],call:=Go.V.callOf Go.V.D [wJ M.qF],loop:=Go.V.bC [(2,mW)]}
theorem mX : Go.V.aI (fU):=Go.V.ax Go.V.aH _ (Go.V.aB Ql (Go.V.bM))
theorem tu : Go.V.dQ (fU) (Go.V.dX (Go.V.ed Tryz.f87) 0) (mW):=
 Go.V.dE (cx:=fU) (n:=19) (n0:=0) (ins:=[0,1,7,8]) (outs:=[4]) (sh:=⟨[.cO U.Value, .fn 85 [.rp U.Stream 0], .int .i64, .int .i64],[]⟩) (run:=fun n x=>M.dA x.1.1 x.1.2.1.1 x.1.2.2.1 n x.1.2.2.2.1) (fZ:=uB) (out:=lq) Go.V.aH (mX) ai (Go.V.ay (by kernel_rfl)) (fun _=>rfl) (fun m x=>by kernel_rfl) (Go.V.aB ⟨Go.V.jq,fun _ _ _=>rfl⟩ (Go.V.aB ⟨Go.V.dF,fun _ _ _=>rfl⟩ (Go.V.bM))) false Go.V.aG
theorem xw : (ji (M.fF)).Ok Go.V.D Tryz.prog:=
 Go.V.bG (cx:=fU) (c:=ji (M.fF)) (fz:=true) (fn:=Tryz.f87) Go.V.aH (mX) ai ⟨Tryz.func87,by kernel_rfl⟩ (Go.V.bH (Go.V.bK 1 (by kernel_rfl) (Go.V.eF (.mk (by kernel_rfl) (tu))))) ⟨⟨[.int .i64],[]⟩,fun x=>x.1.1⟩ (fun x=>rfl) (fun x=>by kernel_rfl)
noncomputable def iw (m:(List M.af)->M.ah->Option (Bool)):Go.V.df Go.V.K:={f:=49,sh:=⟨[.cO U.Value, .fn 85 [.rp U.Stream 0]],[]⟩,R:=Bool,run:=fun x=>m x.1.1 x.1.2.1.1,dflt:=default,out:=fun r=>(Go.V.Sh.enc Go.V.D (.bool) r,Go.V.dY.encs Go.V.D [] ())}
noncomputable def lX :Go.V.Cx Go.V.K:={P:=Tryz.prog,D:=Go.V.D,ty:=aT,jo:=aC,mode:=Go.V.bD .plain [(87, .plain)],call:=Go.V.callOf Go.V.D [ji M.fF],loop:=Go.V.bC []}
theorem sN : Go.V.aI (lX):=Go.V.ax Go.V.aH _ (Go.V.aB xw (Go.V.bM))
theorem uC : (iw (M.dP)).Ok Go.V.D Tryz.prog:=
 Go.V.bG (cx:=lX) (c:=iw (M.dP)) (fz:=true) (fn:=Tryz.f49) Go.V.aH (sN) ai ⟨Tryz.func49,by kernel_rfl⟩ (Go.V.bH (Go.V.ay (by kernel_rfl))) ⟨⟨[.bool],[]⟩,fun x=>x.1.1⟩ (fun x=>rfl) (fun x=>by kernel_rfl)
noncomputable def Gg (m:M.ah->Option (Int)):Go.V.df Go.V.K:={f:=86,sh:=⟨[.el U.Stream],[]⟩,R:=Int,run:=fun x=>m x.1.1,dflt:=default,out:=fun r=>(Go.V.Sh.enc Go.V.D (.int .i64) r,Go.V.dY.encs Go.V.D [] ())}
noncomputable def Rz :Go.V.Cx Go.V.K:={P:=Tryz.prog,D:=Go.V.D,ty:=aT,jo:=aC,mode:=Go.V.bD .plain [],call:=Go.V.callOf Go.V.D [],loop:=Go.V.bC []}
theorem XL : Go.V.aI (Rz):=Go.V.ax Go.V.aH _ (Go.V.bM)
theorem aao : (Gg (M.EU)).Ok Go.V.D Tryz.prog:=
 Go.V.bG (cx:=Rz) (c:=Gg (M.EU)) (fz:=true) (fn:=Tryz.f86) Go.V.aH (XL) ai ⟨Tryz.func86,by kernel_rfl⟩ (Go.V.bH (Go.V.ay (by kernel_rfl))) ⟨⟨[.int .i64],[]⟩,fun x=>x.1.1⟩ (fun x=>rfl) (fun x=>by kernel_rfl)
noncomputable def BI (m:M.ah->Option (Bool)):Go.V.df Go.V.K:={f:=48,sh:=⟨[.el U.Stream],[]⟩,R:=Bool,run:=fun x=>m x.1.1,dflt:=default,out:=fun r=>(Go.V.Sh.enc Go.V.D (.bool) r,Go.V.dY.encs Go.V.D [] ())}
noncomputable def LX :Go.V.Cx Go.V.K:={P:=Tryz.prog,D:=Go.V.D,ty:=aT,jo:=aC,mode:=Go.V.bD .plain [(83, .plain),(62, .plain),(84, .plain),(49, .plain),(86, .plain)],call:=Go.V.callOf Go.V.D [xQ M.rY,nH M.yV,xR M.F8,iw M.dP,Gg M.EU],loop:=Go.V.bC []}
theorem TN : Go.V.aI (LX):=Go.V.ax Go.V.aH _ (Go.V.aB TI (Go.V.aB uU (Go.V.aB TJ (Go.V.aB uC (Go.V.aB aao (Go.V.bM))))))
theorem XM : (BI (M.uD)).Ok Go.V.D Tryz.prog:=
 Go.V.bG (cx:=LX) (c:=BI (M.uD)) (fz:=true) (fn:=Tryz.f48) Go.V.aH (TN) ai ⟨Tryz.func48,by kernel_rfl⟩ (Go.V.bH (Go.V.ay (by kernel_rfl))) ⟨⟨[.bool],[]⟩,fun x=>x.1.1⟩ (fun x=>rfl) (fun x=>by kernel_rfl)
noncomputable def xX (m:M.ah->Option (Int×(List UInt8)×Int×Bool×Int×Int×Bool×Bool×(List (List UInt8))×(List M.ae)×(List M.af))):Go.V.df Go.V.K:={f:=52,sh:=⟨[.el U.Stream],[]⟩,R:=Int×(List UInt8)×Int×Bool×Int×Int×Bool×Bool×(List (List UInt8))×(List M.ae)×(List M.af),run:=fun x=>m x.1.1,dflt:=default,out:=fun r=>(Go.V.Sh.enc Go.V.D (.agg [.int .i64, .str, .own 0, .own 1, .int .i64, .bool, .own 2, .int .i64, .int .i64, .bool, .bool]) (r.1,(r.2.1,((),((),(r.2.2.1,(r.2.2.2.1,((),(r.2.2.2.2.1,(r.2.2.2.2.2.1,(r.2.2.2.2.2.2.1,(r.2.2.2.2.2.2.2.1,()))))))))))),Go.V.dY.encs Go.V.D [.arr U.str, .tree U.Type, .tree U.Value] (r.2.2.2.2.2.2.2.2.1,(r.2.2.2.2.2.2.2.2.2.1,(r.2.2.2.2.2.2.2.2.2.2,()))))}
noncomputable def Ic :Go.V.Cx Go.V.K:={P:=Tryz.prog,D:=Go.V.D,ty:=aT,jo:=aC,mode:=Go.V.bD .plain [(91, .fresh),(92, .fresh)],rsl:=[[none,none,some U.str,some U.Type,none,none,some U.Value,none,none,none,none]],deep:=fun c=>Go.V.bZ (Go.V.D.cells c (Go.V.K.zero c)),call:=Go.V.callOf Go.V.D [gp M.FW,rW (M.kL M.uY)],loop:=Go.V.bC []}
theorem OL : Go.V.aI (Ic):=Go.V.ax Go.V.aH _ (Go.V.aB Xp (Go.V.aB (Hu M.uY UU) (Go.V.bM)))
theorem TP : (xX (M.qc)).Ok Go.V.D Tryz.prog:=
 Go.V.bG (cx:=Ic) (c:=xX (M.qc)) (fz:=false) (fn:=Tryz.f52) Go.V.aH (OL) ai ⟨Tryz.func52,by kernel_rfl⟩ (Go.V.bH (Go.V.ay (by kernel_rfl))) ⟨⟨[.agg [.int .i64, .str, .own 0, .own 1, .int .i64, .bool, .own 2, .int .i64, .int .i64, .bool, .bool]],[.arr U.str, .tree U.Type, .tree U.Value]⟩,fun x=>(x.1.1.1,x.1.1.2.1,x.1.1.2.2.2.2.1,x.1.1.2.2.2.2.2.1,x.1.1.2.2.2.2.2.2.2.1,x.1.1.2.2.2.2.2.2.2.2.1,x.1.1.2.2.2.2.2.2.2.2.2.1,x.1.1.2.2.2.2.2.2.2.2.2.2.1,x.2.1,x.2.2.1,x.2.2.2.1)⟩ (fun x=>rfl) (fun x=>by kernel_rfl)
noncomputable def BL (m:M.ah->M.ah->Option (Bool)):Go.V.df Go.V.K:={f:=12,sh:=⟨[.el U.Stream, .el U.Stream],[]⟩,R:=Bool,run:=fun x=>m x.1.1 x.1.2.1,dflt:=default,out:=fun r=>(Go.V.Sh.enc Go.V.D (.bool) r,Go.V.dY.encs Go.V.D [] ())}
noncomputable def LY :Go.V.Cx Go.V.K:={P:=Tryz.prog,D:=Go.V.D,ty:=aT,jo:=aC,mode:=Go.V.bD .plain [(39, .plain),(21, .plain)],call:=Go.V.callOf Go.V.D [jc M.IU,vW (M.pV M.Ap)],loop:=Go.V.bC []}
theorem TQ : Go.V.aI (LY):=Go.V.ax Go.V.aH _ (Go.V.aB Z9 (Go.V.aB (Lc M.Ap YR) (Go.V.bM)))
theorem XN : (BL (M.qf)).Ok Go.V.D Tryz.prog:=
 Go.V.bG (cx:=LY) (c:=BL (M.qf)) (fz:=true) (fn:=Tryz.f12) Go.V.aH (TQ) ai ⟨Tryz.func12,by kernel_rfl⟩ (Go.V.bH (Go.V.ay (by kernel_rfl))) ⟨⟨[.bool],[]⟩,fun x=>x.1.1⟩ (fun x=>rfl) (fun x=>by kernel_rfl)
noncomputable def Dq (y:(List UInt8)) {R:Type} (k:Go.V.Ex->List (Go.V.AV Go.V.K)->List (Go.V.Ob Go.V.K)->R):R:=match y with
 |a0=>k (Go.V.Ex.exit 0) (Go.V.eQ.fA Go.V.D ⟨[.str],[]⟩ ((a0,()),())) (Go.V.eQ.eP Go.V.D ⟨[.str],[]⟩ ((a0,()),()))
noncomputable def Qn :List (Go.V.gB Go.V.K ((List UInt8))):=[⟨(Go.V.Ex.exit 0),⟨[.str],[]⟩,fun x=>x.1.1⟩]
noncomputable def Ie :Go.V.fJ Go.V.K:=Go.V.gU Go.V.D false 20 0 [0,3] [3] ⟨[.int .i64, .str],[]⟩ (fun x=>M.oq Go.V.aG x.1.1 x.1.2.1) Dq
noncomputable def jO (m:Int->Option ((List UInt8))):Go.V.df Go.V.K:={f:=55,sh:=⟨[.int .i64],[]⟩,R:=(List UInt8),run:=fun x=>m x.1.1,dflt:=default,out:=fun r=>(Go.V.Sh.enc Go.V.D (.str) r,Go.V.dY.encs Go.V.D [] ())}
noncomputable def yF :Go.V.Cx Go.V.K:={P:=Tryz.prog,D:=Go.V.D,ty:=aT,jo:=aC,mode:=Go.V.bD .plain [],deep:=fun c=>Go.V.bZ (Go.V.D.cells c (Go.V.K.zero c)),call:=Go.V.callOf Go.V.D [],loop:=Go.V.bC [(4,Ie)]}
theorem Ig : Go.V.aI (yF):=Go.V.ax Go.V.aH _ (Go.V.bM)
theorem OO : Go.V.dQ (yF) (Go.V.dX (Go.V.ed Tryz.f55) 0) (Ie):=
 Go.V.dE (cx:=yF) (n:=20) (n0:=0) (ins:=[0,3]) (outs:=[3]) (sh:=⟨[.int .i64, .str],[]⟩) (run:=fun n x=>M.oq n x.1.1 x.1.2.1) (fZ:=Qn) (out:=Dq) Go.V.aH (Ig) ai (Go.V.ay (by kernel_rfl)) (fun _=>rfl) (fun m x=>by kernel_rfl) (Go.V.aB ⟨Go.V.dF,fun _ _ _=>rfl⟩ (Go.V.bM)) false Go.V.aG
theorem qH : (jO (M.fK)).Ok Go.V.D Tryz.prog:=
 Go.V.bG (cx:=yF) (c:=jO (M.fK)) (fz:=true) (fn:=Tryz.f55) Go.V.aH (Ig) ai ⟨Tryz.func55,by kernel_rfl⟩ (Go.V.bH (Go.V.bK 1 (by kernel_rfl) (Go.V.eF (.mk (by kernel_rfl) (OO))))) ⟨⟨[.str],[]⟩,fun x=>x.1.1⟩ (fun x=>rfl) (fun x=>by kernel_rfl)
noncomputable def y8 (y:Int×(List (List UInt8))) {R:Type} (k:Go.V.Ex->List (Go.V.AV Go.V.K)->List (Go.V.Ob Go.V.K)->R):R:=match y with
 |a0=>k (Go.V.Ex.exit 0) (Go.V.eQ.fA Go.V.D ⟨[.int .i64],[.arr U.str]⟩ ((a0.1,()),(a0.2,()))) (Go.V.eQ.eP Go.V.D ⟨[.int .i64],[.arr U.str]⟩ ((a0.1,()),(a0.2,())))
noncomputable def KN :List (Go.V.gB Go.V.K (Int×(List (List UInt8)))):=[⟨(Go.V.Ex.exit 0),⟨[.int .i64],[.arr U.str]⟩,fun x=>(x.1.1,x.2.1)⟩]
noncomputable def BM :Go.V.fJ Go.V.K:=Go.V.gU Go.V.D true 20 1 [0,1,5] [1] ⟨[.own 0, .int .i64, .int .i64],[.arr U.str]⟩ (fun x=>M.jB Go.V.aG x.1.2.1 x.1.2.2.1 x.2.1) y8
noncomputable def qJ (m:Int->(List (List UInt8))->Option (Int×(List (List UInt8)))):Go.V.df Go.V.K:={f:=76,sh:=⟨[.own 0, .int .i64],[.arr U.str]⟩,R:=Int×(List (List UInt8)),run:=fun x=>m x.1.2.1 x.2.1,dflt:=default,out:=fun r=>(Go.V.Sh.enc Go.V.D (.int .i64) r.1,Go.V.dY.encs Go.V.D [.arr U.str] (r.2,()))}
noncomputable def rZ :Go.V.Cx Go.V.K:={P:=Tryz.prog,D:=Go.V.D,ty:=aT,jo:=aC,mode:=Go.V.bD .plain [(55, .plain)],deep:=fun c=>Go.V.bZ (Go.V.D.cells c (Go.V.K.zero c)),opn:=true,call:=Go.V.callOf Go.V.D [jO M.fK],loop:=Go.V.bC [(2,BM)]}
theorem BN : Go.V.aI (rZ):=Go.V.ax Go.V.aH _ (Go.V.aB qH (Go.V.bM))
theorem Jn : Go.V.dQ (rZ) (Go.V.dX (Go.V.ed Tryz.f76) 0) (BM):=
 Go.V.dE (cx:=rZ) (n:=20) (n0:=1) (ins:=[0,1,5]) (outs:=[1]) (sh:=⟨[.own 0, .int .i64, .int .i64],[.arr U.str]⟩) (run:=fun n x=>M.jB n x.1.2.1 x.1.2.2.1 x.2.1) (fZ:=KN) (out:=y8) Go.V.aH (BN) ai (Go.V.ay (by kernel_rfl)) (fun _=>rfl) (fun m x=>by kernel_rfl) (Go.V.aB ⟨Go.V.dF,fun _ _ _=>rfl⟩ (Go.V.bM)) true Go.V.aG
theorem EX : (qJ (M.lu)).Ok Go.V.D Tryz.prog:=
 Go.V.bG (cx:=rZ) (c:=qJ (M.lu)) (fz:=true) (fn:=Tryz.f76) Go.V.aH (BN) ai ⟨Tryz.func76,by kernel_rfl⟩ (Go.V.bH (Go.V.bK 1 (by kernel_rfl) (Go.V.eF (.mk (by kernel_rfl) (Jn))))) ⟨⟨[.int .i64],[.arr U.str]⟩,fun x=>(x.1.1,x.2.1)⟩ (fun x=>rfl) (fun x=>by kernel_rfl)
noncomputable def iD (m:Int->(List M.ae)->Option (Int×(List M.ae))):Go.V.df Go.V.K:={f:=77,sh:=⟨[.own 0, .int .i64],[.tree U.Type]⟩,R:=Int×(List M.ae),run:=fun x=>m x.1.2.1 x.2.1,dflt:=default,out:=fun r=>(Go.V.Sh.enc Go.V.D (.int .i64) r.1,Go.V.dY.encs Go.V.D [.tree U.Type] (r.2,()))}
noncomputable def BO (y:Int×(List M.ae)) {R:Type} (k:Go.V.Ex->List (Go.V.AV Go.V.K)->List (Go.V.Ob Go.V.K)->R):R:=match y with
 |a0=>k (Go.V.Ex.exit 0) (Go.V.eQ.fA Go.V.D ⟨[.int .i64],[.tree U.Type]⟩ ((a0.1,()),(a0.2,()))) (Go.V.eQ.eP Go.V.D ⟨[.int .i64],[.tree U.Type]⟩ ((a0.1,()),(a0.2,())))
noncomputable def OQ :List (Go.V.gB Go.V.K (Int×(List M.ae))):=[⟨(Go.V.Ex.exit 0),⟨[.int .i64],[.tree U.Type]⟩,fun x=>(x.1.1,x.2.1)⟩]
noncomputable def EY (bu:Int->(List M.ae)->Option (Int×(List M.ae))):Go.V.fJ Go.V.K:=Go.V.gU Go.V.D true 42 1 [0,1,5] [1] ⟨[.own 0, .int .i64, .int .i64],[.tree U.Type]⟩ (fun x=>M.lY bu Go.V.aG x.1.2.1 x.1.2.2.1 x.2.1) BO
noncomputable def wL (bu:Int->(List M.ae)->Option (Int×(List M.ae))):Go.V.Cx Go.V.K:={P:=Tryz.prog,D:=Go.V.D,ty:=aT,jo:=aC,mode:=Go.V.bD .plain [(55, .plain),(76, .pass),(77, .pass)],deep:=fun c=>Go.V.bZ (Go.V.D.cells c (Go.V.K.zero c)),opn:=true,call:=Go.V.callOf Go.V.D [jO M.fK,qJ M.lu,iD bu],loop:=Go.V.bC [(2,EY bu)]}
theorem EZ (bu:Int->(List M.ae)->Option (Int×(List M.ae))) (lJ:(iD bu).Ok Go.V.D Tryz.prog):Go.V.aI (wL bu):=Go.V.ax Go.V.aH _ (Go.V.aB qH (Go.V.aB EX (Go.V.aB lJ (Go.V.bM))))
theorem Nj (bu:Int->(List M.ae)->Option (Int×(List M.ae))) (lJ:(iD bu).Ok Go.V.D Tryz.prog):Go.V.dQ (wL bu) (Go.V.dX (Go.V.ed Tryz.f77) 0) (EY bu):=
 Go.V.dE (cx:=wL bu) (n:=42) (n0:=1) (ins:=[0,1,5]) (outs:=[1]) (sh:=⟨[.own 0, .int .i64, .int .i64],[.tree U.Type]⟩) (run:=fun n x=>M.lY bu n x.1.2.1 x.1.2.2.1 x.2.1) (fZ:=OQ) (out:=BO) Go.V.aH (EZ bu lJ) ai (Go.V.ay (by kernel_rfl)) (fun _=>rfl) (fun m x=>by kernel_rfl) (Go.V.aB ⟨Go.V.dF,fun _ _ _=>rfl⟩ (Go.V.bM)) true Go.V.aG
theorem Qo (bu:Int->(List M.ae)->Option (Int×(List M.ae))) (lJ:(iD bu).Ok Go.V.D Tryz.prog):(iD (M.tC bu)).Ok Go.V.D Tryz.prog:=
 Go.V.bG (cx:=wL bu) (c:=iD (M.tC bu)) (fz:=true) (fn:=Tryz.f77) Go.V.aH (EZ bu lJ) ai ⟨Tryz.func77,by kernel_rfl⟩ (Go.V.bH (Go.V.bK 1 (by kernel_rfl) (Go.V.eF (.mk (by kernel_rfl) (Nj bu lJ))))) ⟨⟨[.int .i64],[.tree U.Type]⟩,fun x=>(x.1.1,x.2.1)⟩ (fun x=>rfl) (fun x=>by kernel_rfl)
theorem E5 : ∀n,(iD (M.ou n)).Ok Go.V.D Tryz.prog
 |0=>Go.V.ja fun _=>rfl
 |n+1=>Qo (M.ou n) (E5 n)
theorem U6 : (iD (M.Dt)).Ok Go.V.D Tryz.prog:=E5 Go.V.aG
noncomputable def BP (m:Int->(List UInt8)->Int->(List (List UInt8))->(List M.ae)->Option (Int×(List (List UInt8))×(List M.ae))):Go.V.df Go.V.K:={f:=40,sh:=⟨[.agg [.int .i64, .str, .own 0, .own 1], .int .i64],[.arr U.str, .tree U.Type]⟩,R:=Int×(List (List UInt8))×(List M.ae),run:=fun x=>m x.1.1.1 x.1.1.2.1 x.1.2.1 x.2.1 x.2.2.1,dflt:=default,out:=fun r=>(Go.V.Sh.enc Go.V.D (.int .i64) r.1,Go.V.dY.encs Go.V.D [.arr U.str, .tree U.Type] (r.2.1,(r.2.2,())))}
noncomputable def LZ :Go.V.Cx Go.V.K:={P:=Tryz.prog,D:=Go.V.D,ty:=aT,jo:=aC,mode:=Go.V.bD .plain [(76, .pass),(77, .pass)],deep:=fun c=>Go.V.bZ (Go.V.D.cells c (Go.V.K.zero c)),opn:=true,call:=Go.V.callOf Go.V.D [qJ M.lu,iD M.Dt],loop:=Go.V.bC []}
theorem TR : Go.V.aI (LZ):=Go.V.ax Go.V.aH _ (Go.V.aB EX (Go.V.aB U6 (Go.V.bM)))
theorem XO : (BP (M.BQ)).Ok Go.V.D Tryz.prog:=
 Go.V.bG (cx:=LZ) (c:=BP (M.BQ)) (fz:=true) (fn:=Tryz.f40) Go.V.aH (TR) ai ⟨Tryz.func40,by kernel_rfl⟩ (Go.V.bH (Go.V.ay (by kernel_rfl))) ⟨⟨[.int .i64],[.arr U.str, .tree U.Type]⟩,fun x=>(x.1.1,x.2.1,x.2.2.1)⟩ (fun x=>rfl) (fun x=>by kernel_rfl)
noncomputable def gI (m:Int->(List M.af)->Option (Int×(List M.af))):Go.V.df Go.V.K:={f:=22,sh:=⟨[.own 0, .int .i64],[.tree U.Value]⟩,R:=Int×(List M.af),run:=fun x=>m x.1.2.1 x.2.1,dflt:=default,out:=fun r=>(Go.V.Sh.enc Go.V.D (.int .i64) r.1,Go.V.dY.encs Go.V.D [.tree U.Value] (r.2,()))}
noncomputable def zL (y:Int×(List M.af)) {R:Type} (k:Go.V.Ex->List (Go.V.AV Go.V.K)->List (Go.V.Ob Go.V.K)->R):R:=match y with
 |a0=>k (Go.V.Ex.exit 0) (Go.V.eQ.fA Go.V.D ⟨[.int .i64],[.tree U.Value]⟩ ((a0.1,()),(a0.2,()))) (Go.V.eQ.eP Go.V.D ⟨[.int .i64],[.tree U.Value]⟩ ((a0.1,()),(a0.2,())))
noncomputable def Nk :List (Go.V.gB Go.V.K (Int×(List M.af))):=[⟨(Go.V.Ex.exit 0),⟨[.int .i64],[.tree U.Value]⟩,fun x=>(x.1.1,x.2.1)⟩]
noncomputable def Du (bg:Int->(List M.af)->Option (Int×(List M.af))):Go.V.fJ Go.V.K:=Go.V.gU Go.V.D true 42 1 [0,1,5] [1] ⟨[.own 0, .int .i64, .int .i64],[.tree U.Value]⟩ (fun x=>M.kC bg Go.V.aG x.1.2.1 x.1.2.2.1 x.2.1) zL
noncomputable def tV (bg:Int->(List M.af)->Option (Int×(List M.af))):Go.V.Cx Go.V.K:={P:=Tryz.prog,D:=Go.V.D,ty:=aT,jo:=aC,mode:=Go.V.bD .plain [(55, .plain),(22, .pass)],deep:=fun c=>Go.V.bZ (Go.V.D.cells c (Go.V.K.zero c)),opn:=true,call:=Go.V.callOf Go.V.D [jO M.fK,gI bg],loop:=Go.V.bC [(2,Du bg)]}
theorem Dv (bg:Int->(List M.af)->Option (Int×(List M.af))) (jV:(gI bg).Ok Go.V.D Tryz.prog):Go.V.aI (tV bg):=Go.V.ax Go.V.aH _ (Go.V.aB qH (Go.V.aB jV (Go.V.bM)))
theorem KO (bg:Int->(List M.af)->Option (Int×(List M.af))) (jV:(gI bg).Ok Go.V.D Tryz.prog):Go.V.dQ (tV bg) (Go.V.dX (Go.V.ed Tryz.f22) 0) (Du bg):=
 Go.V.dE (cx:=tV bg) (n:=42) (n0:=1) (ins:=[0,1,5]) (outs:=[1]) (sh:=⟨[.own 0, .int .i64, .int .i64],[.tree U.Value]⟩) (run:=fun n x=>M.kC bg n x.1.2.1 x.1.2.2.1 x.2.1) (fZ:=Nk) (out:=zL) Go.V.aH (Dv bg jV) ai (Go.V.ay (by kernel_rfl)) (fun _=>rfl) (fun m x=>by kernel_rfl) (Go.V.aB ⟨Go.V.dF,fun _ _ _=>rfl⟩ (Go.V.bM)) true Go.V.aG
theorem OT (bg:Int->(List M.af)->Option (Int×(List M.af))) (jV:(gI bg).Ok Go.V.D Tryz.prog):(gI (M.ru bg)).Ok Go.V.D Tryz.prog:=
 Go.V.bG (cx:=tV bg) (c:=gI (M.ru bg)) (fz:=true) (fn:=Tryz.f22) Go.V.aH (Dv bg jV) ai ⟨Tryz.func22,by kernel_rfl⟩ (Go.V.bH (Go.V.bK 1 (by kernel_rfl) (Go.V.eF (.mk (by kernel_rfl) (KO bg jV))))) ⟨⟨[.int .i64],[.tree U.Value]⟩,fun x=>(x.1.1,x.2.1)⟩ (fun x=>rfl) (fun x=>by kernel_rfl)
theorem Dw : ∀n,(gI (M.lZ n)).Ok Go.V.D Tryz.prog
 |0=>Go.V.ja fun _=>rfl
 |n+1=>OT (M.lZ n) (Dw n)
theorem TS : (gI (M.Ad)).Ok Go.V.D Tryz.prog:=Dw Go.V.aG
noncomputable def xY (m:Int->(List UInt8)->Int->Bool->Int->Int->Bool->Bool->Int->(List (List UInt8))->(List M.ae)->(List M.af)->Option (Int×(List (List UInt8))×(List M.ae)×(List M.af))):Go.V.df Go.V.K:={f:=13,sh:=⟨[.agg [.int .i64, .str, .own 0, .own 1, .int .i64, .bool, .own 2, .int .i64, .int .i64, .bool, .bool], .int .i64],[.arr U.str, .tree U.Type, .tree U.Value]⟩,R:=Int×(List (List UInt8))×(List M.ae)×(List M.af),run:=fun x=>m x.1.1.1 x.1.1.2.1 x.1.1.2.2.2.2.1 x.1.1.2.2.2.2.2.1 x.1.1.2.2.2.2.2.2.2.1 x.1.1.2.2.2.2.2.2.2.2.1 x.1.1.2.2.2.2.2.2.2.2.2.1 x.1.1.2.2.2.2.2.2.2.2.2.2.1 x.1.2.1 x.2.1 x.2.2.1 x.2.2.2.1,dflt:=default,out:=fun r=>(Go.V.Sh.enc Go.V.D (.int .i64) r.1,Go.V.dY.encs Go.V.D [.arr U.str, .tree U.Type, .tree U.Value] (r.2.1,(r.2.2.1,(r.2.2.2,()))))}
noncomputable def Ih :Go.V.Cx Go.V.K:={P:=Tryz.prog,D:=Go.V.D,ty:=aT,jo:=aC,mode:=Go.V.bD .plain [(40, .pass),(22, .pass)],deep:=fun c=>Go.V.bZ (Go.V.D.cells c (Go.V.K.zero c)),opn:=true,call:=Go.V.callOf Go.V.D [BP M.BQ,gI M.Ad],loop:=Go.V.bC []}
theorem OU : Go.V.aI (Ih):=Go.V.ax Go.V.aH _ (Go.V.aB XO (Go.V.aB TS (Go.V.bM)))
theorem TU : (xY (M.jJ)).Ok Go.V.D Tryz.prog:=
 Go.V.bG (cx:=Ih) (c:=xY (M.jJ)) (fz:=true) (fn:=Tryz.f13) Go.V.aH (OU) ai ⟨Tryz.func13,by kernel_rfl⟩ (Go.V.bH (Go.V.ay (by kernel_rfl))) ⟨⟨[.int .i64],[.arr U.str, .tree U.Type, .tree U.Value]⟩,fun x=>(x.1.1,x.2.1,x.2.2.1,x.2.2.2.1)⟩ (fun x=>rfl) (fun x=>by kernel_rfl)
noncomputable def y9 (y:(Int)⊕(Int)) {R:Type} (k:Go.V.Ex->List (Go.V.AV Go.V.K)->List (Go.V.Ob Go.V.K)->R):R:=match y with
 | .inl a0=>k Go.V.Ex.ret (Go.V.eQ.fA Go.V.D ⟨[.any, .int .i64],[]⟩ (((),(a0,())),())) (Go.V.eQ.eP Go.V.D ⟨[.any, .int .i64],[]⟩ (((),(a0,())),()))
 | .inr (a1)=>k (Go.V.Ex.exit 0) (Go.V.eQ.fA Go.V.D ⟨[.int .i64, .any],[]⟩ ((a1,((),())),())) (Go.V.eQ.eP Go.V.D ⟨[.int .i64, .any],[]⟩ ((a1,((),())),()))
noncomputable def KP :List (Go.V.gB Go.V.K ((Int)⊕(Int))):=[⟨Go.V.Ex.ret,⟨[.any, .int .i64],[]⟩,fun x=> .inl x.1.2.1⟩,⟨(Go.V.Ex.exit 0),⟨[.int .i64, .any],[]⟩,fun x=> .inr (x.1.1)⟩]
noncomputable def BR :Go.V.fJ Go.V.K:=Go.V.gU Go.V.D false 22 0 [0,1,5] [1,4] ⟨[.cO U.str, .int .i64, .int .i64],[]⟩ (fun x=>M.jC x.1.1 Go.V.aG x.1.2.1 x.1.2.2.1) y9
noncomputable def qK (m:(List (List UInt8))->Int->Option (Int)):Go.V.df Go.V.K:={f:=78,sh:=⟨[.cO U.str, .int .i64],[]⟩,R:=Int,run:=fun x=>m x.1.1 x.1.2.1,dflt:=default,out:=fun r=>(Go.V.Sh.enc Go.V.D (.int .i64) r,Go.V.dY.encs Go.V.D [] ())}
noncomputable def su :Go.V.Cx Go.V.K:={P:=Tryz.prog,D:=Go.V.D,ty:=aT,jo:=aC,mode:=Go.V.bD .plain [(55, .plain)],call:=Go.V.callOf Go.V.D [jO M.fK],loop:=Go.V.bC [(2,BR)]}
theorem BU : Go.V.aI (su):=Go.V.ax Go.V.aH _ (Go.V.aB qH (Go.V.bM))
theorem Jo : Go.V.dQ (su) (Go.V.dX (Go.V.ed Tryz.f78) 0) (BR):=
 Go.V.dE (cx:=su) (n:=22) (n0:=0) (ins:=[0,1,5]) (outs:=[1,4]) (sh:=⟨[.cO U.str, .int .i64, .int .i64],[]⟩) (run:=fun n x=>M.jC x.1.1 n x.1.2.1 x.1.2.2.1) (fZ:=KP) (out:=y9) Go.V.aH (BU) ai (Go.V.ay (by kernel_rfl)) (fun _=>rfl) (fun m x=>by kernel_rfl) (Go.V.aB ⟨Go.V.jq,fun _ _ _=>rfl⟩ (Go.V.aB ⟨Go.V.dF,fun _ _ _=>rfl⟩ (Go.V.bM))) false Go.V.aG
theorem E8 : (qK (M.jK)).Ok Go.V.D Tryz.prog:=
 Go.V.bG (cx:=su) (c:=qK (M.jK)) (fz:=true) (fn:=Tryz.f78) Go.V.aH (BU) ai ⟨Tryz.func78,by kernel_rfl⟩ (Go.V.bH (Go.V.bK 1 (by kernel_rfl) (Go.V.eF (.mk (by kernel_rfl) (Jo))))) ⟨⟨[.int .i64],[]⟩,fun x=>x.1.1⟩ (fun x=>rfl) (fun x=>by kernel_rfl)
noncomputable def iE (m:(List M.ae)->Int->Option (Int)):Go.V.df Go.V.K:={f:=79,sh:=⟨[.cO U.Type, .int .i64],[]⟩,R:=Int,run:=fun x=>m x.1.1 x.1.2.1,dflt:=default,out:=fun r=>(Go.V.Sh.enc Go.V.D (.int .i64) r,Go.V.dY.encs Go.V.D [] ())}
noncomputable def BV (y:(Int)⊕(Int)) {R:Type} (k:Go.V.Ex->List (Go.V.AV Go.V.K)->List (Go.V.Ob Go.V.K)->R):R:=match y with
 | .inl a0=>k Go.V.Ex.ret (Go.V.eQ.fA Go.V.D ⟨[.any, .int .i64],[]⟩ (((),(a0,())),())) (Go.V.eQ.eP Go.V.D ⟨[.any, .int .i64],[]⟩ (((),(a0,())),()))
 | .inr (a1)=>k (Go.V.Ex.exit 0) (Go.V.eQ.fA Go.V.D ⟨[.int .i64, .any],[]⟩ ((a1,((),())),())) (Go.V.eQ.eP Go.V.D ⟨[.int .i64, .any],[]⟩ ((a1,((),())),()))
noncomputable def OV :List (Go.V.gB Go.V.K ((Int)⊕(Int))):=[⟨Go.V.Ex.ret,⟨[.any, .int .i64],[]⟩,fun x=> .inl x.1.2.1⟩,⟨(Go.V.Ex.exit 0),⟨[.int .i64, .any],[]⟩,fun x=> .inr (x.1.1)⟩]
noncomputable def Fa (bn:(List M.ae)->Int->Option (Int)):Go.V.fJ Go.V.K:=Go.V.gU Go.V.D false 50 0 [0,1,5] [1,4] ⟨[.cO U.Type, .int .i64, .int .i64],[]⟩ (fun x=>M.l7 bn x.1.1 Go.V.aG x.1.2.1 x.1.2.2.1) BV
noncomputable def wM (bn:(List M.ae)->Int->Option (Int)):Go.V.Cx Go.V.K:={P:=Tryz.prog,D:=Go.V.D,ty:=aT,jo:=aC,mode:=Go.V.bD .plain [(55, .plain),(78, .plain),(79, .plain)],call:=Go.V.callOf Go.V.D [jO M.fK,qK M.jK,iE bn],loop:=Go.V.bC [(2,Fa bn)]}
theorem Fb (bn:(List M.ae)->Int->Option (Int)) (lK:(iE bn).Ok Go.V.D Tryz.prog):Go.V.aI (wM bn):=Go.V.ax Go.V.aH _ (Go.V.aB qH (Go.V.aB E8 (Go.V.aB lK (Go.V.bM))))
theorem Nl (bn:(List M.ae)->Int->Option (Int)) (lK:(iE bn).Ok Go.V.D Tryz.prog):Go.V.dQ (wM bn) (Go.V.dX (Go.V.ed Tryz.f79) 0) (Fa bn):=
 Go.V.dE (cx:=wM bn) (n:=50) (n0:=0) (ins:=[0,1,5]) (outs:=[1,4]) (sh:=⟨[.cO U.Type, .int .i64, .int .i64],[]⟩) (run:=fun n x=>M.l7 bn x.1.1 n x.1.2.1 x.1.2.2.1) (fZ:=OV) (out:=BV) Go.V.aH (Fb bn lK) ai (Go.V.ay (by kernel_rfl)) (fun _=>rfl) (fun m x=>by kernel_rfl) (Go.V.aB ⟨Go.V.jq,fun _ _ _=>rfl⟩ (Go.V.aB ⟨Go.V.dF,fun _ _ _=>rfl⟩ (Go.V.bM))) false Go.V.aG
theorem Qp (bn:(List M.ae)->Int->Option (Int)) (lK:(iE bn).Ok Go.V.D Tryz.prog):(iE (M.tH bn)).Ok Go.V.D Tryz.prog:=
 Go.V.bG (cx:=wM bn) (c:=iE (M.tH bn)) (fz:=true) (fn:=Tryz.f79) Go.V.aH (Fb bn lK) ai ⟨Tryz.func79,by kernel_rfl⟩ (Go.V.bH (Go.V.bK 1 (by kernel_rfl) (Go.V.eF (.mk (by kernel_rfl) (Nl bn lK))))) ⟨⟨[.int .i64],[]⟩,fun x=>x.1.1⟩ (fun x=>rfl) (fun x=>by kernel_rfl)
theorem Fe : ∀n,(iE (M.oz n)).Ok Go.V.D Tryz.prog
 |0=>Go.V.ja fun _=>rfl
 |n+1=>Qp (M.oz n) (Fe n)
theorem U7 : (iE (M.zf)).Ok Go.V.D Tryz.prog:=Fe Go.V.aG
noncomputable def BX (m:M.ae->Int->Option (Int)):Go.V.df Go.V.K:={f:=41,sh:=⟨[.el U.Type, .int .i64],[]⟩,R:=Int,run:=fun x=>m x.1.1 x.1.2.1,dflt:=default,out:=fun r=>(Go.V.Sh.enc Go.V.D (.int .i64) r,Go.V.dY.encs Go.V.D [] ())}
noncomputable def L6 :Go.V.Cx Go.V.K:={P:=Tryz.prog,D:=Go.V.D,ty:=aT,jo:=aC,mode:=Go.V.bD .plain [(78, .plain),(79, .plain)],call:=Go.V.callOf Go.V.D [qK M.jK,iE M.zf],loop:=Go.V.bC []}
theorem TV : Go.V.aI (L6):=Go.V.ax Go.V.aH _ (Go.V.aB E8 (Go.V.aB U7 (Go.V.bM)))
theorem XP : (BX (M.xZ)).Ok Go.V.D Tryz.prog:=
 Go.V.bG (cx:=L6) (c:=BX (M.xZ)) (fz:=true) (fn:=Tryz.f41) Go.V.aH (TV) ai ⟨Tryz.func41,by kernel_rfl⟩ (Go.V.bH (Go.V.ay (by kernel_rfl))) ⟨⟨[.int .i64],[]⟩,fun x=>x.1.1⟩ (fun x=>rfl) (fun x=>by kernel_rfl)
noncomputable def gJ (m:(List M.af)->Int->Option (Int)):Go.V.df Go.V.K:={f:=25,sh:=⟨[.cO U.Value, .int .i64],[]⟩,R:=Int,run:=fun x=>m x.1.1 x.1.2.1,dflt:=default,out:=fun r=>(Go.V.Sh.enc Go.V.D (.int .i64) r,Go.V.dY.encs Go.V.D [] ())}
noncomputable def zM (y:(Int)⊕(Int)) {R:Type} (k:Go.V.Ex->List (Go.V.AV Go.V.K)->List (Go.V.Ob Go.V.K)->R):R:=match y with
 | .inl a0=>k Go.V.Ex.ret (Go.V.eQ.fA Go.V.D ⟨[.any, .int .i64],[]⟩ (((),(a0,())),())) (Go.V.eQ.eP Go.V.D ⟨[.any, .int .i64],[]⟩ (((),(a0,())),()))
 | .inr (a1)=>k (Go.V.Ex.exit 0) (Go.V.eQ.fA Go.V.D ⟨[.int .i64, .any],[]⟩ ((a1,((),())),())) (Go.V.eQ.eP Go.V.D ⟨[.int .i64, .any],[]⟩ ((a1,((),())),()))
noncomputable def Np :List (Go.V.gB Go.V.K ((Int)⊕(Int))):=[⟨Go.V.Ex.ret,⟨[.any, .int .i64],[]⟩,fun x=> .inl x.1.2.1⟩,⟨(Go.V.Ex.exit 0),⟨[.int .i64, .any],[]⟩,fun x=> .inr (x.1.1)⟩]
noncomputable def Dx (aZ:(List M.af)->Int->Option (Int)):Go.V.fJ Go.V.K:=Go.V.gU Go.V.D false 50 0 [0,1,5] [1,4] ⟨[.cO U.Value, .int .i64, .int .i64],[]⟩ (fun x=>M.kD aZ x.1.1 Go.V.aG x.1.2.1 x.1.2.2.1) zM
noncomputable def tX (aZ:(List M.af)->Int->Option (Int)):Go.V.Cx Go.V.K:={P:=Tryz.prog,D:=Go.V.D,ty:=aT,jo:=aC,mode:=Go.V.bD .plain [(55, .plain),(25, .plain)],call:=Go.V.callOf Go.V.D [jO M.fK,gJ aZ],loop:=Go.V.bC [(2,Dx aZ)]}
theorem Dy (aZ:(List M.af)->Int->Option (Int)) (jW:(gJ aZ).Ok Go.V.D Tryz.prog):Go.V.aI (tX aZ):=Go.V.ax Go.V.aH _ (Go.V.aB qH (Go.V.aB jW (Go.V.bM)))
theorem KQ (aZ:(List M.af)->Int->Option (Int)) (jW:(gJ aZ).Ok Go.V.D Tryz.prog):Go.V.dQ (tX aZ) (Go.V.dX (Go.V.ed Tryz.f25) 0) (Dx aZ):=
 Go.V.dE (cx:=tX aZ) (n:=50) (n0:=0) (ins:=[0,1,5]) (outs:=[1,4]) (sh:=⟨[.cO U.Value, .int .i64, .int .i64],[]⟩) (run:=fun n x=>M.kD aZ x.1.1 n x.1.2.1 x.1.2.2.1) (fZ:=Np) (out:=zM) Go.V.aH (Dy aZ jW) ai (Go.V.ay (by kernel_rfl)) (fun _=>rfl) (fun m x=>by kernel_rfl) (Go.V.aB ⟨Go.V.jq,fun _ _ _=>rfl⟩ (Go.V.aB ⟨Go.V.dF,fun _ _ _=>rfl⟩ (Go.V.bM))) false Go.V.aG
theorem OW (aZ:(List M.af)->Int->Option (Int)) (jW:(gJ aZ).Ok Go.V.D Tryz.prog):(gJ (M.ry aZ)).Ok Go.V.D Tryz.prog:=
 Go.V.bG (cx:=tX aZ) (c:=gJ (M.ry aZ)) (fz:=true) (fn:=Tryz.f25) Go.V.aH (Dy aZ jW) ai ⟨Tryz.func25,by kernel_rfl⟩ (Go.V.bH (Go.V.bK 1 (by kernel_rfl) (Go.V.eF (.mk (by kernel_rfl) (KQ aZ jW))))) ⟨⟨[.int .i64],[]⟩,fun x=>x.1.1⟩ (fun x=>rfl) (fun x=>by kernel_rfl)
theorem Dz : ∀n,(gJ (M.l9 n)).Ok Go.V.D Tryz.prog
 |0=>Go.V.ja fun _=>rfl
 |n+1=>OW (M.l9 n) (Dz n)
theorem TW : (gJ (M.wO)).Ok Go.V.D Tryz.prog:=Dz Go.V.aG
noncomputable def x8 (m:M.ah->Int->Option (Int)):Go.V.df Go.V.K:={f:=14,sh:=⟨[.el U.Stream, .int .i64],[]⟩,R:=Int,run:=fun x=>m x.1.1 x.1.2.1,dflt:=default,out:=fun r=>(Go.V.Sh.enc Go.V.D (.int .i64) r,Go.V.dY.encs Go.V.D [] ())}
noncomputable def Ii :Go.V.Cx Go.V.K:={P:=Tryz.prog,D:=Go.V.D,ty:=aT,jo:=aC,mode:=Go.V.bD .plain [(41, .plain),(25, .plain)],call:=Go.V.callOf Go.V.D [BX M.xZ,gJ M.wO],loop:=Go.V.bC []}
theorem OX : Go.V.aI (Ii):=Go.V.ax Go.V.aH _ (Go.V.aB XP (Go.V.aB TW (Go.V.bM)))
theorem TY : (x8 (M.nN)).Ok Go.V.D Tryz.prog:=
 Go.V.bG (cx:=Ii) (c:=x8 (M.nN)) (fz:=true) (fn:=Tryz.f14) Go.V.aH (OX) ai ⟨Tryz.func14,by kernel_rfl⟩ (Go.V.bH (Go.V.ay (by kernel_rfl))) ⟨⟨[.int .i64],[]⟩,fun x=>x.1.1⟩ (fun x=>rfl) (fun x=>by kernel_rfl)
noncomputable def ahp (m:Int->Int->Option (Int)):Go.V.df Go.V.K:={f:=82,sh:=⟨[.int .i64, .int .i64],[]⟩,R:=Int,run:=fun x=>m x.1.1 x.1.2.1,dflt:=default,out:=fun r=>(Go.V.Sh.enc Go.V.D (.int .i64) r,Go.V.dY.encs Go.V.D [] ())}
noncomputable def ait :Go.V.Cx Go.V.K:={P:=Tryz.prog,D:=Go.V.D,ty:=aT,jo:=aC,mode:=Go.V.bD .plain [],call:=Go.V.callOf Go.V.D [],loop:=Go.V.bC []}
theorem aiJ : Go.V.aI (ait):=Go.V.ax Go.V.aH _ (Go.V.bM)
theorem aiN : (ahp (M.ahm)).Ok Go.V.D Tryz.prog:=
 Go.V.bG (cx:=ait) (c:=ahp (M.ahm)) (fz:=true) (fn:=Tryz.f82) Go.V.aH (aiJ) ai ⟨Tryz.func82,by kernel_rfl⟩ (Go.V.bH (Go.V.ay (by kernel_rfl))) ⟨⟨[.int .i64],[]⟩,fun x=>x.1.1⟩ (fun x=>rfl) (fun x=>by kernel_rfl)
noncomputable def ahk (m:M.ah->Int->Option (M.ah×(List M.af)×Int)):Go.V.df Go.V.K:={f:=57,sh:=⟨[.el U.Stream, .int .i64],[]⟩,R:=M.ah×(List M.af)×Int,run:=fun x=>m x.1.1 x.1.2.1,dflt:=default,out:=fun r=>(Go.V.Sh.enc Go.V.D (.mJ [.el U.Stream, .cO U.Value, .int .i64]) (r.1,(r.2.1,(r.2.2,()))),Go.V.dY.encs Go.V.D [] ())}
noncomputable def ah5 :Go.V.Cx Go.V.K:={P:=Tryz.prog,D:=Go.V.D,ty:=aT,jo:=aC,mode:=Go.V.bD .plain [(82, .plain),(71, .uz)],call:=Go.V.callOf Go.V.D [ahp M.ahm,zG M.ve],loop:=Go.V.bC []}
theorem aiD : Go.V.aI (ah5):=Go.V.ax Go.V.aH _ (Go.V.aB aiN (Go.V.aB U4 (Go.V.bM)))
theorem aiM : (ahk (M.ahn)).Ok Go.V.D Tryz.prog:=
 Go.V.bG (cx:=ah5) (c:=ahk (M.ahn)) (fz:=true) (fn:=Tryz.f57) Go.V.aH (aiD) ai ⟨Tryz.func57,by kernel_rfl⟩ (Go.V.bH (Go.V.ay (by kernel_rfl))) ⟨⟨[.mJ [.el U.Stream, .cO U.Value, .int .i64]],[]⟩,fun x=>(x.1.1.1,x.1.1.2.1,x.1.1.2.2.1)⟩ (fun x=>rfl) (fun x=>by kernel_rfl)
noncomputable def ahh (m:M.ah->Int->Option (M.ah×(List M.af)×Int)):Go.V.df Go.V.K:={f:=23,sh:=⟨[.el U.Stream, .int .i64],[]⟩,R:=M.ah×(List M.af)×Int,run:=fun x=>m x.1.1 x.1.2.1,dflt:=default,out:=fun r=>(Go.V.Sh.enc Go.V.D (.mJ [.el U.Stream, .cO U.Value, .int .i64]) (r.1,(r.2.1,(r.2.2,()))),Go.V.dY.encs Go.V.D [] ())}
noncomputable def ahs :Go.V.Cx Go.V.K:={P:=Tryz.prog,D:=Go.V.D,ty:=aT,jo:=aC,mode:=Go.V.bD .plain [(33, .plain),(56, .plain),(35, .uz),(57, .uz)],call:=Go.V.callOf Go.V.D [Bq M.uA,qR M.FQ,F6 M.BA,ahk M.ahn],loop:=Go.V.bC []}
theorem ah6 : Go.V.aI (ahs):=Go.V.ax Go.V.aH _ (Go.V.aB Xz (Go.V.aB AU (Go.V.aB aaj (Go.V.aB aiM (Go.V.bM)))))
theorem aiu : (ahh (M.agu)).Ok Go.V.D Tryz.prog:=
 Go.V.bG (cx:=ahs) (c:=ahh (M.agu)) (fz:=true) (fn:=Tryz.f23) Go.V.aH (ah6) ai ⟨Tryz.func23,by kernel_rfl⟩ (Go.V.bH (Go.V.ay (by kernel_rfl))) ⟨⟨[.mJ [.el U.Stream, .cO U.Value, .int .i64]],[]⟩,fun x=>(x.1.1.1,x.1.1.2.1,x.1.1.2.2.1)⟩ (fun x=>rfl) (fun x=>by kernel_rfl)
noncomputable def agV (m:Int->Int->(List UInt8)->Int->Bool->Int->Int->Bool->Bool->(List (List UInt8))->(List M.ae)->(List M.af)->Option (Int×Int×(List UInt8)×Int×Bool×Int×Int×Bool×Bool×(List M.af)×(List (List UInt8))×(List M.ae)×(List M.af))):Go.V.df Go.V.K:={f:=58,sh:=⟨[.ptr 0 0, .int .i64],[.box [.int .i64, .str, .own 1, .own 2, .int .i64, .bool, .own 3, .int .i64, .int .i64, .bool, .bool], .arr U.str, .tree U.Type, .tree U.Value]⟩,R:=Int×Int×(List UInt8)×Int×Bool×Int×Int×Bool×Bool×(List M.af)×(List (List UInt8))×(List M.ae)×(List M.af),run:=fun x=>m x.1.2.1 x.2.1.1 x.2.1.2.1 x.2.1.2.2.2.2.1 x.2.1.2.2.2.2.2.1 x.2.1.2.2.2.2.2.2.2.1 x.2.1.2.2.2.2.2.2.2.2.1 x.2.1.2.2.2.2.2.2.2.2.2.1 x.2.1.2.2.2.2.2.2.2.2.2.2.1 x.2.2.1 x.2.2.2.1 x.2.2.2.2.1,dflt:=default,out:=fun r=>(Go.V.Sh.enc Go.V.D (.mJ [.own 4, .int .i64]) ((),(r.1,())),Go.V.dY.encs Go.V.D [.box [.int .i64, .str, .own 5, .own 6, .int .i64, .bool, .own 7, .int .i64, .int .i64, .bool, .bool], .dead, .dead, .dead, .tree U.Value, .arr U.str, .tree U.Type, .tree U.Value] ((r.2.1,(r.2.2.1,((),((),(r.2.2.2.1,(r.2.2.2.2.1,((),(r.2.2.2.2.2.1,(r.2.2.2.2.2.2.1,(r.2.2.2.2.2.2.2.1,(r.2.2.2.2.2.2.2.2.1,()))))))))))),((),((),((),(r.2.2.2.2.2.2.2.2.2.1,(r.2.2.2.2.2.2.2.2.2.2.1,(r.2.2.2.2.2.2.2.2.2.2.2.1,(r.2.2.2.2.2.2.2.2.2.2.2.2,())))))))))}
noncomputable def aho :Go.V.Cx Go.V.K:={P:=Tryz.prog,D:=Go.V.D,ty:=aT,jo:=aC,mode:=Go.V.bD .plain [(62, .plain),(84, .plain),(92, .fresh)],rsl:=[[some U.Value],[]],cut:=true,deep:=fun c=>Go.V.bZ (Go.V.D.cells c (Go.V.K.zero c)),vws:=true,mv:=true,call:=Go.V.callOf Go.V.D [nH M.yV,xR M.F8,rW (M.kL M.uY)],loop:=Go.V.bC []}
theorem ah0 : Go.V.aI (aho):=Go.V.ax Go.V.aH _ (Go.V.aB uU (Go.V.aB TJ (Go.V.aB (Hu M.uY UU) (Go.V.bM))))
theorem air : (agV (M.agU)).Ok Go.V.D Tryz.prog:=
 Go.V.bG (cx:=aho) (c:=agV (M.agU)) (fz:=false) (fn:=Tryz.f58) Go.V.aH (ah0) ai ⟨Tryz.func58,by kernel_rfl⟩ (Go.V.bH (Go.V.ay (by kernel_rfl))) ⟨⟨[.mJ [.own 4, .int .i64]],[.box [.int .i64, .str, .own 5, .own 6, .int .i64, .bool, .own 7, .int .i64, .int .i64, .bool, .bool], .dead, .dead, .dead, .tree U.Value, .arr U.str, .tree U.Type, .tree U.Value]⟩,fun x=>(x.1.1.2.1,x.2.1.1,x.2.1.2.1,x.2.1.2.2.2.2.1,x.2.1.2.2.2.2.2.1,x.2.1.2.2.2.2.2.2.2.1,x.2.1.2.2.2.2.2.2.2.2.1,x.2.1.2.2.2.2.2.2.2.2.2.1,x.2.1.2.2.2.2.2.2.2.2.2.2.1,x.2.2.2.2.2.1,x.2.2.2.2.2.2.1,x.2.2.2.2.2.2.2.1,x.2.2.2.2.2.2.2.2.1)⟩ (fun x=>rfl) (fun x=>by kernel_rfl)
noncomputable def ahi (m:M.ah->Int->Option (Int×(List UInt8)×Int×Bool×Int×Int×Bool×Bool×Int×(List (List UInt8))×(List M.ae)×(List M.af)×(List M.af))):Go.V.df Go.V.K:={f:=24,sh:=⟨[.el U.Stream, .int .i64],[]⟩,R:=Int×(List UInt8)×Int×Bool×Int×Int×Bool×Bool×Int×(List (List UInt8))×(List M.ae)×(List M.af)×(List M.af),run:=fun x=>m x.1.1 x.1.2.1,dflt:=default,out:=fun r=>(Go.V.Sh.enc Go.V.D (.mJ [.agg [.int .i64, .str, .own 0, .own 1, .int .i64, .bool, .own 2, .int .i64, .int .i64, .bool, .bool], .own 3, .int .i64]) ((r.1,(r.2.1,((),((),(r.2.2.1,(r.2.2.2.1,((),(r.2.2.2.2.1,(r.2.2.2.2.2.1,(r.2.2.2.2.2.2.1,(r.2.2.2.2.2.2.2.1,()))))))))))),((),(r.2.2.2.2.2.2.2.2.1,()))),Go.V.dY.encs Go.V.D [.arr U.str, .tree U.Type, .tree U.Value, .tree U.Value] (r.2.2.2.2.2.2.2.2.2.1,(r.2.2.2.2.2.2.2.2.2.2.1,(r.2.2.2.2.2.2.2.2.2.2.2.1,(r.2.2.2.2.2.2.2.2.2.2.2.2,())))))}
noncomputable def ahU :Go.V.Cx Go.V.K:={P:=Tryz.prog,D:=Go.V.D,ty:=aT,jo:=aC,mode:=Go.V.bD .plain [(48, .plain),(52, .fresh),(58, .aeG)],rsl:=[[none,none,some U.str,some U.Type,none,none,some U.Value,none,none,none,none],[some U.Value],[]],deep:=fun c=>Go.V.bZ (Go.V.D.cells c (Go.V.K.zero c)),call:=Go.V.callOf Go.V.D [BI M.uD,xX M.qc,agV M.agU],loop:=Go.V.bC []}
theorem aik : Go.V.aI (ahU):=Go.V.ax Go.V.aH _ (Go.V.aB XM (Go.V.aB TP (Go.V.aB air (Go.V.bM))))
theorem aiC : (ahi (M.agv)).Ok Go.V.D Tryz.prog:=
 Go.V.bG (cx:=ahU) (c:=ahi (M.agv)) (fz:=false) (fn:=Tryz.f24) Go.V.aH (aik) ai ⟨Tryz.func24,by kernel_rfl⟩ (Go.V.bH (Go.V.ay (by kernel_rfl))) ⟨⟨[.mJ [.agg [.int .i64, .str, .own 0, .own 1, .int .i64, .bool, .own 2, .int .i64, .int .i64, .bool, .bool], .own 3, .int .i64]],[.arr U.str, .tree U.Type, .tree U.Value, .tree U.Value]⟩,fun x=>(x.1.1.1.1,x.1.1.1.2.1,x.1.1.1.2.2.2.2.1,x.1.1.1.2.2.2.2.2.1,x.1.1.1.2.2.2.2.2.2.2.1,x.1.1.1.2.2.2.2.2.2.2.2.1,x.1.1.1.2.2.2.2.2.2.2.2.2.1,x.1.1.1.2.2.2.2.2.2.2.2.2.2.1,x.1.1.2.2.1,x.2.1,x.2.2.1,x.2.2.2.1,x.2.2.2.2.1)⟩ (fun x=>rfl) (fun x=>by kernel_rfl)
noncomputable def agt (m:M.ah->Int->Option (Bool)):Go.V.df Go.V.K:={f:=6,sh:=⟨[.el U.Stream, .int .i64],[]⟩,R:=Bool,run:=fun x=>m x.1.1 x.1.2.1,dflt:=default,out:=fun r=>(Go.V.Sh.enc Go.V.D (.bool) r,Go.V.dY.encs Go.V.D [] ())}
noncomputable def agX :Go.V.Cx Go.V.K:={P:=Tryz.prog,D:=Go.V.D,ty:=aT,jo:=aC,mode:=Go.V.bD .plain [(8, .plain),(10, .fresh),(23, .uz),(24, .fresh),(12, .plain),(21, .plain),(13, .pass),(22, .pass),(14, .plain),(25, .plain)],deep:=fun c=>Go.V.bZ (Go.V.D.cells c (Go.V.K.zero c)),call:=Go.V.callOf Go.V.D [Bf M.uu,Bg M.uw,ahh M.agu,ahi M.agv,BL M.qf,vW (M.pV M.Ap),xY M.jJ,gI M.Ad,x8 M.nN,gJ M.wO],loop:=Go.V.bC []}
theorem ahl : Go.V.aI (agX):=Go.V.ax Go.V.aH _ (Go.V.aB Xq (Go.V.aB Xr (Go.V.aB aiu (Go.V.aB aiC (Go.V.aB XN (Go.V.aB (Lc M.Ap YR) (Go.V.aB TU (Go.V.aB TS (Go.V.aB TY (Go.V.aB TW (Go.V.bM)))))))))))
theorem ahq : (agt (M.agr)).Ok Go.V.D Tryz.prog:=
 Go.V.bG (cx:=agX) (c:=agt (M.agr)) (fz:=true) (fn:=Tryz.f6) Go.V.aH (ahl) ai ⟨Tryz.func6,by kernel_rfl⟩ (Go.V.bH (Go.V.ay (by kernel_rfl))) ⟨⟨[.bool],[]⟩,fun x=>x.1.1⟩ (fun x=>rfl) (fun x=>by kernel_rfl)
