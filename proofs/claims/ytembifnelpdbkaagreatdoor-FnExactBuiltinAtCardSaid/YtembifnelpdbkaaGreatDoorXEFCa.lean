/-
  Part of the proof of the claim.
-/
import Derived.Test.YtembifnelpdbkaaGreatDoorXEFM
import Derived.Test.YtembifnelpdbkaaGreatDoorXEHdA
import Derived.Test.YtembifnelpdbkaaGreatDoorXEHd4
import Derived.Test.YtembifnelpdbkaaGreatDoorXEHdV
import Derived.Test.YtembifnelpdbkaaGreatDoorProg
set_option linter.unusedVariables false
set_option maxRecDepth 100000
open Go Go.Proofs
open Go.V
noncomputable section
def awD : Go.TypeId->Option U:=ry [(2,U.i64),(3,U.i64),(4,U.bool),(5,U.u8),(6,U.u8),(9,U.str),(10,U.str),(11,U.str),(12,U.u64),(21,U.i32),(22,U.Xu),(23,U.G5),(24,U.Xv),(26,U.Module),(27,U.Xw),(28,U.NR),(29,U.Cb),(31,U.bJ),(34,U.Xu),(35,U.G5),(36,U.Xv),(38,U.Module),(39,U.Xw),(40,U.NR),(41,U.Cb),(43,U.bJ),(49,U.Builtin),(78,U.anZ),(79,U.Xx),(81,U.bV),(86,U.qZ),(89,U.Lower),(91,U.Builtin),(93,U.Xx),(95,U.bV),(99,U.qZ),(101,U.Lower),(108,U.NS),(109,U.Xy),(111,U.Type),(113,U.eQ),(115,U.Func),(122,U.Sl),(126,U.bound),(128,U.aj8),(130,U.Core),(132,U.Import),(142,U.Import),(144,U.aj8),(146,U.Core),(165,U.Qi),(180,U.NS),(181,U.Xy),(183,U.Type),(185,U.eQ),(187,U.Func),(193,U.Param),(210,U.y9),(211,U.zf),(225,U.Ins),(227,U.Ins),(241,U.checker),(243,U.gp),(252,U.u64),(257,U.awE),(264,U.aim),(272,U.i64),(273,U.u64),(286,U.Qi),(288,U.CodeBlock),(296,U.i64),(305,U.u32),(311,U.Param),(331,U.u64),(365,U.u8),(366,U.u8),(368,U.i32),(369,U.i32)]
def aBR : Go.TypeId->List (Option U):=uX [] [(22,[some U.bV]),(23,[some U.Import]),(24,[some U.Core]),(26,[none,some U.Import,some U.Core]),(27,[some U.qZ]),(28,[some U.Lower]),(29,[some U.Builtin]),(31,[none,none,some U.bV,some U.bV,none,none,none,some U.Import,some U.Core,some U.qZ,some U.Lower,some U.Builtin]),(34,[some U.bV]),(35,[some U.Import]),(36,[some U.Core]),(38,[none,some U.Import,some U.Core]),(39,[some U.qZ]),(40,[some U.Lower]),(41,[some U.Builtin]),(43,[none,none,some U.bV,some U.bV,none,none,none,some U.Import,some U.Core,some U.qZ,some U.Lower,some U.Builtin]),(78,[some U.str]),(79,[some U.Func]),(81,[none,none,none,some U.str,some U.Func]),(93,[some U.Func]),(95,[none,none,none,some U.str,some U.Func]),(108,[some U.Param]),(109,[some U.Type]),(111,[none,none,some U.str,some U.Type]),(113,[some U.Param,none,none,some U.str,some U.Type,none]),(115,[none,some U.Param,none,none,some U.str,some U.Type,none]),(122,[some U.bound]),(126,[none,none,some U.Param,none,none,some U.str,some U.Type,none]),(128,[some U.Ins]),(130,[none,none,none,none,some U.Ins]),(144,[some U.Ins]),(146,[none,none,none,none,some U.Ins]),(165,[some U.i64]),(180,[some U.Param]),(181,[some U.Type]),(183,[none,none,some U.str,some U.Type]),(185,[some U.Param,none,none,some U.str,some U.Type,none]),(187,[none,some U.Param,none,none,some U.str,some U.Type,none]),(193,[none,none,none,some U.str,some U.Type]),(210,[some U.gp]),(211,[some U.CodeBlock]),(241,[none,some U.Import,some U.Core,none,none,none,none,some U.Ins,some U.CodeBlock,none,some U.i64,some U.i64,none,none]),(243,[none,none,some U.i64]),(257,[some U.u8]),(264,[none,some U.Import,some U.Core,none,none,none,none,some U.Ins,some U.CodeBlock,some U.i64,none,none]),(286,[some U.i64]),(311,[none,none,none,some U.str,some U.Type])]
theorem aH : Tryz.prog.follows .mixedOrders=true:=by kernel_rfl
abbrev dA (c:bC K):Prop:=c.Ok D Tryz.prog
abbrev KT (R:Type):=Ex->List (AV K)->List (Ob K)->R
def kk {R:Type} (k:KT R) (e:Ex) (s:ZC K) (v:s.T):R:=k e (ZC.ain D s v) (ZC.Xz D s v)
def cB (f:FuncId) (sh:ZC K) (run:sh.T->Option Bool):bC K:={f:=f,sh:=sh,R:=Bool,run:=run,dflt:=default,out:=fun r=>(Sh.enc D (.bool) r,iY.encs D [] ())}
def cI (f:FuncId) (sh:ZC K) (run:sh.T->Option Int):bC K:={f:=f,sh:=sh,R:=Int,run:=run,dflt:=default,out:=fun r=>(Sh.enc D (.int .i64) r,iY.encs D [] ())}
def cS (f:FuncId) (sh:ZC K) (run:sh.T->Option (List UInt8)):bC K:={f:=f,sh:=sh,R:=List UInt8,run:=run,dflt:=default,out:=fun r=>(Sh.enc D (.str) r,iY.encs D [] ())}
def cx0 : Cx K:={P:=Tryz.prog,D:=D,ty:=awD,sls:=aBR,mode:=uX .plain [],call:=callOf D [],loop:=ry []}
def fG (m:List (FuncId×Go.V.Mode)) (c:List (bC K)) (l:List (Nat×cZ K)):Cx K:={cx0 with mode:=uX .plain m,call:=callOf D c,loop:=ry l}
theorem fK {cx:Cx K} (fz:Bool) (hc:aG cx) {c:bC K} {fn:Func} (hg:cx.P.funcs[c.f]? =some fn) (hl:∀b,fn.body=some b->qR cx b) (d:azQ K cx.D c.R) (he:∀x,aBS cx fz fn (c.sh.ain cx.D x) (c.sh.Xz cx.D x) d.fin=c.run x) (hD:dL cx.D:=by exact aQ) (hm:cx.P.follows .mixedOrders=true:=by exact aH) (hn:(fn.name== "runtime.NumGoroutine")=false:=by kernel_rfl) (ho:∀x,([(c.out (d.conv x)).1],(c.out (d.conv x)).2)=(d.sh.ain cx.D x,d.sh.Xz cx.D x):=by exact fun x=>rfl):c.Ok cx.D cx.P:=uA hD hc hm ⟨hg,hn⟩ hl d ho he
def XA (m:M.aF->Int->Option Int):bC K:=cI 86 ⟨[.el U.Import, .int .i64],[]⟩ (fun x=>m x.1.1 x.1.2.1)
def abN : Cx K:=fG [] [] []
theorem alY : aG abN:=ai aQ _ aW
theorem aqL : dA (XA (M.Lc)):= fK (cx:=abN) true alY Tryz.func86 (aV (ah (by kernel_rfl))) ⟨⟨[.int .i64],[]⟩,fun x=>x.1.1⟩ (fun x=>by kernel_rfl)
def adq (y:Int⊕Int) {R:Type} (k:KT R):R:=match y with | .inl a0=>kk k Ex.ret ⟨[.any, .int .i64],[]⟩ (((),(a0,())),()) | .inr a1=>kk k (Ex.exit 0) ⟨[.int .i64, .any],[]⟩ ((a1,((),())),())
def afr : List (dm K ((Int)⊕Int)):=[⟨Ex.ret,⟨[.any, .int .i64],[]⟩,fun x=> .inl x.1.2.1⟩,⟨(Ex.exit 0),⟨[.int .i64, .any],[]⟩,fun x=> .inr (x.1.1)⟩]
def Qj : cZ K:=dn D false 27 0 [0,1,5] [1,4] ⟨[.aZ U.Import, .int .i64, .int .i64],[]⟩ (fun x=>M.qA x.1.1 aA x.1.2.1 x.1.2.2.1) adq
def Ur (m:(List M.aF)->Int->Option Int):bC K:=cI 45 ⟨[.aZ U.Import, .int .i64],[]⟩ (fun x=>m x.1.1 x.1.2.1)
def DU : Cx K:=fG [(86, .plain)] [XA M.Lc] [(5,Qj)]
theorem Qk : aG DU:=ai aQ _ (aj aqL aW)
theorem adr : bG DU (bD (bI Tryz.f45) 0) Qj:= bn (cx:=DU) (sh:=⟨[.aZ U.Import, .int .i64, .int .i64],[]⟩) (run:=fun n x=>M.qA x.1.1 n x.1.2.1 x.1.2.2.1) (di:=afr) aQ Qk aH (ah (by kernel_rfl)) (fun _=>rfl) (fun m x=>by kernel_rfl) (aj ⟨dC,fun _ _ _=>rfl⟩ (aj ⟨bu,fun _ _ _=>rfl⟩ aW)) false aA
theorem an0 : dA (Ur (M.G6)):= fK (cx:=DU) true Qk Tryz.func45 (aV (aP 1 (by kernel_rfl) (bQ (.mk (by kernel_rfl) adr)))) ⟨⟨[.int .i64],[]⟩,fun x=>x.1.1⟩ (fun x=>by kernel_rfl)
def afs (m:(List M.bH)->Int->Option Int):bC K:=cI 132 ⟨[.aZ U.Ins, .int .i64],[]⟩ (fun x=>m x.1.1 x.1.2.1)
def aj9 : Cx K:=fG [] [] []
theorem aqM : aG aj9:=ai aQ _ aW
theorem auL : dA (afs (M.XB)):= fK (cx:=aj9) true aqM Tryz.func132 (aV (ah (by kernel_rfl))) ⟨⟨[.int .i64],[]⟩,fun x=>x.1.1⟩ (fun x=>by kernel_rfl)
def aft (m:M.aJ->Int->Option Int):bC K:=cI 87 ⟨[.el U.Core, .int .i64],[]⟩ (fun x=>m x.1.1 x.1.2.1)
def aka : Cx K:=fG [(132, .plain)] [afs M.XB] []
theorem aqN : aG aka:=ai aQ _ (aj auL aW)
theorem auM : dA (aft (M.XC)):= fK (cx:=aka) true aqN Tryz.func87 (aV (ah (by kernel_rfl))) ⟨⟨[.int .i64],[]⟩,fun x=>x.1.1⟩ (fun x=>by kernel_rfl)
def aio (y:Int⊕Int) {R:Type} (k:KT R):R:=match y with | .inl a0=>kk k Ex.ret ⟨[.any, .int .i64],[]⟩ (((),(a0,())),()) | .inr a1=>kk k (Ex.exit 0) ⟨[.int .i64, .any],[]⟩ ((a1,((),())),())
def alZ : List (dm K ((Int)⊕Int)):=[⟨Ex.ret,⟨[.any, .int .i64],[]⟩,fun x=> .inl x.1.2.1⟩,⟨(Ex.exit 0),⟨[.int .i64, .any],[]⟩,fun x=> .inr (x.1.1)⟩]
def XD : cZ K:=dn D false 27 0 [0,1,5] [1,4] ⟨[.aZ U.Core, .int .i64, .int .i64],[]⟩ (fun x=>M.wZ x.1.1 aA x.1.2.1 x.1.2.2.1) aio
def abO (m:(List M.aJ)->Int->Option Int):bC K:=cI 46 ⟨[.aZ U.Core, .int .i64],[]⟩ (fun x=>m x.1.1 x.1.2.1)
def Js : Cx K:=fG [(87, .plain)] [aft M.XC] [(5,XD)]
theorem XE : aG Js:=ai aQ _ (aj auM aW)
theorem aip : bG Js (bD (bI Tryz.f46) 0) XD:= bn (cx:=Js) (sh:=⟨[.aZ U.Core, .int .i64, .int .i64],[]⟩) (run:=fun n x=>M.wZ x.1.1 n x.1.2.1 x.1.2.2.1) (di:=alZ) aQ XE aH (ah (by kernel_rfl)) (fun _=>rfl) (fun m x=>by kernel_rfl) (aj ⟨dC,fun _ _ _=>rfl⟩ (aj ⟨bu,fun _ _ _=>rfl⟩ aW)) false aA
theorem as7 : dA (abO (M.Ql)):= fK (cx:=Js) true XE Tryz.func46 (aV (aP 1 (by kernel_rfl) (bQ (.mk (by kernel_rfl) aip)))) ⟨⟨[.int .i64],[]⟩,fun x=>x.1.1⟩ (fun x=>by kernel_rfl)
def VU (m:M.aI->Int->Option Int):bC K:=cI 17 ⟨[.el U.Module, .int .i64],[]⟩ (fun x=>m x.1.1 x.1.2.1)
def abP : Cx K:=fG [(45, .plain),(46, .plain)] [Ur M.G6,abO M.Ql] []
theorem al0 : aG abP:=ai aQ _ (aj an0 (aj as7 aW))
theorem aql : dA (VU (M.KA)):= fK (cx:=abP) true al0 Tryz.func17 (aV (ah (by kernel_rfl))) ⟨⟨[.int .i64],[]⟩,fun x=>x.1.1⟩ (fun x=>by kernel_rfl)
def XF (m:M.aF->Option (M.aF)):bC K:={f:=99,sh:=⟨[.el U.Import],[]⟩,R:=M.aF,run:=fun x=>m x.1.1,dflt:=default,out:=fun r=>(Sh.enc D (.el U.Import) r,iY.encs D [] ())}
def abQ : Cx K:={cx0 with mode:=uX .plain [],rsl:=[[]],deep:=fun c=>fB (D.cells c (K.zero c)),call:=callOf D [],loop:=ry []}
theorem al1 : aG abQ:=ai aQ _ aW
theorem aqO : dA (XF (M.Sm)):= fK (cx:=abQ) false al1 Tryz.func99 (aV (ah (by kernel_rfl))) ⟨⟨[.el U.Import],[]⟩,fun x=>x.1.1⟩ (fun x=>by kernel_rfl)
def ads (y:(List M.aF)) {R:Type} (k:KT R):R:=match y with |a0=>kk k (Ex.exit 0) ⟨[.own 1],[.dead, .arr U.Import]⟩ (((),()),((),(a0,())))
def afu : List (dm K ((List M.aF))):=[⟨(Ex.exit 0),⟨[.own 1],[.dead, .arr U.Import]⟩,fun x=>x.2.2.1⟩]
def Qm : cZ K:=dn D false 23 1 [0,3,4] [3] ⟨[.aZ U.Import, .own 1, .int .i64],[.dead, .arr U.Import]⟩ (fun x=>M.nI x.1.1 aA x.1.2.2.1 x.2.2.1) ads
def Us (m:(List M.aF)->Option ((List M.aF))):bC K:={f:=60,sh:=⟨[.aZ U.Import],[]⟩,R:=(List M.aF),run:=fun x=>m x.1.1,dflt:=default,out:=fun r=>(Sh.enc D (.own 0) (),iY.encs D [.arr U.Import] (r,()))}
def DV : Cx K:={cx0 with mode:=uX .plain [(99, .fresh)],rsl:=[[some U.Import]],deep:=fun c=>fB (D.cells c (K.zero c)),call:=callOf D [XF M.Sm],loop:=ry [(3,Qm)]}
theorem Qn : aG DV:=ai aQ _ (aj aqO aW)
theorem adt : bG DV (bD (bI Tryz.f60) 0) Qm:= bn (cx:=DV) (sh:=⟨[.aZ U.Import, .own 1, .int .i64],[.dead, .arr U.Import]⟩) (run:=fun n x=>M.nI x.1.1 n x.1.2.2.1 x.2.2.1) (di:=afu) aQ Qn aH (ah (by kernel_rfl)) (fun _=>rfl) (fun m x=>by kernel_rfl) (aj ⟨bu,fun _ _ _=>rfl⟩ aW) false aA
theorem an1 : dA (Us (M.G7)):= fK (cx:=DV) false Qn Tryz.func60 (aV (aP 1 (by kernel_rfl) (bQ (.mk (by kernel_rfl) adt)))) ⟨⟨[.own 0],[.arr U.Import]⟩,fun x=>x.2.1⟩ (fun x=>by kernel_rfl)
def akb (m:M.bH->Option (M.bH)):bC K:={f:=176,sh:=⟨[.el U.Ins],[]⟩,R:=M.bH,run:=fun x=>m x.1.1,dflt:=default,out:=fun r=>(Sh.enc D (.el U.Ins) r,iY.encs D [] ())}
def an2 : Cx K:={cx0 with mode:=uX .plain [],rsl:=[[]],deep:=fun c=>fB (D.cells c (K.zero c)),call:=callOf D [],loop:=ry []}
theorem as8 : aG an2:=ai aQ _ aW
theorem awF : dA (akb (M.am2)):= fK (cx:=an2) false as8 Tryz.func176 (aV (ah (by kernel_rfl))) ⟨⟨[.el U.Ins],[]⟩,fun x=>x.1.1⟩ (fun x=>by kernel_rfl)
def al2 (y:(List M.bH)) {R:Type} (k:KT R):R:=match y with |a0=>kk k (Ex.exit 0) ⟨[.own 1],[.dead, .arr U.Ins]⟩ (((),()),((),(a0,())))
def an3 : List (dm K ((List M.bH))):=[⟨(Ex.exit 0),⟨[.own 1],[.dead, .arr U.Ins]⟩,fun x=>x.2.2.1⟩]
def abR : cZ K:=dn D false 23 1 [0,3,4] [3] ⟨[.aZ U.Ins, .own 1, .int .i64],[.dead, .arr U.Ins]⟩ (fun x=>M.wB x.1.1 aA x.1.2.2.1 x.2.2.1) al2
def afv (m:(List M.bH)->Option ((List M.bH))):bC K:={f:=143,sh:=⟨[.aZ U.Ins],[]⟩,R:=(List M.bH),run:=fun x=>m x.1.1,dflt:=default,out:=fun r=>(Sh.enc D (.own 0) (),iY.encs D [.arr U.Ins] (r,()))}
def NT : Cx K:={cx0 with mode:=uX .plain [(176, .fresh)],rsl:=[[some U.Ins]],deep:=fun c=>fB (D.cells c (K.zero c)),call:=callOf D [akb M.am2],loop:=ry [(3,abR)]}
theorem abS : aG NT:=ai aQ _ (aj awF aW)
theorem al3 : bG NT (bD (bI Tryz.f143) 0) abR:= bn (cx:=NT) (sh:=⟨[.aZ U.Ins, .own 1, .int .i64],[.dead, .arr U.Ins]⟩) (run:=fun n x=>M.wB x.1.1 n x.1.2.2.1 x.2.2.1) (di:=an3) aQ abS aH (ah (by kernel_rfl)) (fun _=>rfl) (fun m x=>by kernel_rfl) (aj ⟨bu,fun _ _ _=>rfl⟩ aW) false aA
theorem auN : dA (afv (M.XG)):= fK (cx:=NT) false abS Tryz.func143 (aV (aP 1 (by kernel_rfl) (bQ (.mk (by kernel_rfl) al3)))) ⟨⟨[.own 0],[.arr U.Ins]⟩,fun x=>x.2.1⟩ (fun x=>by kernel_rfl)
def afw (m:M.aJ->Option ((List UInt8)×Int×Int×Bool×(List M.bH))):bC K:={f:=100,sh:=⟨[.el U.Core],[]⟩,R:=(List UInt8)×Int×Int×Bool×(List M.bH),run:=fun x=>m x.1.1,dflt:=default,out:=fun r=>(Sh.enc D (.agg [.str, .int .i64, .int .i64, .bool, .own 0]) (r.1,(r.2.1,(r.2.2.1,(r.2.2.2.1,((),()))))),iY.encs D [.arr U.Ins] (r.2.2.2.2,()))}
def akc : Cx K:={cx0 with mode:=uX .plain [(143, .fresh)],rsl:=[[none,none,none,none,some U.Ins]],deep:=fun c=>fB (D.cells c (K.zero c)),call:=callOf D [afv M.XG],loop:=ry []}
theorem aqP : aG akc:=ai aQ _ (aj auN aW)
theorem auO : dA (afw (M.XH)):= fK (cx:=akc) false aqP Tryz.func100 (aV (ah (by kernel_rfl))) ⟨⟨[.agg [.str, .int .i64, .int .i64, .bool, .own 0]],[.arr U.Ins]⟩,fun x=>(x.1.1.1,x.1.1.2.1,x.1.1.2.2.1,x.1.1.2.2.2.1,x.2.1)⟩ (fun x=>by kernel_rfl)
def aiq (y:(List M.aJ)) {R:Type} (k:KT R):R:=match y with |a0=>kk k (Ex.exit 0) ⟨[.own 1],[.dead, .tree U.Core]⟩ (((),()),((),(a0,())))
def al4 : List (dm K ((List M.aJ))):=[⟨(Ex.exit 0),⟨[.own 1],[.dead, .tree U.Core]⟩,fun x=>x.2.2.1⟩]
def XI : cZ K:=dn D false 23 1 [0,3,4] [3] ⟨[.aZ U.Core, .own 1, .int .i64],[.dead, .tree U.Core]⟩ (fun x=>M.sN x.1.1 aA x.1.2.2.1 x.2.2.1) aiq
def abT (m:(List M.aJ)->Option ((List M.aJ))):bC K:={f:=61,sh:=⟨[.aZ U.Core],[]⟩,R:=(List M.aJ),run:=fun x=>m x.1.1,dflt:=default,out:=fun r=>(Sh.enc D (.own 0) (),iY.encs D [.tree U.Core] (r,()))}
def Jt : Cx K:={cx0 with mode:=uX .plain [(100, .fresh)],rsl:=[[some U.Core]],deep:=fun c=>fB (D.cells c (K.zero c)),call:=callOf D [afw M.XH],loop:=ry [(3,XI)]}
theorem XJ : aG Jt:=ai aQ _ (aj auO aW)
theorem air : bG Jt (bD (bI Tryz.f61) 0) XI:= bn (cx:=Jt) (sh:=⟨[.aZ U.Core, .own 1, .int .i64],[.dead, .tree U.Core]⟩) (run:=fun n x=>M.sN x.1.1 n x.1.2.2.1 x.2.2.1) (di:=al4) aQ XJ aH (ah (by kernel_rfl)) (fun _=>rfl) (fun m x=>by kernel_rfl) (aj ⟨bu,fun _ _ _=>rfl⟩ aW) false aA
theorem as9 : dA (abT (M.Qo)):= fK (cx:=Jt) false XJ Tryz.func61 (aV (aP 1 (by kernel_rfl) (bQ (.mk (by kernel_rfl) air)))) ⟨⟨[.own 0],[.tree U.Core]⟩,fun x=>x.2.1⟩ (fun x=>by kernel_rfl)
def VZ (m:M.aI->Option (Int×(List M.aF)×(List M.aJ))):bC K:={f:=23,sh:=⟨[.el U.Module],[]⟩,R:=Int×(List M.aF)×(List M.aJ),run:=fun x=>m x.1.1,dflt:=default,out:=fun r=>(Sh.enc D (.agg [.int .i64, .own 0, .own 1]) (r.1,((),((),()))),iY.encs D [.arr U.Import, .tree U.Core] (r.2.1,(r.2.2,())))}
def abU : Cx K:={cx0 with mode:=uX .plain [(60, .fresh),(61, .fresh)],rsl:=[[none,some U.Import,some U.Core]],deep:=fun c=>fB (D.cells c (K.zero c)),call:=callOf D [Us M.G7,abT M.Qo],loop:=ry []}
theorem al5 : aG abU:=ai aQ _ (aj an1 (aj as9 aW))
theorem aqo : dA (VZ (M.KD)):= fK (cx:=abU) false al5 Tryz.func23 (aV (ah (by kernel_rfl))) ⟨⟨[.agg [.int .i64, .own 0, .own 1]],[.arr U.Import, .tree U.Core]⟩,fun x=>(x.1.1.1,x.2.1,x.2.2.1)⟩ (fun x=>by kernel_rfl)
def ais (y:Bool⊕((List UInt8))) {R:Type} (k:KT R):R:=match y with | .inl a0=>kk k Ex.ret ⟨[.any, .bool],[]⟩ (((),(a0,())),()) | .inr a1=>kk k (Ex.exit 0) ⟨[.str, .any],[]⟩ ((a1,((),())),())
def al6 : List (dm K ((Bool)⊕((List UInt8)))):=[⟨Ex.ret,⟨[.any, .bool],[]⟩,fun x=> .inl x.1.2.1⟩,⟨(Ex.exit 0),⟨[.str, .any],[]⟩,fun x=> .inr (x.1.1)⟩]
def XK : cZ K:=dn D false 49 0 [0,3] [0,2] ⟨[.str, .int .i64],[]⟩ (fun x=>M.xe x.1.1 aA x.1.2.1) ais
def OI (m:(List UInt8)->Option Bool):bC K:=cB 208 ⟨[.str],[]⟩ (fun x=>m x.1.1)
def Ju : Cx K:=fG [] [] [(2,XK)]
theorem XL : aG Ju:=ai aQ _ aW
theorem ait : bG Ju (bD (bI Tryz.f208) 0) XK:= bn (cx:=Ju) (sh:=⟨[.str, .int .i64],[]⟩) (run:=fun n x=>M.xe x.1.1 n x.1.2.1) (di:=al6) aQ XL aH (ah (by kernel_rfl)) (fun _=>rfl) (fun m x=>by kernel_rfl) (aj ⟨dC,fun _ _ _=>rfl⟩ (aj ⟨bu,fun _ _ _=>rfl⟩ aW)) false aA
theorem aeP : dA (OI (M.EW)):= fK (cx:=Ju) true XL Tryz.func208 (aV (aP 1 (by kernel_rfl) (bQ (.mk (by kernel_rfl) ait)))) ⟨⟨[.bool],[]⟩,fun x=>x.1.1⟩ (fun x=>by kernel_rfl)
def XM (y:Int⊕Unit) {R:Type} (k:KT R):R:=match y with | .inl a0=>kk k Ex.ret ⟨[.int .i64],[]⟩ ((a0,()),()) | .inr a1=>kk k (Ex.exit 0) ⟨[.any],[]⟩ (((),()),())
def aaB : List (dm K ((Int)⊕Unit)):=[⟨Ex.ret,⟨[.int .i64],[]⟩,fun x=> .inl x.1.1⟩,⟨(Ex.exit 0),⟨[.any],[]⟩,fun x=> .inr (())⟩]
def Ld : cZ K:=dn D false 20 0 [0,1,5] [4] ⟨[.aZ U.Import, .str, .int .i64],[]⟩ (fun x=>M.lY x.1.1 x.1.2.1 aA x.1.2.2.1) XM
def Nc (m:(List M.aF)->(List UInt8)->Option Int):bC K:=cI 209 ⟨[.aZ U.Import, .str],[]⟩ (fun x=>m x.1.1 x.1.2.1)
def zL : Cx K:=fG [] [] [(2,Ld)]
theorem Le : aG zL:=ai aQ _ aW
theorem XN : bG zL (bD (bI Tryz.f209) 0) Ld:= bn (cx:=zL) (sh:=⟨[.aZ U.Import, .str, .int .i64],[]⟩) (run:=fun n x=>M.lY x.1.1 x.1.2.1 n x.1.2.2.1) (di:=aaB) aQ Le aH (ah (by kernel_rfl)) (fun _=>rfl) (fun m x=>by kernel_rfl) (aj ⟨dC,fun _ _ _=>rfl⟩ (aj ⟨bu,fun _ _ _=>rfl⟩ aW)) false aA
theorem ahN : dA (Nc (M.Ar)):= fK (cx:=zL) true Le Tryz.func209 (aV (aP 1 (by kernel_rfl) (bQ (.mk (by kernel_rfl) XN)))) ⟨⟨[.int .i64],[]⟩,fun x=>x.1.1⟩ (fun x=>by kernel_rfl)
def aeN (m:Int->Option (Int×Int×Bool)):bC K:={f:=308,sh:=⟨[.int .i64],[]⟩,R:=Int×Int×Bool,run:=fun x=>m x.1.1,dflt:=default,out:=fun r=>(Sh.enc D (.nS [.int .i64, .int .i64, .bool]) (r.1,(r.2.1,(r.2.2,()))),iY.encs D [] ())}
def akd : Cx K:=fG [] [] []
theorem aqQ : aG akd:=ai aQ _ aW
theorem auz : dA (aeN (M.anw)):= fK (cx:=akd) true aqQ Tryz.func308 (aV (ah (by kernel_rfl))) ⟨⟨[.nS [.int .i64, .int .i64, .bool]],[]⟩,fun x=>(x.1.1.1,x.1.1.2.1,x.1.1.2.2.1)⟩ (fun x=>by kernel_rfl)
def adu (y:Int⊕Unit) {R:Type} (k:KT R):R:=match y with | .inl a0=>kk k Ex.ret ⟨[.int .i64],[]⟩ ((a0,()),()) | .inr a1=>kk k (Ex.exit 0) ⟨[.any],[]⟩ (((),()),())
def afx : List (dm K ((Int)⊕Unit)):=[⟨Ex.ret,⟨[.int .i64],[]⟩,fun x=> .inl x.1.1⟩,⟨(Ex.exit 0),⟨[.any],[]⟩,fun x=> .inr (())⟩]
def Qp : cZ K:=dn D false 20 0 [0,1,5] [4] ⟨[.aZ U.Core, .str, .int .i64],[]⟩ (fun x=>M.qB x.1.1 x.1.2.1 aA x.1.2.2.1) adu
def TR (m:(List M.aJ)->(List UInt8)->Option Int):bC K:=cI 211 ⟨[.aZ U.Core, .str],[]⟩ (fun x=>m x.1.1 x.1.2.1)
def DW : Cx K:=fG [] [] [(2,Qp)]
theorem Qq : aG DW:=ai aQ _ aW
theorem adv : bG DW (bD (bI Tryz.f211) 0) Qp:= bn (cx:=DW) (sh:=⟨[.aZ U.Core, .str, .int .i64],[]⟩) (run:=fun n x=>M.qB x.1.1 x.1.2.1 n x.1.2.2.1) (di:=afx) aQ Qq aH (ah (by kernel_rfl)) (fun _=>rfl) (fun m x=>by kernel_rfl) (aj ⟨dC,fun _ _ _=>rfl⟩ (aj ⟨bu,fun _ _ _=>rfl⟩ aW)) false aA
theorem anx : dA (TR (M.GM)):= fK (cx:=DW) true Qq Tryz.func211 (aV (aP 1 (by kernel_rfl) (bQ (.mk (by kernel_rfl) adv)))) ⟨⟨[.int .i64],[]⟩,fun x=>x.1.1⟩ (fun x=>by kernel_rfl)
def Lh (m:Int->Option Bool):bC K:=cB 268 ⟨[.int .i64],[]⟩ (fun x=>m x.1.1)
def abV : Cx K:=fG [] [] []
theorem al7 : aG abV:=ai aQ _ aW
theorem abW : dA (Lh (M.adw)):= fK (cx:=abV) true al7 Tryz.func268 (aV (ah (by kernel_rfl))) ⟨⟨[.bool],[]⟩,fun x=>x.1.1⟩ (fun x=>by kernel_rfl)
def adx (y:(Int×Int×(List M.ax))⊕(M.aJ×(List M.ax)×(List Int))) {R:Type} (k:KT R):R:=match y with | .inl a0=>kk k Ex.ret ⟨[.any, .any, .any, .own 5, .int .i64, .int .i64],[.dead, .dead, .dead, .dead, .dead, .arr U.CodeBlock]⟩ (((),((),((),((),(a0.1,(a0.2.1,())))))),((),((),((),((),((),(a0.2.2,()))))))) | .inr a1=>kk k (Ex.exit 0) ⟨[.ptr 0 0, .own 3, .own 4, .any, .any, .any],[.el U.Core, .dead, .dead, .arr U.CodeBlock, .arr U.i64]⟩ (((),((),((),((),((),((),())))))),(a1.1,((),((),(a1.2.1,(a1.2.2,()))))))
def afy : List (dm K ((Int×Int×(List M.ax))⊕(M.aJ×(List M.ax)×(List Int)))):=[⟨Ex.ret,⟨[.any, .any, .any, .own 5, .int .i64, .int .i64],[.dead, .dead, .dead, .dead, .dead, .arr U.CodeBlock]⟩,fun x=> .inl (x.1.2.2.2.2.1,x.1.2.2.2.2.2.1,x.2.2.2.2.2.2.1)⟩,⟨(Ex.exit 0),⟨[.ptr 0 0, .own 3, .own 4, .any, .any, .any],[.el U.Core, .dead, .dead, .arr U.CodeBlock, .arr U.i64]⟩,fun x=> .inr ((x.2.1,x.2.2.2.2.1,x.2.2.2.2.2.1))⟩]
def Qr : cZ K:=dn D false 145 3 [1,5,6,7] [1,5,6,2,3,4] ⟨[.ptr 0 0, .own 3, .own 4, .int .i64],[.el U.Core, .dead, .dead, .arr U.CodeBlock, .arr U.i64]⟩ (fun x=>M.jM x.2.1 aA x.1.2.2.2.1 x.2.2.2.2.1 x.2.2.2.2.2.1) adx
def Ut (m:M.aJ->Option (Int×Int×(List M.ax))):bC K:={f:=212,sh:=⟨[.el U.Core],[]⟩,R:=Int×Int×(List M.ax),run:=fun x=>m x.1.1,dflt:=default,out:=fun r=>(Sh.enc D (.nS [.own 0, .int .i64, .int .i64]) ((),(r.1,(r.2.1,()))),iY.encs D [.arr U.CodeBlock] (r.2.2,()))}
def DX : Cx K:={cx0 with mode:=uX .plain [(268, .plain)],rsl:=[[some U.CodeBlock],[],[]],cut:=true,call:=callOf D [Lh M.adw],loop:=ry [(4,Qr)]}
theorem Qs : aG DX:=ai aQ _ (aj abW aW)
theorem ady : bG DX (bD (bI Tryz.f212) 0) Qr:= bn (cx:=DX) (sh:=⟨[.ptr 0 0, .own 3, .own 4, .int .i64],[.el U.Core, .dead, .dead, .arr U.CodeBlock, .arr U.i64]⟩) (run:=fun n x=>M.jM x.2.1 n x.1.2.2.2.1 x.2.2.2.2.1 x.2.2.2.2.2.1) (di:=afy) aQ Qs aH (ah (by kernel_rfl)) (fun _=>rfl) (fun m x=>by kernel_rfl) (aj ⟨dC,fun _ _ _=>rfl⟩ (aj ⟨bu,fun _ _ _=>rfl⟩ aW)) false aA
theorem an4 : dA (Ut (M.G8)):= fK (cx:=DX) false Qs Tryz.func212 (aV (aP 1 (by kernel_rfl) (bQ (.mk (by kernel_rfl) ady)))) ⟨⟨[.nS [.own 0, .int .i64, .int .i64]],[.arr U.CodeBlock]⟩,fun x=>(x.1.1.2.1,x.1.1.2.2.1,x.2.1)⟩ (fun x=>by kernel_rfl)
def Sr (m:(List Int)->Option ((List Int))):bC K:={f:=269,sh:=⟨[.aZ U.i64],[]⟩,R:=(List Int),run:=fun x=>m x.1.1,dflt:=default,out:=fun r=>(Sh.enc D (.own 0) (),iY.encs D [.arr U.i64] (r,()))}
def ake : Cx K:={cx0 with mode:=uX .plain [],rsl:=[[some U.i64]],call:=callOf D [],loop:=ry []}
theorem aqR : aG ake:=ai aQ _ aW
theorem akf : dA (Sr (M.DY)):= fK (cx:=ake) false aqR Tryz.func269 (aV (ah (by kernel_rfl))) ⟨⟨[.own 0],[.arr U.i64]⟩,fun x=>x.2.1⟩ (fun x=>by kernel_rfl)
def Qu (m:Int->(List M.aF)->(List M.aJ)->(List UInt8)->Int->Int->Bool->(List M.bH)->Int->Bool->(List M.ax)->(List Int)->Option (M.bP×Int×(List M.aF)×(List M.aJ)×(List UInt8)×Int×Int×Bool×(List M.bH)×Int×Bool×(List M.ax)×(List Int))):bC K:={f:=213,sh:=⟨[.ptr 0 0],[.box [.int .i64, .aZ U.Import, .aZ U.Core, .str, .int .i64, .int .i64, .bool, .aZ U.Ins, .own 1, .own 2, .int .i64, .bool], .arr U.CodeBlock, .arr U.i64]⟩,R:=M.bP×Int×(List M.aF)×(List M.aJ)×(List UInt8)×Int×Int×Bool×(List M.bH)×Int×Bool×(List M.ax)×(List Int),run:=fun x=>m x.2.1.1 x.2.1.2.1 x.2.1.2.2.1 x.2.1.2.2.2.1 x.2.1.2.2.2.2.1 x.2.1.2.2.2.2.2.1 x.2.1.2.2.2.2.2.2.1 x.2.1.2.2.2.2.2.2.2.1 x.2.1.2.2.2.2.2.2.2.2.2.2.1 x.2.1.2.2.2.2.2.2.2.2.2.2.2.1 x.2.2.1 x.2.2.2.1,dflt:=default,out:=fun r=>(Sh.enc D (.el U.gp) r.1,iY.encs D [.box [.int .i64, .aZ U.Import, .aZ U.Core, .str, .int .i64, .int .i64, .bool, .aZ U.Ins, .own 3, .own 4, .int .i64, .bool], .dead, .dead, .arr U.CodeBlock, .arr U.i64] ((r.2.1,(r.2.2.1,(r.2.2.2.1,(r.2.2.2.2.1,(r.2.2.2.2.2.1,(r.2.2.2.2.2.2.1,(r.2.2.2.2.2.2.2.1,(r.2.2.2.2.2.2.2.2.1,((),((),(r.2.2.2.2.2.2.2.2.2.1,(r.2.2.2.2.2.2.2.2.2.2.1,())))))))))))),((),((),(r.2.2.2.2.2.2.2.2.2.2.2.1,(r.2.2.2.2.2.2.2.2.2.2.2.2,()))))))}
def Uu : Cx K:={cx0 with mode:=uX .plain [(269, .fresh)],mv:=true,call:=callOf D [Sr M.DY],loop:=ry []}
theorem afz : aG Uu:=ai aQ _ (aj akf aW)
theorem al8 : dA (Qu (M.DZ)):= fK (cx:=Uu) true afz Tryz.func213 (aV (ah (by kernel_rfl))) ⟨⟨[.el U.gp],[.box [.int .i64, .aZ U.Import, .aZ U.Core, .str, .int .i64, .int .i64, .bool, .aZ U.Ins, .own 3, .own 4, .int .i64, .bool], .dead, .dead, .arr U.CodeBlock, .arr U.i64]⟩,fun x=>(x.1.1,x.2.1.1,x.2.1.2.1,x.2.1.2.2.1,x.2.1.2.2.2.1,x.2.1.2.2.2.2.1,x.2.1.2.2.2.2.2.1,x.2.1.2.2.2.2.2.2.1,x.2.1.2.2.2.2.2.2.2.1,x.2.1.2.2.2.2.2.2.2.2.2.2.1,x.2.1.2.2.2.2.2.2.2.2.2.2.2.1,x.2.2.2.2.1,x.2.2.2.2.2.1)⟩ (fun x=>by kernel_rfl)
def zM (m:Bool->Option Int):bC K:=cI 215 ⟨[.bool],[]⟩ (fun x=>m x.1.1)
def akg : Cx K:=fG [] [] []
theorem aqS : aG akg:=ai aQ _ aW
theorem G9 : dA (zM (M.qC)):= fK (cx:=akg) true aqS Tryz.func215 (aV (ah (by kernel_rfl))) ⟨⟨[.int .i64],[]⟩,fun x=>x.1.1⟩ (fun x=>by kernel_rfl)
def Qv (m:Bool->Int->(List M.aF)->(List M.aJ)->(List UInt8)->Int->Int->Bool->(List M.bH)->Int->Bool->(List M.ax)->(List Int)->Option (Bool×Int×(List M.aF)×(List M.aJ)×(List UInt8)×Int×Int×Bool×(List M.bH)×Int×Bool×(List M.ax)×(List Int))):bC K:={f:=270,sh:=⟨[.ptr 0 0, .bool],[.box [.int .i64, .aZ U.Import, .aZ U.Core, .str, .int .i64, .int .i64, .bool, .aZ U.Ins, .own 1, .own 2, .int .i64, .bool], .arr U.CodeBlock, .arr U.i64]⟩,R:=Bool×Int×(List M.aF)×(List M.aJ)×(List UInt8)×Int×Int×Bool×(List M.bH)×Int×Bool×(List M.ax)×(List Int),run:=fun x=>m x.1.2.1 x.2.1.1 x.2.1.2.1 x.2.1.2.2.1 x.2.1.2.2.2.1 x.2.1.2.2.2.2.1 x.2.1.2.2.2.2.2.1 x.2.1.2.2.2.2.2.2.1 x.2.1.2.2.2.2.2.2.2.1 x.2.1.2.2.2.2.2.2.2.2.2.2.1 x.2.1.2.2.2.2.2.2.2.2.2.2.2.1 x.2.2.1 x.2.2.2.1,dflt:=default,out:=fun r=>(Sh.enc D (.bool) r.1,iY.encs D [.box [.int .i64, .aZ U.Import, .aZ U.Core, .str, .int .i64, .int .i64, .bool, .aZ U.Ins, .own 3, .own 4, .int .i64, .bool], .dead, .dead, .arr U.CodeBlock, .arr U.i64] ((r.2.1,(r.2.2.1,(r.2.2.2.1,(r.2.2.2.2.1,(r.2.2.2.2.2.1,(r.2.2.2.2.2.2.1,(r.2.2.2.2.2.2.2.1,(r.2.2.2.2.2.2.2.2.1,((),((),(r.2.2.2.2.2.2.2.2.2.1,(r.2.2.2.2.2.2.2.2.2.2.1,())))))))))))),((),((),(r.2.2.2.2.2.2.2.2.2.2.2.1,(r.2.2.2.2.2.2.2.2.2.2.2.2,()))))))}
def Uw : Cx K:={cx0 with mode:=uX .plain [(215, .plain)],cut:=true,mv:=true,call:=callOf D [zM M.qC],loop:=ry []}
theorem afA : aG Uw:=ai aQ _ (aj G9 aW)
theorem al9 : dA (Qv (M.D5)):= fK (cx:=Uw) true afA Tryz.func270 (aV (ah (by kernel_rfl))) ⟨⟨[.bool],[.box [.int .i64, .aZ U.Import, .aZ U.Core, .str, .int .i64, .int .i64, .bool, .aZ U.Ins, .own 3, .own 4, .int .i64, .bool], .dead, .dead, .arr U.CodeBlock, .arr U.i64]⟩,fun x=>(x.1.1,x.2.1.1,x.2.1.2.1,x.2.1.2.2.1,x.2.1.2.2.2.1,x.2.1.2.2.2.2.1,x.2.1.2.2.2.2.2.1,x.2.1.2.2.2.2.2.2.1,x.2.1.2.2.2.2.2.2.2.1,x.2.1.2.2.2.2.2.2.2.2.2.2.1,x.2.1.2.2.2.2.2.2.2.2.2.2.2.1,x.2.2.2.2.1,x.2.2.2.2.2.1)⟩ (fun x=>by kernel_rfl)
def XO (m:M.aI->M.aJ->M.bH->Int->Option Bool):bC K:=cB 271 ⟨[.el U.Module, .el U.Core, .el U.Ins, .int .i64],[]⟩ (fun x=>m x.1.1 x.1.2.1 x.1.2.2.1 x.1.2.2.2.1)
def abX : Cx K:=fG [] [] []
theorem ama : aG abX:=ai aQ _ aW
theorem aqT : dA (XO (M.Lj)):= fK (cx:=abX) true ama Tryz.func271 (aV (ah (by kernel_rfl))) ⟨⟨[.bool],[]⟩,fun x=>x.1.1⟩ (fun x=>by kernel_rfl)
def abY (m:M.aI->M.bH->Option (Int×Int)):bC K:={f:=272,sh:=⟨[.el U.Module, .el U.Ins],[]⟩,R:=Int×Int,run:=fun x=>m x.1.1 x.1.2.1,dflt:=default,out:=fun r=>(Sh.enc D (.nS [.int .i64, .int .i64]) (r.1,(r.2,())),iY.encs D [] ())}
def afB : Cx K:=fG [(215, .plain)] [zM M.qC] []
theorem an5 : aG afB:=ai aQ _ (aj G9 aW)
theorem ata : dA (abY (M.Qw)):= fK (cx:=afB) true an5 Tryz.func272 (aV (ah (by kernel_rfl))) ⟨⟨[.nS [.int .i64, .int .i64]],[]⟩,fun x=>(x.1.1.1,x.1.1.2.1)⟩ (fun x=>by kernel_rfl)
def Ux (m:M.mi->Option Int):bC K:=cI 273 ⟨[.rp U.aim 0],[]⟩ (fun x=>m x.1.1)
def XP : Cx K:=fG [] [] []
theorem aiu : aG XP:=ai aQ _ aW
theorem an6 : dA (Ux (M.Cc)):= fK (cx:=XP) true aiu Tryz.func273 (aV (ah (by kernel_rfl))) ⟨⟨[.int .i64],[]⟩,fun x=>x.1.1⟩ (fun x=>by kernel_rfl)
def Ll (m:M.mi->Int->Option Int):bC K:=cI 274 ⟨[.rp U.aim 0, .int .i64],[]⟩ (fun x=>m x.1.1 x.1.2.1)
def NU : Cx K:=fG [(215, .plain)] [zM M.qC] []
theorem aaC : aG NU:=ai aQ _ (aj G9 aW)
theorem afC : dA (Ll (M.nJ)):= fK (cx:=NU) true aaC Tryz.func274 (aV (ah (by kernel_rfl))) ⟨⟨[.int .i64],[]⟩,fun x=>x.1.1⟩ (fun x=>by kernel_rfl)
def XQ (y:Int⊕Unit) {R:Type} (k:KT R):R:=match y with | .inl a0=>kk k Ex.ret ⟨[.int .i64],[]⟩ ((a0,()),()) | .inr a1=>kk k (Ex.exit 0) ⟨[.any],[]⟩ (((),()),())
def aaD : List (dm K ((Int)⊕Unit)):=[⟨Ex.ret,⟨[.int .i64],[]⟩,fun x=> .inl x.1.1⟩,⟨(Ex.exit 0),⟨[.any],[]⟩,fun x=> .inr (())⟩]
def Lm : cZ K:=dn D false 26 0 [0,1,5] [4] ⟨[.rp U.aim 0, .int .i64, .int .i64],[]⟩ (fun x=>M.lZ x.1.1 x.1.2.1 aA x.1.2.2.1) XQ
def NV (m:M.mi->Int->Option Int):bC K:=cI 275 ⟨[.rp U.aim 0, .int .i64],[]⟩ (fun x=>m x.1.1 x.1.2.1)
def zN : Cx K:=fG [] [] [(2,Lm)]
theorem Lp : aG zN:=ai aQ _ aW
theorem XR : bG zN (bD (bI Tryz.f275) 0) Lm:= bn (cx:=zN) (sh:=⟨[.rp U.aim 0, .int .i64, .int .i64],[]⟩) (run:=fun n x=>M.lZ x.1.1 x.1.2.1 n x.1.2.2.1) (di:=aaD) aQ Lp aH (ah (by kernel_rfl)) (fun _=>rfl) (fun m x=>by kernel_rfl) (aj ⟨dC,fun _ _ _=>rfl⟩ (aj ⟨bu,fun _ _ _=>rfl⟩ aW)) false aA
theorem aiv : dA (NV (M.AA)):= fK (cx:=zN) true Lp Tryz.func275 (aV (aP 1 (by kernel_rfl) (bQ (.mk (by kernel_rfl) XR)))) ⟨⟨[.int .i64],[]⟩,fun x=>x.1.1⟩ (fun x=>by kernel_rfl)
def Uy (m:Int->Option Bool):bC K:=cB 276 ⟨[.int .i64],[]⟩ (fun x=>m x.1.1)
def XT : Cx K:=fG [] [] []
theorem aiw : aG XT:=ai aQ _ aW
theorem an7 : dA (Uy (M.akh)):= fK (cx:=XT) true aiw Tryz.func276 (aV (ah (by kernel_rfl))) ⟨⟨[.bool],[]⟩,fun x=>x.1.1⟩ (fun x=>by kernel_rfl)
def Uz (m:Int->Int->(List M.aF)->(List M.aJ)->(List UInt8)->Int->Int->Bool->(List M.bH)->Int->Bool->(List M.ax)->(List Int)->Option (Int×Int×(List M.aF)×(List M.aJ)×(List UInt8)×Int×Int×Bool×(List M.bH)×Int×Bool×(List M.ax)×(List Int))):bC K:={f:=214,sh:=⟨[.ptr 0 0, .int .i64],[.box [.int .i64, .aZ U.Import, .aZ U.Core, .str, .int .i64, .int .i64, .bool, .aZ U.Ins, .own 1, .own 2, .int .i64, .bool], .arr U.CodeBlock, .arr U.i64]⟩,R:=Int×Int×(List M.aF)×(List M.aJ)×(List UInt8)×Int×Int×Bool×(List M.bH)×Int×Bool×(List M.ax)×(List Int),run:=fun x=>m x.1.2.1 x.2.1.1 x.2.1.2.1 x.2.1.2.2.1 x.2.1.2.2.2.1 x.2.1.2.2.2.2.1 x.2.1.2.2.2.2.2.1 x.2.1.2.2.2.2.2.2.1 x.2.1.2.2.2.2.2.2.2.1 x.2.1.2.2.2.2.2.2.2.2.2.2.1 x.2.1.2.2.2.2.2.2.2.2.2.2.2.1 x.2.2.1 x.2.2.2.1,dflt:=default,out:=fun r=>(Sh.enc D (.int .i64) r.1,iY.encs D [.box [.int .i64, .aZ U.Import, .aZ U.Core, .str, .int .i64, .int .i64, .bool, .aZ U.Ins, .own 3, .own 4, .int .i64, .bool], .dead, .dead, .arr U.CodeBlock, .arr U.i64] ((r.2.1,(r.2.2.1,(r.2.2.2.1,(r.2.2.2.2.1,(r.2.2.2.2.2.1,(r.2.2.2.2.2.2.1,(r.2.2.2.2.2.2.2.1,(r.2.2.2.2.2.2.2.2.1,((),((),(r.2.2.2.2.2.2.2.2.2.1,(r.2.2.2.2.2.2.2.2.2.2.1,())))))))))))),((),((),(r.2.2.2.2.2.2.2.2.2.2.2.1,(r.2.2.2.2.2.2.2.2.2.2.2.2,()))))))}
def XU : Cx K:={cx0 with mode:=uX .plain [(270, .XV),(271, .plain),(272, .plain),(273, .plain),(274, .plain),(215, .plain),(268, .plain),(275, .plain),(269, .fresh),(276, .plain)],mv:=true,call:=callOf D [Qv M.D5,XO M.Lj,abY M.Qw,Ux M.Cc,Ll M.nJ,zM M.qC,Lh M.adw,NV M.AA,Sr M.DY,Uy M.akh],loop:=ry []}
theorem aix : aG XU:=ai aQ _ (aj al9 (aj aqT (aj ata (aj an6 (aj afC (aj G9 (aj abW (aj aiv (aj akf (aj an7 aW))))))))))
theorem an8 : dA (Uz (M.Ha)):= fK (cx:=XU) true aix Tryz.func214 (aV (ah (by kernel_rfl))) ⟨⟨[.int .i64],[.box [.int .i64, .aZ U.Import, .aZ U.Core, .str, .int .i64, .int .i64, .bool, .aZ U.Ins, .own 3, .own 4, .int .i64, .bool], .dead, .dead, .arr U.CodeBlock, .arr U.i64]⟩,fun x=>(x.1.1,x.2.1.1,x.2.1.2.1,x.2.1.2.2.1,x.2.1.2.2.2.1,x.2.1.2.2.2.2.1,x.2.1.2.2.2.2.2.1,x.2.1.2.2.2.2.2.2.1,x.2.1.2.2.2.2.2.2.2.1,x.2.1.2.2.2.2.2.2.2.2.2.2.1,x.2.1.2.2.2.2.2.2.2.2.2.2.2.1,x.2.2.2.2.1,x.2.2.2.2.2.1)⟩ (fun x=>by kernel_rfl)
def aiy (y:(Int×Int×(List M.bP))⊕(M.aJ×Int×(List M.aF)×(List M.aJ)×(List UInt8)×Int×Int×Bool×(List M.bH)×Int×Bool×(List M.bP)×(List M.ax)×(List Int))) {R:Type} (k:KT R):R:=match y with | .inl a0=>kk k Ex.ret ⟨[.any, .any, .any, .rM, .own 6, .int .i64, .int .i64],[.dead, .dead, .dead, .dead, .dead, .dead, .arr U.gp, .dead, .dead]⟩ (((),((),((),((),((),(a0.1,(a0.2.1,()))))))),((),((),((),((),((),((),(a0.2.2,((),((),())))))))))) | .inr a1=>kk k (Ex.exit 0) ⟨[.ptr 0 0, .ptr 1 0, .own 5, .any, .any, .any, .any],[.el U.Core, .box [.int .i64, .aZ U.Import, .aZ U.Core, .str, .int .i64, .int .i64, .bool, .aZ U.Ins, .own 6, .own 7, .int .i64, .bool], .dead, .dead, .dead, .arr U.gp, .arr U.CodeBlock, .arr U.i64]⟩ (((),((),((),((),((),((),((),()))))))),(a1.1,((a1.2.1,(a1.2.2.1,(a1.2.2.2.1,(a1.2.2.2.2.1,(a1.2.2.2.2.2.1,(a1.2.2.2.2.2.2.1,(a1.2.2.2.2.2.2.2.1,(a1.2.2.2.2.2.2.2.2.1,((),((),(a1.2.2.2.2.2.2.2.2.2.1,(a1.2.2.2.2.2.2.2.2.2.2.1,())))))))))))),((),((),((),(a1.2.2.2.2.2.2.2.2.2.2.2.1,(a1.2.2.2.2.2.2.2.2.2.2.2.2.1,(a1.2.2.2.2.2.2.2.2.2.2.2.2.2,())))))))))
def amb : List (dm K ((Int×Int×(List M.bP))⊕(M.aJ×Int×(List M.aF)×(List M.aJ)×(List UInt8)×Int×Int×Bool×(List M.bH)×Int×Bool×(List M.bP)×(List M.ax)×(List Int)))):=[⟨Ex.ret,⟨[.any, .any, .any, .rM, .own 6, .int .i64, .int .i64],[.dead, .dead, .dead, .dead, .dead, .dead, .arr U.gp, .dead, .dead]⟩,fun x=> .inl (x.1.2.2.2.2.2.1,x.1.2.2.2.2.2.2.1,x.2.2.2.2.2.2.2.1)⟩,⟨(Ex.exit 0),⟨[.ptr 0 0, .ptr 1 0, .own 5, .any, .any, .any, .any],[.el U.Core, .box [.int .i64, .aZ U.Import, .aZ U.Core, .str, .int .i64, .int .i64, .bool, .aZ U.Ins, .own 6, .own 7, .int .i64, .bool], .dead, .dead, .dead, .arr U.gp, .arr U.CodeBlock, .arr U.i64]⟩,fun x=> .inr ((x.2.1,x.2.2.1.1,x.2.2.1.2.1,x.2.2.1.2.2.1,x.2.2.1.2.2.2.1,x.2.2.1.2.2.2.2.1,x.2.2.1.2.2.2.2.2.1,x.2.2.1.2.2.2.2.2.2.1,x.2.2.1.2.2.2.2.2.2.2.1,x.2.2.1.2.2.2.2.2.2.2.2.2.2.1,x.2.2.1.2.2.2.2.2.2.2.2.2.2.2.1,x.2.2.2.2.2.2.1,x.2.2.2.2.2.2.2.1,x.2.2.2.2.2.2.2.2.1))⟩]
def XW : cZ K:=dn D false 82 5 [8,12,13,14] [8,12,13,4,5,6,7] ⟨[.ptr 0 0, .ptr 1 0, .own 5, .int .i64],[.el U.Core, .box [.int .i64, .aZ U.Import, .aZ U.Core, .str, .int .i64, .int .i64, .bool, .aZ U.Ins, .own 6, .own 7, .int .i64, .bool], .dead, .dead, .dead, .arr U.gp, .arr U.CodeBlock, .arr U.i64]⟩ (fun x=>M.sO x.2.1 aA x.1.2.2.2.1 x.2.2.1.1 x.2.2.1.2.1 x.2.2.1.2.2.1 x.2.2.1.2.2.2.1 x.2.2.1.2.2.2.2.1 x.2.2.1.2.2.2.2.2.1 x.2.2.1.2.2.2.2.2.2.1 x.2.2.1.2.2.2.2.2.2.2.1 x.2.2.1.2.2.2.2.2.2.2.2.2.2.1 x.2.2.1.2.2.2.2.2.2.2.2.2.2.2.1 x.2.2.2.2.2.2.1 x.2.2.2.2.2.2.2.1 x.2.2.2.2.2.2.2.2.1) aiy
def aba (m:M.aI->Int->Option ((List M.bP)×Int×Int)):bC K:={f:=171,sh:=⟨[.el U.Module, .int .i64],[]⟩,R:=(List M.bP)×Int×Int,run:=fun x=>m x.1.1 x.1.2.1,dflt:=default,out:=fun r=>(Sh.enc D (.nS [.any, .aZ U.gp, .int .i64, .int .i64]) ((),(r.1,(r.2.1,(r.2.2,())))),iY.encs D [] ())}
def Jv : Cx K:={cx0 with mode:=uX .plain [(212, .fresh),(213, .XV),(214, .XV),(215, .plain)],aBT:=[true,false,false,false],call:=callOf D [Ut M.G8,Qu M.DZ,Uz M.Ha,zM M.qC],loop:=ry [(8,XW)]}
theorem XX : aG Jv:=ai aQ _ (aj an4 (aj al8 (aj an8 (aj G9 aW))))
theorem aiz : bG Jv (bD (bI Tryz.f171) 0) XW:= bn (cx:=Jv) (sh:=⟨[.ptr 0 0, .ptr 1 0, .own 5, .int .i64],[.el U.Core, .box [.int .i64, .aZ U.Import, .aZ U.Core, .str, .int .i64, .int .i64, .bool, .aZ U.Ins, .own 6, .own 7, .int .i64, .bool], .dead, .dead, .dead, .arr U.gp, .arr U.CodeBlock, .arr U.i64]⟩) (run:=fun n x=>M.sO x.2.1 n x.1.2.2.2.1 x.2.2.1.1 x.2.2.1.2.1 x.2.2.1.2.2.1 x.2.2.1.2.2.2.1 x.2.2.1.2.2.2.2.1 x.2.2.1.2.2.2.2.2.1 x.2.2.1.2.2.2.2.2.2.1 x.2.2.1.2.2.2.2.2.2.2.1 x.2.2.1.2.2.2.2.2.2.2.2.2.2.1 x.2.2.1.2.2.2.2.2.2.2.2.2.2.2.1 x.2.2.2.2.2.2.1 x.2.2.2.2.2.2.2.1 x.2.2.2.2.2.2.2.2.1) (di:=amb) aQ XX aH (ah (by kernel_rfl)) (fun _=>rfl) (fun m x=>by kernel_rfl) (aj ⟨dC,fun _ _ _=>rfl⟩ (aj ⟨bu,fun _ _ _=>rfl⟩ aW)) false aA
theorem asR : dA (aba (M.PL)):= fK (cx:=Jv) true XX Tryz.func171 (aV (aP 1 (by kernel_rfl) (bQ (.mk (by kernel_rfl) aiz)))) ⟨⟨[.nS [.any, .aZ U.gp, .int .i64, .int .i64]],[]⟩,fun x=>(x.1.1.2.1,x.1.1.2.2.1,x.1.1.2.2.2.1)⟩ (fun x=>by kernel_rfl)
def XY (m:Int->Option (Int×Int×Bool)):bC K:={f:=296,sh:=⟨[.int .i64],[]⟩,R:=Int×Int×Bool,run:=fun x=>m x.1.1,dflt:=default,out:=fun r=>(Sh.enc D (.nS [.int .i64, .int .i64, .bool]) (r.1,(r.2.1,(r.2.2,()))),iY.encs D [] ())}
def abZ : Cx K:=fG [] [] []
theorem amc : aG abZ:=ai aQ _ aW
theorem aqU : dA (XY (M.an9)):= fK (cx:=abZ) true amc Tryz.func296 (aV (ah (by kernel_rfl))) ⟨⟨[.nS [.int .i64, .int .i64, .bool]],[]⟩,fun x=>(x.1.1.1,x.1.1.2.1,x.1.1.2.2.1)⟩ (fun x=>by kernel_rfl)
def Uc (m:Int->Option (Int×Int×Bool)):bC K:={f:=236,sh:=⟨[.int .i64],[]⟩,R:=Int×Int×Bool,run:=fun x=>m x.1.1,dflt:=default,out:=fun r=>(Sh.enc D (.nS [.int .i64, .int .i64, .bool]) (r.1,(r.2.1,(r.2.2,()))),iY.encs D [] ())}
def XZ : Cx K:=fG [(296, .plain)] [XY M.an9] []
theorem aiA : aG XZ:=ai aQ _ (aj aqU aW)
theorem anM : dA (Uc (M.GV)):= fK (cx:=XZ) true aiA Tryz.func236 (aV (ah (by kernel_rfl))) ⟨⟨[.nS [.int .i64, .int .i64, .bool]],[]⟩,fun x=>(x.1.1.1,x.1.1.2.1,x.1.1.2.2.1)⟩ (fun x=>by kernel_rfl)
def WZ (m:Int->Option Bool):bC K:=cB 237 ⟨[.int .u8],[]⟩ (fun x=>m x.1.1)
def ab1 : Cx K:=fG [] [] []
theorem amd : aG ab1:=ai aQ _ aW
theorem aqG : dA (WZ (M.anR)):= fK (cx:=ab1) true amd Tryz.func237 (aV (ah (by kernel_rfl))) ⟨⟨[.bool],[]⟩,fun x=>x.1.1⟩ (fun x=>by kernel_rfl)
def abx (m:Int->Option Bool):bC K:=cB 238 ⟨[.int .u8],[]⟩ (fun x=>m x.1.1)
def afD : Cx K:=fG [] [] []
theorem aoa : aG afD:=ai aQ _ aW
theorem as2 : dA (abx (M.arJ)):= fK (cx:=afD) true aoa Tryz.func238 (aV (ah (by kernel_rfl))) ⟨⟨[.bool],[]⟩,fun x=>x.1.1⟩ (fun x=>by kernel_rfl)
def afd (m:(List UInt8)->Option Int):bC K:=cI 240 ⟨[.str],[]⟩ (fun x=>m x.1.1)
def aki : Cx K:=fG [] [] []
theorem aqV : aG aki:=ai aQ _ aW
theorem auG : dA (afd (M.auF)):= fK (cx:=aki) true aqV Tryz.func240 (aV (ah (by kernel_rfl))) ⟨⟨[.int .i64],[]⟩,fun x=>x.1.1⟩ (fun x=>by kernel_rfl)
def Iu (m:(List M.aJ)->Option Int):bC K:=cI 157 ⟨[.aZ U.Core],[]⟩ (fun x=>m x.1.1)
def X0 : Cx K:=fG [] [] []
theorem aiB : aG X0:=ai aQ _ aW
theorem Xf : dA (Iu (M.Xe)):= fK (cx:=X0) true aiB Tryz.func157 (aV (ah (by kernel_rfl))) ⟨⟨[.int .i64],[]⟩,fun x=>x.1.1⟩ (fun x=>by kernel_rfl)
def X3 (m:Int->Option Bool):bC K:=cB 241 ⟨[.int .i64],[]⟩ (fun x=>m x.1.1)
def aob : Cx K:=fG [] [] []
theorem atb : aG aob:=ai aQ _ aW
theorem aoc : dA (X3 (M.atc)):= fK (cx:=aob) true atb Tryz.func241 (aV (ah (by kernel_rfl))) ⟨⟨[.bool],[]⟩,fun x=>x.1.1⟩ (fun x=>by kernel_rfl)
def afE (y:(Int×Int×(List M.ax))⊕(M.aJ×(List M.ax)×(List Int))) {R:Type} (k:KT R):R:=match y with | .inl a0=>kk k Ex.ret ⟨[.any, .any, .any, .own 5, .int .i64, .int .i64],[.dead, .dead, .dead, .dead, .dead, .arr U.CodeBlock]⟩ (((),((),((),((),(a0.1,(a0.2.1,())))))),((),((),((),((),((),(a0.2.2,()))))))) | .inr a1=>kk k (Ex.exit 0) ⟨[.ptr 0 0, .own 3, .own 4, .any, .any, .any],[.el U.Core, .dead, .dead, .arr U.CodeBlock, .arr U.i64]⟩ (((),((),((),((),((),((),())))))),(a1.1,((),((),(a1.2.1,(a1.2.2,()))))))
def aiC : List (dm K ((Int×Int×(List M.ax))⊕(M.aJ×(List M.ax)×(List Int)))):=[⟨Ex.ret,⟨[.any, .any, .any, .own 5, .int .i64, .int .i64],[.dead, .dead, .dead, .dead, .dead, .arr U.CodeBlock]⟩,fun x=> .inl (x.1.2.2.2.2.1,x.1.2.2.2.2.2.1,x.2.2.2.2.2.2.1)⟩,⟨(Ex.exit 0),⟨[.ptr 0 0, .own 3, .own 4, .any, .any, .any],[.el U.Core, .dead, .dead, .arr U.CodeBlock, .arr U.i64]⟩,fun x=> .inr ((x.2.1,x.2.2.2.2.1,x.2.2.2.2.2.1))⟩]
def UA : cZ K:=dn D false 141 3 [1,5,6,15,16,17] [1,5,6,2,3,4] ⟨[.ptr 0 0, .own 3, .own 4, .aZ U.Ins, .int .i64, .int .i64],[.el U.Core, .dead, .dead, .arr U.CodeBlock, .arr U.i64]⟩ (fun x=>M.kM x.1.2.2.2.1 x.1.2.2.2.2.1 x.2.1 aA x.1.2.2.2.2.2.1 x.2.2.2.2.1 x.2.2.2.2.2.1) afE
def Lr (m:(List M.bH)->Option Int):bC K:=cI 196 ⟨[.aZ U.Ins],[]⟩ (fun x=>m x.1.1)
def ab2 : Cx K:=fG [] [] []
theorem ame : aG ab2:=ai aQ _ aW
theorem ab3 : dA (Lr (M.adz)):= fK (cx:=ab2) true ame Tryz.func196 (aV (ah (by kernel_rfl))) ⟨⟨[.int .i64],[]⟩,fun x=>x.1.1⟩ (fun x=>by kernel_rfl)
def X4 (m:M.aJ->Option ((List M.ax)×Int×Int)):bC K:={f:=192,sh:=⟨[.el U.Core],[]⟩,R:=(List M.ax)×Int×Int,run:=fun x=>m x.1.1,dflt:=default,out:=fun r=>(Sh.enc D (.nS [.aZ U.CodeBlock, .int .i64, .int .i64]) (r.1,(r.2.1,(r.2.2,()))),iY.encs D [] ())}
def FY : Cx K:={cx0 with mode:=uX .plain [(241, .plain),(196, .plain)],cut:=true,call:=callOf D [X3 M.atc,Lr M.adz],loop:=ry [(3,UA)]}
theorem UB : aG FY:=ai aQ _ (aj aoc (aj ab3 aW))
theorem afF : bG FY (bD (bI Tryz.f192) 0) UA:= bn (cx:=FY) (sh:=⟨[.ptr 0 0, .own 3, .own 4, .aZ U.Ins, .int .i64, .int .i64],[.el U.Core, .dead, .dead, .arr U.CodeBlock, .arr U.i64]⟩) (run:=fun n x=>M.kM x.1.2.2.2.1 x.1.2.2.2.2.1 x.2.1 n x.1.2.2.2.2.2.1 x.2.2.2.2.1 x.2.2.2.2.2.1) (di:=aiC) aQ UB aH (ah (by kernel_rfl)) (fun _=>rfl) (fun m x=>by kernel_rfl) (aj ⟨dC,fun _ _ _=>rfl⟩ (aj ⟨bu,fun _ _ _=>rfl⟩ aW)) false aA
theorem aqW : dA (X4 (M.Ls)):= fK (cx:=FY) true UB Tryz.func192 (aV (aP 1 (by kernel_rfl) (bQ (.mk (by kernel_rfl) afF)))) ⟨⟨[.nS [.aZ U.CodeBlock, .int .i64, .int .i64]],[]⟩,fun x=>(x.1.1.1,x.1.1.2.1,x.1.1.2.2.1)⟩ (fun x=>by kernel_rfl)
def IU (m:Int->(List M.aF)->(List M.aJ)->(List UInt8)->Int->Int->Bool->(List M.bH)->(List M.ax)->Int->Int->Bool->(List Int)->(List Int)->Option (Bool×Int×Int×(List M.aF)×(List M.aJ)×(List UInt8)×Int×Int×Bool×(List M.bH)×(List M.ax)×Int×Int×Bool×(List Int)×(List Int)×(List Int))):bC K:={f:=193,sh:=⟨[.ptr 0 0],[.box [.int .i64, .aZ U.Import, .aZ U.Core, .str, .int .i64, .int .i64, .bool, .aZ U.Ins, .aZ U.CodeBlock, .int .i64, .own 1, .own 2, .int .i64, .bool], .arr U.i64, .arr U.i64]⟩,R:=Bool×Int×Int×(List M.aF)×(List M.aJ)×(List UInt8)×Int×Int×Bool×(List M.bH)×(List M.ax)×Int×Int×Bool×(List Int)×(List Int)×(List Int),run:=fun x=>m x.2.1.1 x.2.1.2.1 x.2.1.2.2.1 x.2.1.2.2.2.1 x.2.1.2.2.2.2.1 x.2.1.2.2.2.2.2.1 x.2.1.2.2.2.2.2.2.1 x.2.1.2.2.2.2.2.2.2.1 x.2.1.2.2.2.2.2.2.2.2.1 x.2.1.2.2.2.2.2.2.2.2.2.1 x.2.1.2.2.2.2.2.2.2.2.2.2.2.2.1 x.2.1.2.2.2.2.2.2.2.2.2.2.2.2.2.1 x.2.2.1 x.2.2.2.1,dflt:=default,out:=fun r=>(Sh.enc D (.agg [.bool, .int .i64, .own 3]) (r.1,(r.2.1,((),()))),iY.encs D [.box [.int .i64, .aZ U.Import, .aZ U.Core, .str, .int .i64, .int .i64, .bool, .aZ U.Ins, .aZ U.CodeBlock, .int .i64, .own 4, .own 5, .int .i64, .bool], .dead, .dead, .arr U.i64, .arr U.i64, .arr U.i64] ((r.2.2.1,(r.2.2.2.1,(r.2.2.2.2.1,(r.2.2.2.2.2.1,(r.2.2.2.2.2.2.1,(r.2.2.2.2.2.2.2.1,(r.2.2.2.2.2.2.2.2.1,(r.2.2.2.2.2.2.2.2.2.1,(r.2.2.2.2.2.2.2.2.2.2.1,(r.2.2.2.2.2.2.2.2.2.2.2.1,((),((),(r.2.2.2.2.2.2.2.2.2.2.2.2.1,(r.2.2.2.2.2.2.2.2.2.2.2.2.2.1,())))))))))))))),((),((),(r.2.2.2.2.2.2.2.2.2.2.2.2.2.2.1,(r.2.2.2.2.2.2.2.2.2.2.2.2.2.2.2.1,(r.2.2.2.2.2.2.2.2.2.2.2.2.2.2.2.2,())))))))}
def Lt : Cx K:={cx0 with mode:=uX .plain [(242, .fresh)],rsl:=[[none,none,some U.i64]],deep:=fun c=>fB (D.cells c (K.zero c)),mv:=true,call:=callOf D [oI M.gQ],loop:=ry []}
theorem X5 : aG Lt:=ai aQ _ (aj Jw aW)
theorem adA : dA (IU (M.xK)):= fK (cx:=Lt) false X5 Tryz.func193 (aV (ah (by kernel_rfl))) ⟨⟨[.agg [.bool, .int .i64, .own 3]],[.box [.int .i64, .aZ U.Import, .aZ U.Core, .str, .int .i64, .int .i64, .bool, .aZ U.Ins, .aZ U.CodeBlock, .int .i64, .own 4, .own 5, .int .i64, .bool], .dead, .dead, .arr U.i64, .arr U.i64, .arr U.i64]⟩,fun x=>(x.1.1.1,x.1.1.2.1,x.2.1.1,x.2.1.2.1,x.2.1.2.2.1,x.2.1.2.2.2.1,x.2.1.2.2.2.2.1,x.2.1.2.2.2.2.2.1,x.2.1.2.2.2.2.2.2.1,x.2.1.2.2.2.2.2.2.2.1,x.2.1.2.2.2.2.2.2.2.2.1,x.2.1.2.2.2.2.2.2.2.2.2.1,x.2.1.2.2.2.2.2.2.2.2.2.2.2.2.1,x.2.1.2.2.2.2.2.2.2.2.2.2.2.2.2.1,x.2.2.2.2.1,x.2.2.2.2.2.1,x.2.2.2.2.2.2.1)⟩ (fun x=>by kernel_rfl)
def Qx (m:Bool->Option Int):bC K:=cI 195 ⟨[.bool],[]⟩ (fun x=>m x.1.1)
def auP : Cx K:=fG [] [] []
theorem awG : aG auP:=ai aQ _ aW
theorem afG : dA (Qx (M.Qy)):= fK (cx:=auP) true awG Tryz.func195 (aV (ah (by kernel_rfl))) ⟨⟨[.int .i64],[]⟩,fun x=>x.1.1⟩ (fun x=>by kernel_rfl)
def BD (m:M.fC->Option Int):bC K:=cI 246 ⟨[.rp U.checker 0],[]⟩ (fun x=>m x.1.1)
def NW : Cx K:=fG [] [] []
theorem aaE : aG NW:=ai aQ _ aW
theorem NY : dA (BD (M.qE)):= fK (cx:=NW) true aaE Tryz.func246 (aV (ah (by kernel_rfl))) ⟨⟨[.int .i64],[]⟩,fun x=>x.1.1⟩ (fun x=>by kernel_rfl)
def Lu (m:M.bH->Int->(List M.aF)->(List M.aJ)->(List UInt8)->Int->Int->Bool->(List M.bH)->(List M.ax)->Int->Int->Bool->(List Int)->(List Int)->Option (Int×Int×(List M.aF)×(List M.aJ)×(List UInt8)×Int×Int×Bool×(List M.bH)×(List M.ax)×Int×Int×Bool×(List Int)×(List Int))):bC K:={f:=243,sh:=⟨[.ptr 0 0, .el U.Ins],[.box [.int .i64, .aZ U.Import, .aZ U.Core, .str, .int .i64, .int .i64, .bool, .aZ U.Ins, .aZ U.CodeBlock, .int .i64, .own 1, .own 2, .int .i64, .bool], .arr U.i64, .arr U.i64]⟩,R:=Int×Int×(List M.aF)×(List M.aJ)×(List UInt8)×Int×Int×Bool×(List M.bH)×(List M.ax)×Int×Int×Bool×(List Int)×(List Int),run:=fun x=>m x.1.2.1 x.2.1.1 x.2.1.2.1 x.2.1.2.2.1 x.2.1.2.2.2.1 x.2.1.2.2.2.2.1 x.2.1.2.2.2.2.2.1 x.2.1.2.2.2.2.2.2.1 x.2.1.2.2.2.2.2.2.2.1 x.2.1.2.2.2.2.2.2.2.2.1 x.2.1.2.2.2.2.2.2.2.2.2.1 x.2.1.2.2.2.2.2.2.2.2.2.2.2.2.1 x.2.1.2.2.2.2.2.2.2.2.2.2.2.2.2.1 x.2.2.1 x.2.2.2.1,dflt:=default,out:=fun r=>(Sh.enc D (.int .i64) r.1,iY.encs D [.box [.int .i64, .aZ U.Import, .aZ U.Core, .str, .int .i64, .int .i64, .bool, .aZ U.Ins, .aZ U.CodeBlock, .int .i64, .own 3, .own 4, .int .i64, .bool], .dead, .dead, .arr U.i64, .arr U.i64] ((r.2.1,(r.2.2.1,(r.2.2.2.1,(r.2.2.2.2.1,(r.2.2.2.2.2.1,(r.2.2.2.2.2.2.1,(r.2.2.2.2.2.2.2.1,(r.2.2.2.2.2.2.2.2.1,(r.2.2.2.2.2.2.2.2.2.1,(r.2.2.2.2.2.2.2.2.2.2.1,((),((),(r.2.2.2.2.2.2.2.2.2.2.2.1,(r.2.2.2.2.2.2.2.2.2.2.2.2.1,())))))))))))))),((),((),(r.2.2.2.2.2.2.2.2.2.2.2.2.2.1,(r.2.2.2.2.2.2.2.2.2.2.2.2.2.2,()))))))}
def NZ : Cx K:={cx0 with mode:=uX .plain [(195, .plain),(246, .plain)],cut:=true,mv:=true,call:=callOf D [Qx M.Qy,BD M.qE],loop:=ry []}
theorem aaF : aG NZ:=ai aQ _ (aj afG (aj NY aW))
theorem afH : dA (Lu (M.zg)):= fK (cx:=NZ) true aaF Tryz.func243 (aV (ah (by kernel_rfl))) ⟨⟨[.int .i64],[.box [.int .i64, .aZ U.Import, .aZ U.Core, .str, .int .i64, .int .i64, .bool, .aZ U.Ins, .aZ U.CodeBlock, .int .i64, .own 3, .own 4, .int .i64, .bool], .dead, .dead, .arr U.i64, .arr U.i64]⟩,fun x=>(x.1.1,x.2.1.1,x.2.1.2.1,x.2.1.2.2.1,x.2.1.2.2.2.1,x.2.1.2.2.2.2.1,x.2.1.2.2.2.2.2.1,x.2.1.2.2.2.2.2.2.1,x.2.1.2.2.2.2.2.2.2.1,x.2.1.2.2.2.2.2.2.2.2.1,x.2.1.2.2.2.2.2.2.2.2.2.1,x.2.1.2.2.2.2.2.2.2.2.2.2.2.2.1,x.2.1.2.2.2.2.2.2.2.2.2.2.2.2.2.1,x.2.2.2.2.1,x.2.2.2.2.2.1)⟩ (fun x=>by kernel_rfl)
def N7 (m:(List M.aF)->Option Int):bC K:=cI 297 ⟨[.aZ U.Import],[]⟩ (fun x=>m x.1.1)
def Qz : Cx K:=fG [] [] []
theorem adB : aG Qz:=ai aQ _ aW
theorem aiD : dA (N7 (M.ab4)):= fK (cx:=Qz) true adB Tryz.func297 (aV (ah (by kernel_rfl))) ⟨⟨[.int .i64],[]⟩,fun x=>x.1.1⟩ (fun x=>by kernel_rfl)
def zI (m:(List Int)->Option Int):bC K:=cI 118 ⟨[.aZ U.i64],[]⟩ (fun x=>m x.1.1)
def UC : Cx K:=fG [] [] []
theorem afI : aG UC:=ai aQ _ aW
theorem Iz : dA (zI (M.Jq)):= fK (cx:=UC) true afI Tryz.func118 (aV (ah (by kernel_rfl))) ⟨⟨[.int .i64],[]⟩,fun x=>x.1.1⟩ (fun x=>by kernel_rfl)
def He (m:M.fC->M.bH->Option Bool):bC K:=cB 244 ⟨[.rp U.checker 0, .el U.Ins],[]⟩ (fun x=>m x.1.1 x.1.2.1)
def IV : Cx K:=fG [(157, .plain),(297, .plain),(118, .plain)] [Iu M.Xe,N7 M.ab4,zI M.Jq] []
theorem Ve : aG IV:=ai aQ _ (aj Xf (aj aiD (aj Iz aW)))
theorem aaG : dA (He (M.vk)):= fK (cx:=IV) true Ve Tryz.func244 (aV (ah (by kernel_rfl))) ⟨⟨[.bool],[]⟩,fun x=>x.1.1⟩ (fun x=>by kernel_rfl)
def Hg (m:M.fC->M.bH->Option (Int×Int)):bC K:={f:=245,sh:=⟨[.rp U.checker 0, .el U.Ins],[]⟩,R:=Int×Int,run:=fun x=>m x.1.1 x.1.2.1,dflt:=default,out:=fun r=>(Sh.enc D (.nS [.int .i64, .int .i64]) (r.1,(r.2,())),iY.encs D [] ())}
def IW : Cx K:=fG [(195, .plain)] [Qx M.Qy] []
theorem Vf : aG IW:=ai aQ _ (aj afG aW)
theorem aaH : dA (Hg (M.vz)):= fK (cx:=IW) true Vf Tryz.func245 (aV (ah (by kernel_rfl))) ⟨⟨[.nS [.int .i64, .int .i64]],[]⟩,fun x=>(x.1.1.1,x.1.1.2.1)⟩ (fun x=>by kernel_rfl)
def EN (m:M.fC->M.bH->Option Int):bC K:=cI 247 ⟨[.rp U.checker 0, .el U.Ins],[]⟩ (fun x=>m x.1.1 x.1.2.1)
def Hl : Cx K:=fG [(195, .plain),(118, .plain)] [Qx M.Qy,zI M.Jq] []
theorem Su : aG Hl:=ai aQ _ (aj afG (aj Iz aW))
theorem X6 : dA (EN (M.sQ)):= fK (cx:=Hl) true Su Tryz.func247 (aV (ah (by kernel_rfl))) ⟨⟨[.int .i64],[]⟩,fun x=>x.1.1⟩ (fun x=>by kernel_rfl)
def LC (m:M.bH->Int->(List M.aF)->(List M.aJ)->(List UInt8)->Int->Int->Bool->(List M.bH)->(List M.ax)->Int->Int->Bool->(List Int)->(List Int)->Option (Int×Int×(List M.aF)×(List M.aJ)×(List UInt8)×Int×Int×Bool×(List M.bH)×(List M.ax)×Int×Int×Bool×(List Int)×(List Int))):bC K:={f:=194,sh:=⟨[.ptr 0 0, .el U.Ins],[.box [.int .i64, .aZ U.Import, .aZ U.Core, .str, .int .i64, .int .i64, .bool, .aZ U.Ins, .aZ U.CodeBlock, .int .i64, .own 1, .own 2, .int .i64, .bool], .arr U.i64, .arr U.i64]⟩,R:=Int×Int×(List M.aF)×(List M.aJ)×(List UInt8)×Int×Int×Bool×(List M.bH)×(List M.ax)×Int×Int×Bool×(List Int)×(List Int),run:=fun x=>m x.1.2.1 x.2.1.1 x.2.1.2.1 x.2.1.2.2.1 x.2.1.2.2.2.1 x.2.1.2.2.2.2.1 x.2.1.2.2.2.2.2.1 x.2.1.2.2.2.2.2.2.1 x.2.1.2.2.2.2.2.2.2.1 x.2.1.2.2.2.2.2.2.2.2.1 x.2.1.2.2.2.2.2.2.2.2.2.1 x.2.1.2.2.2.2.2.2.2.2.2.2.2.2.1 x.2.1.2.2.2.2.2.2.2.2.2.2.2.2.2.1 x.2.2.1 x.2.2.2.1,dflt:=default,out:=fun r=>(Sh.enc D (.int .i64) r.1,iY.encs D [.box [.int .i64, .aZ U.Import, .aZ U.Core, .str, .int .i64, .int .i64, .bool, .aZ U.Ins, .aZ U.CodeBlock, .int .i64, .own 3, .own 4, .int .i64, .bool], .dead, .dead, .arr U.i64, .arr U.i64] ((r.2.1,(r.2.2.1,(r.2.2.2.1,(r.2.2.2.2.1,(r.2.2.2.2.2.1,(r.2.2.2.2.2.2.1,(r.2.2.2.2.2.2.2.1,(r.2.2.2.2.2.2.2.2.1,(r.2.2.2.2.2.2.2.2.2.1,(r.2.2.2.2.2.2.2.2.2.2.1,((),((),(r.2.2.2.2.2.2.2.2.2.2.2.1,(r.2.2.2.2.2.2.2.2.2.2.2.2.1,())))))))))))))),((),((),(r.2.2.2.2.2.2.2.2.2.2.2.2.2.1,(r.2.2.2.2.2.2.2.2.2.2.2.2.2.2,()))))))}
def N8 : Cx K:={cx0 with mode:=uX .plain [(243, .XV),(244, .plain),(245, .plain),(246, .plain),(247, .plain),(241, .plain)],mv:=true,call:=callOf D [Lu M.zg,He M.vk,Hg M.vz,BD M.qE,EN M.sQ,X3 M.atc],loop:=ry []}
theorem aaI : aG N8:=ai aQ _ (aj afH (aj aaG (aj aaH (aj NY (aj X6 (aj aoc aW))))))
theorem afJ : dA (LC (M.zh)):= fK (cx:=N8) true aaI Tryz.func194 (aV (ah (by kernel_rfl))) ⟨⟨[.int .i64],[.box [.int .i64, .aZ U.Import, .aZ U.Core, .str, .int .i64, .int .i64, .bool, .aZ U.Ins, .aZ U.CodeBlock, .int .i64, .own 3, .own 4, .int .i64, .bool], .dead, .dead, .arr U.i64, .arr U.i64]⟩,fun x=>(x.1.1,x.2.1.1,x.2.1.2.1,x.2.1.2.2.1,x.2.1.2.2.2.1,x.2.1.2.2.2.2.1,x.2.1.2.2.2.2.2.1,x.2.1.2.2.2.2.2.2.1,x.2.1.2.2.2.2.2.2.2.1,x.2.1.2.2.2.2.2.2.2.2.1,x.2.1.2.2.2.2.2.2.2.2.2.1,x.2.1.2.2.2.2.2.2.2.2.2.2.2.2.1,x.2.1.2.2.2.2.2.2.2.2.2.2.2.2.2.1,x.2.2.2.2.1,x.2.2.2.2.2.1)⟩ (fun x=>by kernel_rfl)
def aiE (y:(Int×Int×(List M.bP)×(List M.ax))⊕((List M.ax)×M.aJ×Int×(List M.aF)×(List M.aJ)×(List UInt8)×Int×Int×Bool×(List M.bH)×(List M.ax)×Int×Int×Bool×(List M.bP)×(List Int)×(List Int))) {R:Type} (k:KT R):R:=match y with | .inl a0=>kk k Ex.ret ⟨[.any, .any, .any, .any, .own 6, .own 7, .int .i64, .int .i64],[.dead, .dead, .dead, .dead, .dead, .dead, .tree U.gp, .arr U.CodeBlock, .dead, .dead]⟩ (((),((),((),((),((),((),(a0.1,(a0.2.1,())))))))),((),((),((),((),((),((),(a0.2.2.1,(a0.2.2.2,((),((),()))))))))))) | .inr a1=>kk k (Ex.exit 0) ⟨[.ptr 0 0, .aZ U.CodeBlock, .ptr 1 0, .own 5, .any, .any, .any, .any],[.el U.Core, .box [.int .i64, .aZ U.Import, .aZ U.Core, .str, .int .i64, .int .i64, .bool, .aZ U.Ins, .aZ U.CodeBlock, .int .i64, .own 6, .own 7, .int .i64, .bool], .dead, .dead, .dead, .tree U.gp, .arr U.i64, .arr U.i64]⟩ (((),(a1.1,((),((),((),((),((),((),())))))))),(a1.2.1,((a1.2.2.1,(a1.2.2.2.1,(a1.2.2.2.2.1,(a1.2.2.2.2.2.1,(a1.2.2.2.2.2.2.1,(a1.2.2.2.2.2.2.2.1,(a1.2.2.2.2.2.2.2.2.1,(a1.2.2.2.2.2.2.2.2.2.1,(a1.2.2.2.2.2.2.2.2.2.2.1,(a1.2.2.2.2.2.2.2.2.2.2.2.1,((),((),(a1.2.2.2.2.2.2.2.2.2.2.2.2.1,(a1.2.2.2.2.2.2.2.2.2.2.2.2.2.1,())))))))))))))),((),((),((),(a1.2.2.2.2.2.2.2.2.2.2.2.2.2.2.1,(a1.2.2.2.2.2.2.2.2.2.2.2.2.2.2.2.1,(a1.2.2.2.2.2.2.2.2.2.2.2.2.2.2.2.2,())))))))))
def amf : List (dm K ((Int×Int×(List M.bP)×(List M.ax))⊕((List M.ax)×M.aJ×Int×(List M.aF)×(List M.aJ)×(List UInt8)×Int×Int×Bool×(List M.bH)×(List M.ax)×Int×Int×Bool×(List M.bP)×(List Int)×(List Int)))):=[⟨Ex.ret,⟨[.any, .any, .any, .any, .own 6, .own 7, .int .i64, .int .i64],[.dead, .dead, .dead, .dead, .dead, .dead, .tree U.gp, .arr U.CodeBlock, .dead, .dead]⟩,fun x=> .inl (x.1.2.2.2.2.2.2.1,x.1.2.2.2.2.2.2.2.1,x.2.2.2.2.2.2.2.1,x.2.2.2.2.2.2.2.2.1)⟩,⟨(Ex.exit 0),⟨[.ptr 0 0, .aZ U.CodeBlock, .ptr 1 0, .own 5, .any, .any, .any, .any],[.el U.Core, .box [.int .i64, .aZ U.Import, .aZ U.Core, .str, .int .i64, .int .i64, .bool, .aZ U.Ins, .aZ U.CodeBlock, .int .i64, .own 6, .own 7, .int .i64, .bool], .dead, .dead, .dead, .tree U.gp, .arr U.i64, .arr U.i64]⟩,fun x=> .inr ((x.1.2.1,x.2.1,x.2.2.1.1,x.2.2.1.2.1,x.2.2.1.2.2.1,x.2.2.1.2.2.2.1,x.2.2.1.2.2.2.2.1,x.2.2.1.2.2.2.2.2.1,x.2.2.1.2.2.2.2.2.2.1,x.2.2.1.2.2.2.2.2.2.2.1,x.2.2.1.2.2.2.2.2.2.2.2.1,x.2.2.1.2.2.2.2.2.2.2.2.2.1,x.2.2.1.2.2.2.2.2.2.2.2.2.2.2.2.1,x.2.2.1.2.2.2.2.2.2.2.2.2.2.2.2.2.1,x.2.2.2.2.2.2.1,x.2.2.2.2.2.2.2.1,x.2.2.2.2.2.2.2.2.1))⟩]
def X7 : cZ K:=dn D false 84 5 [8,9,12,13,40,41,42] [8,9,12,13,4,5,6,7] ⟨[.ptr 0 0, .aZ U.CodeBlock, .ptr 1 0, .own 5, .aZ U.Ins, .int .i64, .int .i64],[.el U.Core, .box [.int .i64, .aZ U.Import, .aZ U.Core, .str, .int .i64, .int .i64, .bool, .aZ U.Ins, .aZ U.CodeBlock, .int .i64, .own 6, .own 7, .int .i64, .bool], .dead, .dead, .dead, .tree U.gp, .arr U.i64, .arr U.i64]⟩ (fun x=>M.sS x.1.2.1 x.1.2.2.2.2.1 x.1.2.2.2.2.2.1 x.2.1 aA x.1.2.2.2.2.2.2.1 x.2.2.1.1 x.2.2.1.2.1 x.2.2.1.2.2.1 x.2.2.1.2.2.2.1 x.2.2.1.2.2.2.2.1 x.2.2.1.2.2.2.2.2.1 x.2.2.1.2.2.2.2.2.2.1 x.2.2.1.2.2.2.2.2.2.2.1 x.2.2.1.2.2.2.2.2.2.2.2.1 x.2.2.1.2.2.2.2.2.2.2.2.2.1 x.2.2.1.2.2.2.2.2.2.2.2.2.2.2.2.1 x.2.2.1.2.2.2.2.2.2.2.2.2.2.2.2.2.1 x.2.2.2.2.2.2.1 x.2.2.2.2.2.2.2.1 x.2.2.2.2.2.2.2.2.1) aiE
def abA (m:M.aI->Int->Option (Int×Int×(List M.bP))):bC K:={f:=158,sh:=⟨[.el U.Module, .int .i64],[]⟩,R:=Int×Int×(List M.bP),run:=fun x=>m x.1.1 x.1.2.1,dflt:=default,out:=fun r=>(Sh.enc D (.nS [.own 0, .any, .int .i64, .int .i64]) ((),((),(r.1,(r.2.1,())))),iY.encs D [.tree U.gp] (r.2.2,()))}
def Jy : Cx K:={cx0 with mode:=uX .plain [(192, .iD),(193, .XV),(194, .XV),(195, .plain),(196, .plain)],rsl:=[[some U.gp],[some U.CodeBlock],[],[]],deep:=fun c=>fB (D.cells c (K.zero c)),aBT:=[false,true,false,false],call:=callOf D [X4 M.Ls,IU M.xK,LC M.zh,Qx M.Qy,Lr M.adz],loop:=ry [(7,X7)]}
theorem X8 : aG Jy:=ai aQ _ (aj aqW (aj adA (aj afJ (aj afG (aj ab3 aW)))))
theorem aiF : bG Jy (bD (bI Tryz.f158) 0) X7:= bn (cx:=Jy) (sh:=⟨[.ptr 0 0, .aZ U.CodeBlock, .ptr 1 0, .own 5, .aZ U.Ins, .int .i64, .int .i64],[.el U.Core, .box [.int .i64, .aZ U.Import, .aZ U.Core, .str, .int .i64, .int .i64, .bool, .aZ U.Ins, .aZ U.CodeBlock, .int .i64, .own 6, .own 7, .int .i64, .bool], .dead, .dead, .dead, .tree U.gp, .arr U.i64, .arr U.i64]⟩) (run:=fun n x=>M.sS x.1.2.1 x.1.2.2.2.2.1 x.1.2.2.2.2.2.1 x.2.1 n x.1.2.2.2.2.2.2.1 x.2.2.1.1 x.2.2.1.2.1 x.2.2.1.2.2.1 x.2.2.1.2.2.2.1 x.2.2.1.2.2.2.2.1 x.2.2.1.2.2.2.2.2.1 x.2.2.1.2.2.2.2.2.2.1 x.2.2.1.2.2.2.2.2.2.2.1 x.2.2.1.2.2.2.2.2.2.2.2.1 x.2.2.1.2.2.2.2.2.2.2.2.2.1 x.2.2.1.2.2.2.2.2.2.2.2.2.2.2.2.1 x.2.2.1.2.2.2.2.2.2.2.2.2.2.2.2.2.1 x.2.2.2.2.2.2.1 x.2.2.2.2.2.2.2.1 x.2.2.2.2.2.2.2.2.1) (di:=amf) aQ X8 aH (ah (by kernel_rfl)) (fun _=>rfl) (fun m x=>by kernel_rfl) (aj ⟨dC,fun _ _ _=>rfl⟩ (aj ⟨bu,fun _ _ _=>rfl⟩ aW)) false aA
theorem as4 : dA (abA (M.P6)):= fK (cx:=Jy) false X8 Tryz.func158 (aV (aP 1 (by kernel_rfl) (bQ (.mk (by kernel_rfl) aiF)))) ⟨⟨[.nS [.own 0, .any, .int .i64, .int .i64]],[.tree U.gp]⟩,fun x=>(x.1.1.2.2.1,x.1.1.2.2.2.1,x.2.1)⟩ (fun x=>by kernel_rfl)
def X9 (m:M.aF->M.aF->Option Bool):bC K:=cB 129 ⟨[.el U.Import, .el U.Import],[]⟩ (fun x=>m x.1.1 x.1.2.1)
def ab5 : Cx K:=fG [] [] []
theorem amg : aG ab5:=ai aQ _ aW
theorem aqX : dA (X9 (M.LD)):= fK (cx:=ab5) true amg Tryz.func129 (aV (ah (by kernel_rfl))) ⟨⟨[.bool],[]⟩,fun x=>x.1.1⟩ (fun x=>by kernel_rfl)
def adC (y:Bool⊕Unit) {R:Type} (k:KT R):R:=match y with | .inl a0=>kk k Ex.ret ⟨[.bool],[]⟩ ((a0,()),()) | .inr a1=>kk k (Ex.exit 0) ⟨[.any],[]⟩ (((),()),())
def afK : List (dm K ((Bool)⊕Unit)):=[⟨Ex.ret,⟨[.bool],[]⟩,fun x=> .inl x.1.1⟩,⟨(Ex.exit 0),⟨[.any],[]⟩,fun x=> .inr (())⟩]
def QA : cZ K:=dn D false 27 0 [0,1,5] [4] ⟨[.aZ U.Import, .aZ U.Import, .int .i64],[]⟩ (fun x=>M.qF x.1.1 x.1.2.1 aA x.1.2.2.1) adC
def UD (m:(List M.aF)->(List M.aF)->Option Bool):bC K:=cB 80 ⟨[.aZ U.Import, .aZ U.Import],[]⟩ (fun x=>m x.1.1 x.1.2.1)
def D6 : Cx K:=fG [(129, .plain)] [X9 M.LD] [(4,QA)]
theorem QB : aG D6:=ai aQ _ (aj aqX aW)
theorem adD : bG D6 (bD (bI Tryz.f80) 0) QA:= bn (cx:=D6) (sh:=⟨[.aZ U.Import, .aZ U.Import, .int .i64],[]⟩) (run:=fun n x=>M.qF x.1.1 x.1.2.1 n x.1.2.2.1) (di:=afK) aQ QB aH (ah (by kernel_rfl)) (fun _=>rfl) (fun m x=>by kernel_rfl) (aj ⟨dC,fun _ _ _=>rfl⟩ (aj ⟨bu,fun _ _ _=>rfl⟩ aW)) false aA
theorem aod : dA (UD (M.Hm)):= fK (cx:=D6) true QB Tryz.func80 (aV (aP 1 (by kernel_rfl) (bQ (.mk (by kernel_rfl) adD)))) ⟨⟨[.bool],[]⟩,fun x=>x.1.1⟩ (fun x=>by kernel_rfl)
def akj (m:M.bH->M.bH->Option Bool):bC K:=cB 202 ⟨[.el U.Ins, .el U.Ins],[]⟩ (fun x=>m x.1.1 x.1.2.1)
def aoe : Cx K:=fG [] [] []
theorem atd : aG aoe:=ai aQ _ aW
theorem awH : dA (akj (M.afL)):= fK (cx:=aoe) true atd Tryz.func202 (aV (ah (by kernel_rfl))) ⟨⟨[.bool],[]⟩,fun x=>x.1.1⟩ (fun x=>by kernel_rfl)
def amh (y:Bool⊕Unit) {R:Type} (k:KT R):R:=match y with | .inl a0=>kk k Ex.ret ⟨[.bool],[]⟩ ((a0,()),()) | .inr a1=>kk k (Ex.exit 0) ⟨[.any],[]⟩ (((),()),())
def aof : List (dm K ((Bool)⊕Unit)):=[⟨Ex.ret,⟨[.bool],[]⟩,fun x=> .inl x.1.1⟩,⟨(Ex.exit 0),⟨[.any],[]⟩,fun x=> .inr (())⟩]
def ab6 : cZ K:=dn D false 27 0 [0,1,5] [4] ⟨[.aZ U.Ins, .aZ U.Ins, .int .i64],[]⟩ (fun x=>M.zi x.1.1 x.1.2.1 aA x.1.2.2.1) amh
def afM (m:(List M.bH)->(List M.bH)->Option Bool):bC K:=cB 165 ⟨[.aZ U.Ins, .aZ U.Ins],[]⟩ (fun x=>m x.1.1 x.1.2.1)
def N9 : Cx K:=fG [(202, .plain)] [akj M.afL] [(4,ab6)]
theorem ab7 : aG N9:=ai aQ _ (aj awH aW)
theorem ami : bG N9 (bD (bI Tryz.f165) 0) ab6:= bn (cx:=N9) (sh:=⟨[.aZ U.Ins, .aZ U.Ins, .int .i64],[]⟩) (run:=fun n x=>M.zi x.1.1 x.1.2.1 n x.1.2.2.1) (di:=aof) aQ ab7 aH (ah (by kernel_rfl)) (fun _=>rfl) (fun m x=>by kernel_rfl) (aj ⟨dC,fun _ _ _=>rfl⟩ (aj ⟨bu,fun _ _ _=>rfl⟩ aW)) false aA
theorem auQ : dA (afM (M.Ya)):= fK (cx:=N9) true ab7 Tryz.func165 (aV (aP 1 (by kernel_rfl) (bQ (.mk (by kernel_rfl) ami)))) ⟨⟨[.bool],[]⟩,fun x=>x.1.1⟩ (fun x=>by kernel_rfl)
def afN (m:M.aJ->M.aJ->Option Bool):bC K:=cB 130 ⟨[.el U.Core, .el U.Core],[]⟩ (fun x=>m x.1.1 x.1.2.1)
def akk : Cx K:=fG [(165, .plain)] [afM M.Ya] []
theorem aqY : aG akk:=ai aQ _ (aj auQ aW)
theorem auR : dA (afN (M.Yb)):= fK (cx:=akk) true aqY Tryz.func130 (aV (ah (by kernel_rfl))) ⟨⟨[.bool],[]⟩,fun x=>x.1.1⟩ (fun x=>by kernel_rfl)
def aiG (y:Bool⊕Unit) {R:Type} (k:KT R):R:=match y with | .inl a0=>kk k Ex.ret ⟨[.bool],[]⟩ ((a0,()),()) | .inr a1=>kk k (Ex.exit 0) ⟨[.any],[]⟩ (((),()),())
def amj : List (dm K ((Bool)⊕Unit)):=[⟨Ex.ret,⟨[.bool],[]⟩,fun x=> .inl x.1.1⟩,⟨(Ex.exit 0),⟨[.any],[]⟩,fun x=> .inr (())⟩]
def Yc : cZ K:=dn D false 27 0 [0,1,5] [4] ⟨[.aZ U.Core, .aZ U.Core, .int .i64],[]⟩ (fun x=>M.xg x.1.1 x.1.2.1 aA x.1.2.2.1) aiG
def ab8 (m:(List M.aJ)->(List M.aJ)->Option Bool):bC K:=cB 81 ⟨[.aZ U.Core, .aZ U.Core],[]⟩ (fun x=>m x.1.1 x.1.2.1)
def Jz : Cx K:=fG [(130, .plain)] [afN M.Yb] [(4,Yc)]
theorem Yd : aG Jz:=ai aQ _ (aj auR aW)
theorem aiH : bG Jz (bD (bI Tryz.f81) 0) Yc:= bn (cx:=Jz) (sh:=⟨[.aZ U.Core, .aZ U.Core, .int .i64],[]⟩) (run:=fun n x=>M.xg x.1.1 x.1.2.1 n x.1.2.2.1) (di:=amj) aQ Yd aH (ah (by kernel_rfl)) (fun _=>rfl) (fun m x=>by kernel_rfl) (aj ⟨dC,fun _ _ _=>rfl⟩ (aj ⟨bu,fun _ _ _=>rfl⟩ aW)) false aA
theorem ate : dA (ab8 (M.QC)):= fK (cx:=Jz) true Yd Tryz.func81 (aV (aP 1 (by kernel_rfl) (bQ (.mk (by kernel_rfl) aiH)))) ⟨⟨[.bool],[]⟩,fun x=>x.1.1⟩ (fun x=>by kernel_rfl)
def WW (m:M.aI->M.aI->Option Bool):bC K:=cB 38 ⟨[.el U.Module, .el U.Module],[]⟩ (fun x=>m x.1.1 x.1.2.1)
def ab9 : Cx K:=fG [(80, .plain),(81, .plain)] [UD M.Hm,ab8 M.QC] []
theorem amk : aG ab9:=ai aQ _ (aj aod (aj ate aW))
theorem aqF : dA (WW (M.KO)):= fK (cx:=ab9) true amk Tryz.func38 (aV (ah (by kernel_rfl))) ⟨⟨[.bool],[]⟩,fun x=>x.1.1⟩ (fun x=>by kernel_rfl)
def adE (y:Int⊕Int) {R:Type} (k:KT R):R:=match y with | .inl a0=>kk k Ex.ret ⟨[.any, .int .i64],[]⟩ (((),(a0,())),()) | .inr a1=>kk k (Ex.exit 0) ⟨[.int .i64, .any],[]⟩ ((a1,((),())),())
def afO : List (dm K ((Int)⊕Int)):=[⟨Ex.ret,⟨[.any, .int .i64],[]⟩,fun x=> .inl x.1.2.1⟩,⟨(Ex.exit 0),⟨[.int .i64, .any],[]⟩,fun x=> .inr (x.1.1)⟩]
def QD : cZ K:=dn D false 28 0 [0,1,5] [1,4] ⟨[.aZ U.str, .int .i64, .int .i64],[]⟩ (fun x=>M.qG x.1.1 aA x.1.2.1 x.1.2.2.1) adE
def IB (m:(List (List UInt8))->Int->Option Int):bC K:=cI 84 ⟨[.aZ U.str, .int .i64],[]⟩ (fun x=>m x.1.1 x.1.2.1)
def D7 : Cx K:=fG [] [] [(5,QD)]
theorem QE : aG D7:=ai aQ _ aW
theorem adF : bG D7 (bD (bI Tryz.f84) 0) QD:= bn (cx:=D7) (sh:=⟨[.aZ U.str, .int .i64, .int .i64],[]⟩) (run:=fun n x=>M.qG x.1.1 n x.1.2.1 x.1.2.2.1) (di:=afO) aQ QE aH (ah (by kernel_rfl)) (fun _=>rfl) (fun m x=>by kernel_rfl) (aj ⟨dC,fun _ _ _=>rfl⟩ (aj ⟨bu,fun _ _ _=>rfl⟩ aW)) false aA
theorem Ye : dA (IB (M.zk)):= fK (cx:=D7) true QE Tryz.func84 (aV (aP 1 (by kernel_rfl) (bQ (.mk (by kernel_rfl) adF)))) ⟨⟨[.int .i64],[]⟩,fun x=>x.1.1⟩ (fun x=>by kernel_rfl)
def lu (m:M.ae->Int->Option Int):bC K:=cI 204 ⟨[.el U.Type, .int .i64],[]⟩ (fun x=>m x.1.1 x.1.2.1)
def aiI (y:Int⊕Int) {R:Type} (k:KT R):R:=match y with | .inl a0=>kk k Ex.ret ⟨[.any, .int .i64],[]⟩ (((),(a0,())),()) | .inr a1=>kk k (Ex.exit 0) ⟨[.int .i64, .any],[]⟩ ((a1,((),())),())
def aml : List (dm K ((Int)⊕Int)):=[⟨Ex.ret,⟨[.any, .int .i64],[]⟩,fun x=> .inl x.1.2.1⟩,⟨(Ex.exit 0),⟨[.int .i64, .any],[]⟩,fun x=> .inr (x.1.1)⟩]
def Yf (bW:M.ae->Int->Option Int):cZ K:=dn D false 27 0 [0,1,5] [1,4] ⟨[.aZ U.Type, .int .i64, .int .i64],[]⟩ (fun x=>M.xh bW x.1.1 aA x.1.2.1 x.1.2.2.1) aiI
def aca (m:(List M.ae)->Int->Option Int):bC K:=cI 264 ⟨[.aZ U.Type, .int .i64],[]⟩ (fun x=>m x.1.1 x.1.2.1)
def JA (bW:M.ae->Int->Option Int):Cx K:=fG [(204, .plain)] [lu bW] [(5,Yf bW)]
theorem Yg (bW:M.ae->Int->Option Int) (kN:dA (lu bW)):aG (JA bW):=ai aQ _ (aj kN aW)
theorem aiJ (bW:M.ae->Int->Option Int) (kN:dA (lu bW)):bG (JA bW) (bD (bI Tryz.f264) 0) (Yf bW):= bn (cx:=JA bW) (sh:=⟨[.aZ U.Type, .int .i64, .int .i64],[]⟩) (run:=fun n x=>M.xh bW x.1.1 n x.1.2.1 x.1.2.2.1) (di:=aml) aQ (Yg bW kN) aH (ah (by kernel_rfl)) (fun _=>rfl) (fun m x=>by kernel_rfl) (aj ⟨dC,fun _ _ _=>rfl⟩ (aj ⟨bu,fun _ _ _=>rfl⟩ aW)) false aA
theorem atf (bW:M.ae->Int->Option Int) (kN:dA (lu bW)):dA (aca (M.QF bW)):= uA (cx:=JA bW) (fz:=true) aQ (Yg bW kN) aH ⟨Tryz.func264,by kernel_rfl⟩ (aV (aP 1 (by kernel_rfl) (bQ (.mk (by kernel_rfl) (aiJ bW kN))))) ⟨⟨[.int .i64],[]⟩,fun x=>x.1.1⟩ (fun x=>rfl) (fun x=>by kernel_rfl)
def akl (bW:M.ae->Int->Option Int):Cx K:=fG [(84, .plain),(264, .plain)] [IB M.zk,aca (M.QF bW)] []
theorem aqZ (bW:M.ae->Int->Option Int) (kN:dA (lu bW)):aG (akl bW):=ai aQ _ (aj Ye (aj (atf bW kN) aW))
theorem aq0 (bW:M.ae->Int->Option Int) (kN:dA (lu bW)):dA (lu (M.Sv bW)):= uA (cx:=akl bW) (fz:=true) aQ (aqZ bW kN) aH ⟨Tryz.func204,by kernel_rfl⟩ (aV (ah (by kernel_rfl))) ⟨⟨[.int .i64],[]⟩,fun x=>x.1.1⟩ (fun x=>rfl) (fun x=>by kernel_rfl)
theorem acb : ∀n,dA (lu (M.BF n)) |0=>qQ fun _=>rfl |n+1=>aq0 (M.BF n) (acb n)
theorem akm : dA (lu (M.QG)):=acb aA
def adG (y:(List (List UInt8))) {R:Type} (k:KT R):R:=match y with |a0=>kk k (Ex.exit 0) ⟨[.own 1],[.dead, .arr U.str]⟩ (((),()),((),(a0,())))
def afP : List (dm K ((List (List UInt8)))):=[⟨(Ex.exit 0),⟨[.own 1],[.dead, .arr U.str]⟩,fun x=>x.2.2.1⟩]
def QH : cZ K:=dn D false 22 1 [0,3,4] [3] ⟨[.aZ U.str, .own 1, .int .i64],[.dead, .arr U.str]⟩ (fun x=>M.nK x.1.1 aA x.1.2.2.1 x.2.2.1) adG
def IC (m:(List (List UInt8))->Option ((List (List UInt8)))):bC K:={f:=97,sh:=⟨[.aZ U.str],[]⟩,R:=(List (List UInt8)),run:=fun x=>m x.1.1,dflt:=default,out:=fun r=>(Sh.enc D (.aZ U.str) r,iY.encs D [] ())}
def D8 : Cx K:=fG [] [] [(3,QH)]
theorem QI : aG D8:=ai aQ _ aW
theorem adH : bG D8 (bD (bI Tryz.f97) 0) QH:= bn (cx:=D8) (sh:=⟨[.aZ U.str, .own 1, .int .i64],[.dead, .arr U.str]⟩) (run:=fun n x=>M.nK x.1.1 n x.1.2.2.1 x.2.2.1) (di:=afP) aQ QI aH (ah (by kernel_rfl)) (fun _=>rfl) (fun m x=>by kernel_rfl) (aj ⟨bu,fun _ _ _=>rfl⟩ aW) false aA
theorem Yh : dA (IC (M.zl)):= fK (cx:=D8) true QI Tryz.func97 (aV (aP 1 (by kernel_rfl) (bQ (.mk (by kernel_rfl) adH)))) ⟨⟨[.aZ U.str],[]⟩,fun x=>x.1.1⟩ (fun x=>by kernel_rfl)
def lC (m:M.ae->Option (M.ae)):bC K:={f:=219,sh:=⟨[.el U.Type],[]⟩,R:=M.ae,run:=fun x=>m x.1.1,dflt:=default,out:=fun r=>(Sh.enc D (.el U.Type) r,iY.encs D [] ())}
def aiK (y:(List M.ae)) {R:Type} (k:KT R):R:=match y with |a0=>kk k (Ex.exit 0) ⟨[.own 1],[.dead, .arr U.Type]⟩ (((),()),((),(a0,())))
def amm : List (dm K ((List M.ae))):=[⟨(Ex.exit 0),⟨[.own 1],[.dead, .arr U.Type]⟩,fun x=>x.2.2.1⟩]
def Yi (cu:M.ae->Option (M.ae)):cZ K:=dn D false 23 1 [0,3,4] [3] ⟨[.aZ U.Type, .own 1, .int .i64],[.dead, .arr U.Type]⟩ (fun x=>M.sU cu x.1.1 aA x.1.2.2.1 x.2.2.1) aiK
def acd (m:(List M.ae)->Option ((List M.ae))):bC K:={f:=280,sh:=⟨[.aZ U.Type],[]⟩,R:=(List M.ae),run:=fun x=>m x.1.1,dflt:=default,out:=fun r=>(Sh.enc D (.aZ U.Type) r,iY.encs D [] ())}
def JB (cu:M.ae->Option (M.ae)):Cx K:=fG [(219, .iD)] [lC cu] [(3,Yi cu)]
theorem Yj (cu:M.ae->Option (M.ae)) (kP:dA (lC cu)):aG (JB cu):=ai aQ _ (aj kP aW)
theorem aiL (cu:M.ae->Option (M.ae)) (kP:dA (lC cu)):bG (JB cu) (bD (bI Tryz.f280) 0) (Yi cu):= bn (cx:=JB cu) (sh:=⟨[.aZ U.Type, .own 1, .int .i64],[.dead, .arr U.Type]⟩) (run:=fun n x=>M.sU cu x.1.1 n x.1.2.2.1 x.2.2.1) (di:=amm) aQ (Yj cu kP) aH (ah (by kernel_rfl)) (fun _=>rfl) (fun m x=>by kernel_rfl) (aj ⟨bu,fun _ _ _=>rfl⟩ aW) false aA
theorem atg (cu:M.ae->Option (M.ae)) (kP:dA (lC cu)):dA (acd (M.QJ cu)):= uA (cx:=JB cu) (fz:=true) aQ (Yj cu kP) aH ⟨Tryz.func280,by kernel_rfl⟩ (aV (aP 1 (by kernel_rfl) (bQ (.mk (by kernel_rfl) (aiL cu kP))))) ⟨⟨[.aZ U.Type],[]⟩,fun x=>x.1.1⟩ (fun x=>rfl) (fun x=>by kernel_rfl)
def akn (cu:M.ae->Option (M.ae)):Cx K:=fG [(97, .iD),(280, .iD)] [IC M.zl,acd (M.QJ cu)] []
theorem aq1 (cu:M.ae->Option (M.ae)) (kP:dA (lC cu)):aG (akn cu):=ai aQ _ (aj Yh (aj (atg cu kP) aW))
theorem aq2 (cu:M.ae->Option (M.ae)) (kP:dA (lC cu)):dA (lC (M.Sz cu)):= uA (cx:=akn cu) (fz:=true) aQ (aq1 cu kP) aH ⟨Tryz.func219,by kernel_rfl⟩ (aV (ah (by kernel_rfl))) ⟨⟨[.el U.Type],[]⟩,fun x=>x.1.1⟩ (fun x=>rfl) (fun x=>by kernel_rfl)
theorem ace : ∀n,dA (lC (M.BG n)) |0=>qQ fun _=>rfl |n+1=>aq2 (M.BG n) (ace n)
theorem ako : dA (lC (M.QK)):=ace aA
def adI (y:Bool⊕Unit) {R:Type} (k:KT R):R:=match y with | .inl a0=>kk k Ex.ret ⟨[.bool],[]⟩ ((a0,()),()) | .inr a1=>kk k (Ex.exit 0) ⟨[.any],[]⟩ (((),()),())
def afQ : List (dm K ((Bool)⊕Unit)):=[⟨Ex.ret,⟨[.bool],[]⟩,fun x=> .inl x.1.1⟩,⟨(Ex.exit 0),⟨[.any],[]⟩,fun x=> .inr (())⟩]
def QL : cZ K:=dn D false 26 0 [0,1,5] [4] ⟨[.aZ U.str, .aZ U.str, .int .i64],[]⟩ (fun x=>M.qH x.1.1 x.1.2.1 aA x.1.2.2.1) adI
def Il (m:(List (List UInt8))->(List (List UInt8))->Option Bool):bC K:=cB 127 ⟨[.aZ U.str, .aZ U.str],[]⟩ (fun x=>m x.1.1 x.1.2.1)
def D9 : Cx K:=fG [] [] [(4,QL)]
theorem QM : aG D9:=ai aQ _ aW
theorem adJ : bG D9 (bD (bI Tryz.f127) 0) QL:= bn (cx:=D9) (sh:=⟨[.aZ U.str, .aZ U.str, .int .i64],[]⟩) (run:=fun n x=>M.qH x.1.1 x.1.2.1 n x.1.2.2.1) (di:=afQ) aQ QM aH (ah (by kernel_rfl)) (fun _=>rfl) (fun m x=>by kernel_rfl) (aj ⟨dC,fun _ _ _=>rfl⟩ (aj ⟨bu,fun _ _ _=>rfl⟩ aW)) false aA
theorem VL : dA (Il (M.yP)):= fK (cx:=D9) true QM Tryz.func127 (aV (aP 1 (by kernel_rfl) (bQ (.mk (by kernel_rfl) adJ)))) ⟨⟨[.bool],[]⟩,fun x=>x.1.1⟩ (fun x=>by kernel_rfl)
def lq (m:M.ae->M.ae->Option Bool):bC K:=cB 262 ⟨[.el U.Type, .el U.Type],[]⟩ (fun x=>m x.1.1 x.1.2.1)
def aiM (y:Bool⊕Unit) {R:Type} (k:KT R):R:=match y with | .inl a0=>kk k Ex.ret ⟨[.bool],[]⟩ ((a0,()),()) | .inr a1=>kk k (Ex.exit 0) ⟨[.any],[]⟩ (((),()),())
def amn : List (dm K ((Bool)⊕Unit)):=[⟨Ex.ret,⟨[.bool],[]⟩,fun x=> .inl x.1.1⟩,⟨(Ex.exit 0),⟨[.any],[]⟩,fun x=> .inr (())⟩]
def Yk (bY:M.ae->M.ae->Option Bool):cZ K:=dn D false 27 0 [0,1,5] [4] ⟨[.aZ U.Type, .aZ U.Type, .int .i64],[]⟩ (fun x=>M.xk bY x.1.1 x.1.2.1 aA x.1.2.2.1) aiM
def acf (m:(List M.ae)->(List M.ae)->Option Bool):bC K:=cB 305 ⟨[.aZ U.Type, .aZ U.Type],[]⟩ (fun x=>m x.1.1 x.1.2.1)
def JC (bY:M.ae->M.ae->Option Bool):Cx K:=fG [(262, .plain)] [lq bY] [(4,Yk bY)]
theorem Yl (bY:M.ae->M.ae->Option Bool) (kQ:dA (lq bY)):aG (JC bY):=ai aQ _ (aj kQ aW)
theorem aiN (bY:M.ae->M.ae->Option Bool) (kQ:dA (lq bY)):bG (JC bY) (bD (bI Tryz.f305) 0) (Yk bY):= bn (cx:=JC bY) (sh:=⟨[.aZ U.Type, .aZ U.Type, .int .i64],[]⟩) (run:=fun n x=>M.xk bY x.1.1 x.1.2.1 n x.1.2.2.1) (di:=amn) aQ (Yl bY kQ) aH (ah (by kernel_rfl)) (fun _=>rfl) (fun m x=>by kernel_rfl) (aj ⟨dC,fun _ _ _=>rfl⟩ (aj ⟨bu,fun _ _ _=>rfl⟩ aW)) false aA
theorem ath (bY:M.ae->M.ae->Option Bool) (kQ:dA (lq bY)):dA (acf (M.QN bY)):= uA (cx:=JC bY) (fz:=true) aQ (Yl bY kQ) aH ⟨Tryz.func305,by kernel_rfl⟩ (aV (aP 1 (by kernel_rfl) (bQ (.mk (by kernel_rfl) (aiN bY kQ))))) ⟨⟨[.bool],[]⟩,fun x=>x.1.1⟩ (fun x=>rfl) (fun x=>by kernel_rfl)
def akp (bY:M.ae->M.ae->Option Bool):Cx K:=fG [(127, .plain),(305, .plain)] [Il M.yP,acf (M.QN bY)] []
theorem aq3 (bY:M.ae->M.ae->Option Bool) (kQ:dA (lq bY)):aG (akp bY):=ai aQ _ (aj VL (aj (ath bY kQ) aW))
theorem aq4 (bY:M.ae->M.ae->Option Bool) (kQ:dA (lq bY)):dA (lq (M.SA bY)):= uA (cx:=akp bY) (fz:=true) aQ (aq3 bY kQ) aH ⟨Tryz.func262,by kernel_rfl⟩ (aV (ah (by kernel_rfl))) ⟨⟨[.bool],[]⟩,fun x=>x.1.1⟩ (fun x=>rfl) (fun x=>by kernel_rfl)
theorem acg : ∀n,dA (lq (M.BH n)) |0=>qQ fun _=>rfl |n+1=>aq4 (M.BH n) (acg n)
theorem ajR : dA (lq (M.Pn)):=acg aA
def pJ (m:M.ae->Int->Option (Int×Int)):bC K:={f:=205,sh:=⟨[.el U.Type, .int .i64],[]⟩,R:=Int×Int,run:=fun x=>m x.1.1 x.1.2.1,dflt:=default,out:=fun r=>(Sh.enc D (.nS [.int .i64, .int .i64]) (r.1,(r.2,())),iY.encs D [] ())}
def RZ (m:Int->Int->Option Int):bC K:=cI 265 ⟨[.int .i64, .int .i64],[]⟩ (fun x=>m x.1.1 x.1.2.1)
def akq : Cx K:=fG [] [] []
theorem aq5 : aG akq:=ai aQ _ aW
theorem ajY : dA (RZ (M.yS)):= fK (cx:=akq) true aq5 Tryz.func265 (aV (ah (by kernel_rfl))) ⟨⟨[.int .i64],[]⟩,fun x=>x.1.1⟩ (fun x=>by kernel_rfl)
def aiO (y:(Int×Int)⊕(Int×Int)) {R:Type} (k:KT R):R:=match y with | .inl a0=>kk k Ex.ret ⟨[.any, .any, .int .i64, .int .i64],[.dead]⟩ (((),((),(a0.1,(a0.2,())))),((),())) | .inr a1=>kk k (Ex.exit 0) ⟨[.int .i64, .int .i64, .any, .any],[.dead]⟩ ((a1.1,(a1.2,((),((),())))),((),()))
def amo : List (dm K ((Int×Int)⊕(Int×Int))):=[⟨Ex.ret,⟨[.any, .any, .int .i64, .int .i64],[.dead]⟩,fun x=> .inl (x.1.2.2.1,x.1.2.2.2.1)⟩,⟨(Ex.exit 0),⟨[.int .i64, .int .i64, .any, .any],[.dead]⟩,fun x=> .inr ((x.1.1,x.1.2.1))⟩]
def Ym (dH:M.ae->Int->Option (Int×Int)):cZ K:=dn D false 48 1 [1,2,6,7,8] [6,7,4,5] ⟨[.int .i64, .ptr 0 0, .int .i64, .int .i64, .int .i64],[.el U.Type]⟩ (fun x=>M.sV dH x.1.1 aA x.1.2.2.1 x.1.2.2.2.1 x.1.2.2.2.2.1 x.2.1) aiO
def JD (dH:M.ae->Int->Option (Int×Int)):Cx K:=fG [(205, .plain),(265, .plain)] [pJ dH,RZ M.yS] [(6,Ym dH)]
theorem Yn (dH:M.ae->Int->Option (Int×Int)) (vC:dA (pJ dH)):aG (JD dH):=ai aQ _ (aj vC (aj ajY aW))
theorem aiP (dH:M.ae->Int->Option (Int×Int)) (vC:dA (pJ dH)):bG (JD dH) (bD (bI Tryz.f205) 0) (Ym dH):= bn (cx:=JD dH) (sh:=⟨[.int .i64, .ptr 0 0, .int .i64, .int .i64, .int .i64],[.el U.Type]⟩) (run:=fun n x=>M.sV dH x.1.1 n x.1.2.2.1 x.1.2.2.2.1 x.1.2.2.2.2.1 x.2.1) (di:=amo) aQ (Yn dH vC) aH (ah (by kernel_rfl)) (fun _=>rfl) (fun m x=>by kernel_rfl) (aj ⟨dC,fun _ _ _=>rfl⟩ (aj ⟨bu,fun _ _ _=>rfl⟩ aW)) false aA
theorem aog (dH:M.ae->Int->Option (Int×Int)) (vC:dA (pJ dH)):dA (pJ (M.Oa dH)):= uA (cx:=JD dH) (fz:=true) aQ (Yn dH vC) aH ⟨Tryz.func205,by kernel_rfl⟩ (aV (aP 1 (by kernel_rfl) (bQ (.mk (by kernel_rfl) (aiP dH vC))))) ⟨⟨[.nS [.int .i64, .int .i64]],[]⟩,fun x=>(x.1.1.1,x.1.1.2.1)⟩ (fun x=>rfl) (fun x=>by kernel_rfl)
theorem Yo : ∀n,dA (pJ (M.wC n)) |0=>qQ fun _=>rfl |n+1=>aog (M.wC n) (Yo n)
theorem ati : dA (pJ (M.ZE)):=Yo aA
def sG (m:Int->Int->Int->Option Bool):bC K:=cB 53 ⟨[.int .i64, .int .i64, .int .i64],[]⟩ (fun x=>m x.1.1 x.1.2.1 x.1.2.2.1)
def aoh : Cx K:=fG [] [] []
theorem atj : aG aoh:=ai aQ _ aW
theorem yQ : dA (sG (M.Jg)):= fK (cx:=aoh) true atj Tryz.func53 (aV (ah (by kernel_rfl))) ⟨⟨[.bool],[]⟩,fun x=>x.1.1⟩ (fun x=>by kernel_rfl)
def aiQ (y:Bool⊕Unit) {R:Type} (k:KT R):R:=match y with | .inl a0=>kk k Ex.ret ⟨[.bool],[]⟩ ((a0,()),()) | .inr a1=>kk k (Ex.exit 0) ⟨[.any],[]⟩ (((),()),())
def amq : List (dm K ((Bool)⊕Unit)):=[⟨Ex.ret,⟨[.bool],[]⟩,fun x=> .inl x.1.1⟩,⟨(Ex.exit 0),⟨[.any],[]⟩,fun x=> .inr (())⟩]
def Yp : cZ K:=dn D false 69 0 [0,3] [2] ⟨[.str, .int .i64],[]⟩ (fun x=>M.xm x.1.1 aA x.1.2.1) aiQ
def xU (m:(List UInt8)->Option Bool):bC K:=cB 50 ⟨[.str],[]⟩ (fun x=>m x.1.1)
def JE : Cx K:=fG [] [] [(4,Yp)]
theorem Yq : aG JE:=ai aQ _ aW
theorem aiR : bG JE (bD (bI Tryz.f50) 0) Yp:= bn (cx:=JE) (sh:=⟨[.str, .int .i64],[]⟩) (run:=fun n x=>M.xm x.1.1 n x.1.2.1) (di:=amq) aQ Yq aH (ah (by kernel_rfl)) (fun _=>rfl) (fun m x=>by kernel_rfl) (aj ⟨dC,fun _ _ _=>rfl⟩ (aj ⟨bu,fun _ _ _=>rfl⟩ aW)) false aA
theorem DI : dA (xU (M.lJ)):= fK (cx:=JE) true Yq Tryz.func50 (aV (aP 1 (by kernel_rfl) (bQ (.mk (by kernel_rfl) aiR)))) ⟨⟨[.bool],[]⟩,fun x=>x.1.1⟩ (fun x=>by kernel_rfl)
def Yr (y:Bool⊕((List (List UInt8))×Int)) {R:Type} (k:KT R):R:=match y with | .inl a0=>kk k Ex.ret ⟨[.any, .any, .bool],[]⟩ (((),((),(a0,()))),()) | .inr a1=>kk k (Ex.exit 2) ⟨[.aZ U.str, .int .i64, .any],[]⟩ ((a1.1,(a1.2,((),()))),())
def aaJ : List (dm K ((Bool)⊕((List (List UInt8))×Int))):=[⟨Ex.ret,⟨[.any, .any, .bool],[]⟩,fun x=> .inl x.1.2.2.1⟩,⟨(Ex.exit 2),⟨[.aZ U.str, .int .i64, .any],[]⟩,fun x=> .inr ((x.1.1,x.1.2.1))⟩]
def LG : cZ K:=dn D false 39 0 [0,3,4] [0,3,2] ⟨[.aZ U.str, .int .i64, .int .i64],[]⟩ (fun x=>M.ku x.1.1 x.1.2.1 aA x.1.2.2.1) Yr
def adK (y:Bool⊕Unit) {R:Type} (k:KT R):R:=match y with | .inl a0=>kk k Ex.ret ⟨[.bool],[]⟩ ((a0,()),()) | .inr a1=>kk k (Ex.exit 0) ⟨[.any],[]⟩ (((),()),())
def afR : List (dm K ((Bool)⊕Unit)):=[⟨Ex.ret,⟨[.bool],[]⟩,fun x=> .inl x.1.1⟩,⟨(Ex.exit 0),⟨[.any],[]⟩,fun x=> .inr (())⟩]
def QO : cZ K:=dn D false 39 0 [0,3] [2] ⟨[.aZ U.str, .int .i64],[]⟩ (fun x=>M.lD aA x.1.1 x.1.2.1) adK
def UE (m:(List (List UInt8))->Option Bool):bC K:=cB 306 ⟨[.aZ U.str],[]⟩ (fun x=>m x.1.1)
def vF : Cx K:=fG [(50, .plain)] [xU M.lJ] [(9,LG),(4,QO)]
theorem E8 : aG vF:=ai aQ _ (aj DI aW)
theorem Yt : bG vF (bD (bD (bI Tryz.f306) 0) 0) LG:= bn (cx:=vF) (sh:=⟨[.aZ U.str, .int .i64, .int .i64],[]⟩) (run:=fun n x=>M.ku x.1.1 x.1.2.1 n x.1.2.2.1) (di:=aaJ) aQ E8 aH (ah (by kernel_rfl)) (fun _=>rfl) (fun m x=>by kernel_rfl) (aj ⟨dC,fun _ _ _=>rfl⟩ (aj ⟨bu,fun _ _ _=>rfl⟩ aW)) false aA
theorem adL : bG vF (bD (bI Tryz.f306) 0) QO:= bn (cx:=vF) (sh:=⟨[.aZ U.str, .int .i64],[]⟩) (run:=fun n x=>M.lD n x.1.1 x.1.2.1) (di:=afR) aQ E8 aH (aP 1 (by kernel_rfl) (bQ (.mk (by kernel_rfl) Yt))) (fun _=>rfl) (fun m x=>by kernel_rfl) (aj ⟨dC,fun _ _ _=>rfl⟩ (aj ⟨bu,fun _ _ _=>rfl⟩ aW)) false aA
theorem aoi : dA (UE (M.Hq)):= fK (cx:=vF) true E8 Tryz.func306 (aV (aP 1 (by kernel_rfl) (bQ (.mk (by kernel_rfl) adL)))) ⟨⟨[.bool],[]⟩,fun x=>x.1.1⟩ (fun x=>by kernel_rfl)
def afS (y:Bool⊕Unit) {R:Type} (k:KT R):R:=match y with | .inl a0=>kk k Ex.ret ⟨[.bool],[.dead]⟩ ((a0,()),((),())) | .inr a1=>kk k (Ex.exit 0) ⟨[.any],[.dead]⟩ (((),()),((),()))
def aiS : List (dm K ((Bool)⊕Unit)):=[⟨Ex.ret,⟨[.bool],[.dead]⟩,fun x=> .inl x.1.1⟩,⟨(Ex.exit 0),⟨[.any],[.dead]⟩,fun x=> .inr (())⟩]
def UF : cZ K:=dn D false 18 1 [1,3] [2] ⟨[.ptr 0 0, .int .i64],[.el U.Type]⟩ (fun x=>M.kR aA x.1.2.1 x.2.1) afS
def Yu (m:M.ae->Option Bool):bC K:=cB 307 ⟨[.el U.Type],[]⟩ (fun x=>m x.1.1)
def FZ : Cx K:=fG [] [] [(2,UF)]
theorem UG : aG FZ:=ai aQ _ aW
theorem afT : bG FZ (bD (bI Tryz.f307) 0) UF:= bn (cx:=FZ) (sh:=⟨[.ptr 0 0, .int .i64],[.el U.Type]⟩) (run:=fun n x=>M.kR n x.1.2.1 x.2.1) (di:=aiS) aQ UG aH (ah (by kernel_rfl)) (fun _=>rfl) (fun m x=>by kernel_rfl) (aj ⟨dC,fun _ _ _=>rfl⟩ (aj ⟨bu,fun _ _ _=>rfl⟩ aW)) false aA
theorem aq6 : dA (Yu (M.BI)):= fK (cx:=FZ) true UG Tryz.func307 (aV (aP 1 (by kernel_rfl) (bQ (.mk (by kernel_rfl) afT)))) ⟨⟨[.bool],[]⟩,fun x=>x.1.1⟩ (fun x=>by kernel_rfl)
def mr (m:M.ae->Int->Int->Option Bool):bC K:=cB 136 ⟨[.el U.Type, .int .i64, .int .i64],[]⟩ (fun x=>m x.1.1 x.1.2.1 x.1.2.2.1)
def amr (y:Bool⊕Unit) {R:Type} (k:KT R):R:=match y with | .inl a0=>kk k Ex.ret ⟨[.bool],[.dead]⟩ ((a0,()),((),())) | .inr a1=>kk k (Ex.exit 0) ⟨[.any],[.dead]⟩ (((),()),((),()))
def aoj : List (dm K ((Bool)⊕Unit)):=[⟨Ex.ret,⟨[.bool],[.dead]⟩,fun x=> .inl x.1.1⟩,⟨(Ex.exit 0),⟨[.any],[.dead]⟩,fun x=> .inr (())⟩]
def ach (dN:M.ae->Int->Int->Option Bool):cZ K:=dn D false 28 1 [1,2,3,7] [6] ⟨[.int .i64, .int .i64, .ptr 0 0, .int .i64],[.el U.Type]⟩ (fun x=>M.pK dN x.1.1 x.1.2.1 aA x.1.2.2.2.1 x.2.1) amr
def Oc (dN:M.ae->Int->Int->Option Bool):Cx K:=fG [(53, .plain),(136, .plain)] [sG M.Jg,mr dN] [(4,ach dN)]
theorem aci (dN:M.ae->Int->Int->Option Bool) (xY:dA (mr dN)):aG (Oc dN):=ai aQ _ (aj yQ (aj xY aW))
theorem ams (dN:M.ae->Int->Int->Option Bool) (xY:dA (mr dN)):bG (Oc dN) (bD (bI Tryz.f136) 0) (ach dN):= bn (cx:=Oc dN) (sh:=⟨[.int .i64, .int .i64, .ptr 0 0, .int .i64],[.el U.Type]⟩) (run:=fun n x=>M.pK dN x.1.1 x.1.2.1 n x.1.2.2.2.1 x.2.1) (di:=aoj) aQ (aci dN xY) aH (ah (by kernel_rfl)) (fun _=>rfl) (fun m x=>by kernel_rfl) (aj ⟨dC,fun _ _ _=>rfl⟩ (aj ⟨bu,fun _ _ _=>rfl⟩ aW)) false aA
theorem aq7 (dN:M.ae->Int->Int->Option Bool) (xY:dA (mr dN)):dA (mr (M.SB dN)):= uA (cx:=Oc dN) (fz:=true) aQ (aci dN xY) aH ⟨Tryz.func136,by kernel_rfl⟩ (aV (aP 1 (by kernel_rfl) (bQ (.mk (by kernel_rfl) (ams dN xY))))) ⟨⟨[.bool],[]⟩,fun x=>x.1.1⟩ (fun x=>rfl) (fun x=>by kernel_rfl)
theorem acj : ∀n,dA (mr (M.l7 n)) |0=>qQ fun _=>rfl |n+1=>aq7 (M.l7 n) (acj n)
theorem Vt : dA (mr (M.oL)):=acj aA
def Yv (m:M.ae->Option Bool):bC K:=cB 266 ⟨[.el U.Type],[]⟩ (fun x=>m x.1.1)
def ack : Cx K:=fG [(53, .plain),(50, .plain),(306, .plain),(307, .plain),(136, .plain)] [sG M.Jg,xU M.lJ,UE M.Hq,Yu M.BI,mr M.oL] []
theorem amu : aG ack:=ai aQ _ (aj yQ (aj DI (aj aoi (aj aq6 (aj Vt aW)))))
theorem aq8 : dA (Yv (M.LH)):= fK (cx:=ack) true amu Tryz.func266 (aV (ah (by kernel_rfl))) ⟨⟨[.bool],[]⟩,fun x=>x.1.1⟩ (fun x=>by kernel_rfl)
def nM (m:M.ae->Option Bool):bC K:=cB 206 ⟨[.el U.Type],[]⟩ (fun x=>m x.1.1)
def afU (y:Bool⊕Unit) {R:Type} (k:KT R):R:=match y with | .inl a0=>kk k Ex.ret ⟨[.bool],[.dead]⟩ ((a0,()),((),())) | .inr a1=>kk k (Ex.exit 0) ⟨[.any],[.dead]⟩ (((),()),((),()))
def aiT : List (dm K ((Bool)⊕Unit)):=[⟨Ex.ret,⟨[.bool],[.dead]⟩,fun x=> .inl x.1.1⟩,⟨(Ex.exit 0),⟨[.any],[.dead]⟩,fun x=> .inr (())⟩]
def UH (dF:M.ae->Option Bool):cZ K:=dn D false 21 1 [1,3] [2] ⟨[.ptr 0 0, .int .i64],[.el U.Type]⟩ (fun x=>M.kS dF aA x.1.2.1 x.2.1) afU
def F5 (dF:M.ae->Option Bool):Cx K:=fG [(266, .plain),(206, .plain)] [Yv M.LH,nM dF] [(4,UH dF)]
theorem UI (dF:M.ae->Option Bool) (rP:dA (nM dF)):aG (F5 dF):=ai aQ _ (aj aq8 (aj rP aW))
theorem afV (dF:M.ae->Option Bool) (rP:dA (nM dF)):bG (F5 dF) (bD (bI Tryz.f206) 0) (UH dF):= bn (cx:=F5 dF) (sh:=⟨[.ptr 0 0, .int .i64],[.el U.Type]⟩) (run:=fun n x=>M.kS dF n x.1.2.1 x.2.1) (di:=aiT) aQ (UI dF rP) aH (ah (by kernel_rfl)) (fun _=>rfl) (fun m x=>by kernel_rfl) (aj ⟨dC,fun _ _ _=>rfl⟩ (aj ⟨bu,fun _ _ _=>rfl⟩ aW)) false aA
theorem amv (dF:M.ae->Option Bool) (rP:dA (nM dF)):dA (nM (M.JF dF)):= uA (cx:=F5 dF) (fz:=true) aQ (UI dF rP) aH ⟨Tryz.func206,by kernel_rfl⟩ (aV (aP 1 (by kernel_rfl) (bQ (.mk (by kernel_rfl) (afV dF rP))))) ⟨⟨[.bool],[]⟩,fun x=>x.1.1⟩ (fun x=>rfl) (fun x=>by kernel_rfl)
theorem UJ : ∀n,dA (nM (M.mP n)) |0=>qQ fun _=>rfl |n+1=>amv (M.mP n) (UJ n)
theorem aq9 : dA (nM (M.SC)):=UJ aA
def yL (m:M.ae->Int->Option Int):bC K:=cI 183 ⟨[.el U.Type, .int .i64],[]⟩ (fun x=>m x.1.1 x.1.2.1)
def ara (y:Int) {R:Type} (k:KT R):R:=match y with |a0=>kk k (Ex.exit 0) ⟨[.int .i64],[]⟩ ((a0,()),())
def atl : List (dm K Int):=[⟨(Ex.exit 0),⟨[.int .i64],[]⟩,fun x=>x.1.1⟩]
def akr (fU:M.ae->Int->Option Int):cZ K:=dn D false 26 0 [1,5,11,12,13] [5] ⟨[.int .i64, .int .i64, .aZ U.Type, .int .i64, .int .i64],[]⟩ (fun x=>M.Ce fU x.1.1 x.1.2.2.1 x.1.2.2.2.1 aA x.1.2.1 x.1.2.2.2.2.1) ara
def ZF (fU:M.ae->Int->Option Int):Cx K:=fG [(183, .plain)] [yL fU] [(5,akr fU)]
theorem aks (fU:M.ae->Int->Option Int) (Cf:dA (yL fU)):aG (ZF fU):=ai aQ _ (aj Cf aW)
theorem arb (fU:M.ae->Int->Option Int) (Cf:dA (yL fU)):bG (ZF fU) (bD (bI Tryz.f183) 0) (akr fU):= bn (cx:=ZF fU) (sh:=⟨[.int .i64, .int .i64, .aZ U.Type, .int .i64, .int .i64],[]⟩) (run:=fun n x=>M.Ce fU x.1.1 x.1.2.2.1 x.1.2.2.2.1 n x.1.2.1 x.1.2.2.2.2.1) (di:=atl) aQ (aks fU Cf) aH (ah (by kernel_rfl)) (fun _=>rfl) (fun m x=>by kernel_rfl) (aj ⟨bu,fun _ _ _=>rfl⟩ aW) false aA
theorem auS (fU:M.ae->Int->Option Int) (Cf:dA (yL fU)):dA (yL (M.afW fU)):= uA (cx:=ZF fU) (fz:=true) aQ (aks fU Cf) aH ⟨Tryz.func183,by kernel_rfl⟩ (aV (aP 1 (by kernel_rfl) (bQ (.mk (by kernel_rfl) (arb fU Cf))))) ⟨⟨[.int .i64],[]⟩,fun x=>x.1.1⟩ (fun x=>rfl) (fun x=>by kernel_rfl)
theorem akt : ∀n,dA (yL (M.Hr n)) |0=>qQ fun _=>rfl |n+1=>auS (M.Hr n) (akt n)
theorem ayJ : dA (yL (M.asE)):=akt aA
def vT (m:M.ae->Option Int):bC K:=cI 184 ⟨[.el U.Type],[]⟩ (fun x=>m x.1.1)
def aok (y:Int) {R:Type} (k:KT R):R:=match y with |a0=>kk k (Ex.exit 0) ⟨[.int .i64],[]⟩ ((a0,()),())
def arc : List (dm K Int):=[⟨(Ex.exit 0),⟨[.int .i64],[]⟩,fun x=>x.1.1⟩]
def afX (eH:M.ae->Option Int):cZ K:=dn D false 19 0 [3,7,8,9] [3] ⟨[.int .i64, .aZ U.Type, .int .i64, .int .i64],[]⟩ (fun x=>M.zn eH x.1.2.1 x.1.2.2.1 aA x.1.1 x.1.2.2.2.1) aok
def SE (eH:M.ae->Option Int):Cx K:=fG [(184, .plain)] [vT eH] [(3,afX eH)]
theorem afY (eH:M.ae->Option Int) (zO:dA (vT eH)):aG (SE eH):=ai aQ _ (aj zO aW)
theorem aol (eH:M.ae->Option Int) (zO:dA (vT eH)):bG (SE eH) (bD (bI Tryz.f184) 0) (afX eH):= bn (cx:=SE eH) (sh:=⟨[.int .i64, .aZ U.Type, .int .i64, .int .i64],[]⟩) (run:=fun n x=>M.zn eH x.1.2.1 x.1.2.2.1 n x.1.1 x.1.2.2.2.1) (di:=arc) aQ (afY eH zO) aH (ah (by kernel_rfl)) (fun _=>rfl) (fun m x=>by kernel_rfl) (aj ⟨bu,fun _ _ _=>rfl⟩ aW) false aA
theorem atm (eH:M.ae->Option Int) (zO:dA (vT eH)):dA (vT (M.ZG eH)):= uA (cx:=SE eH) (fz:=true) aQ (afY eH zO) aH ⟨Tryz.func184,by kernel_rfl⟩ (aV (aP 1 (by kernel_rfl) (bQ (.mk (by kernel_rfl) (aol eH zO))))) ⟨⟨[.int .i64],[]⟩,fun x=>x.1.1⟩ (fun x=>rfl) (fun x=>by kernel_rfl)
theorem afZ : ∀n,dA (vT (M.Ci n)) |0=>qQ fun _=>rfl |n+1=>atm (M.Ci n) (afZ n)
theorem awy : dA (vT (M.amZ)):=afZ aA
def iI (m:M.ae->Option Bool):bC K:=cB 185 ⟨[.el U.Type],[]⟩ (fun x=>m x.1.1)
def QP (m:M.ae->Option Bool):bC K:=cB 230 ⟨[.el U.Type],[]⟩ (fun x=>m x.1.1)
def UK (aX:M.ae->Option Bool):Cx K:=fG [(185, .plain)] [iI aX] []
theorem af0 (aX:M.ae->Option Bool) (fD:dA (iI aX)):aG (UK aX):=ai aQ _ (aj fD aW)
theorem amw (aX:M.ae->Option Bool) (fD:dA (iI aX)):dA (QP (M.Ea aX)):= uA (cx:=UK aX) (fz:=true) aQ (af0 aX fD) aH ⟨Tryz.func230,by kernel_rfl⟩ (aV (ah (by kernel_rfl))) ⟨⟨[.bool],[]⟩,fun x=>x.1.1⟩ (fun x=>rfl) (fun x=>by kernel_rfl)
def C9 (y:Int⊕Unit) {R:Type} (k:KT R):R:=match y with | .inl a0=>kk k Ex.ret ⟨[.int .i64],[]⟩ ((a0,()),()) | .inr a1=>kk k (Ex.exit 0) ⟨[.any],[]⟩ (((),()),())
def Eb : List (dm K ((Int)⊕Unit)):=[⟨Ex.ret,⟨[.int .i64],[]⟩,fun x=> .inl x.1.1⟩,⟨(Ex.exit 0),⟨[.any],[]⟩,fun x=> .inr (())⟩]
def uJ (aX:M.ae->Option Bool):cZ K:=dn D false 19 0 [0,1,7,8] [4] ⟨[.aZ U.Type, .fn 230 [], .int .i64, .int .i64],[]⟩ (fun x=>M.fV aX x.1.1 x.1.2.2.1 aA x.1.2.2.2.1) C9
def vG (m:(List M.ae)->Option Int):bC K:=cI 152 ⟨[.aZ U.Type, .fn 230 []],[]⟩ (fun x=>m x.1.1)
def jK (aX:M.ae->Option Bool):Cx K:=fG [(230, .plain)] [QP (M.Ea aX)] [(2,uJ aX)]
theorem uK (aX:M.ae->Option Bool) (fD:dA (iI aX)):aG (jK aX):=ai aQ _ (aj (amw aX fD) aW)
theorem Dc (aX:M.ae->Option Bool) (fD:dA (iI aX)):bG (jK aX) (bD (bI Tryz.f152) 0) (uJ aX):= bn (cx:=jK aX) (sh:=⟨[.aZ U.Type, .fn 230 [], .int .i64, .int .i64],[]⟩) (run:=fun n x=>M.fV aX x.1.1 x.1.2.2.1 n x.1.2.2.2.1) (di:=Eb) aQ (uK aX fD) aH (ah (by kernel_rfl)) (fun _=>rfl) (fun m x=>by kernel_rfl) (aj ⟨dC,fun _ _ _=>rfl⟩ (aj ⟨bu,fun _ _ _=>rfl⟩ aW)) false aA
theorem Ht (aX:M.ae->Option Bool) (fD:dA (iI aX)):dA (vG (M.lF aX)):= uA (cx:=jK aX) (fz:=true) aQ (uK aX fD) aH ⟨Tryz.func152,by kernel_rfl⟩ (aV (aP 1 (by kernel_rfl) (bQ (.mk (by kernel_rfl) (Dc aX fD))))) ⟨⟨[.int .i64],[]⟩,fun x=>x.1.1⟩ (fun x=>rfl) (fun x=>by kernel_rfl)
def rC (m:(List M.ae)->Option Bool):bC K:=cB 110 ⟨[.aZ U.Type, .fn 230 []],[]⟩ (fun x=>m x.1.1)
def sW (aX:M.ae->Option Bool):Cx K:=fG [(152, .plain)] [vG (M.lF aX)] []
theorem BJ (aX:M.ae->Option Bool) (fD:dA (iI aX)):aG (sW aX):=ai aQ _ (aj (Ht aX fD) aW)
theorem Ec (aX:M.ae->Option Bool) (fD:dA (iI aX)):dA (rC (M.gY aX)):= uA (cx:=sW aX) (fz:=true) aQ (BJ aX fD) aH ⟨Tryz.func110,by kernel_rfl⟩ (aV (ah (by kernel_rfl))) ⟨⟨[.bool],[]⟩,fun x=>x.1.1⟩ (fun x=>rfl) (fun x=>by kernel_rfl)
def kX (m:Int->Int->Int->Option Bool):bC K:=cB 32 ⟨[.int .i64, .int .i64, .int .i64],[]⟩ (fun x=>m x.1.1 x.1.2.1 x.1.2.2.1)
def aku : Cx K:=fG [] [] []
theorem ard : aG aku:=ai aQ _ aW
theorem oZ : dA (kX (M.yH)):= fK (cx:=aku) true ard Tryz.func32 (aV (ah (by kernel_rfl))) ⟨⟨[.bool],[]⟩,fun x=>x.1.1⟩ (fun x=>by kernel_rfl)
def Ed (m:(List (List UInt8))->Option Int):bC K:=cI 234 ⟨[.aZ U.str],[]⟩ (fun x=>m x.1.1)
def QQ : Cx K:=fG [] [] []
theorem adM : aG QQ:=ai aQ _ aW
theorem QR : dA (Ed (M.OJ)):= fK (cx:=QQ) true adM Tryz.func234 (aV (ah (by kernel_rfl))) ⟨⟨[.int .i64],[]⟩,fun x=>x.1.1⟩ (fun x=>by kernel_rfl)
def amx (y:Bool⊕((List UInt8))) {R:Type} (k:KT R):R:=match y with | .inl a0=>kk k Ex.ret ⟨[.any, .bool],[]⟩ (((),(a0,())),()) | .inr a1=>kk k (Ex.exit 0) ⟨[.str, .any],[]⟩ ((a1,((),())),())
def aom : List (dm K ((Bool)⊕((List UInt8)))):=[⟨Ex.ret,⟨[.any, .bool],[]⟩,fun x=> .inl x.1.2.1⟩,⟨(Ex.exit 0),⟨[.str, .any],[]⟩,fun x=> .inr (x.1.1)⟩]
def acm : cZ K:=dn D false 75 0 [0,7,8] [0,2] ⟨[.str, .int .i64, .int .i64],[]⟩ (fun x=>M.wE x.1.1 x.1.2.1 aA x.1.2.2.1) amx
def wP (m:(List UInt8)->Option Bool):bC K:=cB 27 ⟨[.str],[]⟩ (fun x=>m x.1.1)
def Oe : Cx K:=fG [] [] [(2,acm)]
theorem acn : aG Oe:=ai aQ _ aW
theorem amy : bG Oe (bD (bI Tryz.f27) 0) acm:= bn (cx:=Oe) (sh:=⟨[.str, .int .i64, .int .i64],[]⟩) (run:=fun n x=>M.wE x.1.1 x.1.2.1 n x.1.2.2.1) (di:=aom) aQ acn aH (ah (by kernel_rfl)) (fun _=>rfl) (fun m x=>by kernel_rfl) (aj ⟨dC,fun _ _ _=>rfl⟩ (aj ⟨bu,fun _ _ _=>rfl⟩ aW)) false aA
theorem BU : dA (wP (M.ng)):= fK (cx:=Oe) true acn Tryz.func27 (aV (aP 1 (by kernel_rfl) (bQ (.mk (by kernel_rfl) amy)))) ⟨⟨[.bool],[]⟩,fun x=>x.1.1⟩ (fun x=>by kernel_rfl)
def Og (m:(List UInt8)->Option Bool):bC K:=cB 295 ⟨[.str],[]⟩ (fun x=>m x.1.1)
def QS : Cx K:=fG [(27, .plain)] [wP M.ng] []
theorem adN : aG QS:=ai aQ _ (aj BU aW)
theorem aiU : dA (Og (M.AB)):= fK (cx:=QS) true adN Tryz.func295 (aV (ah (by kernel_rfl))) ⟨⟨[.bool],[]⟩,fun x=>x.1.1⟩ (fun x=>by kernel_rfl)
def zQ (y:Int⊕Unit) {R:Type} (k:KT R):R:=match y with | .inl a0=>kk k Ex.ret ⟨[.int .i64],[]⟩ ((a0,()),()) | .inr a1=>kk k (Ex.exit 0) ⟨[.any],[]⟩ (((),()),())
def Ac : List (dm K ((Int)⊕Unit)):=[⟨Ex.ret,⟨[.int .i64],[]⟩,fun x=> .inl x.1.1⟩,⟨(Ex.exit 0),⟨[.any],[]⟩,fun x=> .inr (())⟩]
def pM : cZ K:=dn D false 19 0 [0,1,7,8] [4] ⟨[.aZ U.str, .fn 295 [], .int .i64, .int .i64],[]⟩ (fun x=>M.ed x.1.1 x.1.2.2.1 aA x.1.2.2.2.1) zQ
def qI (m:(List (List UInt8))->Option Int):bC K:=cI 147 ⟨[.aZ U.str, .fn 295 []],[]⟩ (fun x=>m x.1.1)
def iV : Cx K:=fG [(295, .plain)] [Og M.AB] [(2,pM)]
theorem pO : aG iV:=ai aQ _ (aj aiU aW)
theorem zS : bG iV (bD (bI Tryz.f147) 0) pM:= bn (cx:=iV) (sh:=⟨[.aZ U.str, .fn 295 [], .int .i64, .int .i64],[]⟩) (run:=fun n x=>M.ed x.1.1 x.1.2.2.1 n x.1.2.2.2.1) (di:=Ac) aQ pO aH (ah (by kernel_rfl)) (fun _=>rfl) (fun m x=>by kernel_rfl) (aj ⟨dC,fun _ _ _=>rfl⟩ (aj ⟨bu,fun _ _ _=>rfl⟩ aW)) false aA
theorem Df : dA (qI (M.jC)):= fK (cx:=iV) true pO Tryz.func147 (aV (aP 1 (by kernel_rfl) (bQ (.mk (by kernel_rfl) zS)))) ⟨⟨[.int .i64],[]⟩,fun x=>x.1.1⟩ (fun x=>by kernel_rfl)
def ou (m:(List (List UInt8))->Option Bool):bC K:=cB 103 ⟨[.aZ U.str, .fn 295 []],[]⟩ (fun x=>m x.1.1)
def oP : Cx K:=fG [(147, .plain)] [qI M.jC] []
theorem zo : aG oP:=ai aQ _ (aj Df aW)
theorem Ad : dA (ou (M.ig)):= fK (cx:=oP) true zo Tryz.func103 (aV (ah (by kernel_rfl))) ⟨⟨[.bool],[]⟩,fun x=>x.1.1⟩ (fun x=>by kernel_rfl)
def Yw (m:(List (List UInt8))->Option Bool):bC K:=cB 231 ⟨[.aZ U.str],[]⟩ (fun x=>m x.1.1)
def aco : Cx K:=fG [(234, .plain),(32, .plain),(78, .plain),(103, .plain)] [Ed M.OJ,kX M.yH,uT M.kY,ou M.ig] []
theorem amz : aG aco:=ai aQ _ (aj QR (aj oZ (aj FO (aj Ad aW))))
theorem arf : dA (Yw (M.LJ)):= fK (cx:=aco) true amz Tryz.func231 (aV (ah (by kernel_rfl))) ⟨⟨[.bool],[]⟩,fun x=>x.1.1⟩ (fun x=>by kernel_rfl)
def IE (m:(List M.ae)->Option Int):bC K:=cI 233 ⟨[.aZ U.Type],[]⟩ (fun x=>m x.1.1)
def Yx : Cx K:=fG [] [] []
theorem aiV : aG Yx:=ai aQ _ aW
theorem Yy : dA (IE (M.Yz)):= fK (cx:=Yx) true aiV Tryz.func233 (aV (ah (by kernel_rfl))) ⟨⟨[.int .i64],[]⟩,fun x=>x.1.1⟩ (fun x=>by kernel_rfl)
def Ja (m:M.ae->Option Bool):bC K:=cB 120 ⟨[.el U.Type],[]⟩ (fun x=>m x.1.1)
def akv : Cx K:=fG [] [] []
theorem arh : aG akv:=ai aQ _ aW
theorem VA : dA (Ja (M.aep)):= fK (cx:=akv) true arh Tryz.func120 (aV (ah (by kernel_rfl))) ⟨⟨[.bool],[]⟩,fun x=>x.1.1⟩ (fun x=>by kernel_rfl)
def AL (y:Int⊕Unit) {R:Type} (k:KT R):R:=match y with | .inl a0=>kk k Ex.ret ⟨[.int .i64],[]⟩ ((a0,()),()) | .inr a1=>kk k (Ex.exit 0) ⟨[.any],[]⟩ (((),()),())
def BK : List (dm K ((Int)⊕Unit)):=[⟨Ex.ret,⟨[.int .i64],[]⟩,fun x=> .inl x.1.1⟩,⟨(Ex.exit 0),⟨[.any],[]⟩,fun x=> .inr (())⟩]
def rD : cZ K:=dn D false 19 0 [0,1,7,8] [4] ⟨[.aZ U.Type, .fn 120 [], .int .i64, .int .i64],[]⟩ (fun x=>M.eX x.1.1 x.1.2.2.1 aA x.1.2.2.2.1) AL
def sZ (m:(List M.ae)->Option Int):bC K:=cI 152 ⟨[.aZ U.Type, .fn 120 []],[]⟩ (fun x=>m x.1.1)
def jm : Cx K:=fG [(120, .plain)] [Ja M.aep] [(2,rD)]
theorem rE : aG jm:=ai aQ _ (aj VA aW)
theorem AO : bG jm (bD (bI Tryz.f152) 0) rD:= bn (cx:=jm) (sh:=⟨[.aZ U.Type, .fn 120 [], .int .i64, .int .i64],[]⟩) (run:=fun n x=>M.eX x.1.1 x.1.2.2.1 n x.1.2.2.2.1) (di:=BK) aQ rE aH (ah (by kernel_rfl)) (fun _=>rfl) (fun m x=>by kernel_rfl) (aj ⟨dC,fun _ _ _=>rfl⟩ (aj ⟨bu,fun _ _ _=>rfl⟩ aW)) false aA
theorem EI : dA (sZ (M.jQ)):= fK (cx:=jm) true rE Tryz.func152 (aV (aP 1 (by kernel_rfl) (bQ (.mk (by kernel_rfl) AO)))) ⟨⟨[.int .i64],[]⟩,fun x=>x.1.1⟩ (fun x=>by kernel_rfl)
def pR (m:(List M.ae)->Option Bool):bC K:=cB 110 ⟨[.aZ U.Type, .fn 120 []],[]⟩ (fun x=>m x.1.1)
def qJ : Cx K:=fG [(152, .plain)] [sZ M.jQ] []
theorem Ae : aG qJ:=ai aQ _ (aj EI aW)
theorem BL : dA (pR (M.iw)):= fK (cx:=qJ) true Ae Tryz.func110 (aV (ah (by kernel_rfl))) ⟨⟨[.bool],[]⟩,fun x=>x.1.1⟩ (fun x=>by kernel_rfl)
def af1 (m:M.ae->Int->Option Bool):bC K:=cB 232 ⟨[.el U.Type, .int .i64],[]⟩ (fun x=>m x.1.1 x.1.2.1)
def akw : Cx K:=fG [(233, .plain),(110, .plain)] [IE M.Yz,pR M.iw] []
theorem ari : aG akw:=ai aQ _ (aj Yy (aj BL aW))
theorem auT : dA (af1 (M.Hu)):= fK (cx:=akw) true ari Tryz.func232 (aV (ah (by kernel_rfl))) ⟨⟨[.bool],[]⟩,fun x=>x.1.1⟩ (fun x=>by kernel_rfl)
def EJ (y:Int⊕Unit) {R:Type} (k:KT R):R:=match y with | .inl a0=>kk k Ex.ret ⟨[.int .i64],[]⟩ ((a0,()),()) | .inr a1=>kk k (Ex.exit 0) ⟨[.any],[]⟩ (((),()),())
def Fa : List (dm K ((Int)⊕Unit)):=[⟨Ex.ret,⟨[.int .i64],[]⟩,fun x=> .inl x.1.1⟩,⟨(Ex.exit 0),⟨[.any],[]⟩,fun x=> .inr (())⟩]
def wF : cZ K:=dn D false 19 0 [0,1,7,8] [4] ⟨[.aZ U.i64, .int .i64, .int .i64, .int .i64],[]⟩ (fun x=>M.gG x.1.1 x.1.2.1 x.1.2.2.1 aA x.1.2.2.2.1) EJ
def xM (m:(List Int)->Int->Option Int):bC K:=cI 186 ⟨[.aZ U.i64, .int .i64],[]⟩ (fun x=>m x.1.1 x.1.2.1)
def kD : Cx K:=fG [] [] [(2,wF)]
theorem wG : aG kD:=ai aQ _ aW
theorem EK : bG kD (bD (bI Tryz.f186) 0) wF:= bn (cx:=kD) (sh:=⟨[.aZ U.i64, .int .i64, .int .i64, .int .i64],[]⟩) (run:=fun n x=>M.gG x.1.1 x.1.2.1 x.1.2.2.1 n x.1.2.2.2.1) (di:=Fa) aQ wG aH (ah (by kernel_rfl)) (fun _=>rfl) (fun m x=>by kernel_rfl) (aj ⟨dC,fun _ _ _=>rfl⟩ (aj ⟨bu,fun _ _ _=>rfl⟩ aW)) false aA
theorem JG : dA (xM (M.mQ)):= fK (cx:=kD) true wG Tryz.func186 (aV (aP 1 (by kernel_rfl) (bQ (.mk (by kernel_rfl) EK)))) ⟨⟨[.int .i64],[]⟩,fun x=>x.1.1⟩ (fun x=>by kernel_rfl)
def uM (m:(List Int)->Int->Option Bool):bC K:=cB 153 ⟨[.aZ U.i64, .int .i64],[]⟩ (fun x=>m x.1.1 x.1.2.1)
def vH : Cx K:=fG [(186, .plain)] [xM M.mQ] []
theorem Ee : aG vH:=ai aQ _ (aj JG aW)
theorem Fb : dA (uM (M.jg)):= fK (cx:=vH) true Ee Tryz.func153 (aV (ah (by kernel_rfl))) ⟨⟨[.bool],[]⟩,fun x=>x.1.1⟩ (fun x=>by kernel_rfl)
def gZ (m:M.ae->(List Int)->Option Bool):bC K:=cB 113 ⟨[.el U.Type, .aZ U.i64],[]⟩ (fun x=>m x.1.1 x.1.2.1)
def QT (m:M.ae->(List Int)->Option Bool):bC K:=cB 154 ⟨[.el U.Type, .rp U.Qi 0],[]⟩ (fun x=>m x.1.1 x.1.2.1)
def UL (aY:M.ae->(List Int)->Option Bool):Cx K:=fG [(113, .plain)] [gZ aY] []
theorem af2 (aY:M.ae->(List Int)->Option Bool) (fE:dA (gZ aY)):aG (UL aY):=ai aQ _ (aj fE aW)
theorem amA (aY:M.ae->(List Int)->Option Bool) (fE:dA (gZ aY)):dA (QT (M.Ef aY)):= uA (cx:=UL aY) (fz:=true) aQ (af2 aY fE) aH ⟨Tryz.func154,by kernel_rfl⟩ (aV (ah (by kernel_rfl))) ⟨⟨[.bool],[]⟩,fun x=>x.1.1⟩ (fun x=>rfl) (fun x=>by kernel_rfl)
def AP (y:Int⊕Unit) {R:Type} (k:KT R):R:=match y with | .inl a0=>kk k Ex.ret ⟨[.int .i64],[]⟩ ((a0,()),()) | .inr a1=>kk k (Ex.exit 0) ⟨[.any],[]⟩ (((),()),())
def BM : List (dm K ((Int)⊕Unit)):=[⟨Ex.ret,⟨[.int .i64],[]⟩,fun x=> .inl x.1.1⟩,⟨(Ex.exit 0),⟨[.any],[]⟩,fun x=> .inr (())⟩]
def rF (aY:M.ae->(List Int)->Option Bool):cZ K:=dn D false 19 0 [0,1,7,8] [4] ⟨[.aZ U.Type, .fn 154 [.rp U.Qi 0], .int .i64, .int .i64],[]⟩ (fun x=>M.eY aY x.1.1 x.1.2.1.1 x.1.2.2.1 aA x.1.2.2.2.1) AP
def tq (m:(List M.ae)->(List Int)->Option Int):bC K:=cI 152 ⟨[.aZ U.Type, .fn 154 [.rp U.Qi 0]],[]⟩ (fun x=>m x.1.1 x.1.2.1.1)
def jo (aY:M.ae->(List Int)->Option Bool):Cx K:=fG [(154, .plain)] [QT (M.Ef aY)] [(2,rF aY)]
theorem rG (aY:M.ae->(List Int)->Option Bool) (fE:dA (gZ aY)):aG (jo aY):=ai aQ _ (aj (amA aY fE) aW)
theorem AQ (aY:M.ae->(List Int)->Option Bool) (fE:dA (gZ aY)):bG (jo aY) (bD (bI Tryz.f152) 0) (rF aY):= bn (cx:=jo aY) (sh:=⟨[.aZ U.Type, .fn 154 [.rp U.Qi 0], .int .i64, .int .i64],[]⟩) (run:=fun n x=>M.eY aY x.1.1 x.1.2.1.1 x.1.2.2.1 n x.1.2.2.2.1) (di:=BM) aQ (rG aY fE) aH (ah (by kernel_rfl)) (fun _=>rfl) (fun m x=>by kernel_rfl) (aj ⟨dC,fun _ _ _=>rfl⟩ (aj ⟨bu,fun _ _ _=>rfl⟩ aW)) false aA
theorem EL (aY:M.ae->(List Int)->Option Bool) (fE:dA (gZ aY)):dA (tq (M.jR aY)):= uA (cx:=jo aY) (fz:=true) aQ (rG aY fE) aH ⟨Tryz.func152,by kernel_rfl⟩ (aV (aP 1 (by kernel_rfl) (bQ (.mk (by kernel_rfl) (AQ aY fE))))) ⟨⟨[.int .i64],[]⟩,fun x=>x.1.1⟩ (fun x=>rfl) (fun x=>by kernel_rfl)
def pU (m:(List M.ae)->(List Int)->Option Bool):bC K:=cB 110 ⟨[.aZ U.Type, .fn 154 [.rp U.Qi 0]],[]⟩ (fun x=>m x.1.1 x.1.2.1.1)
def qK (aY:M.ae->(List Int)->Option Bool):Cx K:=fG [(152, .plain)] [tq (M.jR aY)] []
theorem Af (aY:M.ae->(List Int)->Option Bool) (fE:dA (gZ aY)):aG (qK aY):=ai aQ _ (aj (EL aY fE) aW)
theorem BN (aY:M.ae->(List Int)->Option Bool) (fE:dA (gZ aY)):dA (pU (M.iy aY)):= uA (cx:=qK aY) (fz:=true) aQ (Af aY fE) aH ⟨Tryz.func110,by kernel_rfl⟩ (aV (ah (by kernel_rfl))) ⟨⟨[.bool],[]⟩,fun x=>x.1.1⟩ (fun x=>rfl) (fun x=>by kernel_rfl)
def af4 (aY:M.ae->(List Int)->Option Bool):Cx K:=fG [(153, .plain),(110, .plain)] [uM M.jg,pU (M.iy aY)] []
theorem aon (aY:M.ae->(List Int)->Option Bool) (fE:dA (gZ aY)):aG (af4 aY):=ai aQ _ (aj Fb (aj (BN aY fE) aW))
theorem aoo (aY:M.ae->(List Int)->Option Bool) (fE:dA (gZ aY)):dA (gZ (M.Oh aY)):= uA (cx:=af4 aY) (fz:=true) aQ (aon aY fE) aH ⟨Tryz.func113,by kernel_rfl⟩ (aV (ah (by kernel_rfl))) ⟨⟨[.bool],[]⟩,fun x=>x.1.1⟩ (fun x=>rfl) (fun x=>by kernel_rfl)
theorem YA : ∀n,dA (gZ (M.lT n)) |0=>qQ fun _=>rfl |n+1=>aoo (M.lT n) (YA n)
theorem RJ : dA (gZ (M.lX)):=YA aA
def af5 (aX:M.ae->Option Bool):Cx K:=fG [(110, .plain),(32, .plain),(231, .plain),(27, .plain),(232, .plain),(233, .plain),(234, .plain),(113, .plain)] [rC (M.gY aX),kX M.yH,Yw M.LJ,wP M.ng,af1 M.Hu,IE M.Yz,Ed M.OJ,gZ M.lX] []
theorem aop (aX:M.ae->Option Bool) (fD:dA (iI aX)):aG (af5 aX):=ai aQ _ (aj (Ec aX fD) (aj oZ (aj arf (aj BU (aj auT (aj Yy (aj QR (aj RJ aW))))))))
theorem aoq (aX:M.ae->Option Bool) (fD:dA (iI aX)):dA (iI (M.Hw aX)):= uA (cx:=af5 aX) (fz:=true) aQ (aop aX fD) aH ⟨Tryz.func185,by kernel_rfl⟩ (aV (ah (by kernel_rfl))) ⟨⟨[.bool],[]⟩,fun x=>x.1.1⟩ (fun x=>rfl) (fun x=>by kernel_rfl)
theorem YB : ∀n,dA (iI (M.tu n)) |0=>qQ fun _=>rfl |n+1=>aoq (M.tu n) (YB n)
theorem asF : dA (iI (M.Zz)):=YB aA
def We (m:M.ae->Option Bool):bC K:=cB 168 ⟨[.el U.Type],[]⟩ (fun x=>m x.1.1)
def aor : Cx K:=fG [(205, .plain),(206, .plain)] [pJ M.ZE,nM M.SC] []
theorem atn : aG aor:=ai aQ _ (aj ati (aj aq9 aW))
theorem anC : dA (We (M.Nj)):= fK (cx:=aor) true atn Tryz.func168 (aV (ah (by kernel_rfl))) ⟨⟨[.bool],[]⟩,fun x=>x.1.1⟩ (fun x=>by kernel_rfl)
def acp (m:M.az->Int->Option Int):bC K:=cI 263 ⟨[.el U.Param, .int .i64],[]⟩ (fun x=>m x.1.1 x.1.2.1)
def af6 : Cx K:=fG [(204, .plain)] [lu M.QG] []
theorem aos : aG af6:=ai aQ _ (aj akm aW)
theorem ato : dA (acp (M.QU)):= fK (cx:=af6) true aos Tryz.func263 (aV (ah (by kernel_rfl))) ⟨⟨[.int .i64],[]⟩,fun x=>x.1.1⟩ (fun x=>by kernel_rfl)
def af7 (y:Int⊕Int) {R:Type} (k:KT R):R:=match y with | .inl a0=>kk k Ex.ret ⟨[.any, .int .i64],[]⟩ (((),(a0,())),()) | .inr a1=>kk k (Ex.exit 0) ⟨[.int .i64, .any],[]⟩ ((a1,((),())),())
def aiW : List (dm K ((Int)⊕Int)):=[⟨Ex.ret,⟨[.any, .int .i64],[]⟩,fun x=> .inl x.1.2.1⟩,⟨(Ex.exit 0),⟨[.int .i64, .any],[]⟩,fun x=> .inr (x.1.1)⟩]
def UM : cZ K:=dn D false 27 0 [0,1,5] [1,4] ⟨[.aZ U.Param, .int .i64, .int .i64],[]⟩ (fun x=>M.uj x.1.1 aA x.1.2.1 x.1.2.2.1) af7
def YC (m:(List M.az)->Int->Option Int):bC K:=cI 203 ⟨[.aZ U.Param, .int .i64],[]⟩ (fun x=>m x.1.1 x.1.2.1)
def F6 : Cx K:=fG [(263, .plain)] [acp M.QU] [(5,UM)]
theorem UN : aG F6:=ai aQ _ (aj ato aW)
theorem af8 : bG F6 (bD (bI Tryz.f203) 0) UM:= bn (cx:=F6) (sh:=⟨[.aZ U.Param, .int .i64, .int .i64],[]⟩) (run:=fun n x=>M.uj x.1.1 n x.1.2.1 x.1.2.2.1) (di:=aiW) aQ UN aH (ah (by kernel_rfl)) (fun _=>rfl) (fun m x=>by kernel_rfl) (aj ⟨dC,fun _ _ _=>rfl⟩ (aj ⟨bu,fun _ _ _=>rfl⟩ aW)) false aA
theorem arj : dA (YC (M.LK)):= fK (cx:=F6) true UN Tryz.func203 (aV (aP 1 (by kernel_rfl) (bQ (.mk (by kernel_rfl) af8)))) ⟨⟨[.int .i64],[]⟩,fun x=>x.1.1⟩ (fun x=>by kernel_rfl)
def QV (m:M.af->Int->Option Int):bC K:=cI 166 ⟨[.el U.eQ, .int .i64],[]⟩ (fun x=>m x.1.1 x.1.2.1)
def UO : Cx K:=fG [(203, .plain),(204, .plain)] [YC M.LK,lu M.QG] []
theorem af9 : aG UO:=ai aQ _ (aj arj (aj akm aW))
theorem amB : dA (QV (M.Eg)):= fK (cx:=UO) true af9 Tryz.func166 (aV (ah (by kernel_rfl))) ⟨⟨[.int .i64],[]⟩,fun x=>x.1.1⟩ (fun x=>by kernel_rfl)
def aga (m:M.aT->Int->Option Int):bC K:=cI 131 ⟨[.el U.Func, .int .i64],[]⟩ (fun x=>m x.1.1 x.1.2.1)
def akx : Cx K:=fG [(166, .plain)] [QV M.Eg] []
theorem ark : aG akx:=ai aQ _ (aj amB aW)
theorem auU : dA (aga (M.YD)):= fK (cx:=akx) true ark Tryz.func131 (aV (ah (by kernel_rfl))) ⟨⟨[.int .i64],[]⟩,fun x=>x.1.1⟩ (fun x=>by kernel_rfl)
def aiX (y:Int⊕Int) {R:Type} (k:KT R):R:=match y with | .inl a0=>kk k Ex.ret ⟨[.any, .int .i64],[]⟩ (((),(a0,())),()) | .inr a1=>kk k (Ex.exit 0) ⟨[.int .i64, .any],[]⟩ ((a1,((),())),())
def amC : List (dm K ((Int)⊕Int)):=[⟨Ex.ret,⟨[.any, .int .i64],[]⟩,fun x=> .inl x.1.2.1⟩,⟨(Ex.exit 0),⟨[.int .i64, .any],[]⟩,fun x=> .inr (x.1.1)⟩]
def YE : cZ K:=dn D false 27 0 [0,1,5] [1,4] ⟨[.aZ U.Func, .int .i64, .int .i64],[]⟩ (fun x=>M.xn x.1.1 aA x.1.2.1 x.1.2.2.1) aiX
def acr (m:(List M.aT)->Int->Option Int):bC K:=cI 85 ⟨[.aZ U.Func, .int .i64],[]⟩ (fun x=>m x.1.1 x.1.2.1)
def JH : Cx K:=fG [(131, .plain)] [aga M.YD] [(5,YE)]
theorem YF : aG JH:=ai aQ _ (aj auU aW)
theorem aiY : bG JH (bD (bI Tryz.f85) 0) YE:= bn (cx:=JH) (sh:=⟨[.aZ U.Func, .int .i64, .int .i64],[]⟩) (run:=fun n x=>M.xn x.1.1 n x.1.2.1 x.1.2.2.1) (di:=amC) aQ YF aH (ah (by kernel_rfl)) (fun _=>rfl) (fun m x=>by kernel_rfl) (aj ⟨dC,fun _ _ _=>rfl⟩ (aj ⟨bu,fun _ _ _=>rfl⟩ aW)) false aA
theorem atp : dA (acr (M.QW)):= fK (cx:=JH) true YF Tryz.func85 (aV (aP 1 (by kernel_rfl) (bQ (.mk (by kernel_rfl) aiY)))) ⟨⟨[.int .i64],[]⟩,fun x=>x.1.1⟩ (fun x=>by kernel_rfl)
def agb (m:M.aN->Int->Option Int):bC K:=cI 44 ⟨[.el U.bV, .int .i64],[]⟩ (fun x=>m x.1.1 x.1.2.1)
def aky : Cx K:=fG [(84, .plain),(85, .plain)] [IB M.zk,acr M.QW] []
theorem arl : aG aky:=ai aQ _ (aj Ye (aj atp aW))
theorem auV : dA (agb (M.YG)):= fK (cx:=aky) true arl Tryz.func44 (aV (ah (by kernel_rfl))) ⟨⟨[.int .i64],[]⟩,fun x=>x.1.1⟩ (fun x=>by kernel_rfl)
def aiZ (y:Int⊕Int) {R:Type} (k:KT R):R:=match y with | .inl a0=>kk k Ex.ret ⟨[.any, .int .i64],[]⟩ (((),(a0,())),()) | .inr a1=>kk k (Ex.exit 0) ⟨[.int .i64, .any],[]⟩ ((a1,((),())),())
def amD : List (dm K ((Int)⊕Int)):=[⟨Ex.ret,⟨[.any, .int .i64],[]⟩,fun x=> .inl x.1.2.1⟩,⟨(Ex.exit 0),⟨[.int .i64, .any],[]⟩,fun x=> .inr (x.1.1)⟩]
def YH : cZ K:=dn D false 27 0 [0,1,5] [1,4] ⟨[.aZ U.bV, .int .i64, .int .i64],[]⟩ (fun x=>M.xq x.1.1 aA x.1.2.1 x.1.2.2.1) aiZ
def aa5 (m:(List M.aN)->Int->Option Int):bC K:=cI 16 ⟨[.aZ U.bV, .int .i64],[]⟩ (fun x=>m x.1.1 x.1.2.1)
def JI : Cx K:=fG [(44, .plain)] [agb M.YG] [(5,YH)]
theorem YI : aG JI:=ai aQ _ (aj auV aW)
theorem ai0 : bG JI (bD (bI Tryz.f16) 0) YH:= bn (cx:=JI) (sh:=⟨[.aZ U.bV, .int .i64, .int .i64],[]⟩) (run:=fun n x=>M.xq x.1.1 n x.1.2.1 x.1.2.2.1) (di:=amD) aQ YI aH (ah (by kernel_rfl)) (fun _=>rfl) (fun m x=>by kernel_rfl) (aj ⟨dC,fun _ _ _=>rfl⟩ (aj ⟨bu,fun _ _ _=>rfl⟩ aW)) false aA
theorem asM : dA (aa5 (M.JW)):= fK (cx:=JI) true YI Tryz.func16 (aV (aP 1 (by kernel_rfl) (bQ (.mk (by kernel_rfl) ai0)))) ⟨⟨[.int .i64],[]⟩,fun x=>x.1.1⟩ (fun x=>by kernel_rfl)
def acs (m:M.az->Option (M.az)):bC K:={f:=279,sh:=⟨[.el U.Param],[]⟩,R:=M.az,run:=fun x=>m x.1.1,dflt:=default,out:=fun r=>(Sh.enc D (.el U.Param) r,iY.encs D [] ())}
def agc : Cx K:=fG [(219, .iD)] [lC M.QK] []
theorem aot : aG agc:=ai aQ _ (aj ako aW)
theorem atq : dA (acs (M.QX)):= fK (cx:=agc) true aot Tryz.func279 (aV (ah (by kernel_rfl))) ⟨⟨[.el U.Param],[]⟩,fun x=>x.1.1⟩ (fun x=>by kernel_rfl)
def agd (y:(List M.az)) {R:Type} (k:KT R):R:=match y with |a0=>kk k (Ex.exit 0) ⟨[.own 1],[.dead, .arr U.Param]⟩ (((),()),((),(a0,())))
def ai1 : List (dm K ((List M.az))):=[⟨(Ex.exit 0),⟨[.own 1],[.dead, .arr U.Param]⟩,fun x=>x.2.2.1⟩]
def UQ : cZ K:=dn D false 23 1 [0,3,4] [3] ⟨[.aZ U.Param, .own 1, .int .i64],[.dead, .arr U.Param]⟩ (fun x=>M.pV x.1.1 aA x.1.2.2.1 x.2.2.1) agd
def YJ (m:(List M.az)->Option ((List M.az))):bC K:={f:=218,sh:=⟨[.aZ U.Param],[]⟩,R:=(List M.az),run:=fun x=>m x.1.1,dflt:=default,out:=fun r=>(Sh.enc D (.aZ U.Param) r,iY.encs D [] ())}
def F7 : Cx K:=fG [(279, .iD)] [acs M.QX] [(3,UQ)]
theorem UR : aG F7:=ai aQ _ (aj atq aW)
theorem age : bG F7 (bD (bI Tryz.f218) 0) UQ:= bn (cx:=F7) (sh:=⟨[.aZ U.Param, .own 1, .int .i64],[.dead, .arr U.Param]⟩) (run:=fun n x=>M.pV x.1.1 n x.1.2.2.1 x.2.2.1) (di:=ai1) aQ UR aH (ah (by kernel_rfl)) (fun _=>rfl) (fun m x=>by kernel_rfl) (aj ⟨bu,fun _ _ _=>rfl⟩ aW) false aA
theorem arn : dA (YJ (M.LM)):= fK (cx:=F7) true UR Tryz.func218 (aV (aP 1 (by kernel_rfl) (bQ (.mk (by kernel_rfl) age)))) ⟨⟨[.aZ U.Param],[]⟩,fun x=>x.1.1⟩ (fun x=>by kernel_rfl)
def QY (m:M.af->Option (M.af)):bC K:={f:=175,sh:=⟨[.el U.eQ],[]⟩,R:=M.af,run:=fun x=>m x.1.1,dflt:=default,out:=fun r=>(Sh.enc D (.el U.eQ) r,iY.encs D [] ())}
def UT : Cx K:=fG [(218, .iD),(219, .iD)] [YJ M.LM,lC M.QK] []
theorem agf : aG UT:=ai aQ _ (aj arn (aj ako aW))
theorem amE : dA (QY (M.Eh)):= fK (cx:=UT) true agf Tryz.func175 (aV (ah (by kernel_rfl))) ⟨⟨[.el U.eQ],[]⟩,fun x=>x.1.1⟩ (fun x=>by kernel_rfl)
def agh (m:M.aT->Option (M.aT)):bC K:={f:=142,sh:=⟨[.el U.Func],[]⟩,R:=M.aT,run:=fun x=>m x.1.1,dflt:=default,out:=fun r=>(Sh.enc D (.el U.Func) r,iY.encs D [] ())}
def akz : Cx K:=fG [(175, .iD)] [QY M.Eh] []
theorem aro : aG akz:=ai aQ _ (aj amE aW)
theorem auW : dA (agh (M.YK)):= fK (cx:=akz) true aro Tryz.func142 (aV (ah (by kernel_rfl))) ⟨⟨[.el U.Func],[]⟩,fun x=>x.1.1⟩ (fun x=>by kernel_rfl)
def ai2 (y:(List M.aT)) {R:Type} (k:KT R):R:=match y with |a0=>kk k (Ex.exit 0) ⟨[.own 1],[.dead, .arr U.Func]⟩ (((),()),((),(a0,())))
def amF : List (dm K ((List M.aT))):=[⟨(Ex.exit 0),⟨[.own 1],[.dead, .arr U.Func]⟩,fun x=>x.2.2.1⟩]
def YL : cZ K:=dn D false 23 1 [0,3,4] [3] ⟨[.aZ U.Func, .own 1, .int .i64],[.dead, .arr U.Func]⟩ (fun x=>M.tC x.1.1 aA x.1.2.2.1 x.2.2.1) ai2
def acu (m:(List M.aT)->Option ((List M.aT))):bC K:={f:=98,sh:=⟨[.aZ U.Func],[]⟩,R:=(List M.aT),run:=fun x=>m x.1.1,dflt:=default,out:=fun r=>(Sh.enc D (.aZ U.Func) r,iY.encs D [] ())}
def JJ : Cx K:=fG [(142, .iD)] [agh M.YK] [(3,YL)]
theorem YM : aG JJ:=ai aQ _ (aj auW aW)
theorem ai3 : bG JJ (bD (bI Tryz.f98) 0) YL:= bn (cx:=JJ) (sh:=⟨[.aZ U.Func, .own 1, .int .i64],[.dead, .arr U.Func]⟩) (run:=fun n x=>M.tC x.1.1 n x.1.2.2.1 x.2.2.1) (di:=amF) aQ YM aH (ah (by kernel_rfl)) (fun _=>rfl) (fun m x=>by kernel_rfl) (aj ⟨bu,fun _ _ _=>rfl⟩ aW) false aA
theorem atr : dA (acu (M.QZ)):= fK (cx:=JJ) true YM Tryz.func98 (aV (aP 1 (by kernel_rfl) (bQ (.mk (by kernel_rfl) ai3)))) ⟨⟨[.aZ U.Func],[]⟩,fun x=>x.1.1⟩ (fun x=>by kernel_rfl)
def agi (m:M.aN->Option (M.aN)):bC K:={f:=59,sh:=⟨[.el U.bV],[]⟩,R:=M.aN,run:=fun x=>m x.1.1,dflt:=default,out:=fun r=>(Sh.enc D (.el U.bV) r,iY.encs D [] ())}
def akA : Cx K:=fG [(97, .iD),(98, .iD)] [IC M.zl,acu M.QZ] []
theorem arp : aG akA:=ai aQ _ (aj Yh (aj atr aW))
theorem auX : dA (agi (M.YN)):= fK (cx:=akA) true arp Tryz.func59 (aV (ah (by kernel_rfl))) ⟨⟨[.el U.bV],[]⟩,fun x=>x.1.1⟩ (fun x=>by kernel_rfl)
def ai4 (y:(List M.aN)) {R:Type} (k:KT R):R:=match y with |a0=>kk k (Ex.exit 0) ⟨[.own 1],[.dead, .arr U.bV]⟩ (((),()),((),(a0,())))
def amG : List (dm K ((List M.aN))):=[⟨(Ex.exit 0),⟨[.own 1],[.dead, .arr U.bV]⟩,fun x=>x.2.2.1⟩]
def YO : cZ K:=dn D false 23 1 [0,3,4] [3] ⟨[.aZ U.bV, .own 1, .int .i64],[.dead, .arr U.bV]⟩ (fun x=>M.tH x.1.1 aA x.1.2.2.1 x.2.2.1) ai4
def aa8 (m:(List M.aN)->Option ((List M.aN))):bC K:={f:=22,sh:=⟨[.aZ U.bV],[]⟩,R:=(List M.aN),run:=fun x=>m x.1.1,dflt:=default,out:=fun r=>(Sh.enc D (.aZ U.bV) r,iY.encs D [] ())}
def JK : Cx K:=fG [(59, .iD)] [agi M.YN] [(3,YO)]
theorem YP : aG JK:=ai aQ _ (aj auX aW)
theorem ai5 : bG JK (bD (bI Tryz.f22) 0) YO:= bn (cx:=JK) (sh:=⟨[.aZ U.bV, .own 1, .int .i64],[.dead, .arr U.bV]⟩) (run:=fun n x=>M.tH x.1.1 n x.1.2.2.1 x.2.2.1) (di:=amG) aQ YP aH (ah (by kernel_rfl)) (fun _=>rfl) (fun m x=>by kernel_rfl) (aj ⟨bu,fun _ _ _=>rfl⟩ aW) false aA
theorem asP : dA (aa8 (M.JX)):= fK (cx:=JK) true YP Tryz.func22 (aV (aP 1 (by kernel_rfl) (bQ (.mk (by kernel_rfl) ai5)))) ⟨⟨[.aZ U.bV],[]⟩,fun x=>x.1.1⟩ (fun x=>by kernel_rfl)
def amH (y:Int⊕((List UInt8)×Int×Int×Int)) {R:Type} (k:KT R):R:=match y with | .inl a0=>kk k Ex.ret ⟨[.any, .any, .any, .any, .int .i64],[]⟩ (((),((),((),((),(a0,()))))),()) | .inr a1=>kk k (Ex.exit 0) ⟨[.str, .int .i64, .int .i64, .int .i64, .any],[]⟩ ((a1.1,(a1.2.1,(a1.2.2.1,(a1.2.2.2,((),()))))),())
def aou : List (dm K ((Int)⊕((List UInt8)×Int×Int×Int))):=[⟨Ex.ret,⟨[.any, .any, .any, .any, .int .i64],[]⟩,fun x=> .inl x.1.2.2.2.2.1⟩,⟨(Ex.exit 0),⟨[.str, .int .i64, .int .i64, .int .i64, .any],[]⟩,fun x=> .inr ((x.1.1,x.1.2.1,x.1.2.2.1,x.1.2.2.2.1))⟩]
def acv : cZ K:=dn D false 71 0 [0,3,4,5,6] [0,3,4,5,2] ⟨[.str, .int .i64, .int .i64, .int .i64, .int .i64],[]⟩ (fun x=>M.pW x.1.1 aA x.1.2.1 x.1.2.2.1 x.1.2.2.2.1 x.1.2.2.2.2.1) amH
def xu (m:Int->Option ((List UInt8))):bC K:=cS 167 ⟨[.int .i64],[]⟩ (fun x=>m x.1.1)
def akB (jS:Int->Option ((List UInt8))):Cx K:=fG [(167, .plain)] [xu jS] []
theorem arq (jS:Int->Option ((List UInt8))) (OL:dA (xu jS)):aG (akB jS):=ai aQ _ (aj OL aW)
theorem ars (jS:Int->Option ((List UInt8))) (OL:dA (xu jS)):dA (xu (M.Fe jS)):= uA (cx:=akB jS) (fz:=true) aQ (arq jS OL) aH ⟨Tryz.func167,by kernel_rfl⟩ (aV (ah (by kernel_rfl))) ⟨⟨[.str],[]⟩,fun x=>x.1.1⟩ (fun x=>rfl) (fun x=>by kernel_rfl)
theorem acw : ∀n,dA (xu (M.uk n)) |0=>qQ fun _=>rfl |n+1=>ars (M.uk n) (acw n)
theorem auY : dA (xu (M.LP)):=acw aA
def acx (m:Int->Option ((List UInt8))):bC K:=cS 133 ⟨[.int .i64],[]⟩ (fun x=>m x.1.1)
def agj : Cx K:=fG [(167, .plain)] [xu M.LP] []
theorem aov : aG agj:=ai aQ _ (aj auY aW)
theorem att : dA (acx (M.Q3)):= fK (cx:=agj) true aov Tryz.func133 (aV (ah (by kernel_rfl))) ⟨⟨[.str],[]⟩,fun x=>x.1.1⟩ (fun x=>by kernel_rfl)
def agk (m:(List UInt8)->Option Int):bC K:=cI 88 ⟨[.str],[]⟩ (fun x=>m x.1.1)
def Oi : Cx K:=fG [(53, .plain),(133, .plain)] [sG M.Jg,acx M.Q3] [(3,acv)]
theorem acy : aG Oi:=ai aQ _ (aj yQ (aj att aW))
theorem amI : bG Oi (bD (bI Tryz.f88) 0) acv:= bn (cx:=Oi) (sh:=⟨[.str, .int .i64, .int .i64, .int .i64, .int .i64],[]⟩) (run:=fun n x=>M.pW x.1.1 n x.1.2.1 x.1.2.2.1 x.1.2.2.2.1 x.1.2.2.2.2.1) (di:=aou) aQ acy aH (ah (by kernel_rfl)) (fun _=>rfl) (fun m x=>by kernel_rfl) (aj ⟨dC,fun _ _ _=>rfl⟩ (aj ⟨bu,fun _ _ _=>rfl⟩ aW)) false aA
theorem auZ : dA (agk (M.YQ)):= fK (cx:=Oi) true acy Tryz.func88 (aV (aP 1 (by kernel_rfl) (bQ (.mk (by kernel_rfl) amI)))) ⟨⟨[.int .i64],[]⟩,fun x=>x.1.1⟩ (fun x=>by kernel_rfl)
def Ir (m:(List UInt8)->Option Bool):bC K:=cB 51 ⟨[.str],[]⟩ (fun x=>m x.1.1)
def YR : Cx K:=fG [(88, .plain)] [agk M.YQ] []
theorem ai6 : aG YR:=ai aQ _ (aj auZ aW)
theorem WN : dA (Ir (M.yU)):= fK (cx:=YR) true ai6 Tryz.func51 (aV (ah (by kernel_rfl))) ⟨⟨[.bool],[]⟩,fun x=>x.1.1⟩ (fun x=>by kernel_rfl)
def ai7 (y:Bool⊕(M.aN)) {R:Type} (k:KT R):R:=match y with | .inl a0=>kk k Ex.ret ⟨[.any, .bool],[.dead]⟩ (((),(a0,())),((),())) | .inr a1=>kk k (Ex.exit 0) ⟨[.ptr 0 0, .any],[.el U.bV]⟩ (((),((),())),(a1,()))
def amJ : List (dm K ((Bool)⊕(M.aN))):=[⟨Ex.ret,⟨[.any, .bool],[.dead]⟩,fun x=> .inl x.1.2.1⟩,⟨(Ex.exit 0),⟨[.ptr 0 0, .any],[.el U.bV]⟩,fun x=> .inr (x.2.1)⟩]
def YS : cZ K:=dn D false 122 1 [1,3] [1,2] ⟨[.ptr 0 0, .int .i64],[.el U.bV]⟩ (fun x=>M.mV x.2.1 aA x.1.2.1) ai7
def adO (y:Bool⊕(Int×M.af)) {R:Type} (k:KT R):R:=match y with | .inl a0=>kk k Ex.ret ⟨[.any, .any, .bool],[.dead, .dead]⟩ (((),((),(a0,()))),((),((),()))) | .inr a1=>kk k (Ex.exit 2) ⟨[.ptr 0 0, .int .i64, .any],[.el U.eQ, .dead]⟩ (((),(a1.1,((),()))),(a1.2,((),())))
def agl : List (dm K ((Bool)⊕(Int×M.af))):=[⟨Ex.ret,⟨[.any, .any, .bool],[.dead, .dead]⟩,fun x=> .inl x.1.2.2.1⟩,⟨(Ex.exit 2),⟨[.ptr 0 0, .int .i64, .any],[.el U.eQ, .dead]⟩,fun x=> .inr ((x.1.2.1,x.2.1))⟩]
def Q4 : cZ K:=dn D false 63 2 [1,3,4,5] [1,3,2] ⟨[.ptr 0 0, .int .i64, .ptr 1 0, .int .i64],[.el U.eQ, .el U.Param]⟩ (fun x=>M.jO x.1.2.1 aA x.1.2.2.2.1 x.2.1 x.2.2.1) adO
def ai8 (y:Bool⊕Unit) {R:Type} (k:KT R):R:=match y with | .inl a0=>kk k Ex.ret ⟨[.bool],[.dead]⟩ ((a0,()),((),())) | .inr a1=>kk k (Ex.exit 0) ⟨[.any],[.dead]⟩ (((),()),((),()))
def amK : List (dm K ((Bool)⊕Unit)):=[⟨Ex.ret,⟨[.bool],[.dead]⟩,fun x=> .inl x.1.1⟩,⟨(Ex.exit 0),⟨[.any],[.dead]⟩,fun x=> .inr (())⟩]
def YT : cZ K:=dn D false 63 1 [1,3] [2] ⟨[.ptr 0 0, .int .i64],[.el U.eQ]⟩ (fun x=>M.mW aA x.1.2.1 x.2.1) ai8
def acz (m:M.af->Option Bool):bC K:=cB 134 ⟨[.el U.eQ],[]⟩ (fun x=>m x.1.1)
def zT : Cx K:=fG [(168, .plain),(136, .plain),(50, .plain)] [We M.Nj,mr M.oL,xU M.lJ] [(10,Q4),(4,YT)]
theorem LQ : aG zT:=ai aQ _ (aj anC (aj Vt (aj DI aW)))
theorem adP : bG zT (bD (bD (bI Tryz.f134) 0) 0) Q4:= bn (cx:=zT) (sh:=⟨[.ptr 0 0, .int .i64, .ptr 1 0, .int .i64],[.el U.eQ, .el U.Param]⟩) (run:=fun n x=>M.jO x.1.2.1 n x.1.2.2.2.1 x.2.1 x.2.2.1) (di:=agl) aQ LQ aH (ah (by kernel_rfl)) (fun _=>rfl) (fun m x=>by kernel_rfl) (aj ⟨dC,fun _ _ _=>rfl⟩ (aj ⟨bu,fun _ _ _=>rfl⟩ aW)) false aA
theorem ai9 : bG zT (bD (bI Tryz.f134) 0) YT:= bn (cx:=zT) (sh:=⟨[.ptr 0 0, .int .i64],[.el U.eQ]⟩) (run:=fun n x=>M.mW n x.1.2.1 x.2.1) (di:=amK) aQ LQ aH (aP 1 (by kernel_rfl) (bQ (.mk (by kernel_rfl) adP))) (fun _=>rfl) (fun m x=>by kernel_rfl) (aj ⟨dC,fun _ _ _=>rfl⟩ (aj ⟨bu,fun _ _ _=>rfl⟩ aW)) false aA
theorem atu : dA (acz (M.Q5)):= fK (cx:=zT) true LQ Tryz.func134 (aV (aP 1 (by kernel_rfl) (bQ (.mk (by kernel_rfl) ai9)))) ⟨⟨[.bool],[]⟩,fun x=>x.1.1⟩ (fun x=>by kernel_rfl)
def aaK (y:(List UInt8)×Bool×(List (List UInt8))) {R:Type} (k:KT R):R:=match y with |a0=>kk k (Ex.exit 0) ⟨[.str, .own 1, .bool],[.dead, .arr U.str]⟩ ((a0.1,((),(a0.2.1,()))),((),(a0.2.2,())))
def adQ : List (dm K ((List UInt8)×Bool×(List (List UInt8)))):=[⟨(Ex.exit 0),⟨[.str, .own 1, .bool],[.dead, .arr U.str]⟩,fun x=>(x.1.1,x.1.2.2.1,x.2.2.1)⟩]
def Oj : cZ K:=dn D false 49 1 [0,1,5,6,7] [1,5,6] ⟨[.aZ U.str, .str, .own 1, .bool, .int .i64],[.dead, .arr U.str]⟩ (fun x=>M.lU x.1.1 x.1.2.1 aA x.1.2.2.2.1 x.1.2.2.2.2.1 x.2.2.1) aaK
def Q7 (m:(List (List UInt8))->(List UInt8)->Option ((List (List UInt8)))):bC K:={f:=207,sh:=⟨[.aZ U.str, .str],[]⟩,R:=(List (List UInt8)),run:=fun x=>m x.1.1 x.1.2.1,dflt:=default,out:=fun r=>(Sh.enc D (.aZ U.str) r,iY.encs D [] ())}
def Be : Cx K:=fG [] [] [(4,Oj)]
theorem Ol : aG Be:=ai aQ _ aW
theorem aaL : bG Be (bD (bI Tryz.f207) 0) Oj:= bn (cx:=Be) (sh:=⟨[.aZ U.str, .str, .own 1, .bool, .int .i64],[.dead, .arr U.str]⟩) (run:=fun n x=>M.lU x.1.1 x.1.2.1 n x.1.2.2.2.1 x.1.2.2.2.2.1 x.2.2.1) (di:=adQ) aQ Ol aH (ah (by kernel_rfl)) (fun _=>rfl) (fun m x=>by kernel_rfl) (aj ⟨bu,fun _ _ _=>rfl⟩ aW) false aA
theorem amL : dA (Q7 (M.Ei)):= fK (cx:=Be) true Ol Tryz.func207 (aV (aP 1 (by kernel_rfl) (bQ (.mk (by kernel_rfl) aaL)))) ⟨⟨[.aZ U.str],[]⟩,fun x=>x.1.1⟩ (fun x=>by kernel_rfl)
def jr (m:M.ae->(List (List UInt8))->Option ((List (List UInt8)))):bC K:={f:=169,sh:=⟨[.el U.Type, .aZ U.str],[]⟩,R:=(List (List UInt8)),run:=fun x=>m x.1.1 x.1.2.1,dflt:=default,out:=fun r=>(Sh.enc D (.aZ U.str) r,iY.encs D [] ())}
def Vg (y:(List (List UInt8))) {R:Type} (k:KT R):R:=match y with |a0=>kk k (Ex.exit 0) ⟨[.aZ U.str],[.dead]⟩ ((a0,()),((),()))
def YU : List (dm K ((List (List UInt8)))):=[⟨(Ex.exit 0),⟨[.aZ U.str],[.dead]⟩,fun x=>x.1.1⟩]
def IX (bT:M.ae->(List (List UInt8))->Option ((List (List UInt8)))):cZ K:=dn D false 28 1 [1,2,5] [1] ⟨[.aZ U.str, .ptr 0 0, .int .i64],[.el U.Type]⟩ (fun x=>M.jh bT aA x.1.1 x.1.2.2.1 x.2.1) Vg
def yt (bT:M.ae->(List (List UInt8))->Option ((List (List UInt8)))):Cx K:=fG [(207, .iD),(169, .iD)] [Q7 M.Ei,jr bT] [(4,IX bT)]
theorem IY (bT:M.ae->(List (List UInt8))->Option ((List (List UInt8)))) (lK:dA (jr bT)):aG (yt bT):=ai aQ _ (aj amL (aj lK aW))
theorem Vh (bT:M.ae->(List (List UInt8))->Option ((List (List UInt8)))) (lK:dA (jr bT)):bG (yt bT) (bD (bI Tryz.f169) 0) (IX bT):= bn (cx:=yt bT) (sh:=⟨[.aZ U.str, .ptr 0 0, .int .i64],[.el U.Type]⟩) (run:=fun n x=>M.jh bT n x.1.1 x.1.2.2.1 x.2.1) (di:=YU) aQ (IY bT lK) aH (ah (by kernel_rfl)) (fun _=>rfl) (fun m x=>by kernel_rfl) (aj ⟨bu,fun _ _ _=>rfl⟩ aW) false aA
theorem aaM (bT:M.ae->(List (List UInt8))->Option ((List (List UInt8)))) (lK:dA (jr bT)):dA (jr (M.zU bT)):= uA (cx:=yt bT) (fz:=true) aQ (IY bT lK) aH ⟨Tryz.func169,by kernel_rfl⟩ (aV (aP 1 (by kernel_rfl) (bQ (.mk (by kernel_rfl) (Vh bT lK))))) ⟨⟨[.aZ U.str],[]⟩,fun x=>x.1.1⟩ (fun x=>rfl) (fun x=>by kernel_rfl)
theorem IZ : ∀n,dA (jr (M.jD n)) |0=>qQ fun _=>rfl |n+1=>aaM (M.jD n) (IZ n)
theorem agm : dA (jr (M.vI)):=IZ aA
def agn (y:(List (List UInt8))×(List (List UInt8))) {R:Type} (k:KT R):R:=match y with |a0=>kk k (Ex.exit 0) ⟨[.aZ U.str, .aZ U.str],[.dead]⟩ ((a0.1,(a0.2,())),((),()))
def aja : List (dm K ((List (List UInt8))×(List (List UInt8)))):=[⟨(Ex.exit 0),⟨[.aZ U.str, .aZ U.str],[.dead]⟩,fun x=>(x.1.1,x.1.2.1)⟩]
def UU : cZ K:=dn D false 55 1 [1,2,5,6] [1,5] ⟨[.aZ U.str, .ptr 0 0, .aZ U.str, .int .i64],[.el U.eQ]⟩ (fun x=>M.um x.1.1 aA x.1.2.2.1 x.1.2.2.2.1 x.2.1) agn
def aaN (y:(List (List UInt8))×(List (List UInt8))×Int×Bool) {R:Type} (k:KT R):R:=match y with |a0=>kk k (Ex.exit 4) ⟨[.aZ U.str, .aZ U.str, .int .i64, .bool],[]⟩ ((a0.1,(a0.2.1,(a0.2.2.1,(a0.2.2.2,())))),())
def adR : List (dm K ((List (List UInt8))×(List (List UInt8))×Int×Bool)):=[⟨(Ex.exit 4),⟨[.aZ U.str, .aZ U.str, .int .i64, .bool],[]⟩,fun x=>(x.1.1,x.1.2.1,x.1.2.2.1,x.1.2.2.2.1)⟩]
def Om : cZ K:=dn D false 55 0 [1,5,7,8,9] [1,5,7,8] ⟨[.aZ U.str, .aZ U.str, .int .i64, .bool, .int .i64],[]⟩ (fun x=>M.oJ x.1.1 x.1.2.1 x.1.2.2.1 aA x.1.2.2.2.1 x.1.2.2.2.2.1) aaN
def agp (y:Bool⊕Unit) {R:Type} (k:KT R):R:=match y with | .inl a0=>kk k Ex.ret ⟨[.bool],[]⟩ ((a0,()),()) | .inr a1=>kk k (Ex.exit 2) ⟨[.any],[]⟩ (((),()),())
def ajb : List (dm K ((Bool)⊕Unit)):=[⟨Ex.ret,⟨[.bool],[]⟩,fun x=> .inl x.1.1⟩,⟨(Ex.exit 2),⟨[.any],[]⟩,fun x=> .inr (())⟩]
def UW : cZ K:=dn D false 55 0 [1,5,7] [4] ⟨[.aZ U.str, .aZ U.str, .int .i64],[]⟩ (fun x=>M.kT aA x.1.1 x.1.2.1 x.1.2.2.1) agp
def YV (m:M.af->(List (List UInt8))->Option Bool):bC K:=cB 135 ⟨[.el U.eQ, .aZ U.str],[]⟩ (fun x=>m x.1.1 x.1.2.1)
def pX : Cx K:=fG [(169, .iD)] [jr M.vI] [(3,UU),(11,Om),(7,UW)]
theorem Bg : aG pX:=ai aQ _ (aj agm aW)
theorem aaO : bG pX (bD (bD (bI Tryz.f135) 1) 0) Om:= bn (cx:=pX) (sh:=⟨[.aZ U.str, .aZ U.str, .int .i64, .bool, .int .i64],[]⟩) (run:=fun n x=>M.oJ x.1.1 x.1.2.1 x.1.2.2.1 n x.1.2.2.2.1 x.1.2.2.2.2.1) (di:=adR) aQ Bg aH (ah (by kernel_rfl)) (fun _=>rfl) (fun m x=>by kernel_rfl) (aj ⟨bu,fun _ _ _=>rfl⟩ aW) false aA
theorem agq : bG pX (bD (bI Tryz.f135) 0) UU:= bn (cx:=pX) (sh:=⟨[.aZ U.str, .ptr 0 0, .aZ U.str, .int .i64],[.el U.eQ]⟩) (run:=fun n x=>M.um x.1.1 n x.1.2.2.1 x.1.2.2.2.1 x.2.1) (di:=aja) aQ Bg aH (ah (by kernel_rfl)) (fun _=>rfl) (fun m x=>by kernel_rfl) (aj ⟨bu,fun _ _ _=>rfl⟩ aW) false aA
theorem agr : bG pX (bD (bI Tryz.f135) 1) UW:= bn (cx:=pX) (sh:=⟨[.aZ U.str, .aZ U.str, .int .i64],[]⟩) (run:=fun n x=>M.kT n x.1.1 x.1.2.1 x.1.2.2.1) (di:=ajb) aQ Bg aH (aP 1 (by kernel_rfl) (bQ (.mk (by kernel_rfl) aaO))) (fun _=>rfl) (fun m x=>by kernel_rfl) (aj ⟨dC,fun _ _ _=>rfl⟩ (aj ⟨bu,fun _ _ _=>rfl⟩ aW)) false aA
theorem art : dA (YV (M.LU)):= fK (cx:=pX) true Bg Tryz.func135 (aV (aP 2 (by kernel_rfl) (lt_succ (bQ (.mk (by kernel_rfl) agq)) (.mk (by kernel_rfl) agr)))) ⟨⟨[.bool],[]⟩,fun x=>x.1.1⟩ (fun x=>by kernel_rfl)
def ajc (y:Bool⊕Unit) {R:Type} (k:KT R):R:=match y with | .inl a0=>kk k Ex.ret ⟨[.bool],[.dead]⟩ ((a0,()),((),())) | .inr a1=>kk k (Ex.exit 2) ⟨[.any],[.dead]⟩ (((),()),((),()))
def amM : List (dm K ((Bool)⊕Unit)):=[⟨Ex.ret,⟨[.bool],[.dead]⟩,fun x=> .inl x.1.1⟩,⟨(Ex.exit 2),⟨[.any],[.dead]⟩,fun x=> .inr (())⟩]
def YW : cZ K:=dn D false 122 1 [1,4] [2] ⟨[.ptr 0 0, .int .i64],[.el U.bV]⟩ (fun x=>M.mX x.2.1 aA x.1.2.1) ajc
def aaT (m:M.aN->Option Bool):bC K:=cB 89 ⟨[.el U.bV],[]⟩ (fun x=>m x.1.1)
def zF : Cx K:=fG [(50, .plain),(51, .plain),(134, .plain),(135, .plain)] [xU M.lJ,Ir M.yU,acz M.Q5,YV M.LU] [(4,YS),(9,YW)]
theorem Kr : aG zF:=ai aQ _ (aj DI (aj WN (aj atu (aj art aW))))
theorem ahg : bG zF (bD (bI Tryz.f89) 0) YS:= bn (cx:=zF) (sh:=⟨[.ptr 0 0, .int .i64],[.el U.bV]⟩) (run:=fun n x=>M.mV x.2.1 n x.1.2.1) (di:=amJ) aQ Kr aH (ah (by kernel_rfl)) (fun _=>rfl) (fun m x=>by kernel_rfl) (aj ⟨dC,fun _ _ _=>rfl⟩ (aj ⟨bu,fun _ _ _=>rfl⟩ aW)) false aA
theorem ahh : bG zF (bD (bI Tryz.f89) 1) YW:= bn (cx:=zF) (sh:=⟨[.ptr 0 0, .int .i64],[.el U.bV]⟩) (run:=fun n x=>M.mX x.2.1 n x.1.2.1) (di:=amM) aQ Kr aH (ah (by kernel_rfl)) (fun _=>rfl) (fun m x=>by kernel_rfl) (aj ⟨dC,fun _ _ _=>rfl⟩ (aj ⟨bu,fun _ _ _=>rfl⟩ aW)) false aA
