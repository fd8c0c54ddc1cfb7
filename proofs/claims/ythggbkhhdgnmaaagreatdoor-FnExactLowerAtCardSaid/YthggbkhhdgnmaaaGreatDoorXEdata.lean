/-
  THE DATA: the structs of the program and of the reference as plain types; how they lie in cells.
-/
import Derived.Test.YthggbkhhdgnmaaaGreatDoorXWcod
import Derived.Test.YthggbkhhdgnmaaaGreatDoorXWtabs2
set_option linter.unusedVariables false
namespace M
structure bg where
 Kind:Int
 aQ:List UInt8
 eu:List UInt8
 Import:List UInt8
 deriving Inhabited
def bg.zero:bg:=bg.mk 0 [] [] []
structure bc where
 At:Int
 Else:Int
 End:Int
 Height:Int
 Result:Bool
 deriving Inhabited
def bc.zero:bc:=bc.mk 0 0 0 0 false
structure cZ where
 OF:Bool
 Height:Int
 OG:List Int
 deriving Inhabited
def cZ.zero:cZ:=cZ.mk false 0 []
inductive aa where
 |mk (Kind:Int) (Name:List UInt8) (bF:List (List UInt8)) (Kids:List aa)
 deriving Inhabited
def aa.Kind:aa->Int
 |.mk v _ _ _=>v
def aa.Name:aa->List UInt8
 |.mk _ v _ _=>v
def aa.bF:aa->List (List UInt8)
 |.mk _ _ v _=>v
def aa.Kids:aa->List aa
 |.mk _ _ _ v=>v
def aa.re(x:aa):aa:=aa.mk (aa.Kind x) (aa.Name x) (aa.bF x) (aa.Kids x)
theorem aa.ai(x:aa):aa.re x=x:=by cases x;rfl
theorem aa.eta(x:aa):aa.mk (aa.Kind x) (aa.Name x) (aa.bF x) (aa.Kids x)=x:=by cases x;rfl
def aa.zero:aa:=aa.mk 0 [] [] []
structure al where
 Name:List UInt8
 aI:aa
 deriving Inhabited
def al.re(x:al):al:=al.mk (al.Name x) (aa.re (al.aI x))
theorem al.ai(x:al):al.re x=x:=by unfold al.re;simp only[aa.ai]
def al.zero:al:=al.mk [] aa.zero
structure av where
 Params:List al
 Result:aa
 Async:Bool
 deriving Inhabited
def av.re(x:av):av:=av.mk (av.Params x) (aa.re (av.Result x)) (av.Async x)
theorem av.ai(x:av):av.re x=x:=by unfold av.re;simp only[aa.ai]
def av.zero:av:=av.mk [] aa.zero false
structure aD where
 Name:List UInt8
 aI:av
 deriving Inhabited
def aD.re(x:aD):aD:=aD.mk (aD.Name x) (av.re (aD.aI x))
theorem aD.ai(x:aD):aD.re x=x:=by unfold aD.re;simp only[av.ai]
def aD.zero:aD:=aD.mk [] av.zero
structure ar where
 du:List UInt8
 Name:List UInt8
 Version:List UInt8
 bQ:List (List UInt8)
 Funcs:List aD
 deriving Inhabited
def ar.zero:ar:=ar.mk [] [] [] [] []
structure bk where
 aQ:List UInt8
 Func:List UInt8
 Core:List UInt8
 deriving Inhabited
def bk.zero:bk:=bk.mk [] [] []
structure bh where
 aQ:List UInt8
 Func:List UInt8
 Import:List UInt8
 deriving Inhabited
def bh.zero:bh:=bh.mk [] [] []
structure aJ where
 Op:Int
 A:Int
 deriving Inhabited
def aJ.zero:aJ:=aJ.mk 0 0
structure aw where
 Name:List UInt8
 Params:Int
 dr:Int
 Result:Bool
 Code:List aJ
 deriving Inhabited
def aw.zero:aw:=aw.mk [] 0 0 false []
structure aM where
 Name:List UInt8
 Params:Int
 Result:Bool
 deriving Inhabited
def aM.zero:aM:=aM.mk [] 0 false
structure aR where
 dm:Int
 ay:List aM
 aP:List aw
 deriving Inhabited
def aR.zero:aR:=aR.mk 0 [] []
structure aX where
 Name:List UInt8
 Version:List UInt8
 ay:List ar
 bP:List ar
 Encoding:Int
 fu:Int
 Module:aR
 bV:List bk
 cg:List bh
 Builtins:List bg
 deriving Inhabited
def aX.zero:aX:=aX.mk [] [] [] [] 0 0 aR.zero [] [] []
structure cO where
 eY:List UInt8
 name:List UInt8
 shape:av
 deriving Inhabited
def cO.re(x:cO):cO:=cO.mk (cO.eY x) (cO.name x) (av.re (cO.shape x))
theorem cO.ai(x:cO):cO.re x=x:=by unfold cO.re;simp only[av.ai]
def cO.zero:cO:=cO.mk [] [] av.zero
structure eA where
 module:aR
 core:aw
 blocks:List bc
 next:Int
 open_:List Int
 bases:List Int
 height:Int
 known:Bool
 deriving Inhabited
def eA.zero:eA:=eA.mk aR.zero aw.zero [] 0 [] [] 0 false
structure eE where
 m:aR
 c:aw
 blocks:List bc
 open_:List Int
 height:Int
 dead:Bool
 deriving Inhabited
def eE.zero:eE:=eE.mk aR.zero aw.zero [] [] 0 false
end M
namespace Go.V
open Go M
inductive U where
 |i64|u8|i32|u64|u32|u16|i16|i8|str|bool|sF|vD|vC|sC|sA|sJ|sB|sK|sD|sE|sG|sH|vB|m4|vz|vA|Builtin|CodeBlock|gI|Type|Param|eK|Func|aQ|dA|Lower|Ins|Core|Import|Module|eL|bound|checker|mm
 deriving DecidableEq
abbrev El:U->Type
 |.i64=>Int
 |.u8=>UInt8
 |.i32=>Int
 |.u64=>Int
 |.u32=>Int
 |.u16=>Int
 |.i16=>Int
 |.i8=>Int
 |.str=>List UInt8
 |.bool=>Bool
 |.sF=>List (bg)
 |.vD=>List (bc)
 |.vC=>List (cZ)
 |.sC=>List (aw)
 |.sA=>List (ar)
 |.sJ=>List (aD)
 |.sB=>List (aM)
 |.sK=>List (aJ)
 |.sD=>List (bk)
 |.sE=>List (bh)
 |.sG=>List (al)
 |.sH=>List (aa)
 |.vB=>List (cO)
 |.m4=>List (Int)
 |.vz=>List (List UInt8)
 |.vA=>List (UInt8)
 |.Builtin=>bg
 |.CodeBlock=>bc
 |.gI=>cZ
 |.Type=>aa
 |.Param=>al
 |.eK=>av
 |.Func=>aD
 |.aQ=>ar
 |.dA=>bk
 |.Lower=>bh
 |.Ins=>aJ
 |.Core=>aw
 |.Import=>aM
 |.Module=>aR
 |.eL=>aX
 |.bound=>cO
 |.checker=>eA
 |.mm=>eE
def OS:U->Nat
 |.Builtin=>4
 |.CodeBlock=>5
 |.gI=>3
 |.Type=>4
 |.Param=>5
 |.eK=>6
 |.Func=>7
 |.aQ=>5
 |.dA=>3
 |.Lower=>3
 |.Ins=>2
 |.Core=>5
 |.Import=>3
 |.Module=>3
 |.eL=>12
 |.bound=>8
 |.checker=>14
 |.mm=>12
 |_=>1
def azB:(c:U)->El c
 |.i64=>(0:Int)
 |.u8=>(0:UInt8)
 |.i32=>(0:Int)
 |.u64=>(0:Int)
 |.u32=>(0:Int)
 |.u16=>(0:Int)
 |.i16=>(0:Int)
 |.i8=>(0:Int)
 |.str=>([]:List UInt8)
 |.bool=>false
 |.sF=>([]:List (bg))
 |.vD=>([]:List (bc))
 |.vC=>([]:List (cZ))
 |.sC=>([]:List (aw))
 |.sA=>([]:List (ar))
 |.sJ=>([]:List (aD))
 |.sB=>([]:List (aM))
 |.sK=>([]:List (aJ))
 |.sD=>([]:List (bk))
 |.sE=>([]:List (bh))
 |.sG=>([]:List (al))
 |.sH=>([]:List (aa))
 |.vB=>([]:List (cO))
 |.m4=>([]:List (Int))
 |.vz=>([]:List (List UInt8))
 |.vA=>([]:List (UInt8))
 |.Builtin=>bg.zero
 |.CodeBlock=>bc.zero
 |.gI=>cZ.zero
 |.Type=>aa.zero
 |.Param=>al.zero
 |.eK=>av.zero
 |.Func=>aD.zero
 |.aQ=>ar.zero
 |.dA=>bk.zero
 |.Lower=>bh.zero
 |.Ins=>aJ.zero
 |.Core=>aw.zero
 |.Import=>aM.zero
 |.Module=>aR.zero
 |.eL=>aX.zero
 |.bound=>cO.zero
 |.checker=>eA.zero
 |.mm=>eE.zero
abbrev K:dt:={U:=U,El:=El,jP:=inferInstance,sz:=OS,zero:=azB}
def jw:U->List (Sh K)
 |.i64=>[.int .i64]
 |.u8=>[.int .u8]
 |.i32=>[.int .i32]
 |.u64=>[.int .u64]
 |.u32=>[.int .u32]
 |.u16=>[.int .u16]
 |.i16=>[.int .i16]
 |.i8=>[.int .i8]
 |.str=>[.str]
 |.bool=>[.bool]
 |.sF=>[.ah U.Builtin]
 |.vD=>[.ah U.CodeBlock]
 |.vC=>[.ah U.gI]
 |.sC=>[.ah U.Core]
 |.sA=>[.ah U.aQ]
 |.sJ=>[.ah U.Func]
 |.sB=>[.ah U.Import]
 |.sK=>[.ah U.Ins]
 |.sD=>[.ah U.dA]
 |.sE=>[.ah U.Lower]
 |.sG=>[.ah U.Param]
 |.sH=>[.ah U.Type]
 |.vB=>[.ah U.bound]
 |.m4=>[.ah U.i64]
 |.vz=>[.ah U.str]
 |.vA=>[.ah U.u8]
 |.Builtin=>[.int .i64,.str,.str,.str]
 |.CodeBlock=>[.int .i64,.int .i64,.int .i64,.int .i64,.bool]
 |.gI=>[.bool,.int .i64,.ah U.i64]
 |.Type=>[.int .i64,.str,.ah U.str,.ah U.Type]
 |.Param=>[.str,.int .i64,.str,.ah U.str,.ah U.Type]
 |.eK=>[.ah U.Param,.int .i64,.str,.ah U.str,.ah U.Type,.bool]
 |.Func=>[.str,.ah U.Param,.int .i64,.str,.ah U.str,.ah U.Type,.bool]
 |.aQ=>[.str,.str,.str,.ah U.str,.ah U.Func]
 |.dA=>[.str,.str,.str]
 |.Lower=>[.str,.str,.str]
 |.Ins=>[.int .i64,.int .i64]
 |.Core=>[.str,.int .i64,.int .i64,.bool,.ah U.Ins]
 |.Import=>[.str,.int .i64,.bool]
 |.Module=>[.int .i64,.ah U.Import,.ah U.Core]
 |.eL=>[.str,.str,.ah U.aQ,.ah U.aQ,.int .i64,.int .i64,.int .i64,.ah U.Import,.ah U.Core,.ah U.dA,.ah U.Lower,.ah U.Builtin]
 |.bound=>[.str,.str,.ah U.Param,.int .i64,.str,.ah U.str,.ah U.Type,.bool]
 |.checker=>[.int .i64,.ah U.Import,.ah U.Core,.str,.int .i64,.int .i64,.bool,.ah U.Ins,.ah U.CodeBlock,.int .i64,.ah U.i64,.ah U.i64,.int .i64,.bool]
 |.mm=>[.int .i64,.ah U.Import,.ah U.Core,.str,.int .i64,.int .i64,.bool,.ah U.Ins,.ah U.CodeBlock,.ah U.i64,.int .i64,.bool]
def tq:(c:U)->El c->Sh.Ts (jw c)
 |.i64,x=>(x,())
 |.u8,x=>((x.toNat:Int),())
 |.i32,x=>(x,())
 |.u64,x=>(x,())
 |.u32,x=>(x,())
 |.u16,x=>(x,())
 |.i16,x=>(x,())
 |.i8,x=>(x,())
 |.str,x=>(x,())
 |.bool,x=>(x,())
 |.sF,x=>(x,())
 |.vD,x=>(x,())
 |.vC,x=>(x,())
 |.sC,x=>(x,())
 |.sA,x=>(x,())
 |.sJ,x=>(x,())
 |.sB,x=>(x,())
 |.sK,x=>(x,())
 |.sD,x=>(x,())
 |.sE,x=>(x,())
 |.sG,x=>(x,())
 |.sH,x=>(x,())
 |.vB,x=>(x,())
 |.m4,x=>(x,())
 |.vz,x=>(x,())
 |.vA,x=>(x,())
 |.Builtin,x=>((bg.Kind x),(bg.aQ x),(bg.eu x),(bg.Import x),())
 |.CodeBlock,x=>((bc.At x),(bc.Else x),(bc.End x),(bc.Height x),(bc.Result x),())
 |.gI,x=>((cZ.OF x),(cZ.Height x),(cZ.OG x),())
 |.Type,x=>((aa.Kind x),(aa.Name x),(aa.bF x),(aa.Kids x),())
 |.Param,x=>((al.Name x),(aa.Kind (al.aI x)),(aa.Name (al.aI x)),(aa.bF (al.aI x)),(aa.Kids (al.aI x)),())
 |.eK,x=>((av.Params x),(aa.Kind (av.Result x)),(aa.Name (av.Result x)),(aa.bF (av.Result x)),(aa.Kids (av.Result x)),(av.Async x),())
 |.Func,x=>((aD.Name x),(av.Params (aD.aI x)),(aa.Kind (av.Result (aD.aI x))),(aa.Name (av.Result (aD.aI x))),(aa.bF (av.Result (aD.aI x))),(aa.Kids (av.Result (aD.aI x))),(av.Async (aD.aI x)),())
 |.aQ,x=>((ar.du x),(ar.Name x),(ar.Version x),(ar.bQ x),(ar.Funcs x),())
 |.dA,x=>((bk.aQ x),(bk.Func x),(bk.Core x),())
 |.Lower,x=>((bh.aQ x),(bh.Func x),(bh.Import x),())
 |.Ins,x=>((aJ.Op x),(aJ.A x),())
 |.Core,x=>((aw.Name x),(aw.Params x),(aw.dr x),(aw.Result x),(aw.Code x),())
 |.Import,x=>((aM.Name x),(aM.Params x),(aM.Result x),())
 |.Module,x=>((aR.dm x),(aR.ay x),(aR.aP x),())
 |.eL,x=>((aX.Name x),(aX.Version x),(aX.ay x),(aX.bP x),(aX.Encoding x),(aX.fu x),(aR.dm (aX.Module x)),(aR.ay (aX.Module x)),(aR.aP (aX.Module x)),(aX.bV x),(aX.cg x),(aX.Builtins x),())
 |.bound,x=>((cO.eY x),(cO.name x),(av.Params (cO.shape x)),(aa.Kind (av.Result (cO.shape x))),(aa.Name (av.Result (cO.shape x))),(aa.bF (av.Result (cO.shape x))),(aa.Kids (av.Result (cO.shape x))),(av.Async (cO.shape x)),())
 |.checker,x=>((aR.dm (eA.module x)),(aR.ay (eA.module x)),(aR.aP (eA.module x)),(aw.Name (eA.core x)),(aw.Params (eA.core x)),(aw.dr (eA.core x)),(aw.Result (eA.core x)),(aw.Code (eA.core x)),(eA.blocks x),(eA.next x),(eA.open_ x),(eA.bases x),(eA.height x),(eA.known x),())
 |.mm,x=>((aR.dm (eE.m x)),(aR.ay (eE.m x)),(aR.aP (eE.m x)),(aw.Name (eE.c x)),(aw.Params (eE.c x)),(aw.dr (eE.c x)),(aw.Result (eE.c x)),(aw.Code (eE.c x)),(eE.blocks x),(eE.open_ x),(eE.height x),(eE.dead x),())
def kr:(c:U)->Sh.Ts (jw c)->El c×Bool
 |.i64,y=>(y.1,true)
 |.u8,y=>(pe y.1,m8 y.1)
 |.i32,y=>(y.1,true)
 |.u64,y=>(y.1,true)
 |.u32,y=>(y.1,true)
 |.u16,y=>(y.1,true)
 |.i16,y=>(y.1,true)
 |.i8,y=>(y.1,true)
 |.str,y=>(y.1,true)
 |.bool,y=>(y.1,true)
 |.sF,y=>(y.1,true)
 |.vD,y=>(y.1,true)
 |.vC,y=>(y.1,true)
 |.sC,y=>(y.1,true)
 |.sA,y=>(y.1,true)
 |.sJ,y=>(y.1,true)
 |.sB,y=>(y.1,true)
 |.sK,y=>(y.1,true)
 |.sD,y=>(y.1,true)
 |.sE,y=>(y.1,true)
 |.sG,y=>(y.1,true)
 |.sH,y=>(y.1,true)
 |.vB,y=>(y.1,true)
 |.m4,y=>(y.1,true)
 |.vz,y=>(y.1,true)
 |.vA,y=>(y.1,true)
 |.Builtin,y=>(bg.mk y.1 y.2.1 y.2.2.1 y.2.2.2.1,true)
 |.CodeBlock,y=>(bc.mk y.1 y.2.1 y.2.2.1 y.2.2.2.1 y.2.2.2.2.1,true)
 |.gI,y=>(cZ.mk y.1 y.2.1 y.2.2.1,true)
 |.Type,y=>(aa.mk y.1 y.2.1 y.2.2.1 y.2.2.2.1,true)
 |.Param,y=>(al.mk y.1 (aa.mk y.2.1 y.2.2.1 y.2.2.2.1 y.2.2.2.2.1),true)
 |.eK,y=>(av.mk y.1 (aa.mk y.2.1 y.2.2.1 y.2.2.2.1 y.2.2.2.2.1) y.2.2.2.2.2.1,true)
 |.Func,y=>(aD.mk y.1 (av.mk y.2.1 (aa.mk y.2.2.1 y.2.2.2.1 y.2.2.2.2.1 y.2.2.2.2.2.1) y.2.2.2.2.2.2.1),true)
 |.aQ,y=>(ar.mk y.1 y.2.1 y.2.2.1 y.2.2.2.1 y.2.2.2.2.1,true)
 |.dA,y=>(bk.mk y.1 y.2.1 y.2.2.1,true)
 |.Lower,y=>(bh.mk y.1 y.2.1 y.2.2.1,true)
 |.Ins,y=>(aJ.mk y.1 y.2.1,true)
 |.Core,y=>(aw.mk y.1 y.2.1 y.2.2.1 y.2.2.2.1 y.2.2.2.2.1,true)
 |.Import,y=>(aM.mk y.1 y.2.1 y.2.2.1,true)
 |.Module,y=>(aR.mk y.1 y.2.1 y.2.2.1,true)
 |.eL,y=>(aX.mk y.1 y.2.1 y.2.2.1 y.2.2.2.1 y.2.2.2.2.1 y.2.2.2.2.2.1 (aR.mk y.2.2.2.2.2.2.1 y.2.2.2.2.2.2.2.1 y.2.2.2.2.2.2.2.2.1) y.2.2.2.2.2.2.2.2.2.1 y.2.2.2.2.2.2.2.2.2.2.1 y.2.2.2.2.2.2.2.2.2.2.2.1,true)
 |.bound,y=>(cO.mk y.1 y.2.1 (av.mk y.2.2.1 (aa.mk y.2.2.2.1 y.2.2.2.2.1 y.2.2.2.2.2.1 y.2.2.2.2.2.2.1) y.2.2.2.2.2.2.2.1),true)
 |.checker,y=>(eA.mk (aR.mk y.1 y.2.1 y.2.2.1) (aw.mk y.2.2.2.1 y.2.2.2.2.1 y.2.2.2.2.2.1 y.2.2.2.2.2.2.1 y.2.2.2.2.2.2.2.1) y.2.2.2.2.2.2.2.2.1 y.2.2.2.2.2.2.2.2.2.1 y.2.2.2.2.2.2.2.2.2.2.1 y.2.2.2.2.2.2.2.2.2.2.2.1 y.2.2.2.2.2.2.2.2.2.2.2.2.1 y.2.2.2.2.2.2.2.2.2.2.2.2.2.1,true)
 |.mm,y=>(eE.mk (aR.mk y.1 y.2.1 y.2.2.1) (aw.mk y.2.2.2.1 y.2.2.2.2.1 y.2.2.2.2.2.1 y.2.2.2.2.2.2.1 y.2.2.2.2.2.2.2.1) y.2.2.2.2.2.2.2.2.1 y.2.2.2.2.2.2.2.2.2.1 y.2.2.2.2.2.2.2.2.2.2.1 y.2.2.2.2.2.2.2.2.2.2.2.1,true)
def aiB:(c:U)->Option ((El c->UInt8)×(UInt8->El c))
 |.u8=>some (id,id)
 |_=>none
noncomputable def D:bN K:=Ot jw kr tq aiB [.i64,.str,.bool,.i32,.u64,.u32,.u16,.i16,.i8,.sF,.vD,.vC,.sC,.sA,.sJ,.sB,.sK,.sD,.sE,.sG,.sH,.vB,.m4,.vz,.vA,.Builtin,.CodeBlock,.gI,.Type,.Param,.eK,.Func,.aQ,.dA,.Lower,.Ins,.Core,.Import,.Module,.eL,.bound,.checker,.mm] (azC 0 5 1 2) none
theorem ak:bY D:=azD (fun c=>by cases c<;>rfl) (fun c=>by cases c<;>rfl)
 (fun c y x h=>by
   cases c<;>first|exact aiC h|(have h:=(Prod.mk.inj h).1;subst h;rfl))
 (fun c f g h=>by
   cases c<;>simp only[aiB,aA,aV]at h<;>first|(obtain⟨rfl,rfl⟩:=h;exact⟨fun _=>rfl,fun _=>rfl⟩)|cases h)
end Go.V
