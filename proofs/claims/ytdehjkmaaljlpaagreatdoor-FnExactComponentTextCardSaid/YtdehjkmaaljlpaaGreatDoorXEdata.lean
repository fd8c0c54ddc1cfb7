/-
  THE DATA: the structs of the program and of the reference as plain types; how they lie in cells.
-/
import Derived.Test.YtdehjkmaaljlpaaGreatDoorXWgD
set_option linter.unusedVariables false
namespace M
structure bF where
 Kind:Int
 aT:List UInt8
 dX:List UInt8
 Import:List UInt8
 deriving Inhabited
def bF.zero:bF:=bF.mk 0 [] [] []
structure bf where
 At:Int
 Else:Int
 End:Int
 Height:Int
 Result:Bool
 deriving Inhabited
def bf.zero:bf:=bf.mk 0 0 0 0 false
structure cZ where
 O3:Bool
 Height:Int
 O4:List Int
 deriving Inhabited
def cZ.zero:cZ:=cZ.mk false 0 []
inductive aa where
 |mk (Kind:Int) (Name:List UInt8) (bR:List (List UInt8)) (Kids:List aa)
 deriving Inhabited
def aa.Kind:aa->Int
 |.mk v _ _ _=>v
def aa.Name:aa->List UInt8
 |.mk _ v _ _=>v
def aa.bR:aa->List (List UInt8)
 |.mk _ _ v _=>v
def aa.Kids:aa->List aa
 |.mk _ _ _ v=>v
def aa.re(x:aa):aa:=aa.mk (aa.Kind x) (aa.Name x) (aa.bR x) (aa.Kids x)
theorem aa.ai(x:aa):aa.re x=x:=by cases x;rfl
theorem aa.eta(x:aa):aa.mk (aa.Kind x) (aa.Name x) (aa.bR x) (aa.Kids x)=x:=by cases x;rfl
def aa.zero:aa:=aa.mk 0 [] [] []
structure aw where
 Name:List UInt8
 aS:aa
 deriving Inhabited
def aw.re(x:aw):aw:=aw.mk (aw.Name x) (aa.re (aw.aS x))
theorem aw.ai(x:aw):aw.re x=x:=by unfold aw.re;simp only[aa.ai]
def aw.zero:aw:=aw.mk [] aa.zero
structure ay where
 Params:List aw
 Result:aa
 Async:Bool
 deriving Inhabited
def ay.re(x:ay):ay:=ay.mk (ay.Params x) (aa.re (ay.Result x)) (ay.Async x)
theorem ay.ai(x:ay):ay.re x=x:=by unfold ay.re;simp only[aa.ai]
def ay.zero:ay:=ay.mk [] aa.zero false
structure aF where
 Name:List UInt8
 aS:ay
 deriving Inhabited
def aF.re(x:aF):aF:=aF.mk (aF.Name x) (ay.re (aF.aS x))
theorem aF.ai(x:aF):aF.re x=x:=by unfold aF.re;simp only[ay.ai]
def aF.zero:aF:=aF.mk [] ay.zero
structure ar where
 dn:List UInt8
 Name:List UInt8
 Version:List UInt8
 bI:List (List UInt8)
 Funcs:List aF
 deriving Inhabited
def ar.zero:ar:=ar.mk [] [] [] [] []
structure bK where
 aT:List UInt8
 Func:List UInt8
 Core:List UInt8
 deriving Inhabited
def bK.zero:bK:=bK.mk [] [] []
structure bH where
 aT:List UInt8
 Func:List UInt8
 Import:List UInt8
 deriving Inhabited
def bH.zero:bH:=bH.mk [] [] []
structure aG where
 Op:Int
 A:Int
 deriving Inhabited
def aG.zero:aG:=aG.mk 0 0
structure an where
 Name:List UInt8
 Params:Int
 cX:Int
 Result:Bool
 Code:List aG
 deriving Inhabited
def an.zero:an:=an.mk [] 0 0 false []
structure aN where
 Name:List UInt8
 Params:Int
 Result:Bool
 deriving Inhabited
def aN.zero:aN:=aN.mk [] 0 false
structure aM where
 dh:Int
 al:List aN
 aI:List an
 deriving Inhabited
def aM.zero:aM:=aM.mk 0 [] []
structure aP where
 Name:List UInt8
 Version:List UInt8
 al:List ar
 bM:List ar
 Encoding:Int
 ew:Int
 Module:aM
 bT:List bK
 bL:List bH
 Builtins:List bF
 deriving Inhabited
def aP.zero:aP:=aP.mk [] [] [] [] 0 0 aM.zero [] [] []
structure cO where
 l8:List UInt8
 name:List UInt8
 shape:ay
 deriving Inhabited
def cO.re(x:cO):cO:=cO.mk (cO.l8 x) (cO.name x) (ay.re (cO.shape x))
theorem cO.ai(x:cO):cO.re x=x:=by unfold cO.re;simp only[ay.ai]
def cO.zero:cO:=cO.mk [] [] ay.zero
structure eg where
 module:aM
 core:an
 blocks:List bf
 next:Int
 open_:List Int
 bases:List Int
 height:Int
 known:Bool
 deriving Inhabited
def eg.zero:eg:=eg.mk aM.zero an.zero [] 0 [] [] 0 false
structure eA where
 m:aM
 c:an
 blocks:List bf
 open_:List Int
 height:Int
 dead:Bool
 deriving Inhabited
def eA.zero:eA:=eA.mk aM.zero an.zero [] [] 0 false
end M
namespace Go.V
open Go M
inductive U where
 |i64|u8|i32|u64|u32|u16|i16|i8|str|bool|sY|vH|vG|sV|sS|sZ|sU|s6|sW|sX|s7|s8|vF|mT|vD|vE|Builtin|CodeBlock|gw|Type|Param|fO|Func|aT|ef|Lower|Ins|Core|Import|Module|eG|bound|checker|mf
 deriving DecidableEq
abbrev El:U->Type
 |.i64=>Int
 |.u8=>UInt8
 |.i32=>Int
 |.u64=>Int
 |.u32=>Int
 |.u16=>Int
 |.i16=>Int
 |.i8=>Int
 |.str=>List UInt8
 |.bool=>Bool
 |.sY=>List (bF)
 |.vH=>List (bf)
 |.vG=>List (cZ)
 |.sV=>List (an)
 |.sS=>List (ar)
 |.sZ=>List (aF)
 |.sU=>List (aN)
 |.s6=>List (aG)
 |.sW=>List (bK)
 |.sX=>List (bH)
 |.s7=>List (aw)
 |.s8=>List (aa)
 |.vF=>List (cO)
 |.mT=>List (Int)
 |.vD=>List (List UInt8)
 |.vE=>List (UInt8)
 |.Builtin=>bF
 |.CodeBlock=>bf
 |.gw=>cZ
 |.Type=>aa
 |.Param=>aw
 |.fO=>ay
 |.Func=>aF
 |.aT=>ar
 |.ef=>bK
 |.Lower=>bH
 |.Ins=>aG
 |.Core=>an
 |.Import=>aN
 |.Module=>aM
 |.eG=>aP
 |.bound=>cO
 |.checker=>eg
 |.mf=>eA
def P8:U->Nat
 |.Builtin=>4
 |.CodeBlock=>5
 |.gw=>3
 |.Type=>4
 |.Param=>5
 |.fO=>6
 |.Func=>7
 |.aT=>5
 |.ef=>3
 |.Lower=>3
 |.Ins=>2
 |.Core=>5
 |.Import=>3
 |.Module=>3
 |.eG=>12
 |.bound=>8
 |.checker=>14
 |.mf=>12
 |_=>1
def aB6:(c:U)->El c
 |.i64=>(0:Int)
 |.u8=>(0:UInt8)
 |.i32=>(0:Int)
 |.u64=>(0:Int)
 |.u32=>(0:Int)
 |.u16=>(0:Int)
 |.i16=>(0:Int)
 |.i8=>(0:Int)
 |.str=>([]:List UInt8)
 |.bool=>false
 |.sY=>([]:List (bF))
 |.vH=>([]:List (bf))
 |.vG=>([]:List (cZ))
 |.sV=>([]:List (an))
 |.sS=>([]:List (ar))
 |.sZ=>([]:List (aF))
 |.sU=>([]:List (aN))
 |.s6=>([]:List (aG))
 |.sW=>([]:List (bK))
 |.sX=>([]:List (bH))
 |.s7=>([]:List (aw))
 |.s8=>([]:List (aa))
 |.vF=>([]:List (cO))
 |.mT=>([]:List (Int))
 |.vD=>([]:List (List UInt8))
 |.vE=>([]:List (UInt8))
 |.Builtin=>bF.zero
 |.CodeBlock=>bf.zero
 |.gw=>cZ.zero
 |.Type=>aa.zero
 |.Param=>aw.zero
 |.fO=>ay.zero
 |.Func=>aF.zero
 |.aT=>ar.zero
 |.ef=>bK.zero
 |.Lower=>bH.zero
 |.Ins=>aG.zero
 |.Core=>an.zero
 |.Import=>aN.zero
 |.Module=>aM.zero
 |.eG=>aP.zero
 |.bound=>cO.zero
 |.checker=>eg.zero
 |.mf=>eA.zero
abbrev K:db:={U:=U,El:=El,jR:=inferInstance,sz:=P8,zero:=aB6}
def je:U->List (Sh K)
 |.i64=>[.int .i64]
 |.u8=>[.int .u8]
 |.i32=>[.int .i32]
 |.u64=>[.int .u64]
 |.u32=>[.int .u32]
 |.u16=>[.int .u16]
 |.i16=>[.int .i16]
 |.i8=>[.int .i8]
 |.str=>[.str]
 |.bool=>[.bool]
 |.sY=>[.ah U.Builtin]
 |.vH=>[.ah U.CodeBlock]
 |.vG=>[.ah U.gw]
 |.sV=>[.ah U.Core]
 |.sS=>[.ah U.aT]
 |.sZ=>[.ah U.Func]
 |.sU=>[.ah U.Import]
 |.s6=>[.ah U.Ins]
 |.sW=>[.ah U.ef]
 |.sX=>[.ah U.Lower]
 |.s7=>[.ah U.Param]
 |.s8=>[.ah U.Type]
 |.vF=>[.ah U.bound]
 |.mT=>[.ah U.i64]
 |.vD=>[.ah U.str]
 |.vE=>[.ah U.u8]
 |.Builtin=>[.int .i64,.str,.str,.str]
 |.CodeBlock=>[.int .i64,.int .i64,.int .i64,.int .i64,.bool]
 |.gw=>[.bool,.int .i64,.ah U.i64]
 |.Type=>[.int .i64,.str,.ah U.str,.ah U.Type]
 |.Param=>[.str,.int .i64,.str,.ah U.str,.ah U.Type]
 |.fO=>[.ah U.Param,.int .i64,.str,.ah U.str,.ah U.Type,.bool]
 |.Func=>[.str,.ah U.Param,.int .i64,.str,.ah U.str,.ah U.Type,.bool]
 |.aT=>[.str,.str,.str,.ah U.str,.ah U.Func]
 |.ef=>[.str,.str,.str]
 |.Lower=>[.str,.str,.str]
 |.Ins=>[.int .i64,.int .i64]
 |.Core=>[.str,.int .i64,.int .i64,.bool,.ah U.Ins]
 |.Import=>[.str,.int .i64,.bool]
 |.Module=>[.int .i64,.ah U.Import,.ah U.Core]
 |.eG=>[.str,.str,.ah U.aT,.ah U.aT,.int .i64,.int .i64,.int .i64,.ah U.Import,.ah U.Core,.ah U.ef,.ah U.Lower,.ah U.Builtin]
 |.bound=>[.str,.str,.ah U.Param,.int .i64,.str,.ah U.str,.ah U.Type,.bool]
 |.checker=>[.int .i64,.ah U.Import,.ah U.Core,.str,.int .i64,.int .i64,.bool,.ah U.Ins,.ah U.CodeBlock,.int .i64,.ah U.i64,.ah U.i64,.int .i64,.bool]
 |.mf=>[.int .i64,.ah U.Import,.ah U.Core,.str,.int .i64,.int .i64,.bool,.ah U.Ins,.ah U.CodeBlock,.ah U.i64,.int .i64,.bool]
def qO:(c:U)->El c->Sh.Ts (je c)
 |.i64,x=>(x,())
 |.u8,x=>((x.toNat:Int),())
 |.i32,x=>(x,())
 |.u64,x=>(x,())
 |.u32,x=>(x,())
 |.u16,x=>(x,())
 |.i16,x=>(x,())
 |.i8,x=>(x,())
 |.str,x=>(x,())
 |.bool,x=>(x,())
 |.sY,x=>(x,())
 |.vH,x=>(x,())
 |.vG,x=>(x,())
 |.sV,x=>(x,())
 |.sS,x=>(x,())
 |.sZ,x=>(x,())
 |.sU,x=>(x,())
 |.s6,x=>(x,())
 |.sW,x=>(x,())
 |.sX,x=>(x,())
 |.s7,x=>(x,())
 |.s8,x=>(x,())
 |.vF,x=>(x,())
 |.mT,x=>(x,())
 |.vD,x=>(x,())
 |.vE,x=>(x,())
 |.Builtin,x=>((bF.Kind x),(bF.aT x),(bF.dX x),(bF.Import x),())
 |.CodeBlock,x=>((bf.At x),(bf.Else x),(bf.End x),(bf.Height x),(bf.Result x),())
 |.gw,x=>((cZ.O3 x),(cZ.Height x),(cZ.O4 x),())
 |.Type,x=>((aa.Kind x),(aa.Name x),(aa.bR x),(aa.Kids x),())
 |.Param,x=>((aw.Name x),(aa.Kind (aw.aS x)),(aa.Name (aw.aS x)),(aa.bR (aw.aS x)),(aa.Kids (aw.aS x)),())
 |.fO,x=>((ay.Params x),(aa.Kind (ay.Result x)),(aa.Name (ay.Result x)),(aa.bR (ay.Result x)),(aa.Kids (ay.Result x)),(ay.Async x),())
 |.Func,x=>((aF.Name x),(ay.Params (aF.aS x)),(aa.Kind (ay.Result (aF.aS x))),(aa.Name (ay.Result (aF.aS x))),(aa.bR (ay.Result (aF.aS x))),(aa.Kids (ay.Result (aF.aS x))),(ay.Async (aF.aS x)),())
 |.aT,x=>((ar.dn x),(ar.Name x),(ar.Version x),(ar.bI x),(ar.Funcs x),())
 |.ef,x=>((bK.aT x),(bK.Func x),(bK.Core x),())
 |.Lower,x=>((bH.aT x),(bH.Func x),(bH.Import x),())
 |.Ins,x=>((aG.Op x),(aG.A x),())
 |.Core,x=>((an.Name x),(an.Params x),(an.cX x),(an.Result x),(an.Code x),())
 |.Import,x=>((aN.Name x),(aN.Params x),(aN.Result x),())
 |.Module,x=>((aM.dh x),(aM.al x),(aM.aI x),())
 |.eG,x=>((aP.Name x),(aP.Version x),(aP.al x),(aP.bM x),(aP.Encoding x),(aP.ew x),(aM.dh (aP.Module x)),(aM.al (aP.Module x)),(aM.aI (aP.Module x)),(aP.bT x),(aP.bL x),(aP.Builtins x),())
 |.bound,x=>((cO.l8 x),(cO.name x),(ay.Params (cO.shape x)),(aa.Kind (ay.Result (cO.shape x))),(aa.Name (ay.Result (cO.shape x))),(aa.bR (ay.Result (cO.shape x))),(aa.Kids (ay.Result (cO.shape x))),(ay.Async (cO.shape x)),())
 |.checker,x=>((aM.dh (eg.module x)),(aM.al (eg.module x)),(aM.aI (eg.module x)),(an.Name (eg.core x)),(an.Params (eg.core x)),(an.cX (eg.core x)),(an.Result (eg.core x)),(an.Code (eg.core x)),(eg.blocks x),(eg.next x),(eg.open_ x),(eg.bases x),(eg.height x),(eg.known x),())
 |.mf,x=>((aM.dh (eA.m x)),(aM.al (eA.m x)),(aM.aI (eA.m x)),(an.Name (eA.c x)),(an.Params (eA.c x)),(an.cX (eA.c x)),(an.Result (eA.c x)),(an.Code (eA.c x)),(eA.blocks x),(eA.open_ x),(eA.height x),(eA.dead x),())
def kz:(c:U)->Sh.Ts (je c)->El c×Bool
 |.i64,y=>(y.1,true)
 |.u8,y=>(lR y.1,lQ y.1)
 |.i32,y=>(y.1,true)
 |.u64,y=>(y.1,true)
 |.u32,y=>(y.1,true)
 |.u16,y=>(y.1,true)
 |.i16,y=>(y.1,true)
 |.i8,y=>(y.1,true)
 |.str,y=>(y.1,true)
 |.bool,y=>(y.1,true)
 |.sY,y=>(y.1,true)
 |.vH,y=>(y.1,true)
 |.vG,y=>(y.1,true)
 |.sV,y=>(y.1,true)
 |.sS,y=>(y.1,true)
 |.sZ,y=>(y.1,true)
 |.sU,y=>(y.1,true)
 |.s6,y=>(y.1,true)
 |.sW,y=>(y.1,true)
 |.sX,y=>(y.1,true)
 |.s7,y=>(y.1,true)
 |.s8,y=>(y.1,true)
 |.vF,y=>(y.1,true)
 |.mT,y=>(y.1,true)
 |.vD,y=>(y.1,true)
 |.vE,y=>(y.1,true)
 |.Builtin,y=>(bF.mk y.1 y.2.1 y.2.2.1 y.2.2.2.1,true)
 |.CodeBlock,y=>(bf.mk y.1 y.2.1 y.2.2.1 y.2.2.2.1 y.2.2.2.2.1,true)
 |.gw,y=>(cZ.mk y.1 y.2.1 y.2.2.1,true)
 |.Type,y=>(aa.mk y.1 y.2.1 y.2.2.1 y.2.2.2.1,true)
 |.Param,y=>(aw.mk y.1 (aa.mk y.2.1 y.2.2.1 y.2.2.2.1 y.2.2.2.2.1),true)
 |.fO,y=>(ay.mk y.1 (aa.mk y.2.1 y.2.2.1 y.2.2.2.1 y.2.2.2.2.1) y.2.2.2.2.2.1,true)
 |.Func,y=>(aF.mk y.1 (ay.mk y.2.1 (aa.mk y.2.2.1 y.2.2.2.1 y.2.2.2.2.1 y.2.2.2.2.2.1) y.2.2.2.2.2.2.1),true)
 |.aT,y=>(ar.mk y.1 y.2.1 y.2.2.1 y.2.2.2.1 y.2.2.2.2.1,true)
 |.ef,y=>(bK.mk y.1 y.2.1 y.2.2.1,true)
 |.Lower,y=>(bH.mk y.1 y.2.1 y.2.2.1,true)
 |.Ins,y=>(aG.mk y.1 y.2.1,true)
 |.Core,y=>(an.mk y.1 y.2.1 y.2.2.1 y.2.2.2.1 y.2.2.2.2.1,true)
 |.Import,y=>(aN.mk y.1 y.2.1 y.2.2.1,true)
 |.Module,y=>(aM.mk y.1 y.2.1 y.2.2.1,true)
 |.eG,y=>(aP.mk y.1 y.2.1 y.2.2.1 y.2.2.2.1 y.2.2.2.2.1 y.2.2.2.2.2.1 (aM.mk y.2.2.2.2.2.2.1 y.2.2.2.2.2.2.2.1 y.2.2.2.2.2.2.2.2.1) y.2.2.2.2.2.2.2.2.2.1 y.2.2.2.2.2.2.2.2.2.2.1 y.2.2.2.2.2.2.2.2.2.2.2.1,true)
 |.bound,y=>(cO.mk y.1 y.2.1 (ay.mk y.2.2.1 (aa.mk y.2.2.2.1 y.2.2.2.2.1 y.2.2.2.2.2.1 y.2.2.2.2.2.2.1) y.2.2.2.2.2.2.2.1),true)
 |.checker,y=>(eg.mk (aM.mk y.1 y.2.1 y.2.2.1) (an.mk y.2.2.2.1 y.2.2.2.2.1 y.2.2.2.2.2.1 y.2.2.2.2.2.2.1 y.2.2.2.2.2.2.2.1) y.2.2.2.2.2.2.2.2.1 y.2.2.2.2.2.2.2.2.2.1 y.2.2.2.2.2.2.2.2.2.2.1 y.2.2.2.2.2.2.2.2.2.2.2.1 y.2.2.2.2.2.2.2.2.2.2.2.2.1 y.2.2.2.2.2.2.2.2.2.2.2.2.2.1,true)
 |.mf,y=>(eA.mk (aM.mk y.1 y.2.1 y.2.2.1) (an.mk y.2.2.2.1 y.2.2.2.2.1 y.2.2.2.2.2.1 y.2.2.2.2.2.2.1 y.2.2.2.2.2.2.2.1) y.2.2.2.2.2.2.2.2.1 y.2.2.2.2.2.2.2.2.2.1 y.2.2.2.2.2.2.2.2.2.2.1 y.2.2.2.2.2.2.2.2.2.2.2.1,true)
def ajK:(c:U)->Option ((El c->UInt8)×(UInt8->El c))
 |.u8=>some (id,id)
 |_=>none
noncomputable def D:bP K:=KC je kz qO ajK [.i64,.str,.bool,.i32,.u64,.u32,.u16,.i16,.i8,.sY,.vH,.vG,.sV,.sS,.sZ,.sU,.s6,.sW,.sX,.s7,.s8,.vF,.mT,.vD,.vE,.Builtin,.CodeBlock,.gw,.Type,.Param,.fO,.Func,.aT,.ef,.Lower,.Ins,.Core,.Import,.Module,.eG,.bound,.checker,.mf] (aB7 1 0 6 7 2) (some 144) (fun|.u8=>some 5|_=>none)
theorem aB:bW D:=aB8 (fun c=>by cases c<;>rfl) (fun c=>by cases c<;>rfl)
 (fun c y x h=>by
   cases c<;>first|exact ajL h|(have h:=(Prod.mk.inj h).1;subst h;rfl))
 (fun c f g h=>by
   cases c<;>simp only[ajK,aD,bj]at h<;>first|(obtain⟨rfl,rfl⟩:=h;exact⟨fun _=>rfl,fun _=>rfl⟩)|cases h)
end Go.V
