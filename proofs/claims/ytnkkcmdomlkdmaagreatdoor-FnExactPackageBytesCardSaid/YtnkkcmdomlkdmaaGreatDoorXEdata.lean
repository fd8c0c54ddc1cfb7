/-
  THE DATA: the structs of the program and of the reference as plain types; how they lie in cells.
-/
import Derived.Test.YtnkkcmdomlkdmaaGreatDoorXWgD
set_option linter.unusedVariables false
namespace M
structure bu where
 Kind:Int
 aS:List UInt8
 dG:List UInt8
 Import:List UInt8
 deriving Inhabited
def bu.zero:bu:=bu.mk 0 [] [] []
structure aX where
 At:Int
 Else:Int
 End:Int
 Height:Int
 Result:Bool
 deriving Inhabited
def aX.zero:aX:=aX.mk 0 0 0 0 false
structure da where
 Qr:Bool
 Height:Int
 Qs:List Int
 deriving Inhabited
def da.zero:da:=da.mk false 0 []
inductive aa where
 |mk (Kind:Int) (Name:List UInt8) (cn:List (List UInt8)) (Kids:List aa)
 deriving Inhabited
def aa.Kind:aa->Int
 |.mk v _ _ _=>v
def aa.Name:aa->List UInt8
 |.mk _ v _ _=>v
def aa.cn:aa->List (List UInt8)
 |.mk _ _ v _=>v
def aa.Kids:aa->List aa
 |.mk _ _ _ v=>v
def aa.re(x:aa):aa:=aa.mk (aa.Kind x) (aa.Name x) (aa.cn x) (aa.Kids x)
theorem aa.aj(x:aa):aa.re x=x:=by cases x;rfl
theorem aa.eta(x:aa):aa.mk (aa.Kind x) (aa.Name x) (aa.cn x) (aa.Kids x)=x:=by cases x;rfl
def aa.zero:aa:=aa.mk 0 [] [] []
structure ar where
 Name:List UInt8
 aF:aa
 deriving Inhabited
def ar.re(x:ar):ar:=ar.mk (ar.Name x) (aa.re (ar.aF x))
theorem ar.aj(x:ar):ar.re x=x:=by unfold ar.re;simp only[aa.aj]
def ar.zero:ar:=ar.mk [] aa.zero
structure aJ where
 Params:List ar
 Result:aa
 Async:Bool
 deriving Inhabited
def aJ.re(x:aJ):aJ:=aJ.mk (aJ.Params x) (aa.re (aJ.Result x)) (aJ.Async x)
theorem aJ.aj(x:aJ):aJ.re x=x:=by unfold aJ.re;simp only[aa.aj]
def aJ.zero:aJ:=aJ.mk [] aa.zero false
structure aA where
 Name:List UInt8
 aF:aJ
 deriving Inhabited
def aA.re(x:aA):aA:=aA.mk (aA.Name x) (aJ.re (aA.aF x))
theorem aA.aj(x:aA):aA.re x=x:=by unfold aA.re;simp only[aJ.aj]
def aA.zero:aA:=aA.mk [] aJ.zero
structure ax where
 cV:List UInt8
 Name:List UInt8
 Version:List UInt8
 bK:List (List UInt8)
 Funcs:List aA
 deriving Inhabited
def ax.zero:ax:=ax.mk [] [] [] [] []
structure bF where
 aS:List UInt8
 Func:List UInt8
 Core:List UInt8
 deriving Inhabited
def bF.zero:bF:=bF.mk [] [] []
structure bC where
 aS:List UInt8
 Func:List UInt8
 Import:List UInt8
 deriving Inhabited
def bC.zero:bC:=bC.mk [] [] []
structure aE where
 Op:Int
 A:Int
 deriving Inhabited
def aE.zero:aE:=aE.mk 0 0
structure av where
 Name:List UInt8
 Params:Int
 cO:Int
 Result:Bool
 Code:List aE
 deriving Inhabited
def av.zero:av:=av.mk [] 0 0 false []
structure aO where
 Name:List UInt8
 Params:Int
 Result:Bool
 deriving Inhabited
def aO.zero:aO:=aO.mk [] 0 false
structure aN where
 cU:Int
 al:List aO
 aB:List av
 deriving Inhabited
def aN.zero:aN:=aN.mk 0 [] []
structure aV where
 Name:List UInt8
 Version:List UInt8
 al:List ax
 bR:List ax
 Encoding:Int
 fk:Int
 Module:aN
 bZ:List bF
 bP:List bC
 Builtins:List bu
 deriving Inhabited
def aV.zero:aV:=aV.mk [] [] [] [] 0 0 aN.zero [] [] []
structure dn where
 Id:Int
 Name:List UInt8
 Bytes:List UInt8
 deriving Inhabited
def dn.zero:dn:=dn.mk 0 [] []
structure cQ where
 mB:List UInt8
 name:List UInt8
 shape:aJ
 deriving Inhabited
def cQ.re(x:cQ):cQ:=cQ.mk (cQ.mB x) (cQ.name x) (aJ.re (cQ.shape x))
theorem cQ.aj(x:cQ):cQ.re x=x:=by unfold cQ.re;simp only[aJ.aj]
def cQ.zero:cQ:=cQ.mk [] [] aJ.zero
structure ek where
 module:aN
 core:av
 blocks:List aX
 next:Int
 open_:List Int
 bases:List Int
 height:Int
 known:Bool
 deriving Inhabited
def ek.zero:ek:=ek.mk aN.zero av.zero [] 0 [] [] 0 false
structure eE where
 m:aN
 c:av
 blocks:List aX
 open_:List Int
 height:Int
 dead:Bool
 deriving Inhabited
def eE.zero:eE:=eE.mk aN.zero av.zero [] [] 0 false
end M
namespace Go.V
open Go M
inductive U where
 |i64|u8|i32|u64|u32|u16|i16|i8|str|bool|tq|wo|wm|tu|aao|ti|tw|tj|tz|tn|tp|tA|wj|tC|anc|nA|wi|wh|Builtin|CodeBlock|hQ|Type|Param|iS|Func|aS|dK|Lower|Ins|Core|Import|Module|eM|jQ|bound|checker|mI
 deriving DecidableEq
abbrev El:U->Type
 |.i64=>Int
 |.u8=>UInt8
 |.i32=>Int
 |.u64=>Int
 |.u32=>Int
 |.u16=>Int
 |.i16=>Int
 |.i8=>Int
 |.str=>List UInt8
 |.bool=>Bool
 |.tq=>List (bu)
 |.wo=>List (aX)
 |.wm=>List (da)
 |.tu=>List (aV)
 |.aao=>List (av)
 |.ti=>List (ax)
 |.tw=>List (aA)
 |.tj=>List (aO)
 |.tz=>List (aE)
 |.tn=>List (bF)
 |.tp=>List (bC)
 |.tA=>List (ar)
 |.wj=>List (dn)
 |.tC=>List (aa)
 |.anc=>List (cQ)
 |.nA=>List (Int)
 |.wi=>List (List UInt8)
 |.wh=>List (UInt8)
 |.Builtin=>bu
 |.CodeBlock=>aX
 |.hQ=>da
 |.Type=>aa
 |.Param=>ar
 |.iS=>aJ
 |.Func=>aA
 |.aS=>ax
 |.dK=>bF
 |.Lower=>bC
 |.Ins=>aE
 |.Core=>av
 |.Import=>aO
 |.Module=>aN
 |.eM=>aV
 |.jQ=>dn
 |.bound=>cQ
 |.checker=>ek
 |.mI=>eE
def QC:U->Nat
 |.Builtin=>4
 |.CodeBlock=>5
 |.hQ=>3
 |.Type=>4
 |.Param=>5
 |.iS=>6
 |.Func=>7
 |.aS=>5
 |.dK=>3
 |.Lower=>3
 |.Ins=>2
 |.Core=>5
 |.Import=>3
 |.Module=>3
 |.eM=>12
 |.jQ=>3
 |.bound=>8
 |.checker=>14
 |.mI=>12
 |_=>1
def aDb:(c:U)->El c
 |.i64=>(0:Int)
 |.u8=>(0:UInt8)
 |.i32=>(0:Int)
 |.u64=>(0:Int)
 |.u32=>(0:Int)
 |.u16=>(0:Int)
 |.i16=>(0:Int)
 |.i8=>(0:Int)
 |.str=>([]:List UInt8)
 |.bool=>false
 |.tq=>([]:List (bu))
 |.wo=>([]:List (aX))
 |.wm=>([]:List (da))
 |.tu=>([]:List (aV))
 |.aao=>([]:List (av))
 |.ti=>([]:List (ax))
 |.tw=>([]:List (aA))
 |.tj=>([]:List (aO))
 |.tz=>([]:List (aE))
 |.tn=>([]:List (bF))
 |.tp=>([]:List (bC))
 |.tA=>([]:List (ar))
 |.wj=>([]:List (dn))
 |.tC=>([]:List (aa))
 |.anc=>([]:List (cQ))
 |.nA=>([]:List (Int))
 |.wi=>([]:List (List UInt8))
 |.wh=>([]:List (UInt8))
 |.Builtin=>bu.zero
 |.CodeBlock=>aX.zero
 |.hQ=>da.zero
 |.Type=>aa.zero
 |.Param=>ar.zero
 |.iS=>aJ.zero
 |.Func=>aA.zero
 |.aS=>ax.zero
 |.dK=>bF.zero
 |.Lower=>bC.zero
 |.Ins=>aE.zero
 |.Core=>av.zero
 |.Import=>aO.zero
 |.Module=>aN.zero
 |.eM=>aV.zero
 |.jQ=>dn.zero
 |.bound=>cQ.zero
 |.checker=>ek.zero
 |.mI=>eE.zero
abbrev K:dc:={U:=U,El:=El,kx:=inferInstance,sz:=QC,zero:=aDb}
def jT:U->List (Sh K)
 |.i64=>[.int .i64]
 |.u8=>[.int .u8]
 |.i32=>[.int .i32]
 |.u64=>[.int .u64]
 |.u32=>[.int .u32]
 |.u16=>[.int .u16]
 |.i16=>[.int .i16]
 |.i8=>[.int .i8]
 |.str=>[.str]
 |.bool=>[.bool]
 |.tq=>[.ah U.Builtin]
 |.wo=>[.ah U.CodeBlock]
 |.wm=>[.ah U.hQ]
 |.tu=>[.ah U.eM]
 |.aao=>[.ah U.Core]
 |.ti=>[.ah U.aS]
 |.tw=>[.ah U.Func]
 |.tj=>[.ah U.Import]
 |.tz=>[.ah U.Ins]
 |.tn=>[.ah U.dK]
 |.tp=>[.ah U.Lower]
 |.tA=>[.ah U.Param]
 |.wj=>[.ah U.jQ]
 |.tC=>[.ah U.Type]
 |.anc=>[.ah U.bound]
 |.nA=>[.ah U.i64]
 |.wi=>[.ah U.str]
 |.wh=>[.ah U.u8]
 |.Builtin=>[.int .i64,.str,.str,.str]
 |.CodeBlock=>[.int .i64,.int .i64,.int .i64,.int .i64,.bool]
 |.hQ=>[.bool,.int .i64,.ah U.i64]
 |.Type=>[.int .i64,.str,.ah U.str,.ah U.Type]
 |.Param=>[.str,.int .i64,.str,.ah U.str,.ah U.Type]
 |.iS=>[.ah U.Param,.int .i64,.str,.ah U.str,.ah U.Type,.bool]
 |.Func=>[.str,.ah U.Param,.int .i64,.str,.ah U.str,.ah U.Type,.bool]
 |.aS=>[.str,.str,.str,.ah U.str,.ah U.Func]
 |.dK=>[.str,.str,.str]
 |.Lower=>[.str,.str,.str]
 |.Ins=>[.int .i64,.int .i64]
 |.Core=>[.str,.int .i64,.int .i64,.bool,.ah U.Ins]
 |.Import=>[.str,.int .i64,.bool]
 |.Module=>[.int .i64,.ah U.Import,.ah U.Core]
 |.eM=>[.str,.str,.ah U.aS,.ah U.aS,.int .i64,.int .i64,.int .i64,.ah U.Import,.ah U.Core,.ah U.dK,.ah U.Lower,.ah U.Builtin]
 |.jQ=>[.int .i64,.str,.str]
 |.bound=>[.str,.str,.ah U.Param,.int .i64,.str,.ah U.str,.ah U.Type,.bool]
 |.checker=>[.int .i64,.ah U.Import,.ah U.Core,.str,.int .i64,.int .i64,.bool,.ah U.Ins,.ah U.CodeBlock,.int .i64,.ah U.i64,.ah U.i64,.int .i64,.bool]
 |.mI=>[.int .i64,.ah U.Import,.ah U.Core,.str,.int .i64,.int .i64,.bool,.ah U.Ins,.ah U.CodeBlock,.ah U.i64,.int .i64,.bool]
def uz:(c:U)->El c->Sh.Ts (jT c)
 |.i64,x=>(x,())
 |.u8,x=>((x.toNat:Int),())
 |.i32,x=>(x,())
 |.u64,x=>(x,())
 |.u32,x=>(x,())
 |.u16,x=>(x,())
 |.i16,x=>(x,())
 |.i8,x=>(x,())
 |.str,x=>(x,())
 |.bool,x=>(x,())
 |.tq,x=>(x,())
 |.wo,x=>(x,())
 |.wm,x=>(x,())
 |.tu,x=>(x,())
 |.aao,x=>(x,())
 |.ti,x=>(x,())
 |.tw,x=>(x,())
 |.tj,x=>(x,())
 |.tz,x=>(x,())
 |.tn,x=>(x,())
 |.tp,x=>(x,())
 |.tA,x=>(x,())
 |.wj,x=>(x,())
 |.tC,x=>(x,())
 |.anc,x=>(x,())
 |.nA,x=>(x,())
 |.wi,x=>(x,())
 |.wh,x=>(x,())
 |.Builtin,x=>((bu.Kind x),(bu.aS x),(bu.dG x),(bu.Import x),())
 |.CodeBlock,x=>((aX.At x),(aX.Else x),(aX.End x),(aX.Height x),(aX.Result x),())
 |.hQ,x=>((da.Qr x),(da.Height x),(da.Qs x),())
 |.Type,x=>((aa.Kind x),(aa.Name x),(aa.cn x),(aa.Kids x),())
 |.Param,x=>((ar.Name x),(aa.Kind (ar.aF x)),(aa.Name (ar.aF x)),(aa.cn (ar.aF x)),(aa.Kids (ar.aF x)),())
 |.iS,x=>((aJ.Params x),(aa.Kind (aJ.Result x)),(aa.Name (aJ.Result x)),(aa.cn (aJ.Result x)),(aa.Kids (aJ.Result x)),(aJ.Async x),())
 |.Func,x=>((aA.Name x),(aJ.Params (aA.aF x)),(aa.Kind (aJ.Result (aA.aF x))),(aa.Name (aJ.Result (aA.aF x))),(aa.cn (aJ.Result (aA.aF x))),(aa.Kids (aJ.Result (aA.aF x))),(aJ.Async (aA.aF x)),())
 |.aS,x=>((ax.cV x),(ax.Name x),(ax.Version x),(ax.bK x),(ax.Funcs x),())
 |.dK,x=>((bF.aS x),(bF.Func x),(bF.Core x),())
 |.Lower,x=>((bC.aS x),(bC.Func x),(bC.Import x),())
 |.Ins,x=>((aE.Op x),(aE.A x),())
 |.Core,x=>((av.Name x),(av.Params x),(av.cO x),(av.Result x),(av.Code x),())
 |.Import,x=>((aO.Name x),(aO.Params x),(aO.Result x),())
 |.Module,x=>((aN.cU x),(aN.al x),(aN.aB x),())
 |.eM,x=>((aV.Name x),(aV.Version x),(aV.al x),(aV.bR x),(aV.Encoding x),(aV.fk x),(aN.cU (aV.Module x)),(aN.al (aV.Module x)),(aN.aB (aV.Module x)),(aV.bZ x),(aV.bP x),(aV.Builtins x),())
 |.jQ,x=>((dn.Id x),(dn.Name x),(dn.Bytes x),())
 |.bound,x=>((cQ.mB x),(cQ.name x),(aJ.Params (cQ.shape x)),(aa.Kind (aJ.Result (cQ.shape x))),(aa.Name (aJ.Result (cQ.shape x))),(aa.cn (aJ.Result (cQ.shape x))),(aa.Kids (aJ.Result (cQ.shape x))),(aJ.Async (cQ.shape x)),())
 |.checker,x=>((aN.cU (ek.module x)),(aN.al (ek.module x)),(aN.aB (ek.module x)),(av.Name (ek.core x)),(av.Params (ek.core x)),(av.cO (ek.core x)),(av.Result (ek.core x)),(av.Code (ek.core x)),(ek.blocks x),(ek.next x),(ek.open_ x),(ek.bases x),(ek.height x),(ek.known x),())
 |.mI,x=>((aN.cU (eE.m x)),(aN.al (eE.m x)),(aN.aB (eE.m x)),(av.Name (eE.c x)),(av.Params (eE.c x)),(av.cO (eE.c x)),(av.Result (eE.c x)),(av.Code (eE.c x)),(eE.blocks x),(eE.open_ x),(eE.height x),(eE.dead x),())
def kU:(c:U)->Sh.Ts (jT c)->El c×Bool
 |.i64,y=>(y.1,true)
 |.u8,y=>(fH y.1,iN y.1)
 |.i32,y=>(y.1,true)
 |.u64,y=>(y.1,true)
 |.u32,y=>(y.1,true)
 |.u16,y=>(y.1,true)
 |.i16,y=>(y.1,true)
 |.i8,y=>(y.1,true)
 |.str,y=>(y.1,true)
 |.bool,y=>(y.1,true)
 |.tq,y=>(y.1,true)
 |.wo,y=>(y.1,true)
 |.wm,y=>(y.1,true)
 |.tu,y=>(y.1,true)
 |.aao,y=>(y.1,true)
 |.ti,y=>(y.1,true)
 |.tw,y=>(y.1,true)
 |.tj,y=>(y.1,true)
 |.tz,y=>(y.1,true)
 |.tn,y=>(y.1,true)
 |.tp,y=>(y.1,true)
 |.tA,y=>(y.1,true)
 |.wj,y=>(y.1,true)
 |.tC,y=>(y.1,true)
 |.anc,y=>(y.1,true)
 |.nA,y=>(y.1,true)
 |.wi,y=>(y.1,true)
 |.wh,y=>(y.1,true)
 |.Builtin,y=>(bu.mk y.1 y.2.1 y.2.2.1 y.2.2.2.1,true)
 |.CodeBlock,y=>(aX.mk y.1 y.2.1 y.2.2.1 y.2.2.2.1 y.2.2.2.2.1,true)
 |.hQ,y=>(da.mk y.1 y.2.1 y.2.2.1,true)
 |.Type,y=>(aa.mk y.1 y.2.1 y.2.2.1 y.2.2.2.1,true)
 |.Param,y=>(ar.mk y.1 (aa.mk y.2.1 y.2.2.1 y.2.2.2.1 y.2.2.2.2.1),true)
 |.iS,y=>(aJ.mk y.1 (aa.mk y.2.1 y.2.2.1 y.2.2.2.1 y.2.2.2.2.1) y.2.2.2.2.2.1,true)
 |.Func,y=>(aA.mk y.1 (aJ.mk y.2.1 (aa.mk y.2.2.1 y.2.2.2.1 y.2.2.2.2.1 y.2.2.2.2.2.1) y.2.2.2.2.2.2.1),true)
 |.aS,y=>(ax.mk y.1 y.2.1 y.2.2.1 y.2.2.2.1 y.2.2.2.2.1,true)
 |.dK,y=>(bF.mk y.1 y.2.1 y.2.2.1,true)
 |.Lower,y=>(bC.mk y.1 y.2.1 y.2.2.1,true)
 |.Ins,y=>(aE.mk y.1 y.2.1,true)
 |.Core,y=>(av.mk y.1 y.2.1 y.2.2.1 y.2.2.2.1 y.2.2.2.2.1,true)
 |.Import,y=>(aO.mk y.1 y.2.1 y.2.2.1,true)
 |.Module,y=>(aN.mk y.1 y.2.1 y.2.2.1,true)
 |.eM,y=>(aV.mk y.1 y.2.1 y.2.2.1 y.2.2.2.1 y.2.2.2.2.1 y.2.2.2.2.2.1 (aN.mk y.2.2.2.2.2.2.1 y.2.2.2.2.2.2.2.1 y.2.2.2.2.2.2.2.2.1) y.2.2.2.2.2.2.2.2.2.1 y.2.2.2.2.2.2.2.2.2.2.1 y.2.2.2.2.2.2.2.2.2.2.2.1,true)
 |.jQ,y=>(dn.mk y.1 y.2.1 y.2.2.1,true)
 |.bound,y=>(cQ.mk y.1 y.2.1 (aJ.mk y.2.2.1 (aa.mk y.2.2.2.1 y.2.2.2.2.1 y.2.2.2.2.2.1 y.2.2.2.2.2.2.1) y.2.2.2.2.2.2.2.1),true)
 |.checker,y=>(ek.mk (aN.mk y.1 y.2.1 y.2.2.1) (av.mk y.2.2.2.1 y.2.2.2.2.1 y.2.2.2.2.2.1 y.2.2.2.2.2.2.1 y.2.2.2.2.2.2.2.1) y.2.2.2.2.2.2.2.2.1 y.2.2.2.2.2.2.2.2.2.1 y.2.2.2.2.2.2.2.2.2.2.1 y.2.2.2.2.2.2.2.2.2.2.2.1 y.2.2.2.2.2.2.2.2.2.2.2.2.1 y.2.2.2.2.2.2.2.2.2.2.2.2.2.1,true)
 |.mI,y=>(eE.mk (aN.mk y.1 y.2.1 y.2.2.1) (av.mk y.2.2.2.1 y.2.2.2.2.1 y.2.2.2.2.2.1 y.2.2.2.2.2.2.1 y.2.2.2.2.2.2.2.1) y.2.2.2.2.2.2.2.2.1 y.2.2.2.2.2.2.2.2.2.1 y.2.2.2.2.2.2.2.2.2.2.1 y.2.2.2.2.2.2.2.2.2.2.2.1,true)
def alf:(c:U)->Option ((El c->UInt8)×(UInt8->El c))
 |.u8=>some (id,id)
 |_=>none
noncomputable def D:bL K:=Qf jT kU uz alf [.i64,.str,.bool,.i32,.u64,.u32,.u16,.i16,.i8,.tq,.wo,.wm,.tu,.aao,.ti,.tw,.tj,.tz,.tn,.tp,.tA,.wj,.tC,.anc,.nA,.wi,.wh,.Builtin,.CodeBlock,.hQ,.Type,.Param,.iS,.Func,.aS,.dK,.Lower,.Ins,.Core,.Import,.Module,.eM,.jQ,.bound,.checker,.mI] (aDc 0 5 1 2) (some 129) (fun|.u8=>some 5|_=>none)
theorem ay:bT D:=aDd (fun c=>by cases c<;>rfl) (fun c=>by cases c<;>rfl)
 (fun c y x h=>by
   cases c<;>first|exact alg h|(have h:=(Prod.mk.inj h).1;subst h;rfl))
 (fun c f g h=>by
   cases c<;>simp only[alf,aD,cw]at h<;>first|(obtain⟨rfl,rfl⟩:=h;exact⟨fun _=>rfl,fun _=>rfl⟩)|cases h)
end Go.V
