/-
  THE DATA: the structs of the program and of the reference as plain types; how they lie in cells.
-/
import Derived.Test.YtjgokmknlclpgaaGreatDoorXWcod
import Derived.Test.YtjgokmknlclpgaaGreatDoorXWtabs2
set_option linter.unusedVariables false
namespace M
structure aN where
 Kind:Int
 dE:List UInt8
 fQ:List UInt8
 Import:List UInt8
 deriving Inhabited
def aN.zero:aN:=aN.mk 0 [] [] []
structure ax where
 At:Int
 Else:Int
 End:Int
 Height:Int
 Result:Bool
 deriving Inhabited
def ax.zero:ax:=ax.mk 0 0 0 0 false
structure bV where
 aCY:Bool
 Height:Int
 ayH:List Int
 deriving Inhabited
def bV.zero:bV:=bV.mk false 0 []
inductive ae where
 |mk (Kind:Int) (Name:List UInt8) (dP:List (List UInt8)) (Kids:List ae)
 deriving Inhabited
def ae.Kind:ae->Int
 |.mk v _ _ _=>v
def ae.Name:ae->List UInt8
 |.mk _ v _ _=>v
def ae.dP:ae->List (List UInt8)
 |.mk _ _ v _=>v
def ae.Kids:ae->List ae
 |.mk _ _ _ v=>v
def ae.re(x:ae):ae:=ae.mk (ae.Kind x) (ae.Name x) (ae.dP x) (ae.Kids x)
theorem ae.aF(x:ae):ae.re x=x:=by cases x;rfl
theorem ae.eta(x:ae):ae.mk (ae.Kind x) (ae.Name x) (ae.dP x) (ae.Kids x)=x:=by cases x;rfl
def ae.zero:ae:=ae.mk 0 [] [] []
structure ay where
 Name:List UInt8
 aZ:ae
 deriving Inhabited
def ay.re(x:ay):ay:=ay.mk (ay.Name x) (ae.re (ay.aZ x))
theorem ay.aF(x:ay):ay.re x=x:=by unfold ay.re;simp only[ae.aF]
def ay.zero:ay:=ay.mk [] ae.zero
structure ah where
 Params:List ay
 Result:ae
 Async:Bool
 deriving Inhabited
def ah.re(x:ah):ah:=ah.mk (ah.Params x) (ae.re (ah.Result x)) (ah.Async x)
theorem ah.aF(x:ah):ah.re x=x:=by unfold ah.re;simp only[ae.aF]
def ah.zero:ah:=ah.mk [] ae.zero false
structure aQ where
 Name:List UInt8
 aZ:ah
 deriving Inhabited
def aQ.re(x:aQ):aQ:=aQ.mk (aQ.Name x) (ah.re (aQ.aZ x))
theorem aQ.aF(x:aQ):aQ.re x=x:=by unfold aQ.re;simp only[ah.aF]
def aQ.zero:aQ:=aQ.mk [] ah.zero
structure aI where
 eQ:List UInt8
 Name:List UInt8
 Version:List UInt8
 aT:List (List UInt8)
 Funcs:List aQ
 deriving Inhabited
def aI.zero:aI:=aI.mk [] [] [] [] []
structure dn where
 dE:List UInt8
 Func:List UInt8
 Core:List UInt8
 deriving Inhabited
def dn.zero:dn:=dn.mk [] [] []
structure bF where
 dE:List UInt8
 Func:List UInt8
 Import:List UInt8
 deriving Inhabited
def bF.zero:bF:=bF.mk [] [] []
structure bK where
 Op:Int
 A:Int
 deriving Inhabited
def bK.zero:bK:=bK.mk 0 0
structure aH where
 Name:List UInt8
 Params:Int
 gu:Int
 Result:Bool
 Code:List bK
 deriving Inhabited
def aH.zero:aH:=aH.mk [] 0 0 false []
structure aB where
 Name:List UInt8
 Params:Int
 Result:Bool
 deriving Inhabited
def aB.zero:aB:=aB.mk [] 0 false
structure aK where
 jI:Int
 aj:List aB
 bz:List aH
 deriving Inhabited
def aK.zero:aK:=aK.mk 0 [] []
structure aA where
 Name:List UInt8
 Version:List UInt8
 aj:List aI
 bT:List aI
 Encoding:Int
 kY:Int
 Module:aK
 gW:List dn
 dI:List bF
 Builtins:List aN
 deriving Inhabited
def aA.zero:aA:=aA.mk [] [] [] [] 0 0 aK.zero [] [] []
structure fD where
 am8:List UInt8
 name:List UInt8
 shape:ah
 deriving Inhabited
def fD.re(x:fD):fD:=fD.mk (fD.am8 x) (fD.name x) (ah.re (fD.shape x))
theorem fD.aF(x:fD):fD.re x=x:=by unfold fD.re;simp only[ah.aF]
def fD.zero:fD:=fD.mk [] [] ah.zero
structure fU where
 module:aK
 core:aH
 blocks:List ax
 next:Int
 open_:List Int
 bases:List Int
 height:Int
 known:Bool
 deriving Inhabited
def fU.zero:fU:=fU.mk aK.zero aH.zero [] 0 [] [] 0 false
structure oC where
 m:aK
 c:aH
 blocks:List ax
 open_:List Int
 height:Int
 dead:Bool
 deriving Inhabited
def oC.zero:oC:=oC.mk aK.zero aH.zero [] [] 0 false
end M
namespace Go.V
open Go M
inductive U where
 |i64|u8|i32|u64|u32|u16|i16|i8|str|bool|EF|BB|BA|aaT|aaS|aaV|JQ|amd|aaU|QZ|Q3|aaW|Wj|aaR|apm|ayi|Builtin|CodeBlock|jd|Type|Param|lJ|Func|dE|sW|Lower|Ins|Core|Import|Module|gX|bound|checker|anM
 deriving DecidableEq
abbrev El:U->Type
 |.i64=>Int
 |.u8=>UInt8
 |.i32=>Int
 |.u64=>Int
 |.u32=>Int
 |.u16=>Int
 |.i16=>Int
 |.i8=>Int
 |.str=>List UInt8
 |.bool=>Bool
 |.EF=>List (aN)
 |.BB=>List (ax)
 |.BA=>List (bV)
 |.aaT=>List (aH)
 |.aaS=>List (aI)
 |.aaV=>List (aQ)
 |.JQ=>List (aB)
 |.amd=>List (bK)
 |.aaU=>List (dn)
 |.QZ=>List (bF)
 |.Q3=>List (ay)
 |.aaW=>List (ae)
 |.Wj=>List (fD)
 |.aaR=>List (Int)
 |.apm=>List (List UInt8)
 |.ayi=>List (UInt8)
 |.Builtin=>aN
 |.CodeBlock=>ax
 |.jd=>bV
 |.Type=>ae
 |.Param=>ay
 |.lJ=>ah
 |.Func=>aQ
 |.dE=>aI
 |.sW=>dn
 |.Lower=>bF
 |.Ins=>bK
 |.Core=>aH
 |.Import=>aB
 |.Module=>aK
 |.gX=>aA
 |.bound=>fD
 |.checker=>fU
 |.anM=>oC
def Usz:U->Nat
 |.Builtin=>4
 |.CodeBlock=>5
 |.jd=>3
 |.Type=>4
 |.Param=>5
 |.lJ=>6
 |.Func=>7
 |.dE=>5
 |.sW=>3
 |.Lower=>3
 |.Ins=>2
 |.Core=>5
 |.Import=>3
 |.Module=>3
 |.gX=>12
 |.bound=>8
 |.checker=>14
 |.anM=>12
 |_=>1
def aJw:(c:U)->El c
 |.i64=>(0:Int)
 |.u8=>(0:UInt8)
 |.i32=>(0:Int)
 |.u64=>(0:Int)
 |.u32=>(0:Int)
 |.u16=>(0:Int)
 |.i16=>(0:Int)
 |.i8=>(0:Int)
 |.str=>([]:List UInt8)
 |.bool=>false
 |.EF=>([]:List (aN))
 |.BB=>([]:List (ax))
 |.BA=>([]:List (bV))
 |.aaT=>([]:List (aH))
 |.aaS=>([]:List (aI))
 |.aaV=>([]:List (aQ))
 |.JQ=>([]:List (aB))
 |.amd=>([]:List (bK))
 |.aaU=>([]:List (dn))
 |.QZ=>([]:List (bF))
 |.Q3=>([]:List (ay))
 |.aaW=>([]:List (ae))
 |.Wj=>([]:List (fD))
 |.aaR=>([]:List (Int))
 |.apm=>([]:List (List UInt8))
 |.ayi=>([]:List (UInt8))
 |.Builtin=>aN.zero
 |.CodeBlock=>ax.zero
 |.jd=>bV.zero
 |.Type=>ae.zero
 |.Param=>ay.zero
 |.lJ=>ah.zero
 |.Func=>aQ.zero
 |.dE=>aI.zero
 |.sW=>dn.zero
 |.Lower=>bF.zero
 |.Ins=>bK.zero
 |.Core=>aH.zero
 |.Import=>aB.zero
 |.Module=>aK.zero
 |.gX=>aA.zero
 |.bound=>fD.zero
 |.checker=>fU.zero
 |.anM=>oC.zero
abbrev K:Jc:={U:=U,El:=El,deq:=inferInstance,sz:=Usz,zero:=aJw}
def Ucs:U->List (Sh K)
 |.i64=>[.int .i64]
 |.u8=>[.int .u8]
 |.i32=>[.int .i32]
 |.u64=>[.int .u64]
 |.u32=>[.int .u32]
 |.u16=>[.int .u16]
 |.i16=>[.int .i16]
 |.i8=>[.int .i8]
 |.str=>[.str]
 |.bool=>[.bool]
 |.EF=>[.bY U.Builtin]
 |.BB=>[.bY U.CodeBlock]
 |.BA=>[.bY U.jd]
 |.aaT=>[.bY U.Core]
 |.aaS=>[.bY U.dE]
 |.aaV=>[.bY U.Func]
 |.JQ=>[.bY U.Import]
 |.amd=>[.bY U.Ins]
 |.aaU=>[.bY U.sW]
 |.QZ=>[.bY U.Lower]
 |.Q3=>[.bY U.Param]
 |.aaW=>[.bY U.Type]
 |.Wj=>[.bY U.bound]
 |.aaR=>[.bY U.i64]
 |.apm=>[.bY U.str]
 |.ayi=>[.bY U.u8]
 |.Builtin=>[.int .i64,.str,.str,.str]
 |.CodeBlock=>[.int .i64,.int .i64,.int .i64,.int .i64,.bool]
 |.jd=>[.bool,.int .i64,.bY U.i64]
 |.Type=>[.int .i64,.str,.bY U.str,.bY U.Type]
 |.Param=>[.str,.int .i64,.str,.bY U.str,.bY U.Type]
 |.lJ=>[.bY U.Param,.int .i64,.str,.bY U.str,.bY U.Type,.bool]
 |.Func=>[.str,.bY U.Param,.int .i64,.str,.bY U.str,.bY U.Type,.bool]
 |.dE=>[.str,.str,.str,.bY U.str,.bY U.Func]
 |.sW=>[.str,.str,.str]
 |.Lower=>[.str,.str,.str]
 |.Ins=>[.int .i64,.int .i64]
 |.Core=>[.str,.int .i64,.int .i64,.bool,.bY U.Ins]
 |.Import=>[.str,.int .i64,.bool]
 |.Module=>[.int .i64,.bY U.Import,.bY U.Core]
 |.gX=>[.str,.str,.bY U.dE,.bY U.dE,.int .i64,.int .i64,.int .i64,.bY U.Import,.bY U.Core,.bY U.sW,.bY U.Lower,.bY U.Builtin]
 |.bound=>[.str,.str,.bY U.Param,.int .i64,.str,.bY U.str,.bY U.Type,.bool]
 |.checker=>[.int .i64,.bY U.Import,.bY U.Core,.str,.int .i64,.int .i64,.bool,.bY U.Ins,.bY U.CodeBlock,.int .i64,.bY U.i64,.bY U.i64,.int .i64,.bool]
 |.anM=>[.int .i64,.bY U.Import,.bY U.Core,.str,.int .i64,.int .i64,.bool,.bY U.Ins,.bY U.CodeBlock,.bY U.i64,.int .i64,.bool]
def Uun:(c:U)->El c->Sh.Ts (Ucs c)
 |.i64,x=>(x,())
 |.u8,x=>((x.toNat:Int),())
 |.i32,x=>(x,())
 |.u64,x=>(x,())
 |.u32,x=>(x,())
 |.u16,x=>(x,())
 |.i16,x=>(x,())
 |.i8,x=>(x,())
 |.str,x=>(x,())
 |.bool,x=>(x,())
 |.EF,x=>(x,())
 |.BB,x=>(x,())
 |.BA,x=>(x,())
 |.aaT,x=>(x,())
 |.aaS,x=>(x,())
 |.aaV,x=>(x,())
 |.JQ,x=>(x,())
 |.amd,x=>(x,())
 |.aaU,x=>(x,())
 |.QZ,x=>(x,())
 |.Q3,x=>(x,())
 |.aaW,x=>(x,())
 |.Wj,x=>(x,())
 |.aaR,x=>(x,())
 |.apm,x=>(x,())
 |.ayi,x=>(x,())
 |.Builtin,x=>((aN.Kind x),(aN.dE x),(aN.fQ x),(aN.Import x),())
 |.CodeBlock,x=>((ax.At x),(ax.Else x),(ax.End x),(ax.Height x),(ax.Result x),())
 |.jd,x=>((bV.aCY x),(bV.Height x),(bV.ayH x),())
 |.Type,x=>((ae.Kind x),(ae.Name x),(ae.dP x),(ae.Kids x),())
 |.Param,x=>((ay.Name x),(ae.Kind (ay.aZ x)),(ae.Name (ay.aZ x)),(ae.dP (ay.aZ x)),(ae.Kids (ay.aZ x)),())
 |.lJ,x=>((ah.Params x),(ae.Kind (ah.Result x)),(ae.Name (ah.Result x)),(ae.dP (ah.Result x)),(ae.Kids (ah.Result x)),(ah.Async x),())
 |.Func,x=>((aQ.Name x),(ah.Params (aQ.aZ x)),(ae.Kind (ah.Result (aQ.aZ x))),(ae.Name (ah.Result (aQ.aZ x))),(ae.dP (ah.Result (aQ.aZ x))),(ae.Kids (ah.Result (aQ.aZ x))),(ah.Async (aQ.aZ x)),())
 |.dE,x=>((aI.eQ x),(aI.Name x),(aI.Version x),(aI.aT x),(aI.Funcs x),())
 |.sW,x=>((dn.dE x),(dn.Func x),(dn.Core x),())
 |.Lower,x=>((bF.dE x),(bF.Func x),(bF.Import x),())
 |.Ins,x=>((bK.Op x),(bK.A x),())
 |.Core,x=>((aH.Name x),(aH.Params x),(aH.gu x),(aH.Result x),(aH.Code x),())
 |.Import,x=>((aB.Name x),(aB.Params x),(aB.Result x),())
 |.Module,x=>((aK.jI x),(aK.aj x),(aK.bz x),())
 |.gX,x=>((aA.Name x),(aA.Version x),(aA.aj x),(aA.bT x),(aA.Encoding x),(aA.kY x),(aK.jI (aA.Module x)),(aK.aj (aA.Module x)),(aK.bz (aA.Module x)),(aA.gW x),(aA.dI x),(aA.Builtins x),())
 |.bound,x=>((fD.am8 x),(fD.name x),(ah.Params (fD.shape x)),(ae.Kind (ah.Result (fD.shape x))),(ae.Name (ah.Result (fD.shape x))),(ae.dP (ah.Result (fD.shape x))),(ae.Kids (ah.Result (fD.shape x))),(ah.Async (fD.shape x)),())
 |.checker,x=>((aK.jI (fU.module x)),(aK.aj (fU.module x)),(aK.bz (fU.module x)),(aH.Name (fU.core x)),(aH.Params (fU.core x)),(aH.gu (fU.core x)),(aH.Result (fU.core x)),(aH.Code (fU.core x)),(fU.blocks x),(fU.next x),(fU.open_ x),(fU.bases x),(fU.height x),(fU.known x),())
 |.anM,x=>((aK.jI (oC.m x)),(aK.aj (oC.m x)),(aK.bz (oC.m x)),(aH.Name (oC.c x)),(aH.Params (oC.c x)),(aH.gu (oC.c x)),(aH.Result (oC.c x)),(aH.Code (oC.c x)),(oC.blocks x),(oC.open_ x),(oC.height x),(oC.dead x),())
def Umk:(c:U)->Sh.Ts (Ucs c)->El c×Bool
 |.i64,y=>(y.1,true)
 |.u8,y=>(asV y.1,apM y.1)
 |.i32,y=>(y.1,true)
 |.u64,y=>(y.1,true)
 |.u32,y=>(y.1,true)
 |.u16,y=>(y.1,true)
 |.i16,y=>(y.1,true)
 |.i8,y=>(y.1,true)
 |.str,y=>(y.1,true)
 |.bool,y=>(y.1,true)
 |.EF,y=>(y.1,true)
 |.BB,y=>(y.1,true)
 |.BA,y=>(y.1,true)
 |.aaT,y=>(y.1,true)
 |.aaS,y=>(y.1,true)
 |.aaV,y=>(y.1,true)
 |.JQ,y=>(y.1,true)
 |.amd,y=>(y.1,true)
 |.aaU,y=>(y.1,true)
 |.QZ,y=>(y.1,true)
 |.Q3,y=>(y.1,true)
 |.aaW,y=>(y.1,true)
 |.Wj,y=>(y.1,true)
 |.aaR,y=>(y.1,true)
 |.apm,y=>(y.1,true)
 |.ayi,y=>(y.1,true)
 |.Builtin,y=>(aN.mk y.1 y.2.1 y.2.2.1 y.2.2.2.1,true)
 |.CodeBlock,y=>(ax.mk y.1 y.2.1 y.2.2.1 y.2.2.2.1 y.2.2.2.2.1,true)
 |.jd,y=>(bV.mk y.1 y.2.1 y.2.2.1,true)
 |.Type,y=>(ae.mk y.1 y.2.1 y.2.2.1 y.2.2.2.1,true)
 |.Param,y=>(ay.mk y.1 (ae.mk y.2.1 y.2.2.1 y.2.2.2.1 y.2.2.2.2.1),true)
 |.lJ,y=>(ah.mk y.1 (ae.mk y.2.1 y.2.2.1 y.2.2.2.1 y.2.2.2.2.1) y.2.2.2.2.2.1,true)
 |.Func,y=>(aQ.mk y.1 (ah.mk y.2.1 (ae.mk y.2.2.1 y.2.2.2.1 y.2.2.2.2.1 y.2.2.2.2.2.1) y.2.2.2.2.2.2.1),true)
 |.dE,y=>(aI.mk y.1 y.2.1 y.2.2.1 y.2.2.2.1 y.2.2.2.2.1,true)
 |.sW,y=>(dn.mk y.1 y.2.1 y.2.2.1,true)
 |.Lower,y=>(bF.mk y.1 y.2.1 y.2.2.1,true)
 |.Ins,y=>(bK.mk y.1 y.2.1,true)
 |.Core,y=>(aH.mk y.1 y.2.1 y.2.2.1 y.2.2.2.1 y.2.2.2.2.1,true)
 |.Import,y=>(aB.mk y.1 y.2.1 y.2.2.1,true)
 |.Module,y=>(aK.mk y.1 y.2.1 y.2.2.1,true)
 |.gX,y=>(aA.mk y.1 y.2.1 y.2.2.1 y.2.2.2.1 y.2.2.2.2.1 y.2.2.2.2.2.1 (aK.mk y.2.2.2.2.2.2.1 y.2.2.2.2.2.2.2.1 y.2.2.2.2.2.2.2.2.1) y.2.2.2.2.2.2.2.2.2.1 y.2.2.2.2.2.2.2.2.2.2.1 y.2.2.2.2.2.2.2.2.2.2.2.1,true)
 |.bound,y=>(fD.mk y.1 y.2.1 (ah.mk y.2.2.1 (ae.mk y.2.2.2.1 y.2.2.2.2.1 y.2.2.2.2.2.1 y.2.2.2.2.2.2.1) y.2.2.2.2.2.2.2.1),true)
 |.checker,y=>(fU.mk (aK.mk y.1 y.2.1 y.2.2.1) (aH.mk y.2.2.2.1 y.2.2.2.2.1 y.2.2.2.2.2.1 y.2.2.2.2.2.2.1 y.2.2.2.2.2.2.2.1) y.2.2.2.2.2.2.2.2.1 y.2.2.2.2.2.2.2.2.2.1 y.2.2.2.2.2.2.2.2.2.2.1 y.2.2.2.2.2.2.2.2.2.2.2.1 y.2.2.2.2.2.2.2.2.2.2.2.2.1 y.2.2.2.2.2.2.2.2.2.2.2.2.2.1,true)
 |.anM,y=>(oC.mk (aK.mk y.1 y.2.1 y.2.2.1) (aH.mk y.2.2.2.1 y.2.2.2.2.1 y.2.2.2.2.2.1 y.2.2.2.2.2.2.1 y.2.2.2.2.2.2.2.1) y.2.2.2.2.2.2.2.2.1 y.2.2.2.2.2.2.2.2.2.1 y.2.2.2.2.2.2.2.2.2.2.1 y.2.2.2.2.2.2.2.2.2.2.2.1,true)
def aHe:(c:U)->Option ((El c->UInt8)×(UInt8->El c))
 |.u8=>some (id,id)
 |_=>none
noncomputable def D:nz K:=aCK Ucs Umk Uun aHe [.i64,.str,.bool,.i32,.u64,.u32,.u16,.i16,.i8,.EF,.BB,.BA,.aaT,.aaS,.aaV,.JQ,.amd,.aaU,.QZ,.Q3,.aaW,.Wj,.aaR,.apm,.ayi,.Builtin,.CodeBlock,.jd,.Type,.Param,.lJ,.Func,.dE,.sW,.Lower,.Ins,.Core,.Import,.Module,.gX,.bound,.checker,.anM] (aFe 0 5 1 2) none
theorem aV:dX D:=aDg (fun c=>by cases c<;>rfl) (fun c=>by cases c<;>rfl)
 (fun c y x h=>by
   cases c<;>first|exact aAc h|(have h:=(Prod.mk.inj h).1;subst h;rfl))
 (fun c f g h=>by
   cases c<;>simp only[aHe,dS,iQ]at h<;>first|(obtain⟨rfl,rfl⟩:=h;exact⟨fun _=>rfl,fun _=>rfl⟩)|cases h)
end Go.V
