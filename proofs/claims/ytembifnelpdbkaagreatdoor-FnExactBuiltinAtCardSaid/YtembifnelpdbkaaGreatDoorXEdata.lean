/-
  THE DATA: the structs of the program and of the reference as plain types; how they lie in cells.
-/
import Derived.Test.YtembifnelpdbkaaGreatDoorXWcod
import Derived.Test.YtembifnelpdbkaaGreatDoorXWtabs2
set_option linter.unusedVariables false
namespace M
structure aK where
 Kind:Int
 bV:List UInt8
 gm:List UInt8
 Import:List UInt8
 deriving Inhabited
def aK.zero :aK:=aK.mk 0 [] [] []
structure ax where
 At:Int
 Else:Int
 End:Int
 Height:Int
 Result:Bool
 deriving Inhabited
def ax.zero :ax:=ax.mk 0 0 0 0 false
structure bP where
 aAA:Bool
 Height:Int
 aw1:List Int
 deriving Inhabited
def bP.zero :bP:=bP.mk false 0 []
inductive ae where
 |mk (Kind:Int) (Name:List UInt8) (eP:List (List UInt8)) (Kids:List ae)
 deriving Inhabited
def ae.Kind :ae->Int
 | .mk v _ _ _=>v
def ae.Name :ae->List UInt8
 | .mk _ v _ _=>v
def ae.eP :ae->List (List UInt8)
 | .mk _ _ v _=>v
def ae.Kids :ae->List ae
 | .mk _ _ _ v=>v
def ae.re (x:ae):ae:=ae.mk (ae.Kind x) (ae.Name x) (ae.eP x) (ae.Kids x)
theorem ae.aB (x:ae):ae.re x=x:=by cases x;rfl
theorem ae.eta (x:ae):ae.mk (ae.Kind x) (ae.Name x) (ae.eP x) (ae.Kids x)=x:=by cases x;rfl
def ae.zero :ae:=ae.mk 0 [] [] []
structure az where
 Name:List UInt8
 bF:ae
 deriving Inhabited
def az.re (x:az):az:=az.mk (az.Name x) (ae.re (az.bF x))
theorem az.aB (x:az):az.re x=x:=by unfold az.re;simp only[ae.aB]
def az.zero :az:=az.mk [] ae.zero
structure af where
 Params:List az
 Result:ae
 Async:Bool
 deriving Inhabited
def af.re (x:af):af:=af.mk (af.Params x) (ae.re (af.Result x)) (af.Async x)
theorem af.aB (x:af):af.re x=x:=by unfold af.re;simp only[ae.aB]
def af.zero :af:=af.mk [] ae.zero false
structure aT where
 Name:List UInt8
 bF:af
 deriving Inhabited
def aT.re (x:aT):aT:=aT.mk (aT.Name x) (af.re (aT.bF x))
theorem aT.aB (x:aT):aT.re x=x:=by unfold aT.re;simp only[af.aB]
def aT.zero :aT:=aT.mk [] af.zero
structure aN where
 eF:List UInt8
 Name:List UInt8
 Version:List UInt8
 aU:List (List UInt8)
 Funcs:List aT
 deriving Inhabited
def aN.zero :aN:=aN.mk [] [] [] [] []
structure dG where
 bV:List UInt8
 Func:List UInt8
 Core:List UInt8
 deriving Inhabited
def dG.zero :dG:=dG.mk [] [] []
structure bK where
 bV:List UInt8
 Func:List UInt8
 Import:List UInt8
 deriving Inhabited
def bK.zero :bK:=bK.mk [] [] []
structure bH where
 Op:Int
 A:Int
 deriving Inhabited
def bH.zero :bH:=bH.mk 0 0
structure aJ where
 Name:List UInt8
 Params:Int
 gz:Int
 Result:Bool
 Code:List bH
 deriving Inhabited
def aJ.zero :aJ:=aJ.mk [] 0 0 false []
structure aF where
 Name:List UInt8
 Params:Int
 Result:Bool
 deriving Inhabited
def aF.zero :aF:=aF.mk [] 0 false
structure aI where
 ja:Int
 ak:List aF
 bg:List aJ
 deriving Inhabited
def aI.zero :aI:=aI.mk 0 [] []
structure ay where
 Name:List UInt8
 Version:List UInt8
 ak:List aN
 bM:List aN
 Encoding:Int
 kz:Int
 Module:aI
 gu:List dG
 dE:List bK
 Builtins:List aK
 deriving Inhabited
def ay.zero :ay:=ay.mk [] [] [] [] 0 0 aI.zero [] [] []
structure dX where
 ala:List UInt8
 name:List UInt8
 shape:af
 deriving Inhabited
def dX.re (x:dX):dX:=dX.mk (dX.ala x) (dX.name x) (af.re (dX.shape x))
theorem dX.aB (x:dX):dX.re x=x:=by unfold dX.re;simp only[af.aB]
def dX.zero :dX:=dX.mk [] [] af.zero
structure fC where
 module:aI
 core:aJ
 blocks:List ax
 next:Int
 open_:List Int
 bases:List Int
 height:Int
 known:Bool
 deriving Inhabited
def fC.zero :fC:=fC.mk aI.zero aJ.zero [] 0 [] [] 0 false
structure mi where
 m:aI
 c:aJ
 blocks:List ax
 open_:List Int
 height:Int
 dead:Bool
 deriving Inhabited
def mi.zero :mi:=mi.mk aI.zero aJ.zero [] [] 0 false
end M
namespace Go.V
open Go M
inductive U where
 |i64 |u8 |i32 |u64 |u32 |u16 |i16 |i8 |str |bool |Cb |zf |y9 |Xv |Xu |Xx |G5 |aj8 |Xw |NR |NS |Xy |Sl |Qi |anZ |awE |Builtin |CodeBlock |gp |Type |Param |eQ |Func |bV |qZ |Lower |Ins |Core |Import |Module |bJ |bound |checker |aim
 deriving DecidableEq
abbrev El : U->Type
 | .i64=>Int
 | .u8=>UInt8
 | .i32=>Int
 | .u64=>Int
 | .u32=>Int
 | .u16=>Int
 | .i16=>Int
 | .i8=>Int
 | .str=>List UInt8
 | .bool=>Bool
 | .Cb=>List (aK)
 | .zf=>List (ax)
 | .y9=>List (bP)
 | .Xv=>List (aJ)
 | .Xu=>List (aN)
 | .Xx=>List (aT)
 | .G5=>List (aF)
 | .aj8=>List (bH)
 | .Xw=>List (dG)
 | .NR=>List (bK)
 | .NS=>List (az)
 | .Xy=>List (ae)
 | .Sl=>List (dX)
 | .Qi=>List (Int)
 | .anZ=>List (List UInt8)
 | .awE=>List (UInt8)
 | .Builtin=>aK
 | .CodeBlock=>ax
 | .gp=>bP
 | .Type=>ae
 | .Param=>az
 | .eQ=>af
 | .Func=>aT
 | .bV=>aN
 | .qZ=>dG
 | .Lower=>bK
 | .Ins=>bH
 | .Core=>aJ
 | .Import=>aF
 | .Module=>aI
 | .bJ=>ay
 | .bound=>dX
 | .checker=>fC
 | .aim=>mi
def Usz : U->Nat
 | .Builtin=>4
 | .CodeBlock=>5
 | .gp=>3
 | .Type=>4
 | .Param=>5
 | .eQ=>6
 | .Func=>7
 | .bV=>5
 | .qZ=>3
 | .Lower=>3
 | .Ins=>2
 | .Core=>5
 | .Import=>3
 | .Module=>3
 | .bJ=>12
 | .bound=>8
 | .checker=>14
 | .aim=>12
 |_=>1
def aEk : (c:U)->El c
 | .i64=>(0:Int)
 | .u8=>(0:UInt8)
 | .i32=>(0:Int)
 | .u64=>(0:Int)
 | .u32=>(0:Int)
 | .u16=>(0:Int)
 | .i16=>(0:Int)
 | .i8=>(0:Int)
 | .str=>([]:List UInt8)
 | .bool=>false
 | .Cb=>([]:List (aK))
 | .zf=>([]:List (ax))
 | .y9=>([]:List (bP))
 | .Xv=>([]:List (aJ))
 | .Xu=>([]:List (aN))
 | .Xx=>([]:List (aT))
 | .G5=>([]:List (aF))
 | .aj8=>([]:List (bH))
 | .Xw=>([]:List (dG))
 | .NR=>([]:List (bK))
 | .NS=>([]:List (az))
 | .Xy=>([]:List (ae))
 | .Sl=>([]:List (dX))
 | .Qi=>([]:List (Int))
 | .anZ=>([]:List (List UInt8))
 | .awE=>([]:List (UInt8))
 | .Builtin=>aK.zero
 | .CodeBlock=>ax.zero
 | .gp=>bP.zero
 | .Type=>ae.zero
 | .Param=>az.zero
 | .eQ=>af.zero
 | .Func=>aT.zero
 | .bV=>aN.zero
 | .qZ=>dG.zero
 | .Lower=>bK.zero
 | .Ins=>bH.zero
 | .Core=>aJ.zero
 | .Import=>aF.zero
 | .Module=>aI.zero
 | .bJ=>ay.zero
 | .bound=>dX.zero
 | .checker=>fC.zero
 | .aim=>mi.zero
abbrev K : Gf:={U:=U,El:=El,deq:=inferInstance,sz:=Usz,zero:=aEk}
def Ucs : U->List (Sh K)
 | .i64=>[.int .i64]
 | .u8=>[.int .u8]
 | .i32=>[.int .i32]
 | .u64=>[.int .u64]
 | .u32=>[.int .u32]
 | .u16=>[.int .u16]
 | .i16=>[.int .i16]
 | .i8=>[.int .i8]
 | .str=>[.str]
 | .bool=>[.bool]
 | .Cb=>[.aZ U.Builtin]
 | .zf=>[.aZ U.CodeBlock]
 | .y9=>[.aZ U.gp]
 | .Xv=>[.aZ U.Core]
 | .Xu=>[.aZ U.bV]
 | .Xx=>[.aZ U.Func]
 | .G5=>[.aZ U.Import]
 | .aj8=>[.aZ U.Ins]
 | .Xw=>[.aZ U.qZ]
 | .NR=>[.aZ U.Lower]
 | .NS=>[.aZ U.Param]
 | .Xy=>[.aZ U.Type]
 | .Sl=>[.aZ U.bound]
 | .Qi=>[.aZ U.i64]
 | .anZ=>[.aZ U.str]
 | .awE=>[.aZ U.u8]
 | .Builtin=>[.int .i64, .str, .str, .str]
 | .CodeBlock=>[.int .i64, .int .i64, .int .i64, .int .i64, .bool]
 | .gp=>[.bool, .int .i64, .aZ U.i64]
 | .Type=>[.int .i64, .str, .aZ U.str, .aZ U.Type]
 | .Param=>[.str, .int .i64, .str, .aZ U.str, .aZ U.Type]
 | .eQ=>[.aZ U.Param, .int .i64, .str, .aZ U.str, .aZ U.Type, .bool]
 | .Func=>[.str, .aZ U.Param, .int .i64, .str, .aZ U.str, .aZ U.Type, .bool]
 | .bV=>[.str, .str, .str, .aZ U.str, .aZ U.Func]
 | .qZ=>[.str, .str, .str]
 | .Lower=>[.str, .str, .str]
 | .Ins=>[.int .i64, .int .i64]
 | .Core=>[.str, .int .i64, .int .i64, .bool, .aZ U.Ins]
 | .Import=>[.str, .int .i64, .bool]
 | .Module=>[.int .i64, .aZ U.Import, .aZ U.Core]
 | .bJ=>[.str, .str, .aZ U.bV, .aZ U.bV, .int .i64, .int .i64, .int .i64, .aZ U.Import, .aZ U.Core, .aZ U.qZ, .aZ U.Lower, .aZ U.Builtin]
 | .bound=>[.str, .str, .aZ U.Param, .int .i64, .str, .aZ U.str, .aZ U.Type, .bool]
 | .checker=>[.int .i64, .aZ U.Import, .aZ U.Core, .str, .int .i64, .int .i64, .bool, .aZ U.Ins, .aZ U.CodeBlock, .int .i64, .aZ U.i64, .aZ U.i64, .int .i64, .bool]
 | .aim=>[.int .i64, .aZ U.Import, .aZ U.Core, .str, .int .i64, .int .i64, .bool, .aZ U.Ins, .aZ U.CodeBlock, .aZ U.i64, .int .i64, .bool]
def Uun : (c:U)->El c->Sh.Ts (Ucs c)
 | .i64,x=>(x,())
 | .u8,x=>((x.toNat:Int),())
 | .i32,x=>(x,())
 | .u64,x=>(x,())
 | .u32,x=>(x,())
 | .u16,x=>(x,())
 | .i16,x=>(x,())
 | .i8,x=>(x,())
 | .str,x=>(x,())
 | .bool,x=>(x,())
 | .Cb,x=>(x,())
 | .zf,x=>(x,())
 | .y9,x=>(x,())
 | .Xv,x=>(x,())
 | .Xu,x=>(x,())
 | .Xx,x=>(x,())
 | .G5,x=>(x,())
 | .aj8,x=>(x,())
 | .Xw,x=>(x,())
 | .NR,x=>(x,())
 | .NS,x=>(x,())
 | .Xy,x=>(x,())
 | .Sl,x=>(x,())
 | .Qi,x=>(x,())
 | .anZ,x=>(x,())
 | .awE,x=>(x,())
 | .Builtin,x=>((aK.Kind x),(aK.bV x),(aK.gm x),(aK.Import x),())
 | .CodeBlock,x=>((ax.At x),(ax.Else x),(ax.End x),(ax.Height x),(ax.Result x),())
 | .gp,x=>((bP.aAA x),(bP.Height x),(bP.aw1 x),())
 | .Type,x=>((ae.Kind x),(ae.Name x),(ae.eP x),(ae.Kids x),())
 | .Param,x=>((az.Name x),(ae.Kind (az.bF x)),(ae.Name (az.bF x)),(ae.eP (az.bF x)),(ae.Kids (az.bF x)),())
 | .eQ,x=>((af.Params x),(ae.Kind (af.Result x)),(ae.Name (af.Result x)),(ae.eP (af.Result x)),(ae.Kids (af.Result x)),(af.Async x),())
 | .Func,x=>((aT.Name x),(af.Params (aT.bF x)),(ae.Kind (af.Result (aT.bF x))),(ae.Name (af.Result (aT.bF x))),(ae.eP (af.Result (aT.bF x))),(ae.Kids (af.Result (aT.bF x))),(af.Async (aT.bF x)),())
 | .bV,x=>((aN.eF x),(aN.Name x),(aN.Version x),(aN.aU x),(aN.Funcs x),())
 | .qZ,x=>((dG.bV x),(dG.Func x),(dG.Core x),())
 | .Lower,x=>((bK.bV x),(bK.Func x),(bK.Import x),())
 | .Ins,x=>((bH.Op x),(bH.A x),())
 | .Core,x=>((aJ.Name x),(aJ.Params x),(aJ.gz x),(aJ.Result x),(aJ.Code x),())
 | .Import,x=>((aF.Name x),(aF.Params x),(aF.Result x),())
 | .Module,x=>((aI.ja x),(aI.ak x),(aI.bg x),())
 | .bJ,x=>((ay.Name x),(ay.Version x),(ay.ak x),(ay.bM x),(ay.Encoding x),(ay.kz x),(aI.ja (ay.Module x)),(aI.ak (ay.Module x)),(aI.bg (ay.Module x)),(ay.gu x),(ay.dE x),(ay.Builtins x),())
 | .bound,x=>((dX.ala x),(dX.name x),(af.Params (dX.shape x)),(ae.Kind (af.Result (dX.shape x))),(ae.Name (af.Result (dX.shape x))),(ae.eP (af.Result (dX.shape x))),(ae.Kids (af.Result (dX.shape x))),(af.Async (dX.shape x)),())
 | .checker,x=>((aI.ja (fC.module x)),(aI.ak (fC.module x)),(aI.bg (fC.module x)),(aJ.Name (fC.core x)),(aJ.Params (fC.core x)),(aJ.gz (fC.core x)),(aJ.Result (fC.core x)),(aJ.Code (fC.core x)),(fC.blocks x),(fC.next x),(fC.open_ x),(fC.bases x),(fC.height x),(fC.known x),())
 | .aim,x=>((aI.ja (mi.m x)),(aI.ak (mi.m x)),(aI.bg (mi.m x)),(aJ.Name (mi.c x)),(aJ.Params (mi.c x)),(aJ.gz (mi.c x)),(aJ.Result (mi.c x)),(aJ.Code (mi.c x)),(mi.blocks x),(mi.open_ x),(mi.height x),(mi.dead x),())
def Umk : (c:U)->Sh.Ts (Ucs c)->El c×Bool
 | .i64,y=>(y.1,true)
 | .u8,y=>(au1 y.1,au0 y.1)
 | .i32,y=>(y.1,true)
 | .u64,y=>(y.1,true)
 | .u32,y=>(y.1,true)
 | .u16,y=>(y.1,true)
 | .i16,y=>(y.1,true)
 | .i8,y=>(y.1,true)
 | .str,y=>(y.1,true)
 | .bool,y=>(y.1,true)
 | .Cb,y=>(y.1,true)
 | .zf,y=>(y.1,true)
 | .y9,y=>(y.1,true)
 | .Xv,y=>(y.1,true)
 | .Xu,y=>(y.1,true)
 | .Xx,y=>(y.1,true)
 | .G5,y=>(y.1,true)
 | .aj8,y=>(y.1,true)
 | .Xw,y=>(y.1,true)
 | .NR,y=>(y.1,true)
 | .NS,y=>(y.1,true)
 | .Xy,y=>(y.1,true)
 | .Sl,y=>(y.1,true)
 | .Qi,y=>(y.1,true)
 | .anZ,y=>(y.1,true)
 | .awE,y=>(y.1,true)
 | .Builtin,y=>(aK.mk y.1 y.2.1 y.2.2.1 y.2.2.2.1,true)
 | .CodeBlock,y=>(ax.mk y.1 y.2.1 y.2.2.1 y.2.2.2.1 y.2.2.2.2.1,true)
 | .gp,y=>(bP.mk y.1 y.2.1 y.2.2.1,true)
 | .Type,y=>(ae.mk y.1 y.2.1 y.2.2.1 y.2.2.2.1,true)
 | .Param,y=>(az.mk y.1 (ae.mk y.2.1 y.2.2.1 y.2.2.2.1 y.2.2.2.2.1),true)
 | .eQ,y=>(af.mk y.1 (ae.mk y.2.1 y.2.2.1 y.2.2.2.1 y.2.2.2.2.1) y.2.2.2.2.2.1,true)
 | .Func,y=>(aT.mk y.1 (af.mk y.2.1 (ae.mk y.2.2.1 y.2.2.2.1 y.2.2.2.2.1 y.2.2.2.2.2.1) y.2.2.2.2.2.2.1),true)
 | .bV,y=>(aN.mk y.1 y.2.1 y.2.2.1 y.2.2.2.1 y.2.2.2.2.1,true)
 | .qZ,y=>(dG.mk y.1 y.2.1 y.2.2.1,true)
 | .Lower,y=>(bK.mk y.1 y.2.1 y.2.2.1,true)
 | .Ins,y=>(bH.mk y.1 y.2.1,true)
 | .Core,y=>(aJ.mk y.1 y.2.1 y.2.2.1 y.2.2.2.1 y.2.2.2.2.1,true)
 | .Import,y=>(aF.mk y.1 y.2.1 y.2.2.1,true)
 | .Module,y=>(aI.mk y.1 y.2.1 y.2.2.1,true)
 | .bJ,y=>(ay.mk y.1 y.2.1 y.2.2.1 y.2.2.2.1 y.2.2.2.2.1 y.2.2.2.2.2.1 (aI.mk y.2.2.2.2.2.2.1 y.2.2.2.2.2.2.2.1 y.2.2.2.2.2.2.2.2.1) y.2.2.2.2.2.2.2.2.2.1 y.2.2.2.2.2.2.2.2.2.2.1 y.2.2.2.2.2.2.2.2.2.2.2.1,true)
 | .bound,y=>(dX.mk y.1 y.2.1 (af.mk y.2.2.1 (ae.mk y.2.2.2.1 y.2.2.2.2.1 y.2.2.2.2.2.1 y.2.2.2.2.2.2.1) y.2.2.2.2.2.2.2.1),true)
 | .checker,y=>(fC.mk (aI.mk y.1 y.2.1 y.2.2.1) (aJ.mk y.2.2.2.1 y.2.2.2.2.1 y.2.2.2.2.2.1 y.2.2.2.2.2.2.1 y.2.2.2.2.2.2.2.1) y.2.2.2.2.2.2.2.2.1 y.2.2.2.2.2.2.2.2.2.1 y.2.2.2.2.2.2.2.2.2.2.1 y.2.2.2.2.2.2.2.2.2.2.2.1 y.2.2.2.2.2.2.2.2.2.2.2.2.1 y.2.2.2.2.2.2.2.2.2.2.2.2.2.1,true)
 | .aim,y=>(mi.mk (aI.mk y.1 y.2.1 y.2.2.1) (aJ.mk y.2.2.2.1 y.2.2.2.2.1 y.2.2.2.2.2.1 y.2.2.2.2.2.2.1 y.2.2.2.2.2.2.2.1) y.2.2.2.2.2.2.2.2.1 y.2.2.2.2.2.2.2.2.2.1 y.2.2.2.2.2.2.2.2.2.2.1 y.2.2.2.2.2.2.2.2.2.2.2.1,true)
def aCW : (c:U)->Option ((El c->UInt8)×(UInt8->El c))
 | .u8=>some (id,id)
 |_=>none
noncomputable def D :lG K:=aAm Ucs Umk Uun aCW [.i64, .str, .bool, .i32, .u64, .u32, .u16, .i16, .i8, .Cb, .zf, .y9, .Xv, .Xu, .Xx, .G5, .aj8, .Xw, .NR, .NS, .Xy, .Sl, .Qi, .anZ, .awE, .Builtin, .CodeBlock, .gp, .Type, .Param, .eQ, .Func, .bV, .qZ, .Lower, .Ins, .Core, .Import, .Module, .bJ, .bound, .checker, .aim] (aCx 0 5 1 2) none
theorem aQ : dL D:=aAS (fun c=>by cases c<;>rfl) (fun c=>by cases c<;>rfl)
 (fun c y x h=>by
   cases c<;>first |exact aye h |(have h:=(Prod.mk.inj h).1;subst h;rfl))
 (fun c f g h=>by
   cases c<;>simp only[aCW,Option.some.injEq,Prod.mk.injEq] at h<;>first |(obtain ⟨rfl,rfl⟩:=h;exact ⟨fun _=>rfl,fun _=>rfl⟩) |cases h)
end Go.V
