/-
  THE DATA: the structs of the program and of the reference as plain types; how they lie in cells.
-/
import Derived.Test.YtghkckfhaljjjaaGreatDoorXWcod
import Derived.Test.YtghkckfhaljjjaaGreatDoorXWtabs2
set_option linter.unusedVariables false
namespace M
structure bc where
 ba:List UInt8
 Name:List UInt8
 Version:List UInt8
 deriving Inhabited
def bc.zero:bc:=bc.mk [] [] []
inductive aa where
 |mk (Kind:Int) (Name:List UInt8) (bj:List (List UInt8)) (Kids:List aa)
 deriving Inhabited
def aa.Kind:aa->Int
 |.mk v _ _ _=>v
def aa.Name:aa->List UInt8
 |.mk _ v _ _=>v
def aa.bj:aa->List (List UInt8)
 |.mk _ _ v _=>v
def aa.Kids:aa->List aa
 |.mk _ _ _ v=>v
def aa.re(x:aa):aa:=aa.mk (aa.Kind x) (aa.Name x) (aa.bj x) (aa.Kids x)
theorem aa.aC(x:aa):aa.re x=x:=by cases x;rfl
theorem aa.eta(x:aa):aa.mk (aa.Kind x) (aa.Name x) (aa.bj x) (aa.Kids x)=x:=by cases x;rfl
def aa.zero:aa:=aa.mk 0 [] [] []
structure az where
 Name:List UInt8
 Term:aa
 deriving Inhabited
def az.re(x:az):az:=az.mk (az.Name x) (aa.re (az.Term x))
theorem az.aC(x:az):az.re x=x:=by unfold az.re;simp only[aa.aC]
def az.zero:az:=az.mk [] aa.zero
structure aM where
 Name:List UInt8
 As:List UInt8
 deriving Inhabited
def aM.zero:aM:=aM.mk [] []
structure ah where
 Kind:Int
 Name:List UInt8
 Term:aa
 Params:List az
 Async:Bool
 From:bc
 Uses:List aM
 deriving Inhabited
def ah.re(x:ah):ah:=ah.mk (ah.Kind x) (ah.Name x) (aa.re (ah.Term x)) (ah.Params x) (ah.Async x) (ah.From x) (ah.Uses x)
theorem ah.aC(x:ah):ah.re x=x:=by unfold ah.re;simp only[aa.aC]
def ah.zero:ah:=ah.mk 0 [] aa.zero [] false bc.zero []
structure aE where
 Name:List UInt8
 Items:List ah
 deriving Inhabited
def aE.zero:aE:=aE.mk [] []
structure aH where
 Kind:Int
 Path:bc
 deriving Inhabited
def aH.zero:aH:=aH.mk 0 bc.zero
structure aJ where
 Name:List UInt8
 Items:List aH
 deriving Inhabited
def aJ.zero:aJ:=aJ.mk [] []
structure aj where
 Name:List UInt8
 Version:List UInt8
 aF:List aE
 Worlds:List aJ
 deriving Inhabited
def aj.zero:aj:=aj.mk [] [] [] []
structure ai where
 Kind:Int
 Text:List UInt8
 Line:Int
 deriving Inhabited
def ai.zero:ai:=ai.mk 0 [] 0
structure aD where
 list:List ai
 at_:Int
 bad:Bool
 deriving Inhabited
def aD.zero:aD:=aD.mk [] 0 false
structure iv where
 s:List UInt8
 at_:Int
 line:Int
 list:List ai
 deriving Inhabited
def iv.zero:iv:=iv.mk [] 0 0 []
structure au where
 list:List ai
 at_:Int
 bad:Bool
 deriving Inhabited
def au.zero:au:=au.mk [] 0 false
end M
namespace Go.V
open Go M
inductive U where
 |i64|u8|i32|u64|u32|u16|i16|i8|str|bool|sZ|s6|s7|s8|s9|vm|ta|tc|td|vn|vo|Path|Term|cY|dc|Item|cD|dr|cX|ba|Token|dm|md|parser
 deriving DecidableEq
abbrev El:U->Type
 |.i64=>Int
 |.u8=>UInt8
 |.i32=>Int
 |.u64=>Int
 |.u32=>Int
 |.u16=>Int
 |.i16=>Int
 |.i8=>Int
 |.str=>List UInt8
 |.bool=>Bool
 |.sZ=>List (aE)
 |.s6=>List (ah)
 |.s7=>List (aj)
 |.s8=>List (aa)
 |.s9=>List (az)
 |.vm=>List (ai)
 |.ta=>List (aM)
 |.tc=>List (aJ)
 |.td=>List (aH)
 |.vn=>List (List UInt8)
 |.vo=>List (UInt8)
 |.Path=>bc
 |.Term=>aa
 |.cY=>az
 |.dc=>aM
 |.Item=>ah
 |.cD=>aE
 |.dr=>aH
 |.cX=>aJ
 |.ba=>aj
 |.Token=>ai
 |.dm=>aD
 |.md=>iv
 |.parser=>au
def MA:U->Nat
 |.Path=>3
 |.Term=>4
 |.cY=>5
 |.dc=>2
 |.Item=>12
 |.cD=>2
 |.dr=>4
 |.cX=>2
 |.ba=>4
 |.Token=>3
 |.dm=>3
 |.md=>4
 |.parser=>3
 |_=>1
def aki:(c:U)->El c
 |.i64=>(0:Int)
 |.u8=>(0:UInt8)
 |.i32=>(0:Int)
 |.u64=>(0:Int)
 |.u32=>(0:Int)
 |.u16=>(0:Int)
 |.i16=>(0:Int)
 |.i8=>(0:Int)
 |.str=>([]:List UInt8)
 |.bool=>false
 |.sZ=>([]:List (aE))
 |.s6=>([]:List (ah))
 |.s7=>([]:List (aj))
 |.s8=>([]:List (aa))
 |.s9=>([]:List (az))
 |.vm=>([]:List (ai))
 |.ta=>([]:List (aM))
 |.tc=>([]:List (aJ))
 |.td=>([]:List (aH))
 |.vn=>([]:List (List UInt8))
 |.vo=>([]:List (UInt8))
 |.Path=>bc.zero
 |.Term=>aa.zero
 |.cY=>az.zero
 |.dc=>aM.zero
 |.Item=>ah.zero
 |.cD=>aE.zero
 |.dr=>aH.zero
 |.cX=>aJ.zero
 |.ba=>aj.zero
 |.Token=>ai.zero
 |.dm=>aD.zero
 |.md=>iv.zero
 |.parser=>au.zero
abbrev K:dh:={U:=U,El:=El,jS:=inferInstance,sz:=MA,zero:=aki}
def jI:U->List (Sh K)
 |.i64=>[.int .i64]
 |.u8=>[.int .u8]
 |.i32=>[.int .i32]
 |.u64=>[.int .u64]
 |.u32=>[.int .u32]
 |.u16=>[.int .u16]
 |.i16=>[.int .i16]
 |.i8=>[.int .i8]
 |.str=>[.str]
 |.bool=>[.bool]
 |.sZ=>[.an U.cD]
 |.s6=>[.an U.Item]
 |.s7=>[.an U.ba]
 |.s8=>[.an U.Term]
 |.s9=>[.an U.cY]
 |.vm=>[.an U.Token]
 |.ta=>[.an U.dc]
 |.tc=>[.an U.cX]
 |.td=>[.an U.dr]
 |.vn=>[.an U.str]
 |.vo=>[.an U.u8]
 |.Path=>[.str,.str,.str]
 |.Term=>[.int .i64,.str,.an U.str,.an U.Term]
 |.cY=>[.str,.int .i64,.str,.an U.str,.an U.Term]
 |.dc=>[.str,.str]
 |.Item=>[.int .i64,.str,.int .i64,.str,.an U.str,.an U.Term,.an U.cY,.bool,.str,.str,.str,.an U.dc]
 |.cD=>[.str,.an U.Item]
 |.dr=>[.int .i64,.str,.str,.str]
 |.cX=>[.str,.an U.dr]
 |.ba=>[.str,.str,.an U.cD,.an U.cX]
 |.Token=>[.int .i64,.str,.int .i64]
 |.dm=>[.an U.Token,.int .i64,.bool]
 |.md=>[.str,.int .i64,.int .i64,.an U.Token]
 |.parser=>[.an U.Token,.int .i64,.bool]
def rT:(c:U)->El c->Sh.Ts (jI c)
 |.i64,x=>(x,())
 |.u8,x=>((x.toNat:Int),())
 |.i32,x=>(x,())
 |.u64,x=>(x,())
 |.u32,x=>(x,())
 |.u16,x=>(x,())
 |.i16,x=>(x,())
 |.i8,x=>(x,())
 |.str,x=>(x,())
 |.bool,x=>(x,())
 |.sZ,x=>(x,())
 |.s6,x=>(x,())
 |.s7,x=>(x,())
 |.s8,x=>(x,())
 |.s9,x=>(x,())
 |.vm,x=>(x,())
 |.ta,x=>(x,())
 |.tc,x=>(x,())
 |.td,x=>(x,())
 |.vn,x=>(x,())
 |.vo,x=>(x,())
 |.Path,x=>((bc.ba x),(bc.Name x),(bc.Version x),())
 |.Term,x=>((aa.Kind x),(aa.Name x),(aa.bj x),(aa.Kids x),())
 |.cY,x=>((az.Name x),(aa.Kind (az.Term x)),(aa.Name (az.Term x)),(aa.bj (az.Term x)),(aa.Kids (az.Term x)),())
 |.dc,x=>((aM.Name x),(aM.As x),())
 |.Item,x=>((ah.Kind x),(ah.Name x),(aa.Kind (ah.Term x)),(aa.Name (ah.Term x)),(aa.bj (ah.Term x)),(aa.Kids (ah.Term x)),(ah.Params x),(ah.Async x),(bc.ba (ah.From x)),(bc.Name (ah.From x)),(bc.Version (ah.From x)),(ah.Uses x),())
 |.cD,x=>((aE.Name x),(aE.Items x),())
 |.dr,x=>((aH.Kind x),(bc.ba (aH.Path x)),(bc.Name (aH.Path x)),(bc.Version (aH.Path x)),())
 |.cX,x=>((aJ.Name x),(aJ.Items x),())
 |.ba,x=>((aj.Name x),(aj.Version x),(aj.aF x),(aj.Worlds x),())
 |.Token,x=>((ai.Kind x),(ai.Text x),(ai.Line x),())
 |.dm,x=>((aD.list x),(aD.at_ x),(aD.bad x),())
 |.md,x=>((iv.s x),(iv.at_ x),(iv.line x),(iv.list x),())
 |.parser,x=>((au.list x),(au.at_ x),(au.bad x),())
def kU:(c:U)->Sh.Ts (jI c)->El c×Bool
 |.i64,y=>(y.1,true)
 |.u8,y=>(ru y.1,rq y.1)
 |.i32,y=>(y.1,true)
 |.u64,y=>(y.1,true)
 |.u32,y=>(y.1,true)
 |.u16,y=>(y.1,true)
 |.i16,y=>(y.1,true)
 |.i8,y=>(y.1,true)
 |.str,y=>(y.1,true)
 |.bool,y=>(y.1,true)
 |.sZ,y=>(y.1,true)
 |.s6,y=>(y.1,true)
 |.s7,y=>(y.1,true)
 |.s8,y=>(y.1,true)
 |.s9,y=>(y.1,true)
 |.vm,y=>(y.1,true)
 |.ta,y=>(y.1,true)
 |.tc,y=>(y.1,true)
 |.td,y=>(y.1,true)
 |.vn,y=>(y.1,true)
 |.vo,y=>(y.1,true)
 |.Path,y=>(bc.mk y.1 y.2.1 y.2.2.1,true)
 |.Term,y=>(aa.mk y.1 y.2.1 y.2.2.1 y.2.2.2.1,true)
 |.cY,y=>(az.mk y.1 (aa.mk y.2.1 y.2.2.1 y.2.2.2.1 y.2.2.2.2.1),true)
 |.dc,y=>(aM.mk y.1 y.2.1,true)
 |.Item,y=>(ah.mk y.1 y.2.1 (aa.mk y.2.2.1 y.2.2.2.1 y.2.2.2.2.1 y.2.2.2.2.2.1) y.2.2.2.2.2.2.1 y.2.2.2.2.2.2.2.1 (bc.mk y.2.2.2.2.2.2.2.2.1 y.2.2.2.2.2.2.2.2.2.1 y.2.2.2.2.2.2.2.2.2.2.1) y.2.2.2.2.2.2.2.2.2.2.2.1,true)
 |.cD,y=>(aE.mk y.1 y.2.1,true)
 |.dr,y=>(aH.mk y.1 (bc.mk y.2.1 y.2.2.1 y.2.2.2.1),true)
 |.cX,y=>(aJ.mk y.1 y.2.1,true)
 |.ba,y=>(aj.mk y.1 y.2.1 y.2.2.1 y.2.2.2.1,true)
 |.Token,y=>(ai.mk y.1 y.2.1 y.2.2.1,true)
 |.dm,y=>(aD.mk y.1 y.2.1 y.2.2.1,true)
 |.md,y=>(iv.mk y.1 y.2.1 y.2.2.1 y.2.2.2.1,true)
 |.parser,y=>(au.mk y.1 y.2.1 y.2.2.1,true)
def TG:(c:U)->Option ((El c->UInt8)×(UInt8->El c))
 |.u8=>some (id,id)
 |_=>none
noncomputable def D:bH K:=ID jI kU rT TG [.i64,.str,.bool,.i32,.u64,.u32,.u16,.i16,.i8,.sZ,.s6,.s7,.s8,.s9,.vm,.ta,.tc,.td,.vn,.vo,.Path,.Term,.cY,.dc,.Item,.cD,.dr,.cX,.ba,.Token,.dm,.md,.parser] (agm 0 5 1 2) (some 118) (fun|.u8=>some 5|_=>none)
theorem ar:bR D:=aec (fun c=>by cases c<;>rfl) (fun c=>by cases c<;>rfl)
 (fun c y x h=>by
   cases c<;>first|exact Om h|(have h:=(Prod.mk.inj h).1;subst h;rfl))
 (fun c f g h=>by
   cases c<;>simp only[TG,av,aZ]at h<;>first|(obtain⟨rfl,rfl⟩:=h;exact⟨fun _=>rfl,fun _=>rfl⟩)|cases h)
end Go.V
