/-
  THE DATA: the structs of the program and of the reference as plain types; how they lie in cells.
-/
import Derived.Test.YtkljhbbnhbklnaaGreatDoorXWgD
set_option linter.unusedVariables false
namespace M
structure aQ where
 aJ:List UInt8
 Name:List UInt8
 Version:List UInt8
 deriving Inhabited
def aQ.zero:aQ:=aQ.mk [] [] []
structure dr where
 Path:aQ
 Version:List UInt8
 Why:Int
 deriving Inhabited
def dr.zero:dr:=dr.mk aQ.zero [] 0
inductive aa where
 |mk (Kind:Int) (Name:List UInt8) (bm:List (List UInt8)) (Kids:List aa)
 deriving Inhabited
def aa.Kind:aa->Int
 |.mk v _ _ _=>v
def aa.Name:aa->List UInt8
 |.mk _ v _ _=>v
def aa.bm:aa->List (List UInt8)
 |.mk _ _ v _=>v
def aa.Kids:aa->List aa
 |.mk _ _ _ v=>v
def aa.re(x:aa):aa:=aa.mk (aa.Kind x) (aa.Name x) (aa.bm x) (aa.Kids x)
theorem aa.aB(x:aa):aa.re x=x:=by cases x;rfl
theorem aa.eta(x:aa):aa.mk (aa.Kind x) (aa.Name x) (aa.bm x) (aa.Kids x)=x:=by cases x;rfl
def aa.zero:aa:=aa.mk 0 [] [] []
structure aA where
 Name:List UInt8
 Term:aa
 deriving Inhabited
def aA.re(x:aA):aA:=aA.mk (aA.Name x) (aa.re (aA.Term x))
theorem aA.aB(x:aA):aA.re x=x:=by unfold aA.re;simp only[aa.aB]
def aA.zero:aA:=aA.mk [] aa.zero
structure aO where
 Name:List UInt8
 As:List UInt8
 deriving Inhabited
def aO.zero:aO:=aO.mk [] []
structure af where
 Kind:Int
 Name:List UInt8
 Term:aa
 Params:List aA
 Async:Bool
 From:aQ
 Uses:List aO
 deriving Inhabited
def af.re(x:af):af:=af.mk (af.Kind x) (af.Name x) (aa.re (af.Term x)) (af.Params x) (af.Async x) (af.From x) (af.Uses x)
theorem af.aB(x:af):af.re x=x:=by unfold af.re;simp only[aa.aB]
def af.zero:af:=af.mk 0 [] aa.zero [] false aQ.zero []
structure aD where
 Name:List UInt8
 Items:List af
 deriving Inhabited
def aD.zero:aD:=aD.mk [] []
structure aG where
 Kind:Int
 Path:aQ
 deriving Inhabited
def aG.zero:aG:=aG.mk 0 aQ.zero
structure aM where
 Name:List UInt8
 Items:List aG
 deriving Inhabited
def aM.zero:aM:=aM.mk [] []
structure ai where
 Name:List UInt8
 Version:List UInt8
 aF:List aD
 Worlds:List aM
 deriving Inhabited
def ai.zero:ai:=ai.mk [] [] [] []
structure cJ where
 Code:Int
 Where:List UInt8
 deriving Inhabited
def cJ.zero:cJ:=cJ.mk 0 []
structure aj where
 Kind:Int
 Text:List UInt8
 Line:Int
 deriving Inhabited
def aj.zero:aj:=aj.mk 0 [] 0
structure aC where
 list:List aj
 at_:Int
 bad:Bool
 deriving Inhabited
def aC.zero:aC:=aC.mk [] 0 false
structure iv where
 s:List UInt8
 at_:Int
 line:Int
 list:List aj
 deriving Inhabited
def iv.zero:iv:=iv.mk [] 0 0 []
structure ar where
 list:List aj
 at_:Int
 bad:Bool
 deriving Inhabited
def ar.zero:ar:=ar.mk [] 0 false
end M
namespace Go.V
open Go M
inductive U where
 |i64|u8|i32|u64|u32|u16|i16|i8|str|bool|tu|tw|tz|tA|tB|vC|tD|tG|tH|vD|vE|Path|Choice|Term|cY|de|Item|cz|dt|cX|aJ|Problem|Token|dm|mg|parser
 deriving DecidableEq
abbrev El:U->Type
 |.i64=>Int
 |.u8=>UInt8
 |.i32=>Int
 |.u64=>Int
 |.u32=>Int
 |.u16=>Int
 |.i16=>Int
 |.i8=>Int
 |.str=>List UInt8
 |.bool=>Bool
 |.tu=>List (aD)
 |.tw=>List (af)
 |.tz=>List (ai)
 |.tA=>List (aa)
 |.tB=>List (aA)
 |.vC=>List (aj)
 |.tD=>List (aO)
 |.tG=>List (aM)
 |.tH=>List (aG)
 |.vD=>List (List UInt8)
 |.vE=>List (UInt8)
 |.Path=>aQ
 |.Choice=>dr
 |.Term=>aa
 |.cY=>aA
 |.de=>aO
 |.Item=>af
 |.cz=>aD
 |.dt=>aG
 |.cX=>aM
 |.aJ=>ai
 |.Problem=>cJ
 |.Token=>aj
 |.dm=>aC
 |.mg=>iv
 |.parser=>ar
def NP:U->Nat
 |.Path=>3
 |.Choice=>5
 |.Term=>4
 |.cY=>5
 |.de=>2
 |.Item=>12
 |.cz=>2
 |.dt=>4
 |.cX=>2
 |.aJ=>4
 |.Problem=>2
 |.Token=>3
 |.dm=>3
 |.mg=>4
 |.parser=>3
 |_=>1
def amn:(c:U)->El c
 |.i64=>(0:Int)
 |.u8=>(0:UInt8)
 |.i32=>(0:Int)
 |.u64=>(0:Int)
 |.u32=>(0:Int)
 |.u16=>(0:Int)
 |.i16=>(0:Int)
 |.i8=>(0:Int)
 |.str=>([]:List UInt8)
 |.bool=>false
 |.tu=>([]:List (aD))
 |.tw=>([]:List (af))
 |.tz=>([]:List (ai))
 |.tA=>([]:List (aa))
 |.tB=>([]:List (aA))
 |.vC=>([]:List (aj))
 |.tD=>([]:List (aO))
 |.tG=>([]:List (aM))
 |.tH=>([]:List (aG))
 |.vD=>([]:List (List UInt8))
 |.vE=>([]:List (UInt8))
 |.Path=>aQ.zero
 |.Choice=>dr.zero
 |.Term=>aa.zero
 |.cY=>aA.zero
 |.de=>aO.zero
 |.Item=>af.zero
 |.cz=>aD.zero
 |.dt=>aG.zero
 |.cX=>aM.zero
 |.aJ=>ai.zero
 |.Problem=>cJ.zero
 |.Token=>aj.zero
 |.dm=>aC.zero
 |.mg=>iv.zero
 |.parser=>ar.zero
abbrev K:di:={U:=U,El:=El,jY:=inferInstance,sz:=NP,zero:=amn}
def jI:U->List (Sh K)
 |.i64=>[.int .i64]
 |.u8=>[.int .u8]
 |.i32=>[.int .i32]
 |.u64=>[.int .u64]
 |.u32=>[.int .u32]
 |.u16=>[.int .u16]
 |.i16=>[.int .i16]
 |.i8=>[.int .i8]
 |.str=>[.str]
 |.bool=>[.bool]
 |.tu=>[.an U.cz]
 |.tw=>[.an U.Item]
 |.tz=>[.an U.aJ]
 |.tA=>[.an U.Term]
 |.tB=>[.an U.cY]
 |.vC=>[.an U.Token]
 |.tD=>[.an U.de]
 |.tG=>[.an U.cX]
 |.tH=>[.an U.dt]
 |.vD=>[.an U.str]
 |.vE=>[.an U.u8]
 |.Path=>[.str,.str,.str]
 |.Choice=>[.str,.str,.str,.str,.int .i64]
 |.Term=>[.int .i64,.str,.an U.str,.an U.Term]
 |.cY=>[.str,.int .i64,.str,.an U.str,.an U.Term]
 |.de=>[.str,.str]
 |.Item=>[.int .i64,.str,.int .i64,.str,.an U.str,.an U.Term,.an U.cY,.bool,.str,.str,.str,.an U.de]
 |.cz=>[.str,.an U.Item]
 |.dt=>[.int .i64,.str,.str,.str]
 |.cX=>[.str,.an U.dt]
 |.aJ=>[.str,.str,.an U.cz,.an U.cX]
 |.Problem=>[.int .i64,.str]
 |.Token=>[.int .i64,.str,.int .i64]
 |.dm=>[.an U.Token,.int .i64,.bool]
 |.mg=>[.str,.int .i64,.int .i64,.an U.Token]
 |.parser=>[.an U.Token,.int .i64,.bool]
def sk:(c:U)->El c->Sh.Ts (jI c)
 |.i64,x=>(x,())
 |.u8,x=>((x.toNat:Int),())
 |.i32,x=>(x,())
 |.u64,x=>(x,())
 |.u32,x=>(x,())
 |.u16,x=>(x,())
 |.i16,x=>(x,())
 |.i8,x=>(x,())
 |.str,x=>(x,())
 |.bool,x=>(x,())
 |.tu,x=>(x,())
 |.tw,x=>(x,())
 |.tz,x=>(x,())
 |.tA,x=>(x,())
 |.tB,x=>(x,())
 |.vC,x=>(x,())
 |.tD,x=>(x,())
 |.tG,x=>(x,())
 |.tH,x=>(x,())
 |.vD,x=>(x,())
 |.vE,x=>(x,())
 |.Path,x=>((aQ.aJ x),(aQ.Name x),(aQ.Version x),())
 |.Choice,x=>((aQ.aJ (dr.Path x)),(aQ.Name (dr.Path x)),(aQ.Version (dr.Path x)),(dr.Version x),(dr.Why x),())
 |.Term,x=>((aa.Kind x),(aa.Name x),(aa.bm x),(aa.Kids x),())
 |.cY,x=>((aA.Name x),(aa.Kind (aA.Term x)),(aa.Name (aA.Term x)),(aa.bm (aA.Term x)),(aa.Kids (aA.Term x)),())
 |.de,x=>((aO.Name x),(aO.As x),())
 |.Item,x=>((af.Kind x),(af.Name x),(aa.Kind (af.Term x)),(aa.Name (af.Term x)),(aa.bm (af.Term x)),(aa.Kids (af.Term x)),(af.Params x),(af.Async x),(aQ.aJ (af.From x)),(aQ.Name (af.From x)),(aQ.Version (af.From x)),(af.Uses x),())
 |.cz,x=>((aD.Name x),(aD.Items x),())
 |.dt,x=>((aG.Kind x),(aQ.aJ (aG.Path x)),(aQ.Name (aG.Path x)),(aQ.Version (aG.Path x)),())
 |.cX,x=>((aM.Name x),(aM.Items x),())
 |.aJ,x=>((ai.Name x),(ai.Version x),(ai.aF x),(ai.Worlds x),())
 |.Problem,x=>((cJ.Code x),(cJ.Where x),())
 |.Token,x=>((aj.Kind x),(aj.Text x),(aj.Line x),())
 |.dm,x=>((aC.list x),(aC.at_ x),(aC.bad x),())
 |.mg,x=>((iv.s x),(iv.at_ x),(iv.line x),(iv.list x),())
 |.parser,x=>((ar.list x),(ar.at_ x),(ar.bad x),())
def lh:(c:U)->Sh.Ts (jI c)->El c×Bool
 |.i64,y=>(y.1,true)
 |.u8,y=>(si y.1,sg y.1)
 |.i32,y=>(y.1,true)
 |.u64,y=>(y.1,true)
 |.u32,y=>(y.1,true)
 |.u16,y=>(y.1,true)
 |.i16,y=>(y.1,true)
 |.i8,y=>(y.1,true)
 |.str,y=>(y.1,true)
 |.bool,y=>(y.1,true)
 |.tu,y=>(y.1,true)
 |.tw,y=>(y.1,true)
 |.tz,y=>(y.1,true)
 |.tA,y=>(y.1,true)
 |.tB,y=>(y.1,true)
 |.vC,y=>(y.1,true)
 |.tD,y=>(y.1,true)
 |.tG,y=>(y.1,true)
 |.tH,y=>(y.1,true)
 |.vD,y=>(y.1,true)
 |.vE,y=>(y.1,true)
 |.Path,y=>(aQ.mk y.1 y.2.1 y.2.2.1,true)
 |.Choice,y=>(dr.mk (aQ.mk y.1 y.2.1 y.2.2.1) y.2.2.2.1 y.2.2.2.2.1,true)
 |.Term,y=>(aa.mk y.1 y.2.1 y.2.2.1 y.2.2.2.1,true)
 |.cY,y=>(aA.mk y.1 (aa.mk y.2.1 y.2.2.1 y.2.2.2.1 y.2.2.2.2.1),true)
 |.de,y=>(aO.mk y.1 y.2.1,true)
 |.Item,y=>(af.mk y.1 y.2.1 (aa.mk y.2.2.1 y.2.2.2.1 y.2.2.2.2.1 y.2.2.2.2.2.1) y.2.2.2.2.2.2.1 y.2.2.2.2.2.2.2.1 (aQ.mk y.2.2.2.2.2.2.2.2.1 y.2.2.2.2.2.2.2.2.2.1 y.2.2.2.2.2.2.2.2.2.2.1) y.2.2.2.2.2.2.2.2.2.2.2.1,true)
 |.cz,y=>(aD.mk y.1 y.2.1,true)
 |.dt,y=>(aG.mk y.1 (aQ.mk y.2.1 y.2.2.1 y.2.2.2.1),true)
 |.cX,y=>(aM.mk y.1 y.2.1,true)
 |.aJ,y=>(ai.mk y.1 y.2.1 y.2.2.1 y.2.2.2.1,true)
 |.Problem,y=>(cJ.mk y.1 y.2.1,true)
 |.Token,y=>(aj.mk y.1 y.2.1 y.2.2.1,true)
 |.dm,y=>(aC.mk y.1 y.2.1 y.2.2.1,true)
 |.mg,y=>(iv.mk y.1 y.2.1 y.2.2.1 y.2.2.2.1,true)
 |.parser,y=>(ar.mk y.1 y.2.1 y.2.2.1,true)
def Va:(c:U)->Option ((El c->UInt8)×(UInt8->El c))
 |.u8=>some (id,id)
 |_=>none
noncomputable def D:bI K:=LZ jI lh sk Va [.i64,.str,.bool,.i32,.u64,.u32,.u16,.i16,.i8,.tu,.tw,.tz,.tA,.tB,.vC,.tD,.tG,.tH,.vD,.vE,.Path,.Choice,.Term,.cY,.de,.Item,.cz,.dt,.cX,.aJ,.Problem,.Token,.dm,.mg,.parser] (aik 0 5 1 2) (some 186) (fun|.u8=>some 5|_=>none)
theorem aL:bN D:=aij (fun c=>by cases c<;>rfl) (fun c=>by cases c<;>rfl)
 (fun c y x h=>by
   cases c<;>first|exact SN h|(have h:=(Prod.mk.inj h).1;subst h;rfl))
 (fun c f g h=>by
   cases c<;>simp only[Va,ax,bc]at h<;>first|(obtain⟨rfl,rfl⟩:=h;exact⟨fun _=>rfl,fun _=>rfl⟩)|cases h)
end Go.V
