/-
  THE DATA: the structs of the program and of the reference as plain types; how they lie in cells.
-/
import Derived.Test.YtiacpoahkccfaaaGreatDoorXWcod
import Derived.Test.YtiacpoahkccfaaaGreatDoorXWtabs2
set_option linter.unusedVariables false
namespace M
structure bf where
 bo:List UInt8
 Name:List UInt8
 Version:List UInt8
 deriving Inhabited
def bf.zero:bf:=bf.mk [] [] []
inductive aa where
 |mk (Kind:Int) (Name:List UInt8) (bj:List (List UInt8)) (Kids:List aa)
 deriving Inhabited
def aa.Kind:aa->Int
 |.mk v _ _ _=>v
def aa.Name:aa->List UInt8
 |.mk _ v _ _=>v
def aa.bj:aa->List (List UInt8)
 |.mk _ _ v _=>v
def aa.Kids:aa->List aa
 |.mk _ _ _ v=>v
def aa.re(x:aa):aa:=aa.mk (aa.Kind x) (aa.Name x) (aa.bj x) (aa.Kids x)
theorem aa.aD(x:aa):aa.re x=x:=by cases x;rfl
theorem aa.eta(x:aa):aa.mk (aa.Kind x) (aa.Name x) (aa.bj x) (aa.Kids x)=x:=by cases x;rfl
def aa.zero:aa:=aa.mk 0 [] [] []
structure ax where
 Name:List UInt8
 Term:aa
 deriving Inhabited
def ax.re(x:ax):ax:=ax.mk (ax.Name x) (aa.re (ax.Term x))
theorem ax.aD(x:ax):ax.re x=x:=by unfold ax.re;simp only[aa.aD]
def ax.zero:ax:=ax.mk [] aa.zero
structure aK where
 Name:List UInt8
 As:List UInt8
 deriving Inhabited
def aK.zero:aK:=aK.mk [] []
structure ah where
 Kind:Int
 Name:List UInt8
 Term:aa
 Params:List ax
 Async:Bool
 From:bf
 Uses:List aK
 deriving Inhabited
def ah.re(x:ah):ah:=ah.mk (ah.Kind x) (ah.Name x) (aa.re (ah.Term x)) (ah.Params x) (ah.Async x) (ah.From x) (ah.Uses x)
theorem ah.aD(x:ah):ah.re x=x:=by unfold ah.re;simp only[aa.aD]
def ah.zero:ah:=ah.mk 0 [] aa.zero [] false bf.zero []
structure aE where
 Name:List UInt8
 Items:List ah
 deriving Inhabited
def aE.zero:aE:=aE.mk [] []
structure aG where
 Kind:Int
 Path:bf
 deriving Inhabited
def aG.zero:aG:=aG.mk 0 bf.zero
structure aJ where
 Name:List UInt8
 Items:List aG
 deriving Inhabited
def aJ.zero:aJ:=aJ.mk [] []
structure aA where
 Name:List UInt8
 Version:List UInt8
 aF:List aE
 Worlds:List aJ
 deriving Inhabited
def aA.zero:aA:=aA.mk [] [] [] []
structure ai where
 Kind:Int
 Text:List UInt8
 Line:Int
 deriving Inhabited
def ai.zero:ai:=ai.mk 0 [] 0
structure rA where
 code:List UInt8
 at_:Int
 seed:Int
 deriving Inhabited
def rA.zero:rA:=rA.mk [] 0 0
structure aC where
 list:List ai
 at_:Int
 bad:Bool
 deriving Inhabited
def aC.zero:aC:=aC.mk [] 0 false
structure iv where
 s:List UInt8
 at_:Int
 line:Int
 list:List ai
 deriving Inhabited
def iv.zero:iv:=iv.mk [] 0 0 []
structure ar where
 list:List ai
 at_:Int
 bad:Bool
 deriving Inhabited
def ar.zero:ar:=ar.mk [] 0 false
end M
namespace Go.V
open Go M
inductive U where
 |i64|u8|i32|u64|u32|u16|i16|i8|str|bool|tJ|tL|vW|vZ|tN|tO|vX|tP|tK|tM|v7|vY|vV|Path|Term|cZ|dc|Item|cJ|dr|cY|bo|Token|tQ|dm|mn|parser
 deriving DecidableEq
abbrev El:U->Type
 |.i64=>Int
 |.u8=>UInt8
 |.i32=>Int
 |.u64=>Int
 |.u32=>Int
 |.u16=>Int
 |.i16=>Int
 |.i8=>Int
 |.str=>List UInt8
 |.bool=>Bool
 |.tJ=>List (aE)
 |.tL=>List (ah)
 |.vW=>List (aA)
 |.vZ=>List (bf)
 |.tN=>List (aa)
 |.tO=>List (ax)
 |.vX=>List (ai)
 |.tP=>List (aK)
 |.tK=>List (aJ)
 |.tM=>List (aG)
 |.v7=>List (Int)
 |.vY=>List (List UInt8)
 |.vV=>List (UInt8)
 |.Path=>bf
 |.Term=>aa
 |.cZ=>ax
 |.dc=>aK
 |.Item=>ah
 |.cJ=>aE
 |.dr=>aG
 |.cY=>aJ
 |.bo=>aA
 |.Token=>ai
 |.tQ=>rA
 |.dm=>aC
 |.mn=>iv
 |.parser=>ar
def Nr:U->Nat
 |.Path=>3
 |.Term=>4
 |.cZ=>5
 |.dc=>2
 |.Item=>12
 |.cJ=>2
 |.dr=>4
 |.cY=>2
 |.bo=>4
 |.Token=>3
 |.tQ=>3
 |.dm=>3
 |.mn=>4
 |.parser=>3
 |_=>1
def asr:(c:U)->El c
 |.i64=>(0:Int)
 |.u8=>(0:UInt8)
 |.i32=>(0:Int)
 |.u64=>(0:Int)
 |.u32=>(0:Int)
 |.u16=>(0:Int)
 |.i16=>(0:Int)
 |.i8=>(0:Int)
 |.str=>([]:List UInt8)
 |.bool=>false
 |.tJ=>([]:List (aE))
 |.tL=>([]:List (ah))
 |.vW=>([]:List (aA))
 |.vZ=>([]:List (bf))
 |.tN=>([]:List (aa))
 |.tO=>([]:List (ax))
 |.vX=>([]:List (ai))
 |.tP=>([]:List (aK))
 |.tK=>([]:List (aJ))
 |.tM=>([]:List (aG))
 |.v7=>([]:List (Int))
 |.vY=>([]:List (List UInt8))
 |.vV=>([]:List (UInt8))
 |.Path=>bf.zero
 |.Term=>aa.zero
 |.cZ=>ax.zero
 |.dc=>aK.zero
 |.Item=>ah.zero
 |.cJ=>aE.zero
 |.dr=>aG.zero
 |.cY=>aJ.zero
 |.bo=>aA.zero
 |.Token=>ai.zero
 |.tQ=>rA.zero
 |.dm=>aC.zero
 |.mn=>iv.zero
 |.parser=>ar.zero
abbrev K:dh:={U:=U,El:=El,jI:=inferInstance,sz:=Nr,zero:=asr}
def jP:U->List (Sh K)
 |.i64=>[.int .i64]
 |.u8=>[.int .u8]
 |.i32=>[.int .i32]
 |.u64=>[.int .u64]
 |.u32=>[.int .u32]
 |.u16=>[.int .u16]
 |.i16=>[.int .i16]
 |.i8=>[.int .i8]
 |.str=>[.str]
 |.bool=>[.bool]
 |.tJ=>[.an U.cJ]
 |.tL=>[.an U.Item]
 |.vW=>[.an U.bo]
 |.vZ=>[.an U.Path]
 |.tN=>[.an U.Term]
 |.tO=>[.an U.cZ]
 |.vX=>[.an U.Token]
 |.tP=>[.an U.dc]
 |.tK=>[.an U.cY]
 |.tM=>[.an U.dr]
 |.v7=>[.an U.i64]
 |.vY=>[.an U.str]
 |.vV=>[.an U.u8]
 |.Path=>[.str,.str,.str]
 |.Term=>[.int .i64,.str,.an U.str,.an U.Term]
 |.cZ=>[.str,.int .i64,.str,.an U.str,.an U.Term]
 |.dc=>[.str,.str]
 |.Item=>[.int .i64,.str,.int .i64,.str,.an U.str,.an U.Term,.an U.cZ,.bool,.str,.str,.str,.an U.dc]
 |.cJ=>[.str,.an U.Item]
 |.dr=>[.int .i64,.str,.str,.str]
 |.cY=>[.str,.an U.dr]
 |.bo=>[.str,.str,.an U.cJ,.an U.cY]
 |.Token=>[.int .i64,.str,.int .i64]
 |.tQ=>[.an U.u8,.int .i64,.int .u64]
 |.dm=>[.an U.Token,.int .i64,.bool]
 |.mn=>[.str,.int .i64,.int .i64,.an U.Token]
 |.parser=>[.an U.Token,.int .i64,.bool]
def si:(c:U)->El c->Sh.Ts (jP c)
 |.i64,x=>(x,())
 |.u8,x=>((x.toNat:Int),())
 |.i32,x=>(x,())
 |.u64,x=>(x,())
 |.u32,x=>(x,())
 |.u16,x=>(x,())
 |.i16,x=>(x,())
 |.i8,x=>(x,())
 |.str,x=>(x,())
 |.bool,x=>(x,())
 |.tJ,x=>(x,())
 |.tL,x=>(x,())
 |.vW,x=>(x,())
 |.vZ,x=>(x,())
 |.tN,x=>(x,())
 |.tO,x=>(x,())
 |.vX,x=>(x,())
 |.tP,x=>(x,())
 |.tK,x=>(x,())
 |.tM,x=>(x,())
 |.v7,x=>(x,())
 |.vY,x=>(x,())
 |.vV,x=>(x,())
 |.Path,x=>((bf.bo x),(bf.Name x),(bf.Version x),())
 |.Term,x=>((aa.Kind x),(aa.Name x),(aa.bj x),(aa.Kids x),())
 |.cZ,x=>((ax.Name x),(aa.Kind (ax.Term x)),(aa.Name (ax.Term x)),(aa.bj (ax.Term x)),(aa.Kids (ax.Term x)),())
 |.dc,x=>((aK.Name x),(aK.As x),())
 |.Item,x=>((ah.Kind x),(ah.Name x),(aa.Kind (ah.Term x)),(aa.Name (ah.Term x)),(aa.bj (ah.Term x)),(aa.Kids (ah.Term x)),(ah.Params x),(ah.Async x),(bf.bo (ah.From x)),(bf.Name (ah.From x)),(bf.Version (ah.From x)),(ah.Uses x),())
 |.cJ,x=>((aE.Name x),(aE.Items x),())
 |.dr,x=>((aG.Kind x),(bf.bo (aG.Path x)),(bf.Name (aG.Path x)),(bf.Version (aG.Path x)),())
 |.cY,x=>((aJ.Name x),(aJ.Items x),())
 |.bo,x=>((aA.Name x),(aA.Version x),(aA.aF x),(aA.Worlds x),())
 |.Token,x=>((ai.Kind x),(ai.Text x),(ai.Line x),())
 |.tQ,x=>((rA.code x),(rA.at_ x),(rA.seed x),())
 |.dm,x=>((aC.list x),(aC.at_ x),(aC.bad x),())
 |.mn,x=>((iv.s x),(iv.at_ x),(iv.line x),(iv.list x),())
 |.parser,x=>((ar.list x),(ar.at_ x),(ar.bad x),())
def lh:(c:U)->Sh.Ts (jP c)->El c×Bool
 |.i64,y=>(y.1,true)
 |.u8,y=>(rK y.1,rJ y.1)
 |.i32,y=>(y.1,true)
 |.u64,y=>(y.1,true)
 |.u32,y=>(y.1,true)
 |.u16,y=>(y.1,true)
 |.i16,y=>(y.1,true)
 |.i8,y=>(y.1,true)
 |.str,y=>(y.1,true)
 |.bool,y=>(y.1,true)
 |.tJ,y=>(y.1,true)
 |.tL,y=>(y.1,true)
 |.vW,y=>(y.1,true)
 |.vZ,y=>(y.1,true)
 |.tN,y=>(y.1,true)
 |.tO,y=>(y.1,true)
 |.vX,y=>(y.1,true)
 |.tP,y=>(y.1,true)
 |.tK,y=>(y.1,true)
 |.tM,y=>(y.1,true)
 |.v7,y=>(y.1,true)
 |.vY,y=>(y.1,true)
 |.vV,y=>(y.1,true)
 |.Path,y=>(bf.mk y.1 y.2.1 y.2.2.1,true)
 |.Term,y=>(aa.mk y.1 y.2.1 y.2.2.1 y.2.2.2.1,true)
 |.cZ,y=>(ax.mk y.1 (aa.mk y.2.1 y.2.2.1 y.2.2.2.1 y.2.2.2.2.1),true)
 |.dc,y=>(aK.mk y.1 y.2.1,true)
 |.Item,y=>(ah.mk y.1 y.2.1 (aa.mk y.2.2.1 y.2.2.2.1 y.2.2.2.2.1 y.2.2.2.2.2.1) y.2.2.2.2.2.2.1 y.2.2.2.2.2.2.2.1 (bf.mk y.2.2.2.2.2.2.2.2.1 y.2.2.2.2.2.2.2.2.2.1 y.2.2.2.2.2.2.2.2.2.2.1) y.2.2.2.2.2.2.2.2.2.2.2.1,true)
 |.cJ,y=>(aE.mk y.1 y.2.1,true)
 |.dr,y=>(aG.mk y.1 (bf.mk y.2.1 y.2.2.1 y.2.2.2.1),true)
 |.cY,y=>(aJ.mk y.1 y.2.1,true)
 |.bo,y=>(aA.mk y.1 y.2.1 y.2.2.1 y.2.2.2.1,true)
 |.Token,y=>(ai.mk y.1 y.2.1 y.2.2.1,true)
 |.tQ,y=>(rA.mk y.1 y.2.1 y.2.2.1,true)
 |.dm,y=>(aC.mk y.1 y.2.1 y.2.2.1,true)
 |.mn,y=>(iv.mk y.1 y.2.1 y.2.2.1 y.2.2.2.1,true)
 |.parser,y=>(ar.mk y.1 y.2.1 y.2.2.1,true)
def acV:(c:U)->Option ((El c->UInt8)×(UInt8->El c))
 |.u8=>some (id,id)
 |_=>none
noncomputable def D:bF K:=IC jP lh si acV [.i64,.str,.bool,.i32,.u64,.u32,.u16,.i16,.i8,.tJ,.tL,.vW,.vZ,.tN,.tO,.vX,.tP,.tK,.tM,.v7,.vY,.vV,.Path,.Term,.cZ,.dc,.Item,.cJ,.dr,.cY,.bo,.Token,.tQ,.dm,.mn,.parser] (afN 0 5 1 2) (some 166) (fun|.u8=>some 5|_=>none)
theorem au:bQ D:=adz (fun c=>by cases c<;>rfl) (fun c=>by cases c<;>rfl)
 (fun c y x h=>by
   cases c<;>first|exact N8 h|(have h:=(Prod.mk.inj h).1;subst h;rfl))
 (fun c f g h=>by
   cases c<;>simp only[acV,ay,aR]at h<;>first|(obtain⟨rfl,rfl⟩:=h;exact⟨fun _=>rfl,fun _=>rfl⟩)|cases h)
end Go.V
