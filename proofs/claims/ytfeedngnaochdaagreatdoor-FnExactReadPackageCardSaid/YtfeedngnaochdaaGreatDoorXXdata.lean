/-
  THE DATA: the structs of the program and of the reference as plain types; how they lie in cells.
-/
import Derived.Test.YtfeedngnaochdaaGreatDoorXWgD
set_option linter.unusedVariables false
namespace M
structure bh where
 dw:List UInt8
 Name:List UInt8
 Version:List UInt8
 deriving Inhabited
def bh.zero:bh:=bh.mk [] [] []
inductive aa where
 |mk (Kind:Int) (Name:List UInt8) (bA:List (List UInt8)) (Kids:List aa)
 deriving Inhabited
def aa.Kind:aa->Int
 |.mk v _ _ _=>v
def aa.Name:aa->List UInt8
 |.mk _ v _ _=>v
def aa.bA:aa->List (List UInt8)
 |.mk _ _ v _=>v
def aa.Kids:aa->List aa
 |.mk _ _ _ v=>v
def aa.re(x:aa):aa:=aa.mk (aa.Kind x) (aa.Name x) (aa.bA x) (aa.Kids x)
theorem aa.bq(x:aa):aa.re x=x:=by cases x;rfl
theorem aa.eta(x:aa):aa.mk (aa.Kind x) (aa.Name x) (aa.bA x) (aa.Kids x)=x:=by cases x;rfl
def aa.zero:aa:=aa.mk 0 [] [] []
structure aA where
 Name:List UInt8
 Term:aa
 deriving Inhabited
def aA.re(x:aA):aA:=aA.mk (aA.Name x) (aa.re (aA.Term x))
theorem aA.bq(x:aA):aA.re x=x:=by unfold aA.re;simp only[aa.bq]
def aA.zero:aA:=aA.mk [] aa.zero
structure aH where
 Name:List UInt8
 As:List UInt8
 deriving Inhabited
def aH.zero:aH:=aH.mk [] []
structure ak where
 Kind:Int
 Name:List UInt8
 Term:aa
 Params:List aA
 Async:Bool
 From:bh
 Uses:List aH
 deriving Inhabited
def ak.re(x:ak):ak:=ak.mk (ak.Kind x) (ak.Name x) (aa.re (ak.Term x)) (ak.Params x) (ak.Async x) (ak.From x) (ak.Uses x)
theorem ak.bq(x:ak):ak.re x=x:=by unfold ak.re;simp only[aa.bq]
def ak.zero:ak:=ak.mk 0 [] aa.zero [] false bh.zero []
structure aC where
 Name:List UInt8
 Items:List ak
 deriving Inhabited
def aC.zero:aC:=aC.mk [] []
structure aG where
 Kind:Int
 Path:bh
 deriving Inhabited
def aG.zero:aG:=aG.mk 0 bh.zero
structure aL where
 Name:List UInt8
 Items:List aG
 deriving Inhabited
def aL.zero:aL:=aL.mk [] []
structure bf where
 Name:List UInt8
 Version:List UInt8
 cY:List aC
 Worlds:List aL
 deriving Inhabited
def bf.zero:bf:=bf.mk [] [] [] []
structure ae where
 Kind:Int
 Text:List UInt8
 Line:Int
 deriving Inhabited
def ae.zero:ae:=ae.mk 0 [] 0
structure an where
 list:List ae
 at_:Int
 bad:Bool
 deriving Inhabited
def an.zero:an:=an.mk [] 0 false
structure gu where
 s:List UInt8
 at_:Int
 line:Int
 list:List ae
 deriving Inhabited
def gu.zero:gu:=gu.mk [] 0 0 []
structure ad where
 list:List ae
 at_:Int
 bad:Bool
 deriving Inhabited
def ad.zero:ad:=ad.mk [] 0 false
end M
namespace Go.V
open Go M
inductive U where
 |i64|u8|i32|u64|u32|u16|i16|i8|str|bool|tz|tA|tB|tD|tG|tH|tJ|tK|tL|tM|Path|Term|df|du|Item|cE|dR|cZ|dw|Token|cM|lC|parser
 deriving DecidableEq
abbrev El:U->Type
 |.i64=>Int
 |.u8=>UInt8
 |.i32=>Int
 |.u64=>Int
 |.u32=>Int
 |.u16=>Int
 |.i16=>Int
 |.i8=>Int
 |.str=>List UInt8
 |.bool=>Bool
 |.tz=>List (aC)
 |.tA=>List (ak)
 |.tB=>List (aa)
 |.tD=>List (aA)
 |.tG=>List (ae)
 |.tH=>List (aH)
 |.tJ=>List (aL)
 |.tK=>List (aG)
 |.tL=>List (List UInt8)
 |.tM=>List (UInt8)
 |.Path=>bh
 |.Term=>aa
 |.df=>aA
 |.du=>aH
 |.Item=>ak
 |.cE=>aC
 |.dR=>aG
 |.cZ=>aL
 |.dw=>bf
 |.Token=>ae
 |.cM=>an
 |.lC=>gu
 |.parser=>ad
def Hr:U->Nat
 |.Path=>3
 |.Term=>4
 |.df=>5
 |.du=>2
 |.Item=>12
 |.cE=>2
 |.dR=>4
 |.cZ=>2
 |.dw=>4
 |.Token=>3
 |.cM=>3
 |.lC=>4
 |.parser=>3
 |_=>1
def abG:(c:U)->El c
 |.i64=>(0:Int)
 |.u8=>(0:UInt8)
 |.i32=>(0:Int)
 |.u64=>(0:Int)
 |.u32=>(0:Int)
 |.u16=>(0:Int)
 |.i16=>(0:Int)
 |.i8=>(0:Int)
 |.str=>([]:List UInt8)
 |.bool=>false
 |.tz=>([]:List (aC))
 |.tA=>([]:List (ak))
 |.tB=>([]:List (aa))
 |.tD=>([]:List (aA))
 |.tG=>([]:List (ae))
 |.tH=>([]:List (aH))
 |.tJ=>([]:List (aL))
 |.tK=>([]:List (aG))
 |.tL=>([]:List (List UInt8))
 |.tM=>([]:List (UInt8))
 |.Path=>bh.zero
 |.Term=>aa.zero
 |.df=>aA.zero
 |.du=>aH.zero
 |.Item=>ak.zero
 |.cE=>aC.zero
 |.dR=>aG.zero
 |.cZ=>aL.zero
 |.dw=>bf.zero
 |.Token=>ae.zero
 |.cM=>an.zero
 |.lC=>gu.zero
 |.parser=>ad.zero
abbrev K:cK:={U:=U,El:=El,je:=inferInstance,sz:=Hr,zero:=abG}
def ji:U->List (Sh K)
 |.i64=>[.int .i64]
 |.u8=>[.int .u8]
 |.i32=>[.int .i32]
 |.u64=>[.int .u64]
 |.u32=>[.int .u32]
 |.u16=>[.int .u16]
 |.i16=>[.int .i16]
 |.i8=>[.int .i8]
 |.str=>[.str]
 |.bool=>[.bool]
 |.tz=>[.ax U.cE]
 |.tA=>[.ax U.Item]
 |.tB=>[.ax U.Term]
 |.tD=>[.ax U.df]
 |.tG=>[.ax U.Token]
 |.tH=>[.ax U.du]
 |.tJ=>[.ax U.cZ]
 |.tK=>[.ax U.dR]
 |.tL=>[.ax U.str]
 |.tM=>[.ax U.u8]
 |.Path=>[.str,.str,.str]
 |.Term=>[.int .i64,.str,.ax U.str,.ax U.Term]
 |.df=>[.str,.int .i64,.str,.ax U.str,.ax U.Term]
 |.du=>[.str,.str]
 |.Item=>[.int .i64,.str,.int .i64,.str,.ax U.str,.ax U.Term,.ax U.df,.bool,.str,.str,.str,.ax U.du]
 |.cE=>[.str,.ax U.Item]
 |.dR=>[.int .i64,.str,.str,.str]
 |.cZ=>[.str,.ax U.dR]
 |.dw=>[.str,.str,.ax U.cE,.ax U.cZ]
 |.Token=>[.int .i64,.str,.int .i64]
 |.cM=>[.ax U.Token,.int .i64,.bool]
 |.lC=>[.str,.int .i64,.int .i64,.ax U.Token]
 |.parser=>[.ax U.Token,.int .i64,.bool]
def qw:(c:U)->El c->Sh.Ts (ji c)
 |.i64,x=>(x,())
 |.u8,x=>((x.toNat:Int),())
 |.i32,x=>(x,())
 |.u64,x=>(x,())
 |.u32,x=>(x,())
 |.u16,x=>(x,())
 |.i16,x=>(x,())
 |.i8,x=>(x,())
 |.str,x=>(x,())
 |.bool,x=>(x,())
 |.tz,x=>(x,())
 |.tA,x=>(x,())
 |.tB,x=>(x,())
 |.tD,x=>(x,())
 |.tG,x=>(x,())
 |.tH,x=>(x,())
 |.tJ,x=>(x,())
 |.tK,x=>(x,())
 |.tL,x=>(x,())
 |.tM,x=>(x,())
 |.Path,x=>((bh.dw x),(bh.Name x),(bh.Version x),())
 |.Term,x=>((aa.Kind x),(aa.Name x),(aa.bA x),(aa.Kids x),())
 |.df,x=>((aA.Name x),(aa.Kind (aA.Term x)),(aa.Name (aA.Term x)),(aa.bA (aA.Term x)),(aa.Kids (aA.Term x)),())
 |.du,x=>((aH.Name x),(aH.As x),())
 |.Item,x=>((ak.Kind x),(ak.Name x),(aa.Kind (ak.Term x)),(aa.Name (ak.Term x)),(aa.bA (ak.Term x)),(aa.Kids (ak.Term x)),(ak.Params x),(ak.Async x),(bh.dw (ak.From x)),(bh.Name (ak.From x)),(bh.Version (ak.From x)),(ak.Uses x),())
 |.cE,x=>((aC.Name x),(aC.Items x),())
 |.dR,x=>((aG.Kind x),(bh.dw (aG.Path x)),(bh.Name (aG.Path x)),(bh.Version (aG.Path x)),())
 |.cZ,x=>((aL.Name x),(aL.Items x),())
 |.dw,x=>((bf.Name x),(bf.Version x),(bf.cY x),(bf.Worlds x),())
 |.Token,x=>((ae.Kind x),(ae.Text x),(ae.Line x),())
 |.cM,x=>((an.list x),(an.at_ x),(an.bad x),())
 |.lC,x=>((gu.s x),(gu.at_ x),(gu.line x),(gu.list x),())
 |.parser,x=>((ad.list x),(ad.at_ x),(ad.bad x),())
def kg:(c:U)->Sh.Ts (ji c)->El c×Bool
 |.i64,y=>(y.1,true)
 |.u8,y=>(nu y.1,mz y.1)
 |.i32,y=>(y.1,true)
 |.u64,y=>(y.1,true)
 |.u32,y=>(y.1,true)
 |.u16,y=>(y.1,true)
 |.i16,y=>(y.1,true)
 |.i8,y=>(y.1,true)
 |.str,y=>(y.1,true)
 |.bool,y=>(y.1,true)
 |.tz,y=>(y.1,true)
 |.tA,y=>(y.1,true)
 |.tB,y=>(y.1,true)
 |.tD,y=>(y.1,true)
 |.tG,y=>(y.1,true)
 |.tH,y=>(y.1,true)
 |.tJ,y=>(y.1,true)
 |.tK,y=>(y.1,true)
 |.tL,y=>(y.1,true)
 |.tM,y=>(y.1,true)
 |.Path,y=>(bh.mk y.1 y.2.1 y.2.2.1,true)
 |.Term,y=>(aa.mk y.1 y.2.1 y.2.2.1 y.2.2.2.1,true)
 |.df,y=>(aA.mk y.1 (aa.mk y.2.1 y.2.2.1 y.2.2.2.1 y.2.2.2.2.1),true)
 |.du,y=>(aH.mk y.1 y.2.1,true)
 |.Item,y=>(ak.mk y.1 y.2.1 (aa.mk y.2.2.1 y.2.2.2.1 y.2.2.2.2.1 y.2.2.2.2.2.1) y.2.2.2.2.2.2.1 y.2.2.2.2.2.2.2.1 (bh.mk y.2.2.2.2.2.2.2.2.1 y.2.2.2.2.2.2.2.2.2.1 y.2.2.2.2.2.2.2.2.2.2.1) y.2.2.2.2.2.2.2.2.2.2.2.1,true)
 |.cE,y=>(aC.mk y.1 y.2.1,true)
 |.dR,y=>(aG.mk y.1 (bh.mk y.2.1 y.2.2.1 y.2.2.2.1),true)
 |.cZ,y=>(aL.mk y.1 y.2.1,true)
 |.dw,y=>(bf.mk y.1 y.2.1 y.2.2.1 y.2.2.2.1,true)
 |.Token,y=>(ae.mk y.1 y.2.1 y.2.2.1,true)
 |.cM,y=>(an.mk y.1 y.2.1 y.2.2.1,true)
 |.lC,y=>(gu.mk y.1 y.2.1 y.2.2.1 y.2.2.2.1,true)
 |.parser,y=>(ad.mk y.1 y.2.1 y.2.2.1,true)
def Ns:(c:U)->Option ((El c->UInt8)×(UInt8->El c))
 |.u8=>some (id,id)
 |_=>none
noncomputable def D:bg K:=F5 ji kg qw Ns [.i64,.str,.bool,.i32,.u64,.u32,.u16,.i16,.i8,.tz,.tA,.tB,.tD,.tG,.tH,.tJ,.tK,.tL,.tM,.Path,.Term,.df,.du,.Item,.cE,.dR,.cZ,.dw,.Token,.cM,.lC,.parser] (Yv 0 5 1 2) none
theorem aQ:bu D:=Yu (fun c=>by cases c<;>rfl) (fun c=>by cases c<;>rfl)
 (fun c y x h=>by
   cases c<;>first|exact LL h|(have h:=(Prod.mk.inj h).1;subst h;rfl))
 (fun c f g h=>by
   cases c<;>simp only[Ns,aj,aF]at h<;>first|(obtain⟨rfl,rfl⟩:=h;exact⟨fun _=>rfl,fun _=>rfl⟩)|cases h)
end Go.V
