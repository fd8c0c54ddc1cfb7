/-
  THE DATA: the structs of the program and of the reference as plain types; how they lie in cells.
-/
import Derived.Test.YtojfkjgemgjjkaaGreatDoorXWgD
set_option linter.unusedVariables false
namespace M
structure aI where
 bD:List UInt8
 Name:List UInt8
 Version:List UInt8
 deriving Inhabited
def aI.zero:aI:=aI.mk [] [] []
inductive aa where
 |mk (Kind:Int) (Name:List UInt8) (bn:List (List UInt8)) (Kids:List aa)
 deriving Inhabited
def aa.Kind:aa->Int
 |.mk v _ _ _=>v
def aa.Name:aa->List UInt8
 |.mk _ v _ _=>v
def aa.bn:aa->List (List UInt8)
 |.mk _ _ v _=>v
def aa.Kids:aa->List aa
 |.mk _ _ _ v=>v
def aa.re(x:aa):aa:=aa.mk (aa.Kind x) (aa.Name x) (aa.bn x) (aa.Kids x)
theorem aa.bX(x:aa):aa.re x=x:=by cases x;rfl
def aa.zero:aa:=aa.mk 0 [] [] []
structure aV where
 Name:List UInt8
 Term:aa
 deriving Inhabited
def aV.re(x:aV):aV:=aV.mk (aV.Name x) (aa.re (aV.Term x))
theorem aV.bX(x:aV):aV.re x=x:=by unfold aV.re;simp only[aa.bX]
def aV.zero:aV:=aV.mk [] aa.zero
structure aX where
 Name:List UInt8
 As:List UInt8
 deriving Inhabited
def aX.zero:aX:=aX.mk [] []
structure ai where
 Kind:Int
 Name:List UInt8
 Term:aa
 Params:List aV
 Async:Bool
 From:aI
 Uses:List aX
 deriving Inhabited
def ai.re(x:ai):ai:=ai.mk (ai.Kind x) (ai.Name x) (aa.re (ai.Term x)) (ai.Params x) (ai.Async x) (ai.From x) (ai.Uses x)
theorem ai.bX(x:ai):ai.re x=x:=by unfold ai.re;simp only[aa.bX]
def ai.zero:ai:=ai.mk 0 [] aa.zero [] false aI.zero []
structure aG where
 Name:List UInt8
 Items:List ai
 deriving Inhabited
def aG.zero:aG:=aG.mk [] []
structure aO where
 Kind:Int
 Path:aI
 deriving Inhabited
def aO.zero:aO:=aO.mk 0 aI.zero
structure aQ where
 Name:List UInt8
 Items:List aO
 deriving Inhabited
def aQ.zero:aQ:=aQ.mk [] []
structure aw where
 Name:List UInt8
 Version:List UInt8
 aD:List aG
 Worlds:List aQ
 deriving Inhabited
def aw.zero:aw:=aw.mk [] [] [] []
structure af where
 Kind:Int
 Text:List UInt8
 Line:Int
 deriving Inhabited
def af.zero:af:=af.mk 0 [] 0
structure aR where
 code:List UInt8
 at_:Int
 seed:Int
 deriving Inhabited
def aR.zero:aR:=aR.mk [] 0 0
structure ay where
 list:List af
 at_:Int
 bad:Bool
 deriving Inhabited
def ay.zero:ay:=ay.mk [] 0 false
structure iM where
 s:List UInt8
 at_:Int
 line:Int
 list:List af
 deriving Inhabited
def iM.zero:iM:=iM.mk [] 0 0 []
structure au where
 list:List af
 at_:Int
 bad:Bool
 deriving Inhabited
def au.zero:au:=au.mk [] 0 false
end M
namespace Go.V
open Go M
inductive U where
 |i64|u8|i32|u64|u32|u16|i16|i8|str|bool|wy|wz|wA|wB|wC|wE|wF|wG|wH|wI|wJ|wK|wL|Path|Term|d3|eg|Item|dk|fD|dN|bD|Token|dP|dm|mY|parser
 deriving DecidableEq
abbrev El:U->Type
 |.i64=>Int
 |.u8=>UInt8
 |.i32=>Int
 |.u64=>Int
 |.u32=>Int
 |.u16=>Int
 |.i16=>Int
 |.i8=>Int
 |.str=>List UInt8
 |.bool=>Bool
 |.wy=>List (aG)
 |.wz=>List (ai)
 |.wA=>List (aw)
 |.wB=>List (aI)
 |.wC=>List (aa)
 |.wE=>List (aV)
 |.wF=>List (af)
 |.wG=>List (aX)
 |.wH=>List (aQ)
 |.wI=>List (aO)
 |.wJ=>List (Int)
 |.wK=>List (List UInt8)
 |.wL=>List (UInt8)
 |.Path=>aI
 |.Term=>aa
 |.d3=>aV
 |.eg=>aX
 |.Item=>ai
 |.dk=>aG
 |.fD=>aO
 |.dN=>aQ
 |.bD=>aw
 |.Token=>af
 |.dP=>aR
 |.dm=>ay
 |.mY=>iM
 |.parser=>au
def L9:U->Nat
 |.Path=>3
 |.Term=>4
 |.d3=>5
 |.eg=>2
 |.Item=>12
 |.dk=>2
 |.fD=>4
 |.dN=>2
 |.bD=>4
 |.Token=>3
 |.dP=>3
 |.dm=>3
 |.mY=>4
 |.parser=>3
 |_=>1
def aiT:(c:U)->El c
 |.i64=>(0:Int)
 |.u8=>(0:UInt8)
 |.i32=>(0:Int)
 |.u64=>(0:Int)
 |.u32=>(0:Int)
 |.u16=>(0:Int)
 |.i16=>(0:Int)
 |.i8=>(0:Int)
 |.str=>([]:List UInt8)
 |.bool=>false
 |.wy=>([]:List (aG))
 |.wz=>([]:List (ai))
 |.wA=>([]:List (aw))
 |.wB=>([]:List (aI))
 |.wC=>([]:List (aa))
 |.wE=>([]:List (aV))
 |.wF=>([]:List (af))
 |.wG=>([]:List (aX))
 |.wH=>([]:List (aQ))
 |.wI=>([]:List (aO))
 |.wJ=>([]:List (Int))
 |.wK=>([]:List (List UInt8))
 |.wL=>([]:List (UInt8))
 |.Path=>aI.zero
 |.Term=>aa.zero
 |.d3=>aV.zero
 |.eg=>aX.zero
 |.Item=>ai.zero
 |.dk=>aG.zero
 |.fD=>aO.zero
 |.dN=>aQ.zero
 |.bD=>aw.zero
 |.Token=>af.zero
 |.dP=>aR.zero
 |.dm=>ay.zero
 |.mY=>iM.zero
 |.parser=>au.zero
abbrev K:df:={U:=U,El:=El,kG:=inferInstance,sz:=L9,zero:=aiT}
def kn:U->List (Sh K)
 |.i64=>[.int .i64]
 |.u8=>[.int .u8]
 |.i32=>[.int .i32]
 |.u64=>[.int .u64]
 |.u32=>[.int .u32]
 |.u16=>[.int .u16]
 |.i16=>[.int .i16]
 |.i8=>[.int .i8]
 |.str=>[.str]
 |.bool=>[.bool]
 |.wy=>[.ax U.dk]
 |.wz=>[.ax U.Item]
 |.wA=>[.ax U.bD]
 |.wB=>[.ax U.Path]
 |.wC=>[.ax U.Term]
 |.wE=>[.ax U.d3]
 |.wF=>[.ax U.Token]
 |.wG=>[.ax U.eg]
 |.wH=>[.ax U.dN]
 |.wI=>[.ax U.fD]
 |.wJ=>[.ax U.i64]
 |.wK=>[.ax U.str]
 |.wL=>[.ax U.u8]
 |.Path=>[.str,.str,.str]
 |.Term=>[.int .i64,.str,.ax U.str,.ax U.Term]
 |.d3=>[.str,.int .i64,.str,.ax U.str,.ax U.Term]
 |.eg=>[.str,.str]
 |.Item=>[.int .i64,.str,.int .i64,.str,.ax U.str,.ax U.Term,.ax U.d3,.bool,.str,.str,.str,.ax U.eg]
 |.dk=>[.str,.ax U.Item]
 |.fD=>[.int .i64,.str,.str,.str]
 |.dN=>[.str,.ax U.fD]
 |.bD=>[.str,.str,.ax U.dk,.ax U.dN]
 |.Token=>[.int .i64,.str,.int .i64]
 |.dP=>[.ax U.u8,.int .i64,.int .u64]
 |.dm=>[.ax U.Token,.int .i64,.bool]
 |.mY=>[.str,.int .i64,.int .i64,.ax U.Token]
 |.parser=>[.ax U.Token,.int .i64,.bool]
def tp:(c:U)->El c->Sh.Ts (kn c)
 |.i64,x=>(x,())
 |.u8,x=>((x.toNat:Int),())
 |.i32,x=>(x,())
 |.u64,x=>(x,())
 |.u32,x=>(x,())
 |.u16,x=>(x,())
 |.i16,x=>(x,())
 |.i8,x=>(x,())
 |.str,x=>(x,())
 |.bool,x=>(x,())
 |.wy,x=>(x,())
 |.wz,x=>(x,())
 |.wA,x=>(x,())
 |.wB,x=>(x,())
 |.wC,x=>(x,())
 |.wE,x=>(x,())
 |.wF,x=>(x,())
 |.wG,x=>(x,())
 |.wH,x=>(x,())
 |.wI,x=>(x,())
 |.wJ,x=>(x,())
 |.wK,x=>(x,())
 |.wL,x=>(x,())
 |.Path,x=>((aI.bD x),(aI.Name x),(aI.Version x),())
 |.Term,x=>((aa.Kind x),(aa.Name x),(aa.bn x),(aa.Kids x),())
 |.d3,x=>((aV.Name x),(aa.Kind (aV.Term x)),(aa.Name (aV.Term x)),(aa.bn (aV.Term x)),(aa.Kids (aV.Term x)),())
 |.eg,x=>((aX.Name x),(aX.As x),())
 |.Item,x=>((ai.Kind x),(ai.Name x),(aa.Kind (ai.Term x)),(aa.Name (ai.Term x)),(aa.bn (ai.Term x)),(aa.Kids (ai.Term x)),(ai.Params x),(ai.Async x),(aI.bD (ai.From x)),(aI.Name (ai.From x)),(aI.Version (ai.From x)),(ai.Uses x),())
 |.dk,x=>((aG.Name x),(aG.Items x),())
 |.fD,x=>((aO.Kind x),(aI.bD (aO.Path x)),(aI.Name (aO.Path x)),(aI.Version (aO.Path x)),())
 |.dN,x=>((aQ.Name x),(aQ.Items x),())
 |.bD,x=>((aw.Name x),(aw.Version x),(aw.aD x),(aw.Worlds x),())
 |.Token,x=>((af.Kind x),(af.Text x),(af.Line x),())
 |.dP,x=>((aR.code x),(aR.at_ x),(aR.seed x),())
 |.dm,x=>((ay.list x),(ay.at_ x),(ay.bad x),())
 |.mY,x=>((iM.s x),(iM.at_ x),(iM.line x),(iM.list x),())
 |.parser,x=>((au.list x),(au.at_ x),(au.bad x),())
def lP:(c:U)->Sh.Ts (kn c)->El c×Bool
 |.i64,y=>(y.1,true)
 |.u8,y=>(pV y.1,pT y.1)
 |.i32,y=>(y.1,true)
 |.u64,y=>(y.1,true)
 |.u32,y=>(y.1,true)
 |.u16,y=>(y.1,true)
 |.i16,y=>(y.1,true)
 |.i8,y=>(y.1,true)
 |.str,y=>(y.1,true)
 |.bool,y=>(y.1,true)
 |.wy,y=>(y.1,true)
 |.wz,y=>(y.1,true)
 |.wA,y=>(y.1,true)
 |.wB,y=>(y.1,true)
 |.wC,y=>(y.1,true)
 |.wE,y=>(y.1,true)
 |.wF,y=>(y.1,true)
 |.wG,y=>(y.1,true)
 |.wH,y=>(y.1,true)
 |.wI,y=>(y.1,true)
 |.wJ,y=>(y.1,true)
 |.wK,y=>(y.1,true)
 |.wL,y=>(y.1,true)
 |.Path,y=>(aI.mk y.1 y.2.1 y.2.2.1,true)
 |.Term,y=>(aa.mk y.1 y.2.1 y.2.2.1 y.2.2.2.1,true)
 |.d3,y=>(aV.mk y.1 (aa.mk y.2.1 y.2.2.1 y.2.2.2.1 y.2.2.2.2.1),true)
 |.eg,y=>(aX.mk y.1 y.2.1,true)
 |.Item,y=>(ai.mk y.1 y.2.1 (aa.mk y.2.2.1 y.2.2.2.1 y.2.2.2.2.1 y.2.2.2.2.2.1) y.2.2.2.2.2.2.1 y.2.2.2.2.2.2.2.1 (aI.mk y.2.2.2.2.2.2.2.2.1 y.2.2.2.2.2.2.2.2.2.1 y.2.2.2.2.2.2.2.2.2.2.1) y.2.2.2.2.2.2.2.2.2.2.2.1,true)
 |.dk,y=>(aG.mk y.1 y.2.1,true)
 |.fD,y=>(aO.mk y.1 (aI.mk y.2.1 y.2.2.1 y.2.2.2.1),true)
 |.dN,y=>(aQ.mk y.1 y.2.1,true)
 |.bD,y=>(aw.mk y.1 y.2.1 y.2.2.1 y.2.2.2.1,true)
 |.Token,y=>(af.mk y.1 y.2.1 y.2.2.1,true)
 |.dP,y=>(aR.mk y.1 y.2.1 y.2.2.1,true)
 |.dm,y=>(ay.mk y.1 y.2.1 y.2.2.1,true)
 |.mY,y=>(iM.mk y.1 y.2.1 y.2.2.1 y.2.2.2.1,true)
 |.parser,y=>(au.mk y.1 y.2.1 y.2.2.1,true)
def Ud:(c:U)->Option ((El c->UInt8)×(UInt8->El c))
 |.u8=>some (id,id)
 |_=>none
noncomputable def D:bE K:=Kx kn lP tp Ud [.i64,.str,.bool,.i32,.u64,.u32,.u16,.i16,.i8,.wy,.wz,.wA,.wB,.wC,.wE,.wF,.wG,.wH,.wI,.wJ,.wK,.wL,.Path,.Term,.d3,.eg,.Item,.dk,.fD,.dN,.bD,.Token,.dP,.dm,.mY,.parser] (aew 0 5 1 2) (some 112) (fun|.u8=>some 5|_=>none)
theorem aY:bT D:=aev (fun c=>by cases c<;>rfl) (fun c=>by cases c<;>rfl)
 (fun c y x h=>by
   cases c<;>first|exact QR h|(have h:=(Prod.mk.inj h).1;subst h;rfl))
 (fun c f g h=>by
   cases c<;>simp only[Ud,av,aN]at h<;>first|(obtain⟨rfl,rfl⟩:=h;exact⟨fun _=>rfl,fun _=>rfl⟩)|cases h)
end Go.V
