/-
  THE DATA: the structs of the program and of the reference as plain types; how they lie in cells.
-/
import Derived.Test.YtadnfbiaknpllaaGreatDoorXWgD
set_option linter.unusedVariables false
namespace M
structure aI where
 ba:List UInt8
 Name:List UInt8
 Version:List UInt8
 deriving Inhabited
def aI.zero:aI:=aI.mk [] [] []
inductive aa where
 |mk (Kind:Int) (Name:List UInt8) (bq:List (List UInt8)) (Kids:List aa)
 deriving Inhabited
def aa.Kind:aa->Int
 |.mk v _ _ _=>v
def aa.Name:aa->List UInt8
 |.mk _ v _ _=>v
def aa.bq:aa->List (List UInt8)
 |.mk _ _ v _=>v
def aa.Kids:aa->List aa
 |.mk _ _ _ v=>v
def aa.re(x:aa):aa:=aa.mk (aa.Kind x) (aa.Name x) (aa.bq x) (aa.Kids x)
theorem aa.bZ(x:aa):aa.re x=x:=by cases x;rfl
def aa.zero:aa:=aa.mk 0 [] [] []
structure aV where
 Name:List UInt8
 Term:aa
 deriving Inhabited
def aV.re(x:aV):aV:=aV.mk (aV.Name x) (aa.re (aV.Term x))
theorem aV.bZ(x:aV):aV.re x=x:=by unfold aV.re;simp only[aa.bZ]
def aV.zero:aV:=aV.mk [] aa.zero
structure aW where
 Name:List UInt8
 As:List UInt8
 deriving Inhabited
def aW.zero:aW:=aW.mk [] []
structure ai where
 Kind:Int
 Name:List UInt8
 Term:aa
 Params:List aV
 Async:Bool
 From:aI
 Uses:List aW
 deriving Inhabited
def ai.re(x:ai):ai:=ai.mk (ai.Kind x) (ai.Name x) (aa.re (ai.Term x)) (ai.Params x) (ai.Async x) (ai.From x) (ai.Uses x)
theorem ai.bZ(x:ai):ai.re x=x:=by unfold ai.re;simp only[aa.bZ]
def ai.zero:ai:=ai.mk 0 [] aa.zero [] false aI.zero []
structure aF where
 Name:List UInt8
 Items:List ai
 deriving Inhabited
def aF.zero:aF:=aF.mk [] []
structure aN where
 Kind:Int
 Path:aI
 deriving Inhabited
def aN.zero:aN:=aN.mk 0 aI.zero
structure aS where
 Name:List UInt8
 Items:List aN
 deriving Inhabited
def aS.zero:aS:=aS.mk [] []
structure ah where
 Name:List UInt8
 Version:List UInt8
 aD:List aF
 Worlds:List aS
 deriving Inhabited
def ah.zero:ah:=ah.mk [] [] [] []
structure aj where
 Kind:Int
 Text:List UInt8
 Line:Int
 deriving Inhabited
def aj.zero:aj:=aj.mk 0 [] 0
structure aT where
 code:List UInt8
 at_:Int
 seed:Int
 deriving Inhabited
def aT.zero:aT:=aT.mk [] 0 0
structure ay where
 list:List aj
 at_:Int
 bad:Bool
 deriving Inhabited
def ay.zero:ay:=ay.mk [] 0 false
structure iH where
 s:List UInt8
 at_:Int
 line:Int
 list:List aj
 deriving Inhabited
def iH.zero:iH:=iH.mk [] 0 0 []
structure av where
 list:List aj
 at_:Int
 bad:Bool
 deriving Inhabited
def av.zero:av:=av.mk [] 0 false
end M
namespace Go.V
open Go M
inductive U where
 |i64|u8|i32|u64|u32|u16|i16|i8|str|bool|wG|wH|wI|wJ|wK|wL|wM|wN|wO|wP|wQ|wR|wS|Path|Term|dV|eA|Item|dn|fy|dR|ba|Token|dS|dr|m6|parser
 deriving DecidableEq
abbrev El:U->Type
 |.i64=>Int
 |.u8=>UInt8
 |.i32=>Int
 |.u64=>Int
 |.u32=>Int
 |.u16=>Int
 |.i16=>Int
 |.i8=>Int
 |.str=>List UInt8
 |.bool=>Bool
 |.wG=>List (aF)
 |.wH=>List (ai)
 |.wI=>List (ah)
 |.wJ=>List (aI)
 |.wK=>List (aa)
 |.wL=>List (aV)
 |.wM=>List (aj)
 |.wN=>List (aW)
 |.wO=>List (aS)
 |.wP=>List (aN)
 |.wQ=>List (Int)
 |.wR=>List (List UInt8)
 |.wS=>List (UInt8)
 |.Path=>aI
 |.Term=>aa
 |.dV=>aV
 |.eA=>aW
 |.Item=>ai
 |.dn=>aF
 |.fy=>aN
 |.dR=>aS
 |.ba=>ah
 |.Token=>aj
 |.dS=>aT
 |.dr=>ay
 |.m6=>iH
 |.parser=>av
def M3:U->Nat
 |.Path=>3
 |.Term=>4
 |.dV=>5
 |.eA=>2
 |.Item=>12
 |.dn=>2
 |.fy=>4
 |.dR=>2
 |.ba=>4
 |.Token=>3
 |.dS=>3
 |.dr=>3
 |.m6=>4
 |.parser=>3
 |_=>1
def aj7:(c:U)->El c
 |.i64=>(0:Int)
 |.u8=>(0:UInt8)
 |.i32=>(0:Int)
 |.u64=>(0:Int)
 |.u32=>(0:Int)
 |.u16=>(0:Int)
 |.i16=>(0:Int)
 |.i8=>(0:Int)
 |.str=>([]:List UInt8)
 |.bool=>false
 |.wG=>([]:List (aF))
 |.wH=>([]:List (ai))
 |.wI=>([]:List (ah))
 |.wJ=>([]:List (aI))
 |.wK=>([]:List (aa))
 |.wL=>([]:List (aV))
 |.wM=>([]:List (aj))
 |.wN=>([]:List (aW))
 |.wO=>([]:List (aS))
 |.wP=>([]:List (aN))
 |.wQ=>([]:List (Int))
 |.wR=>([]:List (List UInt8))
 |.wS=>([]:List (UInt8))
 |.Path=>aI.zero
 |.Term=>aa.zero
 |.dV=>aV.zero
 |.eA=>aW.zero
 |.Item=>ai.zero
 |.dn=>aF.zero
 |.fy=>aN.zero
 |.dR=>aS.zero
 |.ba=>ah.zero
 |.Token=>aj.zero
 |.dS=>aT.zero
 |.dr=>ay.zero
 |.m6=>iH.zero
 |.parser=>av.zero
abbrev K:di:={U:=U,El:=El,kF:=inferInstance,sz:=M3,zero:=aj7}
def kg:U->List (Sh K)
 |.i64=>[.int .i64]
 |.u8=>[.int .u8]
 |.i32=>[.int .i32]
 |.u64=>[.int .u64]
 |.u32=>[.int .u32]
 |.u16=>[.int .u16]
 |.i16=>[.int .i16]
 |.i8=>[.int .i8]
 |.str=>[.str]
 |.bool=>[.bool]
 |.wG=>[.ax U.dn]
 |.wH=>[.ax U.Item]
 |.wI=>[.ax U.ba]
 |.wJ=>[.ax U.Path]
 |.wK=>[.ax U.Term]
 |.wL=>[.ax U.dV]
 |.wM=>[.ax U.Token]
 |.wN=>[.ax U.eA]
 |.wO=>[.ax U.dR]
 |.wP=>[.ax U.fy]
 |.wQ=>[.ax U.i64]
 |.wR=>[.ax U.str]
 |.wS=>[.ax U.u8]
 |.Path=>[.str,.str,.str]
 |.Term=>[.int .i64,.str,.ax U.str,.ax U.Term]
 |.dV=>[.str,.int .i64,.str,.ax U.str,.ax U.Term]
 |.eA=>[.str,.str]
 |.Item=>[.int .i64,.str,.int .i64,.str,.ax U.str,.ax U.Term,.ax U.dV,.bool,.str,.str,.str,.ax U.eA]
 |.dn=>[.str,.ax U.Item]
 |.fy=>[.int .i64,.str,.str,.str]
 |.dR=>[.str,.ax U.fy]
 |.ba=>[.str,.str,.ax U.dn,.ax U.dR]
 |.Token=>[.int .i64,.str,.int .i64]
 |.dS=>[.ax U.u8,.int .i64,.int .u64]
 |.dr=>[.ax U.Token,.int .i64,.bool]
 |.m6=>[.str,.int .i64,.int .i64,.ax U.Token]
 |.parser=>[.ax U.Token,.int .i64,.bool]
def tG:(c:U)->El c->Sh.Ts (kg c)
 |.i64,x=>(x,())
 |.u8,x=>((x.toNat:Int),())
 |.i32,x=>(x,())
 |.u64,x=>(x,())
 |.u32,x=>(x,())
 |.u16,x=>(x,())
 |.i16,x=>(x,())
 |.i8,x=>(x,())
 |.str,x=>(x,())
 |.bool,x=>(x,())
 |.wG,x=>(x,())
 |.wH,x=>(x,())
 |.wI,x=>(x,())
 |.wJ,x=>(x,())
 |.wK,x=>(x,())
 |.wL,x=>(x,())
 |.wM,x=>(x,())
 |.wN,x=>(x,())
 |.wO,x=>(x,())
 |.wP,x=>(x,())
 |.wQ,x=>(x,())
 |.wR,x=>(x,())
 |.wS,x=>(x,())
 |.Path,x=>((aI.ba x),(aI.Name x),(aI.Version x),())
 |.Term,x=>((aa.Kind x),(aa.Name x),(aa.bq x),(aa.Kids x),())
 |.dV,x=>((aV.Name x),(aa.Kind (aV.Term x)),(aa.Name (aV.Term x)),(aa.bq (aV.Term x)),(aa.Kids (aV.Term x)),())
 |.eA,x=>((aW.Name x),(aW.As x),())
 |.Item,x=>((ai.Kind x),(ai.Name x),(aa.Kind (ai.Term x)),(aa.Name (ai.Term x)),(aa.bq (ai.Term x)),(aa.Kids (ai.Term x)),(ai.Params x),(ai.Async x),(aI.ba (ai.From x)),(aI.Name (ai.From x)),(aI.Version (ai.From x)),(ai.Uses x),())
 |.dn,x=>((aF.Name x),(aF.Items x),())
 |.fy,x=>((aN.Kind x),(aI.ba (aN.Path x)),(aI.Name (aN.Path x)),(aI.Version (aN.Path x)),())
 |.dR,x=>((aS.Name x),(aS.Items x),())
 |.ba,x=>((ah.Name x),(ah.Version x),(ah.aD x),(ah.Worlds x),())
 |.Token,x=>((aj.Kind x),(aj.Text x),(aj.Line x),())
 |.dS,x=>((aT.code x),(aT.at_ x),(aT.seed x),())
 |.dr,x=>((ay.list x),(ay.at_ x),(ay.bad x),())
 |.m6,x=>((iH.s x),(iH.at_ x),(iH.line x),(iH.list x),())
 |.parser,x=>((av.list x),(av.at_ x),(av.bad x),())
def lN:(c:U)->Sh.Ts (kg c)->El c×Bool
 |.i64,y=>(y.1,true)
 |.u8,y=>(qa y.1,pZ y.1)
 |.i32,y=>(y.1,true)
 |.u64,y=>(y.1,true)
 |.u32,y=>(y.1,true)
 |.u16,y=>(y.1,true)
 |.i16,y=>(y.1,true)
 |.i8,y=>(y.1,true)
 |.str,y=>(y.1,true)
 |.bool,y=>(y.1,true)
 |.wG,y=>(y.1,true)
 |.wH,y=>(y.1,true)
 |.wI,y=>(y.1,true)
 |.wJ,y=>(y.1,true)
 |.wK,y=>(y.1,true)
 |.wL,y=>(y.1,true)
 |.wM,y=>(y.1,true)
 |.wN,y=>(y.1,true)
 |.wO,y=>(y.1,true)
 |.wP,y=>(y.1,true)
 |.wQ,y=>(y.1,true)
 |.wR,y=>(y.1,true)
 |.wS,y=>(y.1,true)
 |.Path,y=>(aI.mk y.1 y.2.1 y.2.2.1,true)
 |.Term,y=>(aa.mk y.1 y.2.1 y.2.2.1 y.2.2.2.1,true)
 |.dV,y=>(aV.mk y.1 (aa.mk y.2.1 y.2.2.1 y.2.2.2.1 y.2.2.2.2.1),true)
 |.eA,y=>(aW.mk y.1 y.2.1,true)
 |.Item,y=>(ai.mk y.1 y.2.1 (aa.mk y.2.2.1 y.2.2.2.1 y.2.2.2.2.1 y.2.2.2.2.2.1) y.2.2.2.2.2.2.1 y.2.2.2.2.2.2.2.1 (aI.mk y.2.2.2.2.2.2.2.2.1 y.2.2.2.2.2.2.2.2.2.1 y.2.2.2.2.2.2.2.2.2.2.1) y.2.2.2.2.2.2.2.2.2.2.2.1,true)
 |.dn,y=>(aF.mk y.1 y.2.1,true)
 |.fy,y=>(aN.mk y.1 (aI.mk y.2.1 y.2.2.1 y.2.2.2.1),true)
 |.dR,y=>(aS.mk y.1 y.2.1,true)
 |.ba,y=>(ah.mk y.1 y.2.1 y.2.2.1 y.2.2.2.1,true)
 |.Token,y=>(aj.mk y.1 y.2.1 y.2.2.1,true)
 |.dS,y=>(aT.mk y.1 y.2.1 y.2.2.1,true)
 |.dr,y=>(ay.mk y.1 y.2.1 y.2.2.1,true)
 |.m6,y=>(iH.mk y.1 y.2.1 y.2.2.1 y.2.2.2.1,true)
 |.parser,y=>(av.mk y.1 y.2.1 y.2.2.1,true)
def UR:(c:U)->Option ((El c->UInt8)×(UInt8->El c))
 |.u8=>some (id,id)
 |_=>none
noncomputable def D:bC K:=La kg lN tG UR [.i64,.str,.bool,.i32,.u64,.u32,.u16,.i16,.i8,.wG,.wH,.wI,.wJ,.wK,.wL,.wM,.wN,.wO,.wP,.wQ,.wR,.wS,.Path,.Term,.dV,.eA,.Item,.dn,.fy,.dR,.ba,.Token,.dS,.dr,.m6,.parser] (afL 0 5 1 2) (some 124) (fun|.u8=>some 5|_=>none)
theorem aO:bT D:=afK (fun c=>by cases c<;>rfl) (fun c=>by cases c<;>rfl)
 (fun c y x h=>by
   cases c<;>first|exact Ru h|(have h:=(Prod.mk.inj h).1;subst h;rfl))
 (fun c f g h=>by
   cases c<;>simp only[UR,aw,aP]at h<;>first|(obtain⟨rfl,rfl⟩:=h;exact⟨fun _=>rfl,fun _=>rfl⟩)|cases h)
end Go.V
