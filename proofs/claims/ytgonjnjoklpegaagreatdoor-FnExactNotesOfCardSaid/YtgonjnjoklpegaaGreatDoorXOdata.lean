/-
  THE DATA: the structs of the program and of the reference as plain types; how they lie in cells.
-/
import Derived.Test.YtgonjnjoklpegaaGreatDoorXWcod
import Derived.Test.YtgonjnjoklpegaaGreatDoorXWtabs
set_option linter.unusedVariables false
namespace M
structure aG where
 Kind:Int
 A:Int
 B:Int
 deriving Inhabited
def aG.zero:aG:=aG.mk 0 0 0
structure ay where
 Task:Int
 Kind:Int
 A:Int
 B:Int
 deriving Inhabited
def ay.zero:ay:=ay.mk 0 0 0 0
structure aD where
 fp:Int
 Ops:List aG
 deriving Inhabited
def aD.zero:aD:=aD.mk 0 []
inductive aa where
 |mk (Kind:Int) (Name:List UInt8) (bK:List (List UInt8)) (Kids:List aa)
 deriving Inhabited
def aa.Kind:aa->Int
 |.mk v _ _ _=>v
def aa.Name:aa->List UInt8
 |.mk _ v _ _=>v
def aa.bK:aa->List (List UInt8)
 |.mk _ _ v _=>v
def aa.Kids:aa->List aa
 |.mk _ _ _ v=>v
def aa.re(x:aa):aa:=aa.mk (aa.Kind x) (aa.Name x) (aa.bK x) (aa.Kids x)
theorem aa.aE(x:aa):aa.re x=x:=by cases x;rfl
theorem aa.eta(x:aa):aa.mk (aa.Kind x) (aa.Name x) (aa.bK x) (aa.Kids x)=x:=by cases x;rfl
def aa.zero:aa:=aa.mk 0 [] [] []
inductive ae where
 |mk (Kind:Int) (Num:Int) (Text:List UInt8) (Kids:List ae)
 deriving Inhabited
def ae.Kind:ae->Int
 |.mk v _ _ _=>v
def ae.Num:ae->Int
 |.mk _ v _ _=>v
def ae.Text:ae->List UInt8
 |.mk _ _ v _=>v
def ae.Kids:ae->List ae
 |.mk _ _ _ v=>v
def ae.re(x:ae):ae:=ae.mk (ae.Kind x) (ae.Num x) (ae.Text x) (ae.Kids x)
theorem ae.aE(x:ae):ae.re x=x:=by cases x;rfl
theorem ae.eta(x:ae):ae.mk (ae.Kind x) (ae.Num x) (ae.Text x) (ae.Kids x)=x:=by cases x;rfl
def ae.zero:ae:=ae.mk 0 0 [] []
structure ah where
 bR:aa
 Room:Int
 db:Bool
 Buffer:List ae
 Put:Int
 dx:Int
 Shut:Bool
 Gone:Bool
 deriving Inhabited
def ah.re(x:ah):ah:=ah.mk (aa.re (ah.bR x)) (ah.Room x) (ah.db x) (ah.Buffer x) (ah.Put x) (ah.dx x) (ah.Shut x) (ah.Gone x)
theorem ah.aE(x:ah):ah.re x=x:=by unfold ah.re;simp only[aa.aE]
def ah.zero:ah:=ah.mk aa.zero 0 false [] 0 0 false false
structure af where
 Id:Int
 Prog:Int
 PC:Int
 dI:Int
 Status:Int
 Result:Int
 cJ:Bool
 Asked:Bool
 Told:Bool
 aZ:List Int
 Set:List Int
 deriving Inhabited
def af.zero:af:=af.mk 0 0 0 0 0 0 false false false [] []
structure ar where
 bp:List aD
 bS:List ah
 aH:List af
 Back:List Int
 Notes:List ay
 deriving Inhabited
def ar.zero:ar:=ar.mk [] [] [] [] []
end M
namespace Go.V
open Go M
inductive U where
 |i64|u8|i32|u64|u32|u16|i16|i8|str|bool|m5|m4|mY|mZ|m3|m6|m7|jy|pj|pn|cb|Note|Prog|Type|Value|Stream|Task|Async
 deriving DecidableEq
abbrev El:U->Type
 |.i64=>Int
 |.u8=>UInt8
 |.i32=>Int
 |.u64=>Int
 |.u32=>Int
 |.u16=>Int
 |.i16=>Int
 |.i8=>Int
 |.str=>List UInt8
 |.bool=>Bool
 |.m5=>List (aG)
 |.m4=>List (ay)
 |.mY=>List (aD)
 |.mZ=>List (ah)
 |.m3=>List (af)
 |.m6=>List (aa)
 |.m7=>List (ae)
 |.jy=>List (Int)
 |.pj=>List (List UInt8)
 |.pn=>List (UInt8)
 |.cb=>aG
 |.Note=>ay
 |.Prog=>aD
 |.Type=>aa
 |.Value=>ae
 |.Stream=>ah
 |.Task=>af
 |.Async=>ar
def Eo:U->Nat
 |.cb=>3
 |.Note=>4
 |.Prog=>2
 |.Type=>4
 |.Value=>4
 |.Stream=>11
 |.Task=>11
 |.Async=>5
 |_=>1
def ael:(c:U)->El c
 |.i64=>(0:Int)
 |.u8=>(0:UInt8)
 |.i32=>(0:Int)
 |.u64=>(0:Int)
 |.u32=>(0:Int)
 |.u16=>(0:Int)
 |.i16=>(0:Int)
 |.i8=>(0:Int)
 |.str=>([]:List UInt8)
 |.bool=>false
 |.m5=>([]:List (aG))
 |.m4=>([]:List (ay))
 |.mY=>([]:List (aD))
 |.mZ=>([]:List (ah))
 |.m3=>([]:List (af))
 |.m6=>([]:List (aa))
 |.m7=>([]:List (ae))
 |.jy=>([]:List (Int))
 |.pj=>([]:List (List UInt8))
 |.pn=>([]:List (UInt8))
 |.cb=>aG.zero
 |.Note=>ay.zero
 |.Prog=>aD.zero
 |.Type=>aa.zero
 |.Value=>ae.zero
 |.Stream=>ah.zero
 |.Task=>af.zero
 |.Async=>ar.zero
abbrev K:cq:={U:=U,El:=El,gP:=inferInstance,sz:=Eo,zero:=ael}
def gQ:U->List (Sh K)
 |.i64=>[.int .i64]
 |.u8=>[.int .u8]
 |.i32=>[.int .i32]
 |.u64=>[.int .u64]
 |.u32=>[.int .u32]
 |.u16=>[.int .u16]
 |.i16=>[.int .i16]
 |.i8=>[.int .i8]
 |.str=>[.str]
 |.bool=>[.bool]
 |.m5=>[.ai U.cb]
 |.m4=>[.ai U.Note]
 |.mY=>[.ai U.Prog]
 |.mZ=>[.ai U.Stream]
 |.m3=>[.ai U.Task]
 |.m6=>[.ai U.Type]
 |.m7=>[.ai U.Value]
 |.jy=>[.ai U.i64]
 |.pj=>[.ai U.str]
 |.pn=>[.ai U.u8]
 |.cb=>[.int .i64,.int .i64,.int .i64]
 |.Note=>[.int .i64,.int .i64,.int .i64,.int .i64]
 |.Prog=>[.int .i64,.ai U.cb]
 |.Type=>[.int .i64,.str,.ai U.str,.ai U.Type]
 |.Value=>[.int .i64,.int .i64,.str,.ai U.Value]
 |.Stream=>[.int .i64,.str,.ai U.str,.ai U.Type,.int .i64,.bool,.ai U.Value,.int .i64,.int .i64,.bool,.bool]
 |.Task=>[.int .i64,.int .i64,.int .i64,.int .i64,.int .i64,.int .i64,.bool,.bool,.bool,.ai U.i64,.ai U.i64]
 |.Async=>[.ai U.Prog,.ai U.Stream,.ai U.Task,.ai U.i64,.ai U.Note]
def qx:(c:U)->El c->Sh.Ts (gQ c)
 |.i64,x=>(x,())
 |.u8,x=>((x.toNat:Int),())
 |.i32,x=>(x,())
 |.u64,x=>(x,())
 |.u32,x=>(x,())
 |.u16,x=>(x,())
 |.i16,x=>(x,())
 |.i8,x=>(x,())
 |.str,x=>(x,())
 |.bool,x=>(x,())
 |.m5,x=>(x,())
 |.m4,x=>(x,())
 |.mY,x=>(x,())
 |.mZ,x=>(x,())
 |.m3,x=>(x,())
 |.m6,x=>(x,())
 |.m7,x=>(x,())
 |.jy,x=>(x,())
 |.pj,x=>(x,())
 |.pn,x=>(x,())
 |.cb,x=>((aG.Kind x),(aG.A x),(aG.B x),())
 |.Note,x=>((ay.Task x),(ay.Kind x),(ay.A x),(ay.B x),())
 |.Prog,x=>((aD.fp x),(aD.Ops x),())
 |.Type,x=>((aa.Kind x),(aa.Name x),(aa.bK x),(aa.Kids x),())
 |.Value,x=>((ae.Kind x),(ae.Num x),(ae.Text x),(ae.Kids x),())
 |.Stream,x=>((aa.Kind (ah.bR x)),(aa.Name (ah.bR x)),(aa.bK (ah.bR x)),(aa.Kids (ah.bR x)),(ah.Room x),(ah.db x),(ah.Buffer x),(ah.Put x),(ah.dx x),(ah.Shut x),(ah.Gone x),())
 |.Task,x=>((af.Id x),(af.Prog x),(af.PC x),(af.dI x),(af.Status x),(af.Result x),(af.cJ x),(af.Asked x),(af.Told x),(af.aZ x),(af.Set x),())
 |.Async,x=>((ar.bp x),(ar.bS x),(ar.aH x),(ar.Back x),(ar.Notes x),())
def ig:(c:U)->Sh.Ts (gQ c)->El c×Bool
 |.i64,y=>(y.1,true)
 |.u8,y=>(eI y.1,fE y.1)
 |.i32,y=>(y.1,true)
 |.u64,y=>(y.1,true)
 |.u32,y=>(y.1,true)
 |.u16,y=>(y.1,true)
 |.i16,y=>(y.1,true)
 |.i8,y=>(y.1,true)
 |.str,y=>(y.1,true)
 |.bool,y=>(y.1,true)
 |.m5,y=>(y.1,true)
 |.m4,y=>(y.1,true)
 |.mY,y=>(y.1,true)
 |.mZ,y=>(y.1,true)
 |.m3,y=>(y.1,true)
 |.m6,y=>(y.1,true)
 |.m7,y=>(y.1,true)
 |.jy,y=>(y.1,true)
 |.pj,y=>(y.1,true)
 |.pn,y=>(y.1,true)
 |.cb,y=>(aG.mk y.1 y.2.1 y.2.2.1,true)
 |.Note,y=>(ay.mk y.1 y.2.1 y.2.2.1 y.2.2.2.1,true)
 |.Prog,y=>(aD.mk y.1 y.2.1,true)
 |.Type,y=>(aa.mk y.1 y.2.1 y.2.2.1 y.2.2.2.1,true)
 |.Value,y=>(ae.mk y.1 y.2.1 y.2.2.1 y.2.2.2.1,true)
 |.Stream,y=>(ah.mk (aa.mk y.1 y.2.1 y.2.2.1 y.2.2.2.1) y.2.2.2.2.1 y.2.2.2.2.2.1 y.2.2.2.2.2.2.1 y.2.2.2.2.2.2.2.1 y.2.2.2.2.2.2.2.2.1 y.2.2.2.2.2.2.2.2.2.1 y.2.2.2.2.2.2.2.2.2.2.1,true)
 |.Task,y=>(af.mk y.1 y.2.1 y.2.2.1 y.2.2.2.1 y.2.2.2.2.1 y.2.2.2.2.2.1 y.2.2.2.2.2.2.1 y.2.2.2.2.2.2.2.1 y.2.2.2.2.2.2.2.2.1 y.2.2.2.2.2.2.2.2.2.1 y.2.2.2.2.2.2.2.2.2.2.1,true)
 |.Async,y=>(ar.mk y.1 y.2.1 y.2.2.1 y.2.2.2.1 y.2.2.2.2.1,true)
def Qc:(c:U)->Option ((El c->UInt8)×(UInt8->El c))
 |.u8=>some (id,id)
 |_=>none
noncomputable def D:aY K:=Qd gQ ig qx Qc [.i64,.str,.bool,.i32,.u64,.u32,.u16,.i16,.i8,.m5,.m4,.mY,.mZ,.m3,.m6,.m7,.jy,.pj,.pn,.cb,.Note,.Prog,.Type,.Value,.Stream,.Task,.Async] (aem 0 1) none
theorem aj:bg D:=aen (fun c=>by cases c<;>rfl) (fun c=>by cases c<;>rfl)
 (fun c y x h=>by
   cases c<;>first|exact Qe h|(have h:=(Prod.mk.inj h).1;subst h;rfl))
 (fun c f g h=>by
   cases c<;>simp only[Qc,av,aJ]at h<;>first|(obtain⟨rfl,rfl⟩:=h;exact⟨fun _=>rfl,fun _=>rfl⟩)|cases h)
end Go.V
