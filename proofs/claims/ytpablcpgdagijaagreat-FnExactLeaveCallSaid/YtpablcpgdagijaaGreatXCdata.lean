/-
  THE DATA: the structs of the program and of the reference as plain types; how they lie in cells.
-/
import Derived.Test.YtpablcpgdagijaaGreatXWgD
set_option linter.unusedVariables false
namespace M
structure ah where
 Id:Int
 Caller:Int
 Callee:Int
 bG:List Int
 deriving Inhabited
def ah.zero:ah:=ah.mk 0 0 0 []
structure ae where
 Num:Int
 Id:Int
 Own:Bool
 bT:Int
 Scope:Int
 From:Int
 bQ:Int
 deriving Inhabited
def ae.zero:ae:=ae.mk 0 0 false 0 0 0 0
structure aB where
 Own:Bool
 bI:Int
 Num:Int
 deriving Inhabited
def aB.zero:aB:=aB.mk false 0 0
structure aa where
 Next:Int
 Entries:List ae
 deriving Inhabited
def aa.zero:aa:=aa.mk 0 []
structure ai where
 Id:Int
 bI:Int
 Rep:Int
 deriving Inhabited
def ai.zero:ai:=ai.mk 0 0 0
structure av where
 Next:Int
 Tables:List aa
 aA:List ai
 deriving Inhabited
def av.zero:av:=av.mk 0 [] []
structure af where
 Shelf:av
 Stack:List ah
 Next:Int
 Dead:List Int
 deriving Inhabited
def af.zero:af:=af.mk av.zero [] 0 []
structure jm where
 Shelf:av
 deriving Inhabited
def jm.zero:jm:=jm.mk av.zero
end M
namespace Go.V
open Go M
inductive U where
 |i64|u8|i32|u64|u32|u16|i16|i8|str|bool|kg|kh|ki|kj|km|l4|Call|Entry|Pass|Table|aC|Shelf|aS|shelf
 deriving DecidableEq
abbrev El:U->Type
 |.i64=>Int
 |.u8=>UInt8
 |.i32=>Int
 |.u64=>Int
 |.u32=>Int
 |.u16=>Int
 |.i16=>Int
 |.i8=>Int
 |.str=>List UInt8
 |.bool=>Bool
 |.kg=>List (ah)
 |.kh=>List (ae)
 |.ki=>List (aB)
 |.kj=>List (aa)
 |.km=>List (ai)
 |.l4=>List (Int)
 |.Call=>ah
 |.Entry=>ae
 |.Pass=>aB
 |.Table=>aa
 |.aC=>ai
 |.Shelf=>av
 |.aS=>af
 |.shelf=>jm
def yc:U->Nat
 |.Call=>4
 |.Entry=>7
 |.Pass=>3
 |.Table=>2
 |.aC=>3
 |.Shelf=>3
 |.aS=>6
 |.shelf=>3
 |_=>1
def QA:(c:U)->El c
 |.i64=>(0:Int)
 |.u8=>(0:UInt8)
 |.i32=>(0:Int)
 |.u64=>(0:Int)
 |.u32=>(0:Int)
 |.u16=>(0:Int)
 |.i16=>(0:Int)
 |.i8=>(0:Int)
 |.str=>([]:List UInt8)
 |.bool=>false
 |.kg=>([]:List (ah))
 |.kh=>([]:List (ae))
 |.ki=>([]:List (aB))
 |.kj=>([]:List (aa))
 |.km=>([]:List (ai))
 |.l4=>([]:List (Int))
 |.Call=>ah.zero
 |.Entry=>ae.zero
 |.Pass=>aB.zero
 |.Table=>aa.zero
 |.aC=>ai.zero
 |.Shelf=>av.zero
 |.aS=>af.zero
 |.shelf=>jm.zero
abbrev K:bL:={U:=U,El:=El,ee:=inferInstance,sz:=yc,zero:=QA}
def eQ:U->List (Sh K)
 |.i64=>[.int .i64]
 |.u8=>[.int .u8]
 |.i32=>[.int .i32]
 |.u64=>[.int .u64]
 |.u32=>[.int .u32]
 |.u16=>[.int .u16]
 |.i16=>[.int .i16]
 |.i8=>[.int .i8]
 |.str=>[.str]
 |.bool=>[.bool]
 |.kg=>[.au U.Call]
 |.kh=>[.au U.Entry]
 |.ki=>[.au U.Pass]
 |.kj=>[.au U.Table]
 |.km=>[.au U.aC]
 |.l4=>[.au U.i64]
 |.Call=>[.int .i64,.int .i64,.int .i64,.au U.i64]
 |.Entry=>[.int .i64,.int .i64,.bool,.int .i64,.int .i64,.int .i64,.int .i64]
 |.Pass=>[.bool,.int .i64,.int .i64]
 |.Table=>[.int .i64,.au U.Entry]
 |.aC=>[.int .i64,.int .i64,.int .i64]
 |.Shelf=>[.int .i64,.au U.Table,.au U.aC]
 |.aS=>[.int .i64,.au U.Table,.au U.aC,.au U.Call,.int .i64,.au U.i64]
 |.shelf=>[.int .i64,.au U.Table,.au U.aC]
def l5:(c:U)->El c->Sh.Ts (eQ c)
 |.i64,x=>(x,())
 |.u8,x=>((x.toNat:Int),())
 |.i32,x=>(x,())
 |.u64,x=>(x,())
 |.u32,x=>(x,())
 |.u16,x=>(x,())
 |.i16,x=>(x,())
 |.i8,x=>(x,())
 |.str,x=>(x,())
 |.bool,x=>(x,())
 |.kg,x=>(x,())
 |.kh,x=>(x,())
 |.ki,x=>(x,())
 |.kj,x=>(x,())
 |.km,x=>(x,())
 |.l4,x=>(x,())
 |.Call,x=>((ah.Id x),(ah.Caller x),(ah.Callee x),(ah.bG x),())
 |.Entry,x=>((ae.Num x),(ae.Id x),(ae.Own x),(ae.bT x),(ae.Scope x),(ae.From x),(ae.bQ x),())
 |.Pass,x=>((aB.Own x),(aB.bI x),(aB.Num x),())
 |.Table,x=>((aa.Next x),(aa.Entries x),())
 |.aC,x=>((ai.Id x),(ai.bI x),(ai.Rep x),())
 |.Shelf,x=>((av.Next x),(av.Tables x),(av.aA x),())
 |.aS,x=>((av.Next (af.Shelf x)),(av.Tables (af.Shelf x)),(av.aA (af.Shelf x)),(af.Stack x),(af.Next x),(af.Dead x),())
 |.shelf,x=>((av.Next (jm.Shelf x)),(av.Tables (jm.Shelf x)),(av.aA (jm.Shelf x)),())
def fh:(c:U)->Sh.Ts (eQ c)->El c×Bool
 |.i64,y=>(y.1,true)
 |.u8,y=>(uO y.1,uP y.1)
 |.i32,y=>(y.1,true)
 |.u64,y=>(y.1,true)
 |.u32,y=>(y.1,true)
 |.u16,y=>(y.1,true)
 |.i16,y=>(y.1,true)
 |.i8,y=>(y.1,true)
 |.str,y=>(y.1,true)
 |.bool,y=>(y.1,true)
 |.kg,y=>(y.1,true)
 |.kh,y=>(y.1,true)
 |.ki,y=>(y.1,true)
 |.kj,y=>(y.1,true)
 |.km,y=>(y.1,true)
 |.l4,y=>(y.1,true)
 |.Call,y=>(ah.mk y.1 y.2.1 y.2.2.1 y.2.2.2.1,true)
 |.Entry,y=>(ae.mk y.1 y.2.1 y.2.2.1 y.2.2.2.1 y.2.2.2.2.1 y.2.2.2.2.2.1 y.2.2.2.2.2.2.1,true)
 |.Pass,y=>(aB.mk y.1 y.2.1 y.2.2.1,true)
 |.Table,y=>(aa.mk y.1 y.2.1,true)
 |.aC,y=>(ai.mk y.1 y.2.1 y.2.2.1,true)
 |.Shelf,y=>(av.mk y.1 y.2.1 y.2.2.1,true)
 |.aS,y=>(af.mk (av.mk y.1 y.2.1 y.2.2.1) y.2.2.2.1 y.2.2.2.2.1 y.2.2.2.2.2.1,true)
 |.shelf,y=>(jm.mk (av.mk y.1 y.2.1 y.2.2.1),true)
def EX:(c:U)->Option ((El c->UInt8)×(UInt8->El c))
 |.u8=>some (id,id)
 |_=>none
noncomputable def D:aT K:=EY eQ fh l5 EX [.i64,.str,.bool,.i32,.u64,.u32,.u16,.i16,.i8,.kg,.kh,.ki,.kj,.km,.l4,.Call,.Entry,.Pass,.Table,.aC,.Shelf,.aS,.shelf] Base.yd none
theorem aj:aX D:=QB (fun c=>by cases c<;>rfl) (fun c=>by cases c<;>rfl)
 (fun c y x h=>by
   cases c<;>first|exact EZ h|(have h:=(Prod.mk.inj h).1;subst h;rfl))
 (fun c f g h=>by
   cases c<;>simp only[EX,Option.some.injEq,Prod.mk.injEq]at h<;>first|(obtain⟨rfl,rfl⟩:=h;exact⟨fun _=>rfl,fun _=>rfl⟩)|cases h)
end Go.V
