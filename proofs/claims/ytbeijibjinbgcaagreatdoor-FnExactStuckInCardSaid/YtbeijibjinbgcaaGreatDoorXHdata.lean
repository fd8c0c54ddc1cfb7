/-
  THE DATA: the structs of the program and of the reference as plain types; how they lie in cells.
-/
import Derived.Test.YtbeijibjinbgcaaGreatDoorXWcod
import Derived.Test.YtbeijibjinbgcaaGreatDoorXWtabs
set_option linter.unusedVariables false
namespace M
structure aw where
 Kind:Int
 A:Int
 B:Int
 deriving Inhabited
def aw.zero:aw:=aw.mk 0 0 0
structure az where
 Task:Int
 Kind:Int
 A:Int
 B:Int
 deriving Inhabited
def az.zero:az:=az.mk 0 0 0 0
structure ar where
 dQ:Int
 Ops:List aw
 deriving Inhabited
def ar.zero:ar:=ar.mk 0 []
inductive aa where
 |mk (Kind:Int) (Name:List UInt8) (bY:List (List UInt8)) (Kids:List aa)
 deriving Inhabited
def aa.Kind:aa->Int
 |.mk v _ _ _=>v
def aa.Name:aa->List UInt8
 |.mk _ v _ _=>v
def aa.bY:aa->List (List UInt8)
 |.mk _ _ v _=>v
def aa.Kids:aa->List aa
 |.mk _ _ _ v=>v
def aa.re(x:aa):aa:=aa.mk (aa.Kind x) (aa.Name x) (aa.bY x) (aa.Kids x)
theorem aa.aG(x:aa):aa.re x=x:=by cases x;rfl
theorem aa.eta(x:aa):aa.mk (aa.Kind x) (aa.Name x) (aa.bY x) (aa.Kids x)=x:=by cases x;rfl
def aa.zero:aa:=aa.mk 0 [] [] []
inductive af where
 |mk (Kind:Int) (Num:Int) (Text:List UInt8) (Kids:List af)
 deriving Inhabited
def af.Kind:af->Int
 |.mk v _ _ _=>v
def af.Num:af->Int
 |.mk _ v _ _=>v
def af.Text:af->List UInt8
 |.mk _ _ v _=>v
def af.Kids:af->List af
 |.mk _ _ _ v=>v
def af.re(x:af):af:=af.mk (af.Kind x) (af.Num x) (af.Text x) (af.Kids x)
theorem af.aG(x:af):af.re x=x:=by cases x;rfl
theorem af.eta(x:af):af.mk (af.Kind x) (af.Num x) (af.Text x) (af.Kids x)=x:=by cases x;rfl
def af.zero:af:=af.mk 0 0 [] []
structure ae where
 cq:aa
 Room:Int
 cR:Bool
 Buffer:List af
 Put:Int
 dz:Int
 Shut:Bool
 Gone:Bool
 deriving Inhabited
def ae.re(x:ae):ae:=ae.mk (aa.re (ae.cq x)) (ae.Room x) (ae.cR x) (ae.Buffer x) (ae.Put x) (ae.dz x) (ae.Shut x) (ae.Gone x)
theorem ae.aG(x:ae):ae.re x=x:=by unfold ae.re;simp only[aa.aG]
def ae.zero:ae:=ae.mk aa.zero 0 false [] 0 0 false false
structure ad where
 Id:Int
 Prog:Int
 PC:Int
 dy:Int
 Status:Int
 Result:Int
 bU:Bool
 Asked:Bool
 Told:Bool
 bg:List Int
 Set:List Int
 deriving Inhabited
def ad.zero:ad:=ad.mk 0 0 0 0 0 0 false false false [] []
structure ai where
 aT:List ar
 aX:List ae
 aC:List ad
 Back:List Int
 Notes:List az
 deriving Inhabited
def ai.zero:ai:=ai.mk [] [] [] [] []
structure bh where
 Async:ai
 deriving Inhabited
def bh.zero:bh:=bh.mk ai.zero
end M
namespace Go.V
open Go M
inductive U where
 |i64|u8|i32|u64|u32|u16|i16|i8|str|bool|pz|py|pv|pw|px|pA|pB|ka|rx|ry|cu|Note|Prog|Type|Value|Stream|Task|Async|async
 deriving DecidableEq
abbrev El:U->Type
 |.i64=>Int
 |.u8=>UInt8
 |.i32=>Int
 |.u64=>Int
 |.u32=>Int
 |.u16=>Int
 |.i16=>Int
 |.i8=>Int
 |.str=>List UInt8
 |.bool=>Bool
 |.pz=>List (aw)
 |.py=>List (az)
 |.pv=>List (ar)
 |.pw=>List (ae)
 |.px=>List (ad)
 |.pA=>List (aa)
 |.pB=>List (af)
 |.ka=>List (Int)
 |.rx=>List (List UInt8)
 |.ry=>List (UInt8)
 |.cu=>aw
 |.Note=>az
 |.Prog=>ar
 |.Type=>aa
 |.Value=>af
 |.Stream=>ae
 |.Task=>ad
 |.Async=>ai
 |.async=>bh
def HS:U->Nat
 |.cu=>3
 |.Note=>4
 |.Prog=>2
 |.Type=>4
 |.Value=>4
 |.Stream=>11
 |.Task=>11
 |.Async=>5
 |.async=>5
 |_=>1
def aiX:(c:U)->El c
 |.i64=>(0:Int)
 |.u8=>(0:UInt8)
 |.i32=>(0:Int)
 |.u64=>(0:Int)
 |.u32=>(0:Int)
 |.u16=>(0:Int)
 |.i16=>(0:Int)
 |.i8=>(0:Int)
 |.str=>([]:List UInt8)
 |.bool=>false
 |.pz=>([]:List (aw))
 |.py=>([]:List (az))
 |.pv=>([]:List (ar))
 |.pw=>([]:List (ae))
 |.px=>([]:List (ad))
 |.pA=>([]:List (aa))
 |.pB=>([]:List (af))
 |.ka=>([]:List (Int))
 |.rx=>([]:List (List UInt8))
 |.ry=>([]:List (UInt8))
 |.cu=>aw.zero
 |.Note=>az.zero
 |.Prog=>ar.zero
 |.Type=>aa.zero
 |.Value=>af.zero
 |.Stream=>ae.zero
 |.Task=>ad.zero
 |.Async=>ai.zero
 |.async=>bh.zero
abbrev K:cA:={U:=U,El:=El,ig:=inferInstance,sz:=HS,zero:=aiX}
def iF:U->List (Sh K)
 |.i64=>[.int .i64]
 |.u8=>[.int .u8]
 |.i32=>[.int .i32]
 |.u64=>[.int .u64]
 |.u32=>[.int .u32]
 |.u16=>[.int .u16]
 |.i16=>[.int .i16]
 |.i8=>[.int .i8]
 |.str=>[.str]
 |.bool=>[.bool]
 |.pz=>[.ah U.cu]
 |.py=>[.ah U.Note]
 |.pv=>[.ah U.Prog]
 |.pw=>[.ah U.Stream]
 |.px=>[.ah U.Task]
 |.pA=>[.ah U.Type]
 |.pB=>[.ah U.Value]
 |.ka=>[.ah U.i64]
 |.rx=>[.ah U.str]
 |.ry=>[.ah U.u8]
 |.cu=>[.int .i64,.int .i64,.int .i64]
 |.Note=>[.int .i64,.int .i64,.int .i64,.int .i64]
 |.Prog=>[.int .i64,.ah U.cu]
 |.Type=>[.int .i64,.str,.ah U.str,.ah U.Type]
 |.Value=>[.int .i64,.int .i64,.str,.ah U.Value]
 |.Stream=>[.int .i64,.str,.ah U.str,.ah U.Type,.int .i64,.bool,.ah U.Value,.int .i64,.int .i64,.bool,.bool]
 |.Task=>[.int .i64,.int .i64,.int .i64,.int .i64,.int .i64,.int .i64,.bool,.bool,.bool,.ah U.i64,.ah U.i64]
 |.Async=>[.ah U.Prog,.ah U.Stream,.ah U.Task,.ah U.i64,.ah U.Note]
 |.async=>[.ah U.Prog,.ah U.Stream,.ah U.Task,.ah U.i64,.ah U.Note]
def r0:(c:U)->El c->Sh.Ts (iF c)
 |.i64,x=>(x,())
 |.u8,x=>((x.toNat:Int),())
 |.i32,x=>(x,())
 |.u64,x=>(x,())
 |.u32,x=>(x,())
 |.u16,x=>(x,())
 |.i16,x=>(x,())
 |.i8,x=>(x,())
 |.str,x=>(x,())
 |.bool,x=>(x,())
 |.pz,x=>(x,())
 |.py,x=>(x,())
 |.pv,x=>(x,())
 |.pw,x=>(x,())
 |.px,x=>(x,())
 |.pA,x=>(x,())
 |.pB,x=>(x,())
 |.ka,x=>(x,())
 |.rx,x=>(x,())
 |.ry,x=>(x,())
 |.cu,x=>((aw.Kind x),(aw.A x),(aw.B x),())
 |.Note,x=>((az.Task x),(az.Kind x),(az.A x),(az.B x),())
 |.Prog,x=>((ar.dQ x),(ar.Ops x),())
 |.Type,x=>((aa.Kind x),(aa.Name x),(aa.bY x),(aa.Kids x),())
 |.Value,x=>((af.Kind x),(af.Num x),(af.Text x),(af.Kids x),())
 |.Stream,x=>((aa.Kind (ae.cq x)),(aa.Name (ae.cq x)),(aa.bY (ae.cq x)),(aa.Kids (ae.cq x)),(ae.Room x),(ae.cR x),(ae.Buffer x),(ae.Put x),(ae.dz x),(ae.Shut x),(ae.Gone x),())
 |.Task,x=>((ad.Id x),(ad.Prog x),(ad.PC x),(ad.dy x),(ad.Status x),(ad.Result x),(ad.bU x),(ad.Asked x),(ad.Told x),(ad.bg x),(ad.Set x),())
 |.Async,x=>((ai.aT x),(ai.aX x),(ai.aC x),(ai.Back x),(ai.Notes x),())
 |.async,x=>((ai.aT (bh.Async x)),(ai.aX (bh.Async x)),(ai.aC (bh.Async x)),(ai.Back (bh.Async x)),(ai.Notes (bh.Async x)),())
def iV:(c:U)->Sh.Ts (iF c)->El c×Bool
 |.i64,y=>(y.1,true)
 |.u8,y=>(fy y.1,iz y.1)
 |.i32,y=>(y.1,true)
 |.u64,y=>(y.1,true)
 |.u32,y=>(y.1,true)
 |.u16,y=>(y.1,true)
 |.i16,y=>(y.1,true)
 |.i8,y=>(y.1,true)
 |.str,y=>(y.1,true)
 |.bool,y=>(y.1,true)
 |.pz,y=>(y.1,true)
 |.py,y=>(y.1,true)
 |.pv,y=>(y.1,true)
 |.pw,y=>(y.1,true)
 |.px,y=>(y.1,true)
 |.pA,y=>(y.1,true)
 |.pB,y=>(y.1,true)
 |.ka,y=>(y.1,true)
 |.rx,y=>(y.1,true)
 |.ry,y=>(y.1,true)
 |.cu,y=>(aw.mk y.1 y.2.1 y.2.2.1,true)
 |.Note,y=>(az.mk y.1 y.2.1 y.2.2.1 y.2.2.2.1,true)
 |.Prog,y=>(ar.mk y.1 y.2.1,true)
 |.Type,y=>(aa.mk y.1 y.2.1 y.2.2.1 y.2.2.2.1,true)
 |.Value,y=>(af.mk y.1 y.2.1 y.2.2.1 y.2.2.2.1,true)
 |.Stream,y=>(ae.mk (aa.mk y.1 y.2.1 y.2.2.1 y.2.2.2.1) y.2.2.2.2.1 y.2.2.2.2.2.1 y.2.2.2.2.2.2.1 y.2.2.2.2.2.2.2.1 y.2.2.2.2.2.2.2.2.1 y.2.2.2.2.2.2.2.2.2.1 y.2.2.2.2.2.2.2.2.2.2.1,true)
 |.Task,y=>(ad.mk y.1 y.2.1 y.2.2.1 y.2.2.2.1 y.2.2.2.2.1 y.2.2.2.2.2.1 y.2.2.2.2.2.2.1 y.2.2.2.2.2.2.2.1 y.2.2.2.2.2.2.2.2.1 y.2.2.2.2.2.2.2.2.2.1 y.2.2.2.2.2.2.2.2.2.2.1,true)
 |.Async,y=>(ai.mk y.1 y.2.1 y.2.2.1 y.2.2.2.1 y.2.2.2.2.1,true)
 |.async,y=>(bh.mk (ai.mk y.1 y.2.1 y.2.2.1 y.2.2.2.1 y.2.2.2.2.1),true)
def UO:(c:U)->Option ((El c->UInt8)×(UInt8->El c))
 |.u8=>some (id,id)
 |_=>none
noncomputable def D:bj K:=UP iF iV r0 UO [.i64,.str,.bool,.i32,.u64,.u32,.u16,.i16,.i8,.pz,.py,.pv,.pw,.px,.pA,.pB,.ka,.rx,.ry,.cu,.Note,.Prog,.Type,.Value,.Stream,.Task,.Async,.async] (aiY 0 1) none
theorem aj:bo D:=aiZ (fun c=>by cases c<;>rfl) (fun c=>by cases c<;>rfl)
 (fun c y x h=>by
   cases c<;>first|exact UQ h|(have h:=(Prod.mk.inj h).1;subst h;rfl))
 (fun c f g h=>by
   cases c<;>simp only[UO,av,bc]at h<;>first|(obtain⟨rfl,rfl⟩:=h;exact⟨fun _=>rfl,fun _=>rfl⟩)|cases h)
end Go.V
