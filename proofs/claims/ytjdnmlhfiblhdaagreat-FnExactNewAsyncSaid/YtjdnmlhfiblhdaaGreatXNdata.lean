/-
  THE DATA: the structs of the program and of the reference as plain types; how they lie in cells.
-/
import Derived.Test.YtjdnmlhfiblhdaaGreatXWcod
set_option linter.unusedVariables false
namespace M
structure aT where
 Kind:Int
 A:Int
 B:Int
 deriving Inhabited
def aT.zero :aT:=aT.mk 0 0 0
structure aK where
 Task:Int
 Kind:Int
 A:Int
 B:Int
 deriving Inhabited
def aK.zero :aK:=aK.mk 0 0 0 0
structure ak where
 Ai:Int
 Ops:List aT
 deriving Inhabited
def ak.zero :ak:=ak.mk 0 []
inductive ae where
 |mk (Kind:Int) (Name:List UInt8) (bV:List (List UInt8)) (Kids:List ae)
 deriving Inhabited
def ae.Kind :ae->Int
 | .mk v _ _ _=>v
def ae.Name :ae->List UInt8
 | .mk _ v _ _=>v
def ae.bV :ae->List (List UInt8)
 | .mk _ _ v _=>v
def ae.Kids :ae->List ae
 | .mk _ _ _ v=>v
def ae.re (x:ae):ae:=ae.mk (ae.Kind x) (ae.Name x) (ae.bV x) (ae.Kids x)
theorem ae.bI (x:ae):ae.re x=x:=by cases x;rfl
theorem ae.eta (x:ae):ae.mk (ae.Kind x) (ae.Name x) (ae.bV x) (ae.Kids x)=x:=by cases x;rfl
def ae.zero :ae:=ae.mk 0 [] [] []
inductive ah where
 |mk (Kind:Int) (Num:Int) (Text:List UInt8) (Kids:List ah)
 deriving Inhabited
def ah.Kind :ah->Int
 | .mk v _ _ _=>v
def ah.Num :ah->Int
 | .mk _ v _ _=>v
def ah.Text :ah->List UInt8
 | .mk _ _ v _=>v
def ah.Kids :ah->List ah
 | .mk _ _ _ v=>v
def ah.re (x:ah):ah:=ah.mk (ah.Kind x) (ah.Num x) (ah.Text x) (ah.Kids x)
theorem ah.bI (x:ah):ah.re x=x:=by cases x;rfl
theorem ah.eta (x:ah):ah.mk (ah.Kind x) (ah.Num x) (ah.Text x) (ah.Kids x)=x:=by cases x;rfl
def ah.zero :ah:=ah.mk 0 0 [] []
structure af where
 iw:ae
 Room:Int
 rX:Bool
 Buffer:List ah
 Put:Int
 ZC:Int
 Shut:Bool
 Gone:Bool
 deriving Inhabited
def af.re (x:af):af:=af.mk (ae.re (af.iw x)) (af.Room x) (af.rX x) (af.Buffer x) (af.Put x) (af.ZC x) (af.Shut x) (af.Gone x)
theorem af.bI (x:af):af.re x=x:=by unfold af.re;simp only[ae.bI]
def af.zero :af:=af.mk ae.zero 0 false [] 0 0 false false
structure aj where
 Id:Int
 Prog:Int
 PC:Int
 qN:Int
 Status:Int
 Result:Int
 kX:Bool
 Asked:Bool
 Told:Bool
 EG:List Int
 Set:List Int
 deriving Inhabited
def aj.zero :aj:=aj.mk 0 0 0 0 0 0 false false false [] []
structure aX where
 qp:List ak
 gW:List af
 BA:List aj
 Back:List Int
 Notes:List aK
 deriving Inhabited
def aX.zero :aX:=aX.mk [] [] [] [] []
end M
namespace Go.V
open Go M
inductive U where
 |i64 |u8 |i32 |u64 |u32 |u16 |i16 |i8 |str |bool |SK |NM |Jn |BB |NL |NP |GR |Ih |U9 |abv |rP |Note |Prog |Type |Value |Stream |Task |Async
 deriving DecidableEq
abbrev El : U->Type
 | .i64=>Int
 | .u8=>UInt8
 | .i32=>Int
 | .u64=>Int
 | .u32=>Int
 | .u16=>Int
 | .i16=>Int
 | .i8=>Int
 | .str=>List UInt8
 | .bool=>Bool
 | .SK=>List (aT)
 | .NM=>List (aK)
 | .Jn=>List (ak)
 | .BB=>List (af)
 | .NL=>List (aj)
 | .NP=>List (ae)
 | .GR=>List (ah)
 | .Ih=>List (Int)
 | .U9=>List (List UInt8)
 | .abv=>List (UInt8)
 | .rP=>aT
 | .Note=>aK
 | .Prog=>ak
 | .Type=>ae
 | .Value=>ah
 | .Stream=>af
 | .Task=>aj
 | .Async=>aX
def Usz : U->Nat
 | .rP=>3
 | .Note=>4
 | .Prog=>2
 | .Type=>4
 | .Value=>4
 | .Stream=>11
 | .Task=>11
 | .Async=>5
 |_=>1
def ag8 : (c:U)->El c
 | .i64=>(0:Int)
 | .u8=>(0:UInt8)
 | .i32=>(0:Int)
 | .u64=>(0:Int)
 | .u32=>(0:Int)
 | .u16=>(0:Int)
 | .i16=>(0:Int)
 | .i8=>(0:Int)
 | .str=>([]:List UInt8)
 | .bool=>false
 | .SK=>([]:List (aT))
 | .NM=>([]:List (aK))
 | .Jn=>([]:List (ak))
 | .BB=>([]:List (af))
 | .NL=>([]:List (aj))
 | .NP=>([]:List (ae))
 | .GR=>([]:List (ah))
 | .Ih=>([]:List (Int))
 | .U9=>([]:List (List UInt8))
 | .abv=>([]:List (UInt8))
 | .rP=>aT.zero
 | .Note=>aK.zero
 | .Prog=>ak.zero
 | .Type=>ae.zero
 | .Value=>ah.zero
 | .Stream=>af.zero
 | .Task=>aj.zero
 | .Async=>aX.zero
abbrev K : yG:={U:=U,El:=El,deq:=inferInstance,sz:=Usz,zero:=ag8}
def Ucs : U->List (Sh K)
 | .i64=>[.int .i64]
 | .u8=>[.int .u8]
 | .i32=>[.int .i32]
 | .u64=>[.int .u64]
 | .u32=>[.int .u32]
 | .u16=>[.int .u16]
 | .i16=>[.int .i16]
 | .i8=>[.int .i8]
 | .str=>[.str]
 | .bool=>[.bool]
 | .SK=>[.bD U.rP]
 | .NM=>[.bD U.Note]
 | .Jn=>[.bD U.Prog]
 | .BB=>[.bD U.Stream]
 | .NL=>[.bD U.Task]
 | .NP=>[.bD U.Type]
 | .GR=>[.bD U.Value]
 | .Ih=>[.bD U.i64]
 | .U9=>[.bD U.str]
 | .abv=>[.bD U.u8]
 | .rP=>[.int .i64, .int .i64, .int .i64]
 | .Note=>[.int .i64, .int .i64, .int .i64, .int .i64]
 | .Prog=>[.int .i64, .bD U.rP]
 | .Type=>[.int .i64, .str, .bD U.str, .bD U.Type]
 | .Value=>[.int .i64, .int .i64, .str, .bD U.Value]
 | .Stream=>[.int .i64, .str, .bD U.str, .bD U.Type, .int .i64, .bool, .bD U.Value, .int .i64, .int .i64, .bool, .bool]
 | .Task=>[.int .i64, .int .i64, .int .i64, .int .i64, .int .i64, .int .i64, .bool, .bool, .bool, .bD U.i64, .bD U.i64]
 | .Async=>[.bD U.Prog, .bD U.Stream, .bD U.Task, .bD U.i64, .bD U.Note]
def Uun : (c:U)->El c->Sh.Ts (Ucs c)
 | .i64,x=>(x,())
 | .u8,x=>((x.toNat:Int),())
 | .i32,x=>(x,())
 | .u64,x=>(x,())
 | .u32,x=>(x,())
 | .u16,x=>(x,())
 | .i16,x=>(x,())
 | .i8,x=>(x,())
 | .str,x=>(x,())
 | .bool,x=>(x,())
 | .SK,x=>(x,())
 | .NM,x=>(x,())
 | .Jn,x=>(x,())
 | .BB,x=>(x,())
 | .NL,x=>(x,())
 | .NP,x=>(x,())
 | .GR,x=>(x,())
 | .Ih,x=>(x,())
 | .U9,x=>(x,())
 | .abv,x=>(x,())
 | .rP,x=>((aT.Kind x),(aT.A x),(aT.B x),())
 | .Note,x=>((aK.Task x),(aK.Kind x),(aK.A x),(aK.B x),())
 | .Prog,x=>((ak.Ai x),(ak.Ops x),())
 | .Type,x=>((ae.Kind x),(ae.Name x),(ae.bV x),(ae.Kids x),())
 | .Value,x=>((ah.Kind x),(ah.Num x),(ah.Text x),(ah.Kids x),())
 | .Stream,x=>((ae.Kind (af.iw x)),(ae.Name (af.iw x)),(ae.bV (af.iw x)),(ae.Kids (af.iw x)),(af.Room x),(af.rX x),(af.Buffer x),(af.Put x),(af.ZC x),(af.Shut x),(af.Gone x),())
 | .Task,x=>((aj.Id x),(aj.Prog x),(aj.PC x),(aj.qN x),(aj.Status x),(aj.Result x),(aj.kX x),(aj.Asked x),(aj.Told x),(aj.EG x),(aj.Set x),())
 | .Async,x=>((aX.qp x),(aX.gW x),(aX.BA x),(aX.Back x),(aX.Notes x),())
def Umk : (c:U)->Sh.Ts (Ucs c)->El c×Bool
 | .i64,y=>(y.1,true)
 | .u8,y=>(ade y.1,abr y.1)
 | .i32,y=>(y.1,true)
 | .u64,y=>(y.1,true)
 | .u32,y=>(y.1,true)
 | .u16,y=>(y.1,true)
 | .i16,y=>(y.1,true)
 | .i8,y=>(y.1,true)
 | .str,y=>(y.1,true)
 | .bool,y=>(y.1,true)
 | .SK,y=>(y.1,true)
 | .NM,y=>(y.1,true)
 | .Jn,y=>(y.1,true)
 | .BB,y=>(y.1,true)
 | .NL,y=>(y.1,true)
 | .NP,y=>(y.1,true)
 | .GR,y=>(y.1,true)
 | .Ih,y=>(y.1,true)
 | .U9,y=>(y.1,true)
 | .abv,y=>(y.1,true)
 | .rP,y=>(aT.mk y.1 y.2.1 y.2.2.1,true)
 | .Note,y=>(aK.mk y.1 y.2.1 y.2.2.1 y.2.2.2.1,true)
 | .Prog,y=>(ak.mk y.1 y.2.1,true)
 | .Type,y=>(ae.mk y.1 y.2.1 y.2.2.1 y.2.2.2.1,true)
 | .Value,y=>(ah.mk y.1 y.2.1 y.2.2.1 y.2.2.2.1,true)
 | .Stream,y=>(af.mk (ae.mk y.1 y.2.1 y.2.2.1 y.2.2.2.1) y.2.2.2.2.1 y.2.2.2.2.2.1 y.2.2.2.2.2.2.1 y.2.2.2.2.2.2.2.1 y.2.2.2.2.2.2.2.2.1 y.2.2.2.2.2.2.2.2.2.1 y.2.2.2.2.2.2.2.2.2.2.1,true)
 | .Task,y=>(aj.mk y.1 y.2.1 y.2.2.1 y.2.2.2.1 y.2.2.2.2.1 y.2.2.2.2.2.1 y.2.2.2.2.2.2.1 y.2.2.2.2.2.2.2.1 y.2.2.2.2.2.2.2.2.1 y.2.2.2.2.2.2.2.2.2.1 y.2.2.2.2.2.2.2.2.2.2.1,true)
 | .Async,y=>(aX.mk y.1 y.2.1 y.2.2.1 y.2.2.2.1 y.2.2.2.2.1,true)
def af0 : (c:U)->Option ((El c->UInt8)×(UInt8->El c))
 | .u8=>some (id,id)
 |_=>none
noncomputable def D :iV K:=af1 Ucs Umk Uun af0 [.i64, .str, .bool, .i32, .u64, .u32, .u16, .i16, .i8, .SK, .NM, .Jn, .BB, .NL, .NP, .GR, .Ih, .U9, .abv, .rP, .Note, .Prog, .Type, .Value, .Stream, .Task, .Async] Base.agu none
theorem aG : bQ D:=aeq (fun c=>by cases c<;>rfl) (fun c=>by cases c<;>rfl)
 (fun c y x h=>by
   cases c<;>first |exact acG h |(have h:=(Prod.mk.inj h).1;subst h;rfl))
 (fun c f g h=>by
   cases c<;>simp only[af0,Option.some.injEq,Prod.mk.injEq] at h<;>first |(obtain ⟨rfl,rfl⟩:=h;exact ⟨fun _=>rfl,fun _=>rfl⟩) |cases h)
end Go.V
