/-
  THE DATA: the structs of the program and of the reference as plain types; how they lie in cells.
-/
import Derived.Test.YtjlkjnhhpmoenaaGreatDoorXWcod
import Derived.Test.YtjlkjnhhpmoenaaGreatDoorXWtabs
set_option linter.unusedVariables false
namespace M
inductive ae where
 |mk (Kind:Int) (Name:List UInt8) (aJ:List (List UInt8)) (Kids:List ae)
 deriving Inhabited
def ae.Kind :ae->Int
 | .mk v _ _ _=>v
def ae.Name :ae->List UInt8
 | .mk _ v _ _=>v
def ae.aJ :ae->List (List UInt8)
 | .mk _ _ v _=>v
def ae.Kids :ae->List ae
 | .mk _ _ _ v=>v
def ae.re (x:ae):ae:=ae.mk (ae.Kind x) (ae.Name x) (ae.aJ x) (ae.Kids x)
theorem ae.aT (x:ae):ae.re x=x:=by cases x;rfl
theorem ae.eta (x:ae):ae.mk (ae.Kind x) (ae.Name x) (ae.aJ x) (ae.Kids x)=x:=by cases x;rfl
def ae.zero :ae:=ae.mk 0 [] [] []
inductive af where
 |mk (Kind:Int) (Num:Int) (Text:List UInt8) (Kids:List af)
 deriving Inhabited
def af.Kind :af->Int
 | .mk v _ _ _=>v
def af.Num :af->Int
 | .mk _ v _ _=>v
def af.Text :af->List UInt8
 | .mk _ _ v _=>v
def af.Kids :af->List af
 | .mk _ _ _ v=>v
def af.re (x:af):af:=af.mk (af.Kind x) (af.Num x) (af.Text x) (af.Kids x)
theorem af.aT (x:af):af.re x=x:=by cases x;rfl
theorem af.eta (x:af):af.mk (af.Kind x) (af.Num x) (af.Text x) (af.Kids x)=x:=by cases x;rfl
def af.zero :af:=af.mk 0 0 [] []
structure ah where
 aQ:ae
 Room:Int
 dn:Bool
 Buffer:List af
 Put:Int
 BG:Int
 Shut:Bool
 Gone:Bool
 deriving Inhabited
def ah.re (x:ah):ah:=ah.mk (ae.re (ah.aQ x)) (ah.Room x) (ah.dn x) (ah.Buffer x) (ah.Put x) (ah.BG x) (ah.Shut x) (ah.Gone x)
theorem ah.aT (x:ah):ah.re x=x:=by unfold ah.re;simp only[ae.aT]
def ah.zero :ah:=ah.mk ae.zero 0 false [] 0 0 false false
structure ai where
 Write:Bool
 Close:Bool
 nD:Int
 deriving Inhabited
def ai.zero :ai:=ai.mk false false 0
structure CW where
 code:List UInt8
 at_:Int
 seed:Int
 deriving Inhabited
def CW.zero :CW:=CW.mk [] 0 0
end M
namespace Go.V
open Go M
inductive U where
 |i64 |u8 |i32 |u64 |u32 |u16 |i16 |i8 |str |bool |qE |KI |ET |Jv |WW |aei |Type |Value |Stream |aU |KJ
 deriving DecidableEq
abbrev El : U->Type
 | .i64=>Int
 | .u8=>UInt8
 | .i32=>Int
 | .u64=>Int
 | .u32=>Int
 | .u16=>Int
 | .i16=>Int
 | .i8=>Int
 | .str=>List UInt8
 | .bool=>Bool
 | .qE=>List (ai)
 | .KI=>List (ae)
 | .ET=>List (af)
 | .Jv=>List (Int)
 | .WW=>List (List UInt8)
 | .aei=>List (UInt8)
 | .Type=>ae
 | .Value=>af
 | .Stream=>ah
 | .aU=>ai
 | .KJ=>CW
def Usz : U->Nat
 | .Type=>4
 | .Value=>4
 | .Stream=>11
 | .aU=>3
 | .KJ=>3
 |_=>1
def alU : (c:U)->El c
 | .i64=>(0:Int)
 | .u8=>(0:UInt8)
 | .i32=>(0:Int)
 | .u64=>(0:Int)
 | .u32=>(0:Int)
 | .u16=>(0:Int)
 | .i16=>(0:Int)
 | .i8=>(0:Int)
 | .str=>([]:List UInt8)
 | .bool=>false
 | .qE=>([]:List (ai))
 | .KI=>([]:List (ae))
 | .ET=>([]:List (af))
 | .Jv=>([]:List (Int))
 | .WW=>([]:List (List UInt8))
 | .aei=>([]:List (UInt8))
 | .Type=>ae.zero
 | .Value=>af.zero
 | .Stream=>ah.zero
 | .aU=>ai.zero
 | .KJ=>CW.zero
abbrev K : Aj:={U:=U,El:=El,deq:=inferInstance,sz:=Usz,zero:=alU}
def Ucs : U->List (Sh K)
 | .i64=>[.int .i64]
 | .u8=>[.int .u8]
 | .i32=>[.int .i32]
 | .u64=>[.int .u64]
 | .u32=>[.int .u32]
 | .u16=>[.int .u16]
 | .i16=>[.int .i16]
 | .i8=>[.int .i8]
 | .str=>[.str]
 | .bool=>[.bool]
 | .qE=>[.bV U.aU]
 | .KI=>[.bV U.Type]
 | .ET=>[.bV U.Value]
 | .Jv=>[.bV U.i64]
 | .WW=>[.bV U.str]
 | .aei=>[.bV U.u8]
 | .Type=>[.int .i64, .str, .bV U.str, .bV U.Type]
 | .Value=>[.int .i64, .int .i64, .str, .bV U.Value]
 | .Stream=>[.int .i64, .str, .bV U.str, .bV U.Type, .int .i64, .bool, .bV U.Value, .int .i64, .int .i64, .bool, .bool]
 | .aU=>[.bool, .bool, .int .i64]
 | .KJ=>[.bV U.u8, .int .i64, .int .u64]
def Uun : (c:U)->El c->Sh.Ts (Ucs c)
 | .i64,x=>(x,())
 | .u8,x=>((x.toNat:Int),())
 | .i32,x=>(x,())
 | .u64,x=>(x,())
 | .u32,x=>(x,())
 | .u16,x=>(x,())
 | .i16,x=>(x,())
 | .i8,x=>(x,())
 | .str,x=>(x,())
 | .bool,x=>(x,())
 | .qE,x=>(x,())
 | .KI,x=>(x,())
 | .ET,x=>(x,())
 | .Jv,x=>(x,())
 | .WW,x=>(x,())
 | .aei,x=>(x,())
 | .Type,x=>((ae.Kind x),(ae.Name x),(ae.aJ x),(ae.Kids x),())
 | .Value,x=>((af.Kind x),(af.Num x),(af.Text x),(af.Kids x),())
 | .Stream,x=>((ae.Kind (ah.aQ x)),(ae.Name (ah.aQ x)),(ae.aJ (ah.aQ x)),(ae.Kids (ah.aQ x)),(ah.Room x),(ah.dn x),(ah.Buffer x),(ah.Put x),(ah.BG x),(ah.Shut x),(ah.Gone x),())
 | .aU,x=>((ai.Write x),(ai.Close x),(ai.nD x),())
 | .KJ,x=>((CW.code x),(CW.at_ x),(CW.seed x),())
def Umk : (c:U)->Sh.Ts (Ucs c)->El c×Bool
 | .i64,y=>(y.1,true)
 | .u8,y=>(CS y.1,I8 y.1)
 | .i32,y=>(y.1,true)
 | .u64,y=>(y.1,true)
 | .u32,y=>(y.1,true)
 | .u16,y=>(y.1,true)
 | .i16,y=>(y.1,true)
 | .i8,y=>(y.1,true)
 | .str,y=>(y.1,true)
 | .bool,y=>(y.1,true)
 | .qE,y=>(y.1,true)
 | .KI,y=>(y.1,true)
 | .ET,y=>(y.1,true)
 | .Jv,y=>(y.1,true)
 | .WW,y=>(y.1,true)
 | .aei,y=>(y.1,true)
 | .Type,y=>(ae.mk y.1 y.2.1 y.2.2.1 y.2.2.2.1,true)
 | .Value,y=>(af.mk y.1 y.2.1 y.2.2.1 y.2.2.2.1,true)
 | .Stream,y=>(ah.mk (ae.mk y.1 y.2.1 y.2.2.1 y.2.2.2.1) y.2.2.2.2.1 y.2.2.2.2.2.1 y.2.2.2.2.2.2.1 y.2.2.2.2.2.2.2.1 y.2.2.2.2.2.2.2.2.1 y.2.2.2.2.2.2.2.2.2.1 y.2.2.2.2.2.2.2.2.2.2.1,true)
 | .aU,y=>(ai.mk y.1 y.2.1 y.2.2.1,true)
 | .KJ,y=>(CW.mk y.1 y.2.1 y.2.2.1,true)
def aj2 : (c:U)->Option ((El c->UInt8)×(UInt8->El c))
 | .u8=>some (id,id)
 |_=>none
noncomputable def D :jI K:=aj3 Ucs Umk Uun aj2 [.i64, .str, .bool, .i32, .u64, .u32, .u16, .i16, .i8, .qE, .KI, .ET, .Jv, .WW, .aei, .Type, .Value, .Stream, .aU, .KJ] (ah4 0 1) none
theorem aF : cZ D:=ah5 (fun c=>by cases c<;>rfl) (fun c=>by cases c<;>rfl)
 (fun c y x h=>by
   cases c<;>first |exact afL h |(have h:=(Prod.mk.inj h).1;subst h;rfl))
 (fun c f g h=>by
   cases c<;>simp only[aj2,Option.some.injEq,Prod.mk.injEq] at h<;>first |(obtain ⟨rfl,rfl⟩:=h;exact ⟨fun _=>rfl,fun _=>rfl⟩) |cases h)
end Go.V
