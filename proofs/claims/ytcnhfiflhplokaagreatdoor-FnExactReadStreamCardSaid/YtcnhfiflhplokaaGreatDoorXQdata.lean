/-
  THE DATA: the structs of the program and of the reference as plain types; how they lie in cells.
-/
import Derived.Test.YtcnhfiflhplokaaGreatDoorXWcod
import Derived.Test.YtcnhfiflhplokaaGreatDoorXWtabs
set_option linter.unusedVariables false
namespace M
inductive ae where
 |mk (Kind:Int) (Name:List UInt8) (aQ:List (List UInt8)) (Kids:List ae)
 deriving Inhabited
def ae.Kind :ae->Int
 | .mk v _ _ _=>v
def ae.Name :ae->List UInt8
 | .mk _ v _ _=>v
def ae.aQ :ae->List (List UInt8)
 | .mk _ _ v _=>v
def ae.Kids :ae->List ae
 | .mk _ _ _ v=>v
def ae.re (x:ae):ae:=ae.mk (ae.Kind x) (ae.Name x) (ae.aQ x) (ae.Kids x)
theorem ae.aU (x:ae):ae.re x=x:=by cases x;rfl
theorem ae.eta (x:ae):ae.mk (ae.Kind x) (ae.Name x) (ae.aQ x) (ae.Kids x)=x:=by cases x;rfl
def ae.zero :ae:=ae.mk 0 [] [] []
inductive af where
 |mk (Kind:Int) (Num:Int) (Text:List UInt8) (Kids:List af)
 deriving Inhabited
def af.Kind :af->Int
 | .mk v _ _ _=>v
def af.Num :af->Int
 | .mk _ v _ _=>v
def af.Text :af->List UInt8
 | .mk _ _ v _=>v
def af.Kids :af->List af
 | .mk _ _ _ v=>v
def af.re (x:af):af:=af.mk (af.Kind x) (af.Num x) (af.Text x) (af.Kids x)
theorem af.aU (x:af):af.re x=x:=by cases x;rfl
theorem af.eta (x:af):af.mk (af.Kind x) (af.Num x) (af.Text x) (af.Kids x)=x:=by cases x;rfl
def af.zero :af:=af.mk 0 0 [] []
structure ah where
 cu:ae
 Room:Int
 fB:Bool
 Buffer:List af
 Put:Int
 L9:Int
 Shut:Bool
 Gone:Bool
 deriving Inhabited
def ah.re (x:ah):ah:=ah.mk (ae.re (ah.cu x)) (ah.Room x) (ah.fB x) (ah.Buffer x) (ah.Put x) (ah.L9 x) (ah.Shut x) (ah.Gone x)
theorem ah.aU (x:ah):ah.re x=x:=by unfold ah.re;simp only[ae.aU]
def ah.zero :ah:=ah.mk ae.zero 0 false [] 0 0 false false
structure aK where
 Write:Bool
 Close:Bool
 aeH:Int
 deriving Inhabited
def aK.zero :aK:=aK.mk false false 0
end M
namespace Go.V
open Go M
inductive U where
 |i64 |u8 |i32 |u64 |u32 |u16 |i16 |i8 |str |bool |pq |IE |CQ |GV |Uu |abS |Type |Value |Stream |lI
 deriving DecidableEq
abbrev El : U->Type
 | .i64=>Int
 | .u8=>UInt8
 | .i32=>Int
 | .u64=>Int
 | .u32=>Int
 | .u16=>Int
 | .i16=>Int
 | .i8=>Int
 | .str=>List UInt8
 | .bool=>Bool
 | .pq=>List (aK)
 | .IE=>List (ae)
 | .CQ=>List (af)
 | .GV=>List (Int)
 | .Uu=>List (List UInt8)
 | .abS=>List (UInt8)
 | .Type=>ae
 | .Value=>af
 | .Stream=>ah
 | .lI=>aK
def Usz : U->Nat
 | .Type=>4
 | .Value=>4
 | .Stream=>11
 | .lI=>3
 |_=>1
def ai4 : (c:U)->El c
 | .i64=>(0:Int)
 | .u8=>(0:UInt8)
 | .i32=>(0:Int)
 | .u64=>(0:Int)
 | .u32=>(0:Int)
 | .u16=>(0:Int)
 | .i16=>(0:Int)
 | .i8=>(0:Int)
 | .str=>([]:List UInt8)
 | .bool=>false
 | .pq=>([]:List (aK))
 | .IE=>([]:List (ae))
 | .CQ=>([]:List (af))
 | .GV=>([]:List (Int))
 | .Uu=>([]:List (List UInt8))
 | .abS=>([]:List (UInt8))
 | .Type=>ae.zero
 | .Value=>af.zero
 | .Stream=>ah.zero
 | .lI=>aK.zero
abbrev K : yG:={U:=U,El:=El,deq:=inferInstance,sz:=Usz,zero:=ai4}
def Ucs : U->List (Sh K)
 | .i64=>[.int .i64]
 | .u8=>[.int .u8]
 | .i32=>[.int .i32]
 | .u64=>[.int .u64]
 | .u32=>[.int .u32]
 | .u16=>[.int .u16]
 | .i16=>[.int .i16]
 | .i8=>[.int .i8]
 | .str=>[.str]
 | .bool=>[.bool]
 | .pq=>[.cO U.lI]
 | .IE=>[.cO U.Type]
 | .CQ=>[.cO U.Value]
 | .GV=>[.cO U.i64]
 | .Uu=>[.cO U.str]
 | .abS=>[.cO U.u8]
 | .Type=>[.int .i64, .str, .cO U.str, .cO U.Type]
 | .Value=>[.int .i64, .int .i64, .str, .cO U.Value]
 | .Stream=>[.int .i64, .str, .cO U.str, .cO U.Type, .int .i64, .bool, .cO U.Value, .int .i64, .int .i64, .bool, .bool]
 | .lI=>[.bool, .bool, .int .i64]
def Uun : (c:U)->El c->Sh.Ts (Ucs c)
 | .i64,x=>(x,())
 | .u8,x=>((x.toNat:Int),())
 | .i32,x=>(x,())
 | .u64,x=>(x,())
 | .u32,x=>(x,())
 | .u16,x=>(x,())
 | .i16,x=>(x,())
 | .i8,x=>(x,())
 | .str,x=>(x,())
 | .bool,x=>(x,())
 | .pq,x=>(x,())
 | .IE,x=>(x,())
 | .CQ,x=>(x,())
 | .GV,x=>(x,())
 | .Uu,x=>(x,())
 | .abS,x=>(x,())
 | .Type,x=>((ae.Kind x),(ae.Name x),(ae.aQ x),(ae.Kids x),())
 | .Value,x=>((af.Kind x),(af.Num x),(af.Text x),(af.Kids x),())
 | .Stream,x=>((ae.Kind (ah.cu x)),(ae.Name (ah.cu x)),(ae.aQ (ah.cu x)),(ae.Kids (ah.cu x)),(ah.Room x),(ah.fB x),(ah.Buffer x),(ah.Put x),(ah.L9 x),(ah.Shut x),(ah.Gone x),())
 | .lI,x=>((aK.Write x),(aK.Close x),(aK.aeH x),())
def Umk : (c:U)->Sh.Ts (Ucs c)->El c×Bool
 | .i64,y=>(y.1,true)
 | .u8,y=>(Ae y.1,Gh y.1)
 | .i32,y=>(y.1,true)
 | .u64,y=>(y.1,true)
 | .u32,y=>(y.1,true)
 | .u16,y=>(y.1,true)
 | .i16,y=>(y.1,true)
 | .i8,y=>(y.1,true)
 | .str,y=>(y.1,true)
 | .bool,y=>(y.1,true)
 | .pq,y=>(y.1,true)
 | .IE,y=>(y.1,true)
 | .CQ,y=>(y.1,true)
 | .GV,y=>(y.1,true)
 | .Uu,y=>(y.1,true)
 | .abS,y=>(y.1,true)
 | .Type,y=>(ae.mk y.1 y.2.1 y.2.2.1 y.2.2.2.1,true)
 | .Value,y=>(af.mk y.1 y.2.1 y.2.2.1 y.2.2.2.1,true)
 | .Stream,y=>(ah.mk (ae.mk y.1 y.2.1 y.2.2.1 y.2.2.2.1) y.2.2.2.2.1 y.2.2.2.2.2.1 y.2.2.2.2.2.2.1 y.2.2.2.2.2.2.2.1 y.2.2.2.2.2.2.2.2.1 y.2.2.2.2.2.2.2.2.2.1 y.2.2.2.2.2.2.2.2.2.2.1,true)
 | .lI,y=>(aK.mk y.1 y.2.1 y.2.2.1,true)
def ahc : (c:U)->Option ((El c->UInt8)×(UInt8->El c))
 | .u8=>some (id,id)
 |_=>none
noncomputable def D :jl K:=ahd Ucs Umk Uun ahc [.i64, .str, .bool, .i32, .u64, .u32, .u16, .i16, .i8, .pq, .IE, .CQ, .GV, .Uu, .abS, .Type, .Value, .Stream, .lI] (afx 0 1) none
theorem aH : bU D:=afy (fun c=>by cases c<;>rfl) (fun c=>by cases c<;>rfl)
 (fun c y x h=>by
   cases c<;>first |exact adp h |(have h:=(Prod.mk.inj h).1;subst h;rfl))
 (fun c f g h=>by
   cases c<;>simp only[ahc,Option.some.injEq,Prod.mk.injEq] at h<;>first |(obtain ⟨rfl,rfl⟩:=h;exact ⟨fun _=>rfl,fun _=>rfl⟩) |cases h)
end Go.V
