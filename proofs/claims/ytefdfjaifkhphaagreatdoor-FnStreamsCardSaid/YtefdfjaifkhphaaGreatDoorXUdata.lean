/-
  THE DATA: the structs of the program and of the reference as plain types; how they lie in cells.
-/
import Derived.Test.YtefdfjaifkhphaaGreatDoorXWcod
import Derived.Test.YtefdfjaifkhphaaGreatDoorXWtabs
set_option linter.unusedVariables false
namespace M
inductive ae where
 |mk (Kind:Int) (Name:List UInt8) (aQ:List (List UInt8)) (Kids:List ae)
 deriving Inhabited
def ae.Kind :ae->Int
 | .mk v _ _ _=>v
def ae.Name :ae->List UInt8
 | .mk _ v _ _=>v
def ae.aQ :ae->List (List UInt8)
 | .mk _ _ v _=>v
def ae.Kids :ae->List ae
 | .mk _ _ _ v=>v
def ae.re (x:ae):ae:=ae.mk (ae.Kind x) (ae.Name x) (ae.aQ x) (ae.Kids x)
theorem ae.bM (x:ae):ae.re x=x:=by cases x;rfl
theorem ae.eta (x:ae):ae.mk (ae.Kind x) (ae.Name x) (ae.aQ x) (ae.Kids x)=x:=by cases x;rfl
def ae.zero :ae:=ae.mk 0 [] [] []
inductive af where
 |mk (Kind:Int) (Num:Int) (Text:List UInt8) (Kids:List af)
 deriving Inhabited
def af.Kind :af->Int
 | .mk v _ _ _=>v
def af.Num :af->Int
 | .mk _ v _ _=>v
def af.Text :af->List UInt8
 | .mk _ _ v _=>v
def af.Kids :af->List af
 | .mk _ _ _ v=>v
def af.re (x:af):af:=af.mk (af.Kind x) (af.Num x) (af.Text x) (af.Kids x)
theorem af.bM (x:af):af.re x=x:=by cases x;rfl
theorem af.eta (x:af):af.mk (af.Kind x) (af.Num x) (af.Text x) (af.Kids x)=x:=by cases x;rfl
def af.zero :af:=af.mk 0 0 [] []
structure ah where
 aO:ae
 Room:Int
 bu:Bool
 Buffer:List af
 Put:Int
 qM:Int
 Shut:Bool
 Gone:Bool
 deriving Inhabited
def ah.re (x:ah):ah:=ah.mk (ae.re (ah.aO x)) (ah.Room x) (ah.bu x) (ah.Buffer x) (ah.Put x) (ah.qM x) (ah.Shut x) (ah.Gone x)
theorem ah.bM (x:ah):ah.re x=x:=by unfold ah.re;simp only[ae.bM]
def ah.zero :ah:=ah.mk ae.zero 0 false [] 0 0 false false
structure dZ where
 Write:Bool
 Close:Bool
 XV:Int
 deriving Inhabited
def dZ.zero :dZ:=dZ.mk false false 0
structure ak where
 code:List UInt8
 at_:Int
 seed:Int
 deriving Inhabited
def ak.zero :ak:=ak.mk [] 0 0
end M
namespace Go.V
open Go M
inductive U where
 |i64 |u8 |i32 |u64 |u32 |u16 |i16 |i8 |str |bool |qm |KT |EY |Gg |TV |aaS |Type |Value |Stream |pM |bW
 deriving DecidableEq
abbrev El : U->Type
 | .i64=>Int
 | .u8=>UInt8
 | .i32=>Int
 | .u64=>Int
 | .u32=>Int
 | .u16=>Int
 | .i16=>Int
 | .i8=>Int
 | .str=>List UInt8
 | .bool=>Bool
 | .qm=>List (dZ)
 | .KT=>List (ae)
 | .EY=>List (af)
 | .Gg=>List (Int)
 | .TV=>List (List UInt8)
 | .aaS=>List (UInt8)
 | .Type=>ae
 | .Value=>af
 | .Stream=>ah
 | .pM=>dZ
 | .bW=>ak
def Usz : U->Nat
 | .Type=>4
 | .Value=>4
 | .Stream=>11
 | .pM=>3
 | .bW=>3
 |_=>1
def ahN : (c:U)->El c
 | .i64=>(0:Int)
 | .u8=>(0:UInt8)
 | .i32=>(0:Int)
 | .u64=>(0:Int)
 | .u32=>(0:Int)
 | .u16=>(0:Int)
 | .i16=>(0:Int)
 | .i8=>(0:Int)
 | .str=>([]:List UInt8)
 | .bool=>false
 | .qm=>([]:List (dZ))
 | .KT=>([]:List (ae))
 | .EY=>([]:List (af))
 | .Gg=>([]:List (Int))
 | .TV=>([]:List (List UInt8))
 | .aaS=>([]:List (UInt8))
 | .Type=>ae.zero
 | .Value=>af.zero
 | .Stream=>ah.zero
 | .pM=>dZ.zero
 | .bW=>ak.zero
abbrev K : yu:={U:=U,El:=El,deq:=inferInstance,sz:=Usz,zero:=ahN}
def Ucs : U->List (Sh K)
 | .i64=>[.int .i64]
 | .u8=>[.int .u8]
 | .i32=>[.int .i32]
 | .u64=>[.int .u64]
 | .u32=>[.int .u32]
 | .u16=>[.int .u16]
 | .i16=>[.int .i16]
 | .i8=>[.int .i8]
 | .str=>[.str]
 | .bool=>[.bool]
 | .qm=>[.bn U.pM]
 | .KT=>[.bn U.Type]
 | .EY=>[.bn U.Value]
 | .Gg=>[.bn U.i64]
 | .TV=>[.bn U.str]
 | .aaS=>[.bn U.u8]
 | .Type=>[.int .i64, .str, .bn U.str, .bn U.Type]
 | .Value=>[.int .i64, .int .i64, .str, .bn U.Value]
 | .Stream=>[.int .i64, .str, .bn U.str, .bn U.Type, .int .i64, .bool, .bn U.Value, .int .i64, .int .i64, .bool, .bool]
 | .pM=>[.bool, .bool, .int .i64]
 | .bW=>[.bn U.u8, .int .i64, .int .u64]
def Uun : (c:U)->El c->Sh.Ts (Ucs c)
 | .i64,x=>(x,())
 | .u8,x=>((x.toNat:Int),())
 | .i32,x=>(x,())
 | .u64,x=>(x,())
 | .u32,x=>(x,())
 | .u16,x=>(x,())
 | .i16,x=>(x,())
 | .i8,x=>(x,())
 | .str,x=>(x,())
 | .bool,x=>(x,())
 | .qm,x=>(x,())
 | .KT,x=>(x,())
 | .EY,x=>(x,())
 | .Gg,x=>(x,())
 | .TV,x=>(x,())
 | .aaS,x=>(x,())
 | .Type,x=>((ae.Kind x),(ae.Name x),(ae.aQ x),(ae.Kids x),())
 | .Value,x=>((af.Kind x),(af.Num x),(af.Text x),(af.Kids x),())
 | .Stream,x=>((ae.Kind (ah.aO x)),(ae.Name (ah.aO x)),(ae.aQ (ah.aO x)),(ae.Kids (ah.aO x)),(ah.Room x),(ah.bu x),(ah.Buffer x),(ah.Put x),(ah.qM x),(ah.Shut x),(ah.Gone x),())
 | .pM,x=>((dZ.Write x),(dZ.Close x),(dZ.XV x),())
 | .bW,x=>((ak.code x),(ak.at_ x),(ak.seed x),())
def Umk : (c:U)->Sh.Ts (Ucs c)->El c×Bool
 | .i64,y=>(y.1,true)
 | .u8,y=>(Bj y.1,JK y.1)
 | .i32,y=>(y.1,true)
 | .u64,y=>(y.1,true)
 | .u32,y=>(y.1,true)
 | .u16,y=>(y.1,true)
 | .i16,y=>(y.1,true)
 | .i8,y=>(y.1,true)
 | .str,y=>(y.1,true)
 | .bool,y=>(y.1,true)
 | .qm,y=>(y.1,true)
 | .KT,y=>(y.1,true)
 | .EY,y=>(y.1,true)
 | .Gg,y=>(y.1,true)
 | .TV,y=>(y.1,true)
 | .aaS,y=>(y.1,true)
 | .Type,y=>(ae.mk y.1 y.2.1 y.2.2.1 y.2.2.2.1,true)
 | .Value,y=>(af.mk y.1 y.2.1 y.2.2.1 y.2.2.2.1,true)
 | .Stream,y=>(ah.mk (ae.mk y.1 y.2.1 y.2.2.1 y.2.2.2.1) y.2.2.2.2.1 y.2.2.2.2.2.1 y.2.2.2.2.2.2.1 y.2.2.2.2.2.2.2.1 y.2.2.2.2.2.2.2.2.1 y.2.2.2.2.2.2.2.2.2.1 y.2.2.2.2.2.2.2.2.2.2.1,true)
 | .pM,y=>(dZ.mk y.1 y.2.1 y.2.2.1,true)
 | .bW,y=>(ak.mk y.1 y.2.1 y.2.2.1,true)
def af0 : (c:U)->Option ((El c->UInt8)×(UInt8->El c))
 | .u8=>some (id,id)
 |_=>none
noncomputable def D :iU K:=af1 Ucs Umk Uun af0 [.i64, .str, .bool, .i32, .u64, .u32, .u16, .i16, .i8, .qm, .KT, .EY, .Gg, .TV, .aaS, .Type, .Value, .Stream, .pM, .bW] (aeg 0 1) none
theorem aH : bz D:=aeh (fun c=>by cases c<;>rfl) (fun c=>by cases c<;>rfl)
 (fun c y x h=>by
   cases c<;>first |exact ab9 h |(have h:=(Prod.mk.inj h).1;subst h;rfl))
 (fun c f g h=>by
   cases c<;>simp only[af0,Option.some.injEq,Prod.mk.injEq] at h<;>first |(obtain ⟨rfl,rfl⟩:=h;exact ⟨fun _=>rfl,fun _=>rfl⟩) |cases h)
end Go.V
