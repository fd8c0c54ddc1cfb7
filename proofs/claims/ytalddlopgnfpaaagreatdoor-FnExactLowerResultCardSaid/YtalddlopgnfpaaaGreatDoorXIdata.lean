/-
  THE DATA: the structs of the program and of the reference as plain types; how they lie in cells.
-/
import Derived.Test.YtalddlopgnfpaaaGreatDoorXWcod
import Derived.Test.YtalddlopgnfpaaaGreatDoorXWtabs
set_option linter.unusedVariables false
namespace M
structure af where
 At:Int
 Size:Int
 deriving Inhabited
def af.zero:af:=af.mk 0 0
structure aB where
 Bytes:List UInt8
 Free:List af
 deriving Inhabited
def aB.zero:aB:=aB.mk [] []
inductive aa where
 |mk (Kind:Int) (Name:List UInt8) (bp:List (List UInt8)) (Kids:List aa)
 deriving Inhabited
def aa.Kind:aa->Int
 |.mk v _ _ _=>v
def aa.Name:aa->List UInt8
 |.mk _ v _ _=>v
def aa.bp:aa->List (List UInt8)
 |.mk _ _ v _=>v
def aa.Kids:aa->List aa
 |.mk _ _ _ v=>v
def aa.re(x:aa):aa:=aa.mk (aa.Kind x) (aa.Name x) (aa.bp x) (aa.Kids x)
theorem aa.aO(x:aa):aa.re x=x:=by cases x;rfl
theorem aa.eta(x:aa):aa.mk (aa.Kind x) (aa.Name x) (aa.bp x) (aa.Kids x)=x:=by cases x;rfl
def aa.zero:aa:=aa.mk 0 [] [] []
inductive ae where
 |mk (Kind:Int) (Num:Int) (Text:List UInt8) (Kids:List ae)
 deriving Inhabited
def ae.Kind:ae->Int
 |.mk v _ _ _=>v
def ae.Num:ae->Int
 |.mk _ v _ _=>v
def ae.Text:ae->List UInt8
 |.mk _ _ v _=>v
def ae.Kids:ae->List ae
 |.mk _ _ _ v=>v
def ae.re(x:ae):ae:=ae.mk (ae.Kind x) (ae.Num x) (ae.Text x) (ae.Kids x)
theorem ae.aO(x:ae):ae.re x=x:=by cases x;rfl
theorem ae.eta(x:ae):ae.mk (ae.Kind x) (ae.Num x) (ae.Text x) (ae.Kids x)=x:=by cases x;rfl
def ae.zero:ae:=ae.mk 0 0 [] []
structure oP where
 m:aB
 enc:Int
 code:Int
 deriving Inhabited
def oP.zero:oP:=oP.mk aB.zero 0 0
structure hC where
 bytes:List UInt8
 free:List af
 deriving Inhabited
def hC.zero:hC:=hC.mk [] []
end M
namespace Go.V
open Go M
inductive U where
 |i64|u8|i32|u64|u32|u16|i16|i8|str|bool|g9|s6|qM|qN|lU|sY|sZ|Block|dO|Type|Value|qO|store
 deriving DecidableEq
abbrev El:U->Type
 |.i64=>Int
 |.u8=>UInt8
 |.i32=>Int
 |.u64=>Int
 |.u32=>Int
 |.u16=>Int
 |.i16=>Int
 |.i8=>Int
 |.str=>List UInt8
 |.bool=>Bool
 |.g9=>List (af)
 |.s6=>List (List (af))
 |.qM=>List (aa)
 |.qN=>List (ae)
 |.lU=>List (Int)
 |.sY=>List (List UInt8)
 |.sZ=>List (UInt8)
 |.Block=>af
 |.dO=>aB
 |.Type=>aa
 |.Value=>ae
 |.qO=>oP
 |.store=>hC
def J2:U->Nat
 |.Block=>2
 |.dO=>2
 |.Type=>4
 |.Value=>4
 |.qO=>4
 |.store=>2
 |_=>1
def aku:(c:U)->El c
 |.i64=>(0:Int)
 |.u8=>(0:UInt8)
 |.i32=>(0:Int)
 |.u64=>(0:Int)
 |.u32=>(0:Int)
 |.u16=>(0:Int)
 |.i16=>(0:Int)
 |.i8=>(0:Int)
 |.str=>([]:List UInt8)
 |.bool=>false
 |.g9=>([]:List (af))
 |.s6=>([]:List (List (af)))
 |.qM=>([]:List (aa))
 |.qN=>([]:List (ae))
 |.lU=>([]:List (Int))
 |.sY=>([]:List (List UInt8))
 |.sZ=>([]:List (UInt8))
 |.Block=>af.zero
 |.dO=>aB.zero
 |.Type=>aa.zero
 |.Value=>ae.zero
 |.qO=>oP.zero
 |.store=>hC.zero
abbrev K:cJ:={U:=U,El:=El,jq:=inferInstance,sz:=J2,zero:=aku}
def jG:U->List (Sh K)
 |.i64=>[.int .i64]
 |.u8=>[.int .u8]
 |.i32=>[.int .i32]
 |.u64=>[.int .u64]
 |.u32=>[.int .u32]
 |.u16=>[.int .u16]
 |.i16=>[.int .i16]
 |.i8=>[.int .i8]
 |.str=>[.str]
 |.bool=>[.bool]
 |.g9=>[.an U.Block]
 |.s6=>[.an U.g9]
 |.qM=>[.an U.Type]
 |.qN=>[.an U.Value]
 |.lU=>[.an U.i64]
 |.sY=>[.an U.str]
 |.sZ=>[.an U.u8]
 |.Block=>[.int .i64,.int .i64]
 |.dO=>[.str,.an U.Block]
 |.Type=>[.int .i64,.str,.an U.str,.an U.Type]
 |.Value=>[.int .i64,.int .i64,.str,.an U.Value]
 |.qO=>[.str,.an U.Block,.int .i64,.int .i64]
 |.store=>[.an U.u8,.an U.Block]
def uV:(c:U)->El c->Sh.Ts (jG c)
 |.i64,x=>(x,())
 |.u8,x=>((x.toNat:Int),())
 |.i32,x=>(x,())
 |.u64,x=>(x,())
 |.u32,x=>(x,())
 |.u16,x=>(x,())
 |.i16,x=>(x,())
 |.i8,x=>(x,())
 |.str,x=>(x,())
 |.bool,x=>(x,())
 |.g9,x=>(x,())
 |.s6,x=>(x,())
 |.qM,x=>(x,())
 |.qN,x=>(x,())
 |.lU,x=>(x,())
 |.sY,x=>(x,())
 |.sZ,x=>(x,())
 |.Block,x=>((af.At x),(af.Size x),())
 |.dO,x=>((aB.Bytes x),(aB.Free x),())
 |.Type,x=>((aa.Kind x),(aa.Name x),(aa.bp x),(aa.Kids x),())
 |.Value,x=>((ae.Kind x),(ae.Num x),(ae.Text x),(ae.Kids x),())
 |.qO,x=>((aB.Bytes (oP.m x)),(aB.Free (oP.m x)),(oP.enc x),(oP.code x),())
 |.store,x=>((hC.bytes x),(hC.free x),())
def ka:(c:U)->Sh.Ts (jG c)->El c×Bool
 |.i64,y=>(y.1,true)
 |.u8,y=>(eu y.1,fB y.1)
 |.i32,y=>(y.1,true)
 |.u64,y=>(y.1,true)
 |.u32,y=>(y.1,true)
 |.u16,y=>(y.1,true)
 |.i16,y=>(y.1,true)
 |.i8,y=>(y.1,true)
 |.str,y=>(y.1,true)
 |.bool,y=>(y.1,true)
 |.g9,y=>(y.1,true)
 |.s6,y=>(y.1,true)
 |.qM,y=>(y.1,true)
 |.qN,y=>(y.1,true)
 |.lU,y=>(y.1,true)
 |.sY,y=>(y.1,true)
 |.sZ,y=>(y.1,true)
 |.Block,y=>(af.mk y.1 y.2.1,true)
 |.dO,y=>(aB.mk y.1 y.2.1,true)
 |.Type,y=>(aa.mk y.1 y.2.1 y.2.2.1 y.2.2.2.1,true)
 |.Value,y=>(ae.mk y.1 y.2.1 y.2.2.1 y.2.2.2.1,true)
 |.qO,y=>(oP.mk (aB.mk y.1 y.2.1) y.2.2.1 y.2.2.2.1,true)
 |.store,y=>(hC.mk y.1 y.2.1,true)
def Xu:(c:U)->Option ((El c->UInt8)×(UInt8->El c))
 |.u8=>some (id,id)
 |_=>none
noncomputable def D:ba K:=Xv jG ka uV Xu [.i64,.str,.bool,.i32,.u64,.u32,.u16,.i16,.i8,.g9,.s6,.qM,.qN,.lU,.sY,.sZ,.Block,.dO,.Type,.Value,.qO,.store] (akv 0 1) none
theorem ai:bn D:=akw (fun c=>by cases c<;>rfl) (fun c=>by cases c<;>rfl)
 (fun c y x h=>by
   cases c<;>first|exact Xw h|(have h:=(Prod.mk.inj h).1;subst h;rfl))
 (fun c f g h=>by
   cases c<;>simp only[Xu,ar,aE]at h<;>first|(obtain⟨rfl,rfl⟩:=h;exact⟨fun _=>rfl,fun _=>rfl⟩)|cases h)
end Go.V
