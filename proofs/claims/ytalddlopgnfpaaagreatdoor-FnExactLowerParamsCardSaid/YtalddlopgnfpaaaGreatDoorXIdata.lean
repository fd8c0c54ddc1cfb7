/-
  THE DATA: the structs of the program and of the reference as plain types; how they lie in cells.
-/
import Derived.Test.YtalddlopgnfpaaaGreatDoorXWcod
import Derived.Test.YtalddlopgnfpaaaGreatDoorXWtabs
set_option linter.unusedVariables false
namespace M
structure af where
 At:Int
 Size:Int
 deriving Inhabited
def af.zero:af:=af.mk 0 0
structure aB where
 Bytes:List UInt8
 Free:List af
 deriving Inhabited
def aB.zero:aB:=aB.mk [] []
inductive aa where
 |mk (Kind:Int) (Name:List UInt8) (bu:List (List UInt8)) (Kids:List aa)
 deriving Inhabited
def aa.Kind:aa->Int
 |.mk v _ _ _=>v
def aa.Name:aa->List UInt8
 |.mk _ v _ _=>v
def aa.bu:aa->List (List UInt8)
 |.mk _ _ v _=>v
def aa.Kids:aa->List aa
 |.mk _ _ _ v=>v
def aa.re(x:aa):aa:=aa.mk (aa.Kind x) (aa.Name x) (aa.bu x) (aa.Kids x)
theorem aa.aP(x:aa):aa.re x=x:=by cases x;rfl
theorem aa.eta(x:aa):aa.mk (aa.Kind x) (aa.Name x) (aa.bu x) (aa.Kids x)=x:=by cases x;rfl
def aa.zero:aa:=aa.mk 0 [] [] []
inductive ae where
 |mk (Kind:Int) (Num:Int) (Text:List UInt8) (Kids:List ae)
 deriving Inhabited
def ae.Kind:ae->Int
 |.mk v _ _ _=>v
def ae.Num:ae->Int
 |.mk _ v _ _=>v
def ae.Text:ae->List UInt8
 |.mk _ _ v _=>v
def ae.Kids:ae->List ae
 |.mk _ _ _ v=>v
def ae.re(x:ae):ae:=ae.mk (ae.Kind x) (ae.Num x) (ae.Text x) (ae.Kids x)
theorem ae.aP(x:ae):ae.re x=x:=by cases x;rfl
theorem ae.eta(x:ae):ae.mk (ae.Kind x) (ae.Num x) (ae.Text x) (ae.Kids x)=x:=by cases x;rfl
def ae.zero:ae:=ae.mk 0 0 [] []
structure o8 where
 m:aB
 enc:Int
 code:Int
 deriving Inhabited
def o8.zero:o8:=o8.mk aB.zero 0 0
structure ig where
 bytes:List UInt8
 free:List af
 deriving Inhabited
def ig.zero:ig:=ig.mk [] []
end M
namespace Go.V
open Go M
inductive U where
 |i64|u8|i32|u64|u32|u16|i16|i8|str|bool|ia|tG|qZ|rf|lX|tC|tD|Block|dR|Type|Value|rh|store
 deriving DecidableEq
abbrev El:U->Type
 |.i64=>Int
 |.u8=>UInt8
 |.i32=>Int
 |.u64=>Int
 |.u32=>Int
 |.u16=>Int
 |.i16=>Int
 |.i8=>Int
 |.str=>List UInt8
 |.bool=>Bool
 |.ia=>List (af)
 |.tG=>List (List (af))
 |.qZ=>List (aa)
 |.rf=>List (ae)
 |.lX=>List (Int)
 |.tC=>List (List UInt8)
 |.tD=>List (UInt8)
 |.Block=>af
 |.dR=>aB
 |.Type=>aa
 |.Value=>ae
 |.rh=>o8
 |.store=>ig
def Lj:U->Nat
 |.Block=>2
 |.dR=>2
 |.Type=>4
 |.Value=>4
 |.rh=>4
 |.store=>2
 |_=>1
def amQ:(c:U)->El c
 |.i64=>(0:Int)
 |.u8=>(0:UInt8)
 |.i32=>(0:Int)
 |.u64=>(0:Int)
 |.u32=>(0:Int)
 |.u16=>(0:Int)
 |.i16=>(0:Int)
 |.i8=>(0:Int)
 |.str=>([]:List UInt8)
 |.bool=>false
 |.ia=>([]:List (af))
 |.tG=>([]:List (List (af)))
 |.qZ=>([]:List (aa))
 |.rf=>([]:List (ae))
 |.lX=>([]:List (Int))
 |.tC=>([]:List (List UInt8))
 |.tD=>([]:List (UInt8))
 |.Block=>af.zero
 |.dR=>aB.zero
 |.Type=>aa.zero
 |.Value=>ae.zero
 |.rh=>o8.zero
 |.store=>ig.zero
abbrev K:cE:={U:=U,El:=El,ju:=inferInstance,sz:=Lj,zero:=amQ}
def jM:U->List (Sh K)
 |.i64=>[.int .i64]
 |.u8=>[.int .u8]
 |.i32=>[.int .i32]
 |.u64=>[.int .u64]
 |.u32=>[.int .u32]
 |.u16=>[.int .u16]
 |.i16=>[.int .i16]
 |.i8=>[.int .i8]
 |.str=>[.str]
 |.bool=>[.bool]
 |.ia=>[.aj U.Block]
 |.tG=>[.aj U.ia]
 |.qZ=>[.aj U.Type]
 |.rf=>[.aj U.Value]
 |.lX=>[.aj U.i64]
 |.tC=>[.aj U.str]
 |.tD=>[.aj U.u8]
 |.Block=>[.int .i64,.int .i64]
 |.dR=>[.str,.aj U.Block]
 |.Type=>[.int .i64,.str,.aj U.str,.aj U.Type]
 |.Value=>[.int .i64,.int .i64,.str,.aj U.Value]
 |.rh=>[.str,.aj U.Block,.int .i64,.int .i64]
 |.store=>[.aj U.u8,.aj U.Block]
def vt:(c:U)->El c->Sh.Ts (jM c)
 |.i64,x=>(x,())
 |.u8,x=>((x.toNat:Int),())
 |.i32,x=>(x,())
 |.u64,x=>(x,())
 |.u32,x=>(x,())
 |.u16,x=>(x,())
 |.i16,x=>(x,())
 |.i8,x=>(x,())
 |.str,x=>(x,())
 |.bool,x=>(x,())
 |.ia,x=>(x,())
 |.tG,x=>(x,())
 |.qZ,x=>(x,())
 |.rf,x=>(x,())
 |.lX,x=>(x,())
 |.tC,x=>(x,())
 |.tD,x=>(x,())
 |.Block,x=>((af.At x),(af.Size x),())
 |.dR,x=>((aB.Bytes x),(aB.Free x),())
 |.Type,x=>((aa.Kind x),(aa.Name x),(aa.bu x),(aa.Kids x),())
 |.Value,x=>((ae.Kind x),(ae.Num x),(ae.Text x),(ae.Kids x),())
 |.rh,x=>((aB.Bytes (o8.m x)),(aB.Free (o8.m x)),(o8.enc x),(o8.code x),())
 |.store,x=>((ig.bytes x),(ig.free x),())
def kj:(c:U)->Sh.Ts (jM c)->El c×Bool
 |.i64,y=>(y.1,true)
 |.u8,y=>(eA y.1,fH y.1)
 |.i32,y=>(y.1,true)
 |.u64,y=>(y.1,true)
 |.u32,y=>(y.1,true)
 |.u16,y=>(y.1,true)
 |.i16,y=>(y.1,true)
 |.i8,y=>(y.1,true)
 |.str,y=>(y.1,true)
 |.bool,y=>(y.1,true)
 |.ia,y=>(y.1,true)
 |.tG,y=>(y.1,true)
 |.qZ,y=>(y.1,true)
 |.rf,y=>(y.1,true)
 |.lX,y=>(y.1,true)
 |.tC,y=>(y.1,true)
 |.tD,y=>(y.1,true)
 |.Block,y=>(af.mk y.1 y.2.1,true)
 |.dR,y=>(aB.mk y.1 y.2.1,true)
 |.Type,y=>(aa.mk y.1 y.2.1 y.2.2.1 y.2.2.2.1,true)
 |.Value,y=>(ae.mk y.1 y.2.1 y.2.2.1 y.2.2.2.1,true)
 |.rh,y=>(o8.mk (aB.mk y.1 y.2.1) y.2.2.1 y.2.2.2.1,true)
 |.store,y=>(ig.mk y.1 y.2.1,true)
def Y3:(c:U)->Option ((El c->UInt8)×(UInt8->El c))
 |.u8=>some (id,id)
 |_=>none
noncomputable def D:bc K:=Y4 jM kj vt Y3 [.i64,.str,.bool,.i32,.u64,.u32,.u16,.i16,.i8,.ia,.tG,.qZ,.rf,.lX,.tC,.tD,.Block,.dR,.Type,.Value,.rh,.store] (amR 0 1) none
theorem ak:bk D:=amS (fun c=>by cases c<;>rfl) (fun c=>by cases c<;>rfl)
 (fun c y x h=>by
   cases c<;>first|exact Y5 h|(have h:=(Prod.mk.inj h).1;subst h;rfl))
 (fun c f g h=>by
   cases c<;>simp only[Y3,ar,aH]at h<;>first|(obtain⟨rfl,rfl⟩:=h;exact⟨fun _=>rfl,fun _=>rfl⟩)|cases h)
end Go.V
