/-
  THE DATA: the structs of the program and of the reference as plain types; how they lie in cells.
-/
import Derived.Test.YtalddlopgnfpaaaGreatDoorXWcod
import Derived.Test.YtalddlopgnfpaaaGreatDoorXWtabs
set_option linter.unusedVariables false
namespace M
structure af where
 At:Int
 Size:Int
 deriving Inhabited
def af.zero:af:=af.mk 0 0
structure ax where
 Bytes:List UInt8
 Free:List af
 deriving Inhabited
def ax.zero:ax:=ax.mk [] []
inductive aa where
 |mk (Kind:Int) (Name:List UInt8) (bm:List (List UInt8)) (Kids:List aa)
 deriving Inhabited
def aa.Kind:aa->Int
 |.mk v _ _ _=>v
def aa.Name:aa->List UInt8
 |.mk _ v _ _=>v
def aa.bm:aa->List (List UInt8)
 |.mk _ _ v _=>v
def aa.Kids:aa->List aa
 |.mk _ _ _ v=>v
def aa.re(x:aa):aa:=aa.mk (aa.Kind x) (aa.Name x) (aa.bm x) (aa.Kids x)
theorem aa.aG(x:aa):aa.re x=x:=by cases x;rfl
theorem aa.eta(x:aa):aa.mk (aa.Kind x) (aa.Name x) (aa.bm x) (aa.Kids x)=x:=by cases x;rfl
def aa.zero:aa:=aa.mk 0 [] [] []
inductive ae where
 |mk (Kind:Int) (Num:Int) (Text:List UInt8) (Kids:List ae)
 deriving Inhabited
def ae.Kind:ae->Int
 |.mk v _ _ _=>v
def ae.Num:ae->Int
 |.mk _ v _ _=>v
def ae.Text:ae->List UInt8
 |.mk _ _ v _=>v
def ae.Kids:ae->List ae
 |.mk _ _ _ v=>v
def ae.re(x:ae):ae:=ae.mk (ae.Kind x) (ae.Num x) (ae.Text x) (ae.Kids x)
theorem ae.aG(x:ae):ae.re x=x:=by cases x;rfl
theorem ae.eta(x:ae):ae.mk (ae.Kind x) (ae.Num x) (ae.Text x) (ae.Kids x)=x:=by cases x;rfl
def ae.zero:ae:=ae.mk 0 0 [] []
structure ni where
 m:ax
 enc:Int
 code:Int
 deriving Inhabited
def ni.zero:ni:=ni.mk ax.zero 0 0
structure eQ where
 bytes:List UInt8
 free:List af
 deriving Inhabited
def eQ.zero:eQ:=eQ.mk [] []
end M
namespace Go.V
open Go M
inductive U where
 |i64|u8|i32|u64|u32|u16|i16|i8|str|bool|ga|qU|pj|pn|ku|qS|qT|Block|dA|Type|Value|po|store
 deriving DecidableEq
abbrev El:U->Type
 |.i64=>Int
 |.u8=>UInt8
 |.i32=>Int
 |.u64=>Int
 |.u32=>Int
 |.u16=>Int
 |.i16=>Int
 |.i8=>Int
 |.str=>List UInt8
 |.bool=>Bool
 |.ga=>List (af)
 |.qU=>List (List (af))
 |.pj=>List (aa)
 |.pn=>List (ae)
 |.ku=>List (Int)
 |.qS=>List (List UInt8)
 |.qT=>List (UInt8)
 |.Block=>af
 |.dA=>ax
 |.Type=>aa
 |.Value=>ae
 |.po=>ni
 |.store=>eQ
def G1:U->Nat
 |.Block=>2
 |.dA=>2
 |.Type=>4
 |.Value=>4
 |.po=>4
 |.store=>2
 |_=>1
def afp:(c:U)->El c
 |.i64=>(0:Int)
 |.u8=>(0:UInt8)
 |.i32=>(0:Int)
 |.u64=>(0:Int)
 |.u32=>(0:Int)
 |.u16=>(0:Int)
 |.i16=>(0:Int)
 |.i8=>(0:Int)
 |.str=>([]:List UInt8)
 |.bool=>false
 |.ga=>([]:List (af))
 |.qU=>([]:List (List (af)))
 |.pj=>([]:List (aa))
 |.pn=>([]:List (ae))
 |.ku=>([]:List (Int))
 |.qS=>([]:List (List UInt8))
 |.qT=>([]:List (UInt8))
 |.Block=>af.zero
 |.dA=>ax.zero
 |.Type=>aa.zero
 |.Value=>ae.zero
 |.po=>ni.zero
 |.store=>eQ.zero
abbrev K:cy:={U:=U,El:=El,iI:=inferInstance,sz:=G1,zero:=afp}
def iZ:U->List (Sh K)
 |.i64=>[.int .i64]
 |.u8=>[.int .u8]
 |.i32=>[.int .i32]
 |.u64=>[.int .u64]
 |.u32=>[.int .u32]
 |.u16=>[.int .u16]
 |.i16=>[.int .i16]
 |.i8=>[.int .i8]
 |.str=>[.str]
 |.bool=>[.bool]
 |.ga=>[.ar U.Block]
 |.qU=>[.ar U.ga]
 |.pj=>[.ar U.Type]
 |.pn=>[.ar U.Value]
 |.ku=>[.ar U.i64]
 |.qS=>[.ar U.str]
 |.qT=>[.ar U.u8]
 |.Block=>[.int .i64,.int .i64]
 |.dA=>[.str,.ar U.Block]
 |.Type=>[.int .i64,.str,.ar U.str,.ar U.Type]
 |.Value=>[.int .i64,.int .i64,.str,.ar U.Value]
 |.po=>[.str,.ar U.Block,.int .i64,.int .i64]
 |.store=>[.ar U.u8,.ar U.Block]
def sB:(c:U)->El c->Sh.Ts (iZ c)
 |.i64,x=>(x,())
 |.u8,x=>((x.toNat:Int),())
 |.i32,x=>(x,())
 |.u64,x=>(x,())
 |.u32,x=>(x,())
 |.u16,x=>(x,())
 |.i16,x=>(x,())
 |.i8,x=>(x,())
 |.str,x=>(x,())
 |.bool,x=>(x,())
 |.ga,x=>(x,())
 |.qU,x=>(x,())
 |.pj,x=>(x,())
 |.pn,x=>(x,())
 |.ku,x=>(x,())
 |.qS,x=>(x,())
 |.qT,x=>(x,())
 |.Block,x=>((af.At x),(af.Size x),())
 |.dA,x=>((ax.Bytes x),(ax.Free x),())
 |.Type,x=>((aa.Kind x),(aa.Name x),(aa.bm x),(aa.Kids x),())
 |.Value,x=>((ae.Kind x),(ae.Num x),(ae.Text x),(ae.Kids x),())
 |.po,x=>((ax.Bytes (ni.m x)),(ax.Free (ni.m x)),(ni.enc x),(ni.code x),())
 |.store,x=>((eQ.bytes x),(eQ.free x),())
def jq:(c:U)->Sh.Ts (iZ c)->El c×Bool
 |.i64,y=>(y.1,true)
 |.u8,y=>(dO y.1,eS y.1)
 |.i32,y=>(y.1,true)
 |.u64,y=>(y.1,true)
 |.u32,y=>(y.1,true)
 |.u16,y=>(y.1,true)
 |.i16,y=>(y.1,true)
 |.i8,y=>(y.1,true)
 |.str,y=>(y.1,true)
 |.bool,y=>(y.1,true)
 |.ga,y=>(y.1,true)
 |.qU,y=>(y.1,true)
 |.pj,y=>(y.1,true)
 |.pn,y=>(y.1,true)
 |.ku,y=>(y.1,true)
 |.qS,y=>(y.1,true)
 |.qT,y=>(y.1,true)
 |.Block,y=>(af.mk y.1 y.2.1,true)
 |.dA,y=>(ax.mk y.1 y.2.1,true)
 |.Type,y=>(aa.mk y.1 y.2.1 y.2.2.1 y.2.2.2.1,true)
 |.Value,y=>(ae.mk y.1 y.2.1 y.2.2.1 y.2.2.2.1,true)
 |.po,y=>(ni.mk (ax.mk y.1 y.2.1) y.2.2.1 y.2.2.2.1,true)
 |.store,y=>(eQ.mk y.1 y.2.1,true)
def SG:(c:U)->Option ((El c->UInt8)×(UInt8->El c))
 |.u8=>some (id,id)
 |_=>none
noncomputable def D:aY K:=SH iZ jq sB SG [.i64,.str,.bool,.i32,.u64,.u32,.u16,.i16,.i8,.ga,.qU,.pj,.pn,.ku,.qS,.qT,.Block,.dA,.Type,.Value,.po,.store] (afq 0 1) none
theorem ah:bh D:=afr (fun c=>by cases c<;>rfl) (fun c=>by cases c<;>rfl)
 (fun c y x h=>by
   cases c<;>first|exact SI h|(have h:=(Prod.mk.inj h).1;subst h;rfl))
 (fun c f g h=>by
   cases c<;>simp only[SG,ak,aS]at h<;>first|(obtain⟨rfl,rfl⟩:=h;exact⟨fun _=>rfl,fun _=>rfl⟩)|cases h)
end Go.V
