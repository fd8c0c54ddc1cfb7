/-
  CONTRACTS BY HAND: what a walk of the kit's says of a call, read as the engine reads it; a slice of strings; names in order, none twice.
-/
import Derived.Test.YtfeedngnaochdaaGreatDoorXXlaw
import Derived.Lib.SlicesCompact
import Derived.Sort.EncStr
import Derived.Below
import Derived.Lib.RowBridge
import Derived.Lib.Bytealg
import Derived.Lib.ValidU
set_option linter.unusedVariables false
namespace Go.V
open Go Go.RowKit Go.Sort Go.Proofs
variable {P :Program}
theorem LN{f:FuncId}{args:List (AV K)}{r:AV K}(hf:r6 P f)
 (h:∀(S:Nat->Prop)(w:World)(vals:List Value),(∀b,S b->b<w.heap.size)->aW D [] S w args vals->Calls P f vals.toArray w fun e w'=>∃u,e=.returned u/\Below w.heap.size w w'/\∃S':Nat->Prop,(∀b,S b->S' b)/\(∀b,S' b->S b\/(w.heap.size<=b/\b<w'.heap.size))/\Rep D [] S' w' r u):RC D P f args [] r []:=by
 refine⟨hf,fun ρ S w vals hs ha=>?_⟩;have hρ:ρ=[]:=by have:=hs.len;simpa using this
 subst hρ;refine(h S w vals hs.slt ha).mono ?_
 rintro e w' ⟨u,rfl,hb,S',h1,h2,h3⟩
 have own:∀(w:World) b,¬Own D w [] ([]:List (Ob K)) b:=fun w b hb=>by
  obtain⟨h,o,r,ho,_⟩:=hb;simp at ho
 refine⟨u,[],S',rfl,⟨rfl,fun h o r ho _=>by simp at ho,fun h h' o o' r r' b ho=>by simp at ho,fun b hb=>absurd hb (own _ b),fun b hb=>?_,D.base.mono h1 (fun b h=>hb.block b (hs.slt b h)) hs.base⟩,h3,
  ⟨hb.os,hb.tape,hb.output,hb.size,fun b hlt _=>hb.block b hlt,fun b hb=>absurd hb (own _ b),h1,fun b hb=>?_,fun h hh=>rfl⟩⟩
 ·rcases h2 b hb with h|h
  ·exact kj (hs.slt b h) (by have:=‹Below w.heap.size w w'›.size;exact this)
  ·exact h.2
 ·rcases h2 b hb with h|h
  ·exact .inl h
  ·exact .inr (.inr h.1)
def Strs(n₀:Nat)(W:World)(sv:Value)(zs:List (List UInt8)):Prop:=
 (∃a cap,sv=.slice a 0 cap/\zs=[])\/∃b off cap,sv=.slice (some ⟨b,off,none⟩) zs.length cap/\b<n₀/\∀j,j<zs.length->W.cell? ⟨b,off+j,none⟩=some (encStr (zs[j]?.getD []))
theorem Strs.below{n₀:Nat}{A B:World}(h:Below n₀ A B){sv:Value}{zs:List (List UInt8)}:Strs n₀ A sv zs->Strs n₀ B sv zs
 |.inl e=>.inl e
 |.inr ⟨b,off,cap,e,hb,hc⟩=>.inr ⟨b,off,cap,e,hb,fun j hj=>(h.cell (p:=⟨b,off+j,none⟩) hb).trans (hc j hj)⟩
theorem Strs.up{n m:Nat}{W:World}{sv:Value}{zs:List (List UInt8)}(h:n<=m):Strs n W sv zs->Strs m W sv zs
 |.inl e=>.inl e
 |.inr ⟨b,off,cap,e,hb,hc⟩=>.inr ⟨b,off,cap,e,kj hb h,hc⟩
theorem Strs.len{n:Nat}{W:World}{sv:Value}{zs:List (List UInt8)}:Strs n W sv zs->∃a cap,sv=.slice a zs.length cap
 |.inl ⟨a,cap,e,h⟩=>⟨a,cap,by rw[e,h];rfl⟩
 |.inr ⟨b,off,cap,e,_⟩=>⟨_,cap,e⟩
theorem YG{S:Nat->Prop}{w:World}{zs:List (List UInt8)}{X:Value}(hS:∀b,S b->b<w.heap.size)(h:Rep D [] S w (.ax U.str zs) X):Strs w.heap.size w X zs:=by
 cases h with
 |eP a cap=>exact .inl ⟨a,cap,rfl,rfl⟩
 |ax val hSb hcap hl hc hr=>
  refine .inr ⟨_,_,_,rfl,hS _ hSb,fun j hj=>?_⟩;have hx:zs[j]?=some zs[j]:=bY hj;have h1:(val j).length=1:=hl j zs[j] hx;have h2:=hc j hj;obtain⟨v,hv⟩:∃v,val j=[v]:=by
   match Nu:val j with
   |[v]=>exact⟨v,rfl⟩
   |[]=>rw[Nu]at h1;simp at h1
   |_::_::_=>rw[Nu]at h1;simp at h1
  have h3:=hr j zs[j] hx 0 (.str zs[j]) v rfl (by rw[hv];rfl);have h4:=h2 0 v (by rw[hv];rfl);rw[iq h3]at h4;have e:zs[j]?.getD []=zs[j]:=by rw[hx];rfl
  rw[e];have e2:∀o:Nat,o+j*K.sz U.str+0=o+j:=fun o=>by show o+j*1+0=o+j;omega
  rw[e2]at h4;exact h4
def jE(xs:List (List UInt8)):List (List UInt8):=xs.mergeSort fun x y=>decide (x<=y)
theorem oQ(xs:List (List UInt8)):(jE xs).length=xs.length:=List.length_mergeSort xs
def uq(xs:List (List UInt8)):List (List UInt8):=Lib.compact (jE xs)
theorem F7(xs:List (List UInt8)):(uq xs).length<=xs.length:=by
 have:=Lib.compact_length_le (jE xs);rw[oQ]at this;exact this
theorem F8(a b:Nat):((a:Int)==(b:Int))=(a==b):=by rw[mc];simp only[dU];omega
theorem LP{ρ:List Value}{S:Nat->Prop}{w:World}{x:AV K}{vals:List Value}(h:aW D ρ S w [x] vals):∃X,vals=[X]/\Rep D ρ S w x X:=by
 obtain⟨hl,hr⟩:=h
 match vals,hl with
 |[X],_=>exact⟨X,rfl,hr 0 x X rfl rfl⟩
end Go.V
namespace M
def mC(names:List (List UInt8)):Option Bool:=bif decide (names.length<=1099511627776)then some ((Go.V.uq names).length==names.length)else none
end M
namespace Go.V
open Go Go.RowKit Go.Sort Go.Proofs
variable {P :Program}
structure ahC (c:U) (enc:El c->Value):Prop where
 sz:K.sz c=1
 rep:∀x,∃a,D.cells c x=[a]/\(∀ρ S w,Rep D ρ S w a (enc x))/\∀ρ S w v,Rep D ρ S w a v->v=enc x
def ahD{c:U}(enc:El c->Value)(n₀:Nat)(W:World)(sv:Value)(zs:List (El c)):Prop:=
 (∃a cap,sv=.slice a 0 cap/\zs=[])\/∃b off cap,sv=.slice (some ⟨b,off,none⟩) zs.length cap/\b<n₀/\∀j x,zs[j]?=some x->W.cell? ⟨b,off+j,none⟩=some (enc x)
end Go.V
namespace M
def xC(s:List UInt8)(c:Int):Int:=Go.Lib.indexByte s c.toNat.toUInt8
def strings_IndexByte(s:List UInt8)(c:Int):Option Int:=some (xC s c)
def ahE(l:List Int):Option (List Int):=bif decide (l.length<=1099511627776)then some l else none
end M
namespace M
def ahF(s:List UInt8):Option Bool:=
 bif decide (s.length<=9223372036854775807)then some (Go.Lib.validD s)else none
def ahG(s:List UInt8):Option (List UInt8):=some s
def ahH(s:List UInt8):Option (List UInt8):=bif decide (s.length<=1073741824)then some s else none
def ahI(l:List (List UInt8)):Option (List (List UInt8)):=bif decide (l.length<=1099511627776)then some l else none
end M
