/-
  CONTRACTS BY HAND: what a walk of the kit's says of a call, read as the engine reads it; a slice of strings; names in order, none twice.
-/
import Derived.Test.YtpablcpgdagijaaGreatXClaw
import Derived.Lib.SlicesCompact
import Derived.Sort.EncStr
import Derived.Below
import Derived.Lib.RowBridge
import Derived.Lib.Bytealg
import Derived.Lib.ValidU
set_option linter.unusedVariables false
namespace Go.V
open Go Go.RowKit Go.Sort Go.Proofs
variable {P :Program}
def Strs(n₀:Nat)(W:World)(sv:Value)(zs:List (List UInt8)):Prop:=
 (∃a cap,sv=.slice a 0 cap/\zs=[])\/∃b off cap,sv=.slice (some ⟨b,off,none⟩) zs.length cap/\b<n₀/\∀j,j<zs.length->W.cell? ⟨b,off+j,none⟩=some (encStr (zs[j]?.getD []))
theorem Strs.up{n m:Nat}{W:World}{sv:Value}{zs:List (List UInt8)}(h:n<=m):Strs n W sv zs->Strs m W sv zs
 |.inl e=>.inl e
 |.inr ⟨b,off,cap,e,hb,hc⟩=>.inr ⟨b,off,cap,e,Nat.lt_of_lt_of_le hb h,hc⟩
theorem Strs.len{n:Nat}{W:World}{sv:Value}{zs:List (List UInt8)}:Strs n W sv zs->∃a cap,sv=.slice a zs.length cap
 |.inl ⟨a,cap,e,h⟩=>⟨a,cap,by rw[e,h];rfl⟩
 |.inr ⟨b,off,cap,e,_⟩=>⟨_,cap,e⟩
def ye(xs:List (List UInt8)):List (List UInt8):=xs.mergeSort fun x y=>decide (x<=y)
theorem QC(xs:List (List UInt8)):(ye xs).length=xs.length:=List.length_mergeSort xs
def uq(xs:List (List UInt8)):List (List UInt8):=Lib.compact (ye xs)
theorem x9{ρ:List Value}{S:Nat->Prop}{w:World}{x:AV K}{vals:List Value}(h:aI D ρ S w [x] vals):∃X,vals=[X]/\Rep D ρ S w x X:=by
 obtain⟨hl,hr⟩:=h
 match vals,hl with
 |[X],_=>exact⟨X,rfl,hr 0 x X rfl rfl⟩
end Go.V
namespace M
def adF(names:List (List UInt8)):Option Bool:=bif decide (names.length<=1099511627776)then some ((Go.V.uq names).length==names.length)else none
end M
namespace Go.V
open Go Go.RowKit Go.Sort Go.Proofs
variable {P :Program}
structure uQ (c:U) (enc:El c->Value):Prop where
 sz:K.sz c=1
 rep:∀x,∃a,D.cells c x=[a]/\(∀ρ S w,Rep D ρ S w a (enc x))/\∀ρ S w v,Rep D ρ S w a v->v=enc x
theorem EO:uQ U.i64 (fun x=>Value.int .i64 x):=⟨rfl,fun x=>⟨.int .i64 x,rfl,fun _ _ _=>.int _ _,fun _ _ _ _ h=>cg h⟩⟩
def QD{c:U}(enc:El c->Value)(n₀:Nat)(W:World)(sv:Value)(zs:List (El c)):Prop:=
 (∃a cap,sv=.slice a 0 cap/\zs=[])\/∃b off cap,sv=.slice (some ⟨b,off,none⟩) zs.length cap/\b<n₀/\∀j x,zs[j]?=some x->W.cell? ⟨b,off+j,none⟩=some (enc x)
theorem QE{c:U}{enc:El c->Value}(h1:uQ c enc){ρ:List Value}{S:Nat->Prop}{w:World}{x:El c}{vs:List Value}(h:aI D ρ S w (D.cells c x) vs):vs=[enc x]:=by
 obtain⟨a,ha,-,hu⟩:=h1.rep x;rw[ha]at h;obtain⟨u,r,rfl,g1,g2⟩:=h.cS;rw[g2.gR,hu _ _ _ u g1]
theorem Qw{c:U}{enc:El c->Value}(h1:uQ c enc){S:Nat->Prop}{w:World}{zs:List (El c)}{X:Value}(hS:∀b,S b->b<w.heap.size)(h:Rep D [] S w (.au c zs) X):QD enc w.heap.size w X zs:=by
 cases h with
 |cK a cap=>exact .inl ⟨a,cap,rfl,rfl⟩
 |au val hSb hcap hl hc hr=>
  refine .inr ⟨_,_,_,rfl,hS _ hSb,fun j x hx=>?_⟩;have hj:j<zs.length:=(List.getElem?_eq_some_iff.1 hx).1;have e:=QE h1 (vs:=val j) ⟨(hl j x hx).symm,hr j x hx⟩;have h2:=hc j hj 0 (enc x) (by rw[e];rfl);rw[h1.sz,Nat.mul_one,Nat.add_zero]at h2;exact h2
theorem Qv{f:FuncId}{args:List (AV K)}{c:U}{enc:El c->Value}(h1:uQ c enc){l:List (El c)}{T:TypeId}(hf:l3 P f)(bZ:eF D c T 0)
 (h:∀(S:Nat->Prop)(w:World)(vals:List Value),(∀b,S b->b<w.heap.size)->aI D [] S w args vals->Calls P f vals.toArray w fun e w'=>∃v,e=.returned v/\w'.ownsRow w.heap.size T 1 v l.length (l.map enc)/\Below w.heap.size w w'):RC D P f args [] (.sl 0) [.arr c l]:=by
 refine⟨hf,fun ρ S w vals hs ha=>?_⟩;have hρ:ρ=[]:=by have:=hs.len;simpa using this
 subst hρ;refine(h S w vals hs.slt ha).mono ?_
 rintro e w' ⟨v,rfl,hrow,hb⟩
 have Qz:∀(w:World) b,¬Own D w [] ([]:List (Ob K)) b:=fun w b hb=>by
  obtain⟨h,o,r,ho,_⟩:=hb;simp at ho
 have hown:∀b,Own D w' [v] [(Ob.arr c l:Ob K)] b->w.heap.size<=b/\b<w'.heap.size:=fun b ⟨k,o,r,g1,g2,g3,g4⟩=>by
  have hk:k=0:=by
   have:=(List.getElem?_eq_some_iff.1 g1).1;simp at this;exact this
  subst hk;simp at g1 g3;subst g1;subst g3;rcases hrow.2 with⟨rfl,-⟩|⟨g,cap,cur,rfl,q1,q2,-⟩
  ·simp[bj,dj]at g4
  ·simp[bj,dj]at g4;subst g4;exact⟨q1,(Array.getElem?_eq_some_iff.1 q2).1⟩
 have hsl:∃a n cp,v=.slice a n cp:=by
  rcases hrow.2 with⟨rfl,-⟩|⟨g,cap,cur,rfl,-⟩
  ·exact⟨_,_,_,rfl⟩
  ·exact⟨_,_,_,rfl⟩
 obtain⟨a,n,cp,hv⟩:=hsl;refine⟨v,[v],S,rfl,⟨rfl,fun k o r g1 g3=>?_,fun k k' o o' r r' b g1 _ _ _ k1 _ _ _=>?_,fun b hb=>⟨(hown b hb).2,fun hS=>by have:=(hown b hb).1;have:=hs.slt b hS;omega⟩,fun b hS=>Nat.lt_of_lt_of_le (hs.slt b hS) hb.size,D.base.mono (fun _ h=>h) (fun b h=>hb.block b (hs.slt b h)) hs.base⟩,by rw[hv];exact .sl rfl,
  ⟨hb.os,hb.tape,hb.output,hb.size,fun b hlt _=>hb.block b hlt,fun b hb=>.inr (hown b hb).1,fun _ h=>h,fun _ h=>.inl h,fun h hh=>by simp at hh⟩⟩
 ·have hk:k=0:=by
   have:=(List.getElem?_eq_some_iff.1 g1).1;simp at this;exact this
  subst hk;simp at g1 g3;subst g1;subst g3;rcases hrow.2 with⟨rfl,h0⟩|⟨g,cap,cur,rfl,q1,q2,q3,q4,q5,q6⟩
  ·exact .inl ⟨rfl,List.eq_nil_of_length_eq_zero h0⟩
  ·refine .inr ⟨g,0,cap,cur,T,(0,0),rfl,q2,⟨q3,bZ,Nat.le_refl _⟩,by rw[h1.sz];omega,fun k _ _ hh=>by have:=hh.2;simp at this,fun i x hx=>?_⟩;obtain⟨a,ha,hr,-⟩:=h1.rep x;have hi:i<l.length:=(List.getElem?_eq_some_iff.1 hx).1;have e:bz cur (0+i*K.sz c) (K.sz c)=[enc x]:=by
    rw[h1.sz,Nat.zero_add,Nat.mul_one];have h3:(cur.toList.take l.length)[i]?=some (enc x):=by
     rw[Nat.mul_one]at q6;rw[q6,List.getElem?_map,hx];rfl
    rw[List.getElem?_take,if_pos hi]at h3;unfold bz;have h4:i<cur.toList.length:=(List.getElem?_eq_some_iff.1 h3).1;rw[List.drop_eq_getElem_cons h4];rw[List.getElem?_eq_getElem h4]at h3;simp only[List.take_succ_cons,List.take_zero];rw[Option.some.inj h3]
   rw[ha,e];exact .cons (hr _ _ _) .nil
 ·have hk:k=0:=by
   have:=(List.getElem?_eq_some_iff.1 g1).1;simp at this;exact this
  have hk':k'=0:=by
   have:=(List.getElem?_eq_some_iff.1 k1).1;simp at this;exact this
  rw[hk,hk']
end Go.V
namespace M
def QF(s:List UInt8)(c:Int):Int:=Go.Lib.indexByte s c.toNat.toUInt8
def strings_IndexByte(s:List UInt8)(c:Int):Option Int:=some (QF s c)
def gQ(l:List Int):Option (List Int):=bif decide (l.length<=1099511627776)then some l else none
end M
namespace M
def adG(s:List UInt8):Option Bool:=
 bif decide (s.length<=9223372036854775807)then some (Go.Lib.validD s)else none
def adH(s:List UInt8):Option (List UInt8):=some s
def adI(s:List UInt8):Option (List UInt8):=bif decide (s.length<=1073741824)then some s else none
def adJ(l:List (List UInt8)):Option (List (List UInt8)):=bif decide (l.length<=1099511627776)then some l else none
end M
namespace M
def kf(l:List ai):Option (List ai):=bif decide (l.length<=1048576)then some l else none
def ke(l:List ae):Option (List ae):=bif decide (l.length<=1048576)then some l else none
end M
