/-
  CONTRACTS BY HAND: a row of one-cell values in memory of the call's own, read as an owned slice.
-/
import Derived.Test.YthggbkhhdgnmaaaGreatDoorXEhand
import Derived.Lib.Bytealg
set_option linter.unusedVariables false
namespace Go.V
open Go Go.RowKit Go.Sort Go.Proofs
variable{P :Program}
structure En (c:U) (enc:El c->Value):Prop where
 sz:K.sz c=1
 rep:∀x,∃a,D.cells c x=[a]/\(∀ρ S w,Rep D ρ S w a (enc x))/\∀ρ S w v,Rep D ρ S w a v->v=enc x
theorem ahs:En U.i64 (fun x=>Value.int .i64 x):=⟨rfl,fun x=>⟨.int .i64 x,rfl,fun _ _ _=>.int _ _,fun _ _ _ _ h=>fB h⟩⟩
def azE{c:U}(enc:El c->Value)(n₀:Nat)(W:World)(sv:Value)(zs:List (El c)):Prop:=
 (∃a cap,sv=.slice a 0 cap/\zs=[])\/∃b off cap,sv=.slice (some ⟨b,off,none⟩) zs.length cap/\b<n₀/\∀j x,zs[j]?=some x->W.cell? ⟨b,off+j,none⟩=some (enc x)
theorem azF{c:U}{enc:El c->Value}(h1:En c enc){ρ:List Value}{S:Nat->Prop}{w:World}{x:El c}{vs:List Value}(h:bG D ρ S w (D.cells c x) vs):vs=[enc x]:=by
 obtain⟨a,ha,-,hu⟩:=h1.rep x;rw[ha]at h;obtain⟨u,r,rfl,g1,g2⟩:=h.ij;rw[g2.pv,hu _ _ _ u g1]
theorem aht{c:U}{enc:El c->Value}(h1:En c enc){S:Nat->Prop}{w:World}{zs:List (El c)}{X:Value}(hS:∀b,S b->b<w.heap.size)(h:Rep D [] S w (.ah c zs) X):azE enc w.heap.size w X zs:=by
 cases h with
 |fw a cap=>exact .inl ⟨a,cap,rfl,rfl⟩
 |ah val hSb hcap hl hc hr=>
  refine .inr ⟨_,_,_,rfl,hS _ hSb,fun j x hx=>?_⟩;have hj:j<zs.length:=(cy.1 hx).1;have e:=azF h1 (vs:=val j) ⟨(hl j x hx).symm,hr j x hx⟩;have h2:=hc j hj 0 (enc x) (by rw[e];rfl);rw[h1.sz,tC,Nat.add_zero]at h2;exact h2
theorem ahr{f:FuncId}{args:List (AV K)}{c:U}{enc:El c->Value}(h1:En c enc){l:List (El c)}{T:TypeId}(hf:tp P f)(eQ:il D c T 0)
 (h:∀(S:Nat->Prop)(w:World)(vals:List Value),(∀b,S b->b<w.heap.size)->bG D [] S w args vals->Calls P f vals.toArray w fun e w'=>∃v,e=.returned v/\w'.ownsRow w.heap.size T 1 v l.length (l.map enc)/\Below w.heap.size w w'):RC D P f args [] (.sl 0) [.arr c l]:=by
 refine⟨hf,fun ρ S w vals hs ha=>?_⟩;have hρ:ρ=[]:=by have:=hs.len;simpa using this
 subst hρ;refine(h S w vals hs.slt ha).mono ?_
 rintro e w' ⟨v,rfl,hrow,hb⟩
 have aC1:∀(w:World) b,¬Own D w [] ([]:List (Ob K)) b:=fun w b hb=>by
  obtain⟨h,o,r,ho,_⟩:=hb;simp at ho
 have hown:∀b,Own D w' [v] [(Ob.arr c l:Ob K)] b->w.heap.size<=b/\b<w'.heap.size:=fun b ⟨k,o,r,g1,g2,g3,g4⟩=>by
  have hk:k=0:=by
   have:=(cy.1 g1).1;simp at this;exact this
  subst hk;simp at g1 g3;subst g1;subst g3;rcases hrow.2 with⟨rfl,-⟩|⟨g,cap,cur,rfl,q1,q2,-⟩
  ·simp[cE,iO]at g4
  ·simp[cE,iO]at g4;subst g4;exact⟨q1,(jL.1 q2).1⟩
 have hsl:∃a n cp,v=.slice a n cp:=by
  rcases hrow.2 with⟨rfl,-⟩|⟨g,cap,cur,rfl,-⟩
  ·exact⟨_,_,_,rfl⟩
  ·exact⟨_,_,_,rfl⟩
 obtain⟨a,n,cp,hv⟩:=hsl;refine⟨v,[v],S,rfl,⟨rfl,fun k o r g1 g3=>?_,fun k k' o o' r r' b g1 _ _ _ k1 _ _ _=>?_,fun b hb=>⟨(hown b hb).2,fun hS=>by have:=(hown b hb).1;have:=hs.slt b hS;omega⟩,fun b hS=>kd (hs.slt b hS) hb.size,D.base.mono (fun _ h=>h) (fun b h=>hb.block b (hs.slt b h)) hs.base⟩,by rw[hv];exact .sl rfl,
  ⟨hb.os,hb.tape,hb.output,hb.size,fun b hlt _=>hb.block b hlt,fun b hb=>.inr (hown b hb).1,fun _ h=>h,fun _ h=>.inl h,fun h hh=>by simp at hh⟩⟩
 ·have hk:k=0:=by
   have:=(cy.1 g1).1;simp at this;exact this
  subst hk;simp at g1 g3;subst g1;subst g3;rcases hrow.2 with⟨rfl,h0⟩|⟨g,cap,cur,rfl,q1,q2,q3,q4,q5,q6⟩
  ·exact .inl ⟨rfl,mq h0⟩
  ·refine .inr ⟨g,0,cap,cur,T,(0,0),rfl,q2,⟨q3,eQ⟩,by rw[h1.sz];omega,fun k _ _ hh=>by have:=hh.2;simp at this,fun i x hx=>?_⟩;obtain⟨a,ha,hr,-⟩:=h1.rep x;have hi:i<l.length:=(cy.1 hx).1;have e:cG cur (0+i*K.sz c) (K.sz c)=[enc x]:=by
    rw[h1.sz,dN,tC];have h3:(cur.toList.take l.length)[i]?=some (enc x):=by
     rw[tC]at q6;rw[q6,gn,hx];rfl
    rw[dW,aF hi]at h3;unfold cG;have h4:i<cur.toList.length:=(cy.1 h3).1;rw[List.drop_eq_getElem_cons h4];rw[cw h4]at h3;simp only[List.take_succ_cons,List.take_zero];rw[ig h3]
   rw[ha,e];exact .cons (hr _ _ _) .nil
 ·have hk:k=0:=by
   have:=(cy.1 g1).1;simp at this;exact this
  have hk':k'=0:=by
   have:=(cy.1 k1).1;simp at this;exact this
  rw[hk,hk']
end Go.V
namespace M
def Eh(s:List UInt8)(c:Int):Int:=Go.Lib.indexByte s c.toNat.toUInt8
def strings_IndexByte(s:List UInt8)(c:Int):Option Int:=some (Eh s c)
def sQ(l:List Int):Option (List Int):=bif decide (l.length<=1099511627776)then some l else none
end M
