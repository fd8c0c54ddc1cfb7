/-
  CONTRACTS BY HAND: a row of values of several cells each, in memory of the call's own, read as an owned slice.
-/
import Derived.Test.YtpablcpgdagijaaGreatXChandA
set_option linter.unusedVariables false
namespace Go.V
open Go Go.RowKit Go.Sort Go.Proofs
variable {P :Program}
structure lZ (c:U) (enc:El c->List Value):Prop where
 pos:0<K.sz c
 len:∀x,(enc x).length=K.sz c
 rep:∀x ρ S w,aI D ρ S w (D.cells c x) (enc x)
 uniq:∀x ρ S w vs,aI D ρ S w (D.cells c x) vs->vs=enc x
 one:∀x,∀u∈enc x,u.oneCell'=true
theorem EV{c:U}{enc:El c->List Value}(h:lZ c enc):∀(zs:List (El c))(i:Nat)(u:Value),(zs.flatMap enc)[i]?=some u->∃j x k,zs[j]?=some x/\(enc x)[k]?=some u/\i=j*K.sz c+k
 |[],i,u,e=>by simp at e
 |x::r,i,u,e=>by
  rw[List.flatMap_cons]at e;rcases Nat.lt_or_ge i (enc x).length with hi|hi
  ·rw[List.getElem?_append_left hi]at e;exact⟨0,x,i,rfl,e,by omega⟩
  ·rw[List.getElem?_append_right hi]at e;obtain⟨j,y,k,h1,h2,h3⟩:=EV h r _ u e;have hl:=h.len x;refine⟨j+1,y,k,h1,h2,?_⟩;rw[Nat.add_one_mul];omega
theorem uN{c:U}{enc:El c->List Value}(h:lZ c enc):∀(zs:List (El c)),(zs.flatMap enc).length=zs.length*K.sz c
 |[]=>by simp
 |x::r=>by rw[List.flatMap_cons,List.length_append,uN h r,h.len,List.length_cons,Nat.add_one_mul];omega
theorem EW{c:U}{enc:El c->List Value}(h:lZ c enc):∀(zs:List (El c))(L:List Value)(j:Nat)(x:El c),L.take (zs.length*K.sz c)=zs.flatMap enc->zs[j]?=some x->(L.drop (j*K.sz c)).take (K.sz c)=enc x
 |[],L,j,x,_,e=>by simp at e
 |y::r,L,j,x,hL,e=>by
  rw[List.flatMap_cons,List.length_cons,Nat.add_one_mul,Nat.add_comm (r.length*K.sz c),List.take_add]at hL;have hl:=h.len y;have hle:K.sz c<=L.length:=by
   have h1:=congrArg List.length hL;rw[List.length_append,List.length_append,hl,List.length_take,uN h,List.length_take,List.length_drop]at h1;omega
  obtain⟨h1,h2⟩:=List.append_inj hL (by rw[hl,List.length_take];omega);cases j with
  |zero=>
   simp at e;subst e;rw[Nat.zero_mul,List.drop_zero,h1]
  |succ j=>
   simp only[List.getElem?_cons_succ]at e;have:=EW h r (L.drop (K.sz c)) j x h2 e;rw[List.drop_drop]at this;rw[Nat.add_one_mul,Nat.add_comm (j*K.sz c)];exact this
def RowsIn{c:U}(enc:El c->List Value)(n₀:Nat)(W:World)(sv:Value)(zs:List (El c)):Prop:=
 (∃a cap,sv=.slice a 0 cap/\zs=[])\/∃b off cap,sv=.slice (some ⟨b,off,none⟩) zs.length cap/\b<n₀/\∀i u,(zs.flatMap enc)[i]?=some u->W.cell? ⟨b,off+i,none⟩=some u
theorem ET{c:U}{enc:El c->List Value}(h1:lZ c enc){S:Nat->Prop}{w:World}{zs:List (El c)}{X:Value}(hS:∀b,S b->b<w.heap.size)(h:Rep D [] S w (.au c zs) X):RowsIn enc w.heap.size w X zs:=by
 cases h with
 |cK a cap=>exact .inl ⟨a,cap,rfl,rfl⟩
 |au val hSb hcap hl hc hr=>
  refine .inr ⟨_,_,_,rfl,hS _ hSb,fun i u hu=>?_⟩;obtain⟨j,x,k,g1,g2,rfl⟩:=EV h1 zs i u hu;have hj:j<zs.length:=(List.getElem?_eq_some_iff.1 g1).1;have e:=h1.uniq x _ _ _ (val j) ⟨(hl j x g1).symm,hr j x g1⟩;have h2:=hc j hj k u (by rw[e];exact g2);rw[Nat.add_assoc]at h2;exact h2
theorem ES{f:FuncId}{args:List (AV K)}{c:U}{enc:El c->List Value}(h1:lZ c enc){l:List (El c)}{T:TypeId}(hf:l3 P f)(bZ:eF D c T 0)
 (h:∀(S:Nat->Prop)(w:World)(vals:List Value),(∀b,S b->b<w.heap.size)->aI D [] S w args vals->Calls P f vals.toArray w fun e w'=>∃v,e=.returned v/\w'.ownsRow w.heap.size T (K.sz c) v l.length (l.flatMap enc)/\Below w.heap.size w w'):RC D P f args [] (.sl 0) [.arr c l]:=by
 refine⟨hf,fun ρ S w vals hs ha=>?_⟩;have hρ:ρ=[]:=by have:=hs.len;simpa using this
 subst hρ;refine(h S w vals hs.slt ha).mono ?_
 rintro e w' ⟨v,rfl,hrow,hb⟩
 have Qz:∀(w:World) b,¬Own D w [] ([]:List (Ob K)) b:=fun w b hb=>by
  obtain⟨h,o,r,ho,_⟩:=hb;simp at ho
 have hown:∀b,Own D w' [v] [(Ob.arr c l:Ob K)] b->w.heap.size<=b/\b<w'.heap.size:=fun b ⟨k,o,r,g1,g2,g3,g4⟩=>by
  have hk:k=0:=by
   have:=(List.getElem?_eq_some_iff.1 g1).1;simp at this;exact this
  subst hk;simp at g1 g3;subst g1;subst g3;rcases hrow.2 with⟨rfl,-⟩|⟨g,cap,cur,rfl,q1,q2,-⟩
  ·simp[bj,dj]at g4
  ·simp[bj,dj]at g4;subst g4;exact⟨q1,(Array.getElem?_eq_some_iff.1 q2).1⟩
 have hsl:∃a n cp,v=.slice a n cp:=by
  rcases hrow.2 with⟨rfl,-⟩|⟨g,cap,cur,rfl,-⟩
  ·exact⟨_,_,_,rfl⟩
  ·exact⟨_,_,_,rfl⟩
 obtain⟨a,n,cp,hv⟩:=hsl;refine⟨v,[v],S,rfl,⟨rfl,fun k o r g1 g3=>?_,fun k k' o o' r r' b g1 _ _ _ k1 _ _ _=>?_,fun b hb=>⟨(hown b hb).2,fun hS=>by have:=(hown b hb).1;have:=hs.slt b hS;omega⟩,fun b hS=>Nat.lt_of_lt_of_le (hs.slt b hS) hb.size,D.base.mono (fun _ h=>h) (fun b h=>hb.block b (hs.slt b h)) hs.base⟩,by rw[hv];exact .sl rfl,
  ⟨hb.os,hb.tape,hb.output,hb.size,fun b hlt _=>hb.block b hlt,fun b hb=>.inr (hown b hb).1,fun _ h=>h,fun _ h=>.inl h,fun h hh=>by simp at hh⟩⟩
 ·have hk:k=0:=by
   have:=(List.getElem?_eq_some_iff.1 g1).1;simp at this;exact this
  subst hk;simp at g1 g3;subst g1;subst g3;rcases hrow.2 with⟨rfl,h0⟩|⟨g,cap,cur,rfl,q1,q2,q3,q4,q5,q6⟩
  ·exact .inl ⟨rfl,List.eq_nil_of_length_eq_zero h0⟩
  ·refine .inr ⟨g,0,cap,cur,T,(0,0),rfl,q2,⟨q3,bZ,Nat.le_refl _⟩,by omega,fun k _ _ hh=>by have:=hh.2;simp at this,fun i x hx=>?_⟩;have e:bz cur (0+i*K.sz c) (K.sz c)=enc x:=by
    rw[Nat.zero_add];exact EW h1 l cur.toList i x q6 hx
   rw[e];exact h1.rep x _ _ _
 ·have hk:k=0:=by
   have:=(List.getElem?_eq_some_iff.1 g1).1;simp at this;exact this
  have hk':k'=0:=by
   have:=(List.getElem?_eq_some_iff.1 k1).1;simp at this;exact this
  rw[hk,hk']
end Go.V
