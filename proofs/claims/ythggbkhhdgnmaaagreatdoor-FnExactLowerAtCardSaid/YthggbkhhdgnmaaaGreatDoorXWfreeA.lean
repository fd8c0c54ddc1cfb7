/-
  A REGION WHOSE ORDER IS LEFT OPEN, WITH OPERATIONS THAT MAKE AND TURN OBJECTS: each is read with no more than what comes ahead of it; what an operation makes gets the number that it has in the text's order; what one turns no other may lean on that is not bound to it by an edge.
-/
import Derived.Test.YthggbkhhdgnmaaaGreatDoorXWdrawA
set_option linter.unusedVariables false
namespace Go.V
open Go
variable{K :dt}{ρ ρ':List Value}{S S':Nat->Prop}{w w':World}{H H':List (Ob K)}{D:bN K}
theorem E3{bits:Nat}:∀(l:List (Ob K))(i k:Nat),(iI bits i l)[k]?=(l[k]?).map fun o=>if bits.testBit (i+k)then .dead else o
 |[],i,k=>by simp[iI]
 |o::r,i,0=>by simp[iI]
 |o::r,i,k+1=>by
  simp only[iI,List.getElem?_cons_succ];rw[E3 r (i+1) k,show i+1+k=i+(k+1) by omega]
theorem E4{bits:Nat}:∀(l:List (Ob K))(i:Nat),(iI bits i l).length=l.length
 |[],i=>rfl
 |o::r,i=>by simp only[iI,cD,E4 r]
theorem Ld{bits:Nat}:∀(l l':List (Ob K))(i:Nat),l.length<=l'.length->(kz bits i l l').length=l'.length
 |[],l',i,_=>by simp[kz]
 |o::r,[],i,h=>by simp at h
 |o::r,o'::r',i,h=>by
  simp only[kz,cD];rw[Ld r r' (i+1) (by simpa using h)]
theorem Le{bits:Nat}:∀(l l':List (Ob K))(i k:Nat),l.length<=l'.length->(kz bits i l l')[k]?=if k<l.length/\bits.testBit (i+k)=true then l[k]? else l'[k]?
 |[],l',i,k,_=>by simp[kz]
 |o::r,[],i,k,h=>by simp at h
 |o::r,o'::r',i,0,h=>by
  simp only[kz,List.getElem?_cons_zero,cD,Nat.add_zero];by_cases hb:bits.testBit i=true<;>simp[hb]
 |o::r,o'::r',i,k+1,h=>by
  simp only[kz,List.getElem?_cons_succ,cD,Nat.add_lt_add_iff_right];rw[Le r r' (i+1) k (by simpa using h),show i+1+k=i+(k+1) by omega]
theorem xo{n:Nat}:∀{l:List (AV K)}{i:Nat}{v:AV K},pG n l=true->l[i]?=some v->v.upto n=true
 |[],i,v,_,h=>by simp at h
 |x::r,0,v,h,hv=>by simp at hv;subst hv;simp only[pG,bJ]at h;exact h.1
 |x::r,i+1,v,h,hv=>by simp only[pG,bJ]at h;exact xo h.2 (by simpa using hv)
theorem Rep.take(hD:bY D){n:Nat}{v:AV K}{x:Value}(h:Rep D ρ S w v x):v.upto n=true->Rep D (ρ.take n) S w v x:=by
 have tk:∀{k:Nat}{r:Value},k<n->ρ[k]?=some r->(ρ.take n)[k]?=some r:=fun hk hr=>by rw[dW,aF hk];exact hr
 induction h with
 |any v=>exact fun _=>.any v
 |int k n=>exact fun _=>.int k n
 |bool b=>exact fun _=>.bool b
 |str s=>exact fun _=>.str s
 |dJ=>exact fun _=>.dJ
 |dk=>exact fun _=>.dk
 |fn hl _ ih=>exact fun hu=>.fn hl fun i v x h1 h2=>ih i v x h1 h2 (xo (by simpa [AV.upto]using hu) h1)
 |lg=>exact fun _=>.lg
 |np hp=>exact fun hu=>.np (tk (by simpa [AV.upto]using hu) hp)
 |ptr hp=>exact fun hu=>.ptr (tk (by simpa [AV.upto]using hu) hp)
 |sl hp=>exact fun hu=>.sl (tk (by simpa [AV.upto]using hu) hp)
 |ep hp hi=>exact fun hu=>.ep (tk (by simpa [AV.upto]using hu) hp) hi
 |vw hp h1 h2 ha=>exact fun hu=>.vw (tk (by simpa [AV.upto]using hu) hp) h1 h2 ha
 |fw a cap=>exact fun _=>.fw a cap
 |ah val h1 h2 h3 h4 h5 ih=>exact fun _=>(Rep.ah val h1 h2 h3 h4 h5).closed hD rfl
 |rp vs h1 h2 h3 h4 ih=>exact fun _=>(Rep.rp vs h1 h2 h3 h4).closed hD rfl
 |agg hl _ ih=>exact fun hu=>.agg hl fun i v x h1 h2=>ih i v x h1 h2 (xo (by simpa [AV.upto]using hu) h1)
 |bT hl _ ih=>exact fun hu=>.bT hl fun i v x h1 h2=>ih i v x h1 h2 (xo (by simpa [AV.upto]using hu) h1)
theorem bG.aBu(hD:bY D){n:Nat}{l:List (AV K)}{vs:List Value}(h:bG D ρ S w l vs)(hu:pG n l=true):bG D (ρ.take n) S w l vs:=
 ⟨h.1,fun i v x h1 h2=>(h.2 i v x h1 h2).take hD (xo hu h1)⟩
def dummy:Value:=.bool false
theorem Rep.mono'(hS:∀b,S b->S' b)(hw:∀b,S b->w'.heap[b]?=w.heap[b]?)(hρ:∀(h:Nat) r,ρ[h]?=some r->r≠dummy->ρ'[h]?=some r){v:AV K}{x:Value}
 (h:Rep D ρ S w v x):Rep D ρ' S' w' v x:=by
 induction h with
 |any v=>exact .any v
 |int k n=>exact .int k n
 |bool b=>exact .bool b
 |str s=>exact .str s
 |dJ=>exact .dJ
 |dk=>exact .dk
 |fn hl _ ih=>exact .fn hl ih
 |lg=>exact .lg
 |np hp=>exact .np (hρ _ _ hp (by simp[dummy]))
 |ptr hp=>exact .ptr (hρ _ _ hp (by simp[dummy]))
 |sl hp=>exact .sl (hρ _ _ hp (by simp[dummy]))
 |ep hp hi=>exact .ep (hρ _ _ hp (by simp[dummy])) hi
 |vw hp h1 h2 ha=>exact .vw (hρ _ _ hp (by simp[dummy])) h1 h2 ha
 |fw a cap=>exact .fw a cap
 |ah val h1 h2 h3 h4 _ ih=>exact .ah val (hS _ h1) h2 h3 (fun i hi=>(h4 i hi).keep (hw _ h1)) ih
 |rp vs h1 h2 h3 _ ih=>exact .rp vs (hS _ h1) h2 (h3.keep (hw _ h1)) ih
 |agg hl _ ih=>exact .agg hl ih
 |bT hl _ ih=>exact .bT hl ih
theorem bG.mono'(hS:∀b,S b->S' b)(hw:∀b,S b->w'.heap[b]?=w.heap[b]?)(hρ:∀(h:Nat) r,ρ[h]?=some r->r≠dummy->ρ'[h]?=some r){l:List (AV K)}{vs:List Value}
 (h:bG D ρ S w l vs):bG D ρ' S' w' l vs:=⟨h.1,fun i v x hv hx=>(h.2 i v x hv hx).mono' hS hw hρ⟩
theorem fN.take(hD:bY D){n:Nat}{o:Ob K}{r:Value}(h:fN D ρ S w o r)(hu:o.upto n=true):fN D (ρ.take n) S w o r:=by
 cases o with
 |dead=>trivial
 |hZ c l=>exact Rep.closed hD h rfl
 |box cs=>
  obtain⟨b,vs,T,h1,h2,h3,h4⟩:=h;exact⟨b,vs,T,h1,h2,h3.aBu hD hu,h4⟩
 |arr c l=>
  rcases h with h|⟨b,o,cap,vs,T,fr,h1,h2,h3,h4,h5,h6⟩
  ·exact .inl h
  ·exact .inr ⟨b,o,cap,vs,T,fr,h1,h2,h3,h4,h5,fun i x hx=>(h6 i x hx).closed hD (hD.closed _ _)⟩
 |tree c l=>exact h
 |opn c l i off cs=>exact lZ.keep (fun j v u hv hr=>hr.take hD (xo hu hv)) (fun _ _=>rfl) h
theorem fN.mono'(hS:∀b,S b->S' b)(hw:∀b,S b->w'.heap[b]?=w.heap[b]?)(hρ:∀(h:Nat) r,ρ[h]?=some r->r≠dummy->ρ'[h]?=some r){o:Ob K}{r:Value}(h:fN D ρ S w o r)
 (hb:∀b,o.live=true->cE D w o r b->w'.heap[b]?=w.heap[b]?):fN D ρ' S' w' o r:=by
 cases o with
 |dead=>trivial
 |hZ c l=>exact Rep.mono' hS hw hρ h
 |box cs=>
  obtain⟨b,vs,T,rfl,h2,h3,h4⟩:=h;exact⟨b,vs,T,rfl,by rw[hb b rfl rfl];exact h2,h3.mono' hS hw hρ,h4⟩
 |arr c l=>
  rcases h with h|⟨b,o,cap,vs,T,fr,rfl,h2,h3,h4,h5,h6⟩
  ·exact .inl h
  ·exact .inr ⟨b,o,cap,vs,T,fr,rfl,by rw[hb b rfl rfl];exact h2,h3,h4,h5,fun i x hx=>(h6 i x hx).mono' hS hw hρ⟩
 |tree c l=>exact Tree.mono h fun k hk=>hb k rfl hk
 |opn c l i off cs=>exact lZ.keep (fun _ _ _ _ hr=>hr.mono' hS hw hρ) (fun k hk=>hb k rfl hk) h
structure View (n:Nat) (H Hv:List (Ob K)):Prop where
 len:Hv.length=n
 le:n<=H.length
 ob:∀(h:Nat) o,Hv[h]?=some o->o=.dead\/H[h]?=some o
 up:∀(h:Nat) o,Hv[h]?=some o->o.upto n=true
theorem View.lt{n:Nat}{H Hv:List (Ob K)}(v:View n H Hv){h:Nat}{o:Ob K}(ho:Hv[h]?=some o):h<n:=by
 have:=(cy.1 ho).1;rw[v.len]at this;exact this
theorem View.live{n:Nat}{H Hv:List (Ob K)}(v:View n H Hv){h:Nat}{o:Ob K}(ho:Hv[h]?=some o)(hl:o.live=true):H[h]?=some o:=by
 rcases v.ob h o ho with rfl|h
 ·cases hl
 ·exact h
theorem View.own{n:Nat}{H Hv:List (Ob K)}(v:View n H Hv){b:Nat}(h:Own D w (ρ.take n) Hv b):Own D w ρ H b:=by
 obtain⟨h,o,r,h1,h2,h3,h4⟩:=h;rw[dW,aF (v.lt h1)]at h3;exact⟨h,o,r,v.live h1 h2,h2,h3,h4⟩
theorem aY.view(hD:bY D){n:Nat}{H Hv:List (Ob K)}(hs:aY D ρ S w H)(v:View n H Hv):aY D (ρ.take n) S w Hv:={
 len:=by rw[iw,hs.len,v.len];have:=v.le;omega
 ob:=fun h o r ho hr=>by
  rw[dW,aF (v.lt ho)]at hr;rcases v.ob h o ho with rfl|h1
  ·trivial
  ·exact(hs.ob h o r h1 hr).take hD (v.up h o ho)
 eC:=fun h h' o o' r r' b h1 h2 h3 h4 h5 h6 h7 h8=>by
  rw[dW,aF (v.lt h1)]at h3;rw[dW,aF (v.lt h5)]at h7;exact hs.eC h h' o o' r r' b (v.live h1 h2) h2 h3 h4 (v.live h5 h6) h6 h7 h8
 lt:=fun b hb=>hs.lt b (v.own hb)
 slt:=hs.slt
 base:=hs.base}
structure Joined (n m:Nat) (H Hv H1 Hf:List (Ob K)):Prop where
 le:n<=m
 len1:H1.length=m
 len:Hf.length=H.length
 leN:m<=H.length
 ob:∀(h:Nat) o,Hf[h]?=some o->(h<m/\H1[h]?=some o)\/(H[h]?=some o/\((h<n/\Hv[h]?=some .dead)\/m<=h))
theorem akA{n m:Nat}{ρ ρ1:List Value}(hl:ρ1.length=m)(hm:m<=ρ.length)(k:Nat):(ρ1++ρ.drop m)[k]?=if k<m then ρ1[k]? else ρ[k]?:=by
 by_cases h:k<m
 ·rw[aF h,dC (by omega)]
 ·rw[ax h,dH (by omega),gB];congr 1;omega
theorem aY.join{n m n0:Nat}{H Hv H1 Hf:List (Ob K)}{ρ1:List Value}{S1:Nat->Prop}{w1:World}(hs:aY D ρ S w H)(v:View n H Hv)(hs1:aY D ρ1 S1 w1 H1)(st:Step D n (ρ.take n) S Hv w ρ1 S1 H1 w1)(j:Joined n m H Hv H1 Hf)
 (hd:∀h,n<=h->h<m->ρ[h]?=some dummy) (hn0:n0<=n):aY D (ρ1++ρ.drop m) S1 w1 Hf/\Step D n0 ρ S H w (ρ1++ρ.drop m) S1 Hf w1/\∀(h:Nat) r,ρ[h]?=some r->r≠dummy->(ρ1++ρ.drop m)[h]?=some r:=by
 have hl1:ρ1.length=m:=by rw[hs1.len,j.len1]
 have aBv:m<=ρ.length:=by rw[hs.len];exact j.leN
 have hρ:∀k,(ρ1++ρ.drop m)[k]?=if k<m then ρ1[k]? else ρ[k]?:=akA (n:=n) hl1 aBv
 have hpre:∀h,h<n->ρ1[h]?=ρ[h]?:=fun h hh=>by rw[st.pre h hh,dW,aF hh]
 have hmono:∀(h:Nat) r,ρ[h]?=some r->r≠dummy->(ρ1++ρ.drop m)[h]?=some r:=fun h r hr hne=>by
  rw[hρ];by_cases h1:h<m
  ·rw[aF h1];by_cases h2:h<n
   ·rw[hpre h h2];exact hr
   ·rw[hd h (by omega) h1]at hr;exact absurd (ig hr).symm hne
  ·rw[ax h1];exact hr
 have hun:∀{h:Nat}{o:Ob K}{r:Value}{b:Nat},H[h]?=some o->o.live=true->ρ[h]?=some r->cE D w o r b->((h<n/\Hv[h]?=some .dead)\/m<=h)->¬Own D w (ρ.take n) Hv b:=fun{h o r b} h1 h2 h3 h4 h5 ho=>by
  obtain⟨h',o',r',g1,g2,g3,g4⟩:=ho;have g3':ρ[h']?=some r':=by rw[dW,aF (v.lt g1)]at g3;exact g3
  have e:=hs.eC h h' o o' r r' b h1 h2 h3 h4 (v.live g1 g2) g2 g3' g4;subst e;rcases h5 with⟨-,h5⟩|h5
  ·rw[g1]at h5;simp at h5;subst h5;cases g2
  ·have:=v.lt g1;have:=j.le;omega
 have hblk:∀{h:Nat}{o:Ob K}{r:Value}{b:Nat},H[h]?=some o->o.live=true->ρ[h]?=some r->cE D w o r b->b<w.heap.size/\¬S b:=fun{h o r b} h1 h2 h3 h4=>hs.lt b ⟨h,o,r,h1,h2,h3,h4⟩
 have hkp:∀{h:Nat}{o:Ob K}{r:Value},H[h]?=some o->o.live=true->ρ[h]?=some r->((h<n/\Hv[h]?=some .dead)\/m<=h)->∀b,cE D w o r b->w1.heap[b]?=w.heap[b]?:=fun{h o r} h1 h2 h3 h5 b h4=>st.old b (hblk h1 h2 h3 h4).1 (hun h1 h2 h3 h4 h5)
 have hrr:∀{h:Nat}{o:Ob K}{r:Value},H[h]?=some o->((h<n/\Hv[h]?=some .dead)\/m<=h)->(ρ1++ρ.drop m)[h]?=some r->ρ[h]?=some r:=fun{h o r} _ h5 hr=>by
  rw[hρ]at hr;rcases h5 with⟨h5,-⟩|h5
  ·rw[aF (by have:=j.le;omega),hpre h h5]at hr;exact hr
  ·rw[ax (by omega)]at hr;exact hr
 have hown:∀b,Own D w1 (ρ1++ρ.drop m) Hf b->Own D w1 ρ1 H1 b\/∃(h:Nat)(o:Ob K)(r:Value),H[h]?=some o/\o.live=true/\ρ[h]?=some r/\cE D w o r b/\((h<n/\Hv[h]?=some .dead)\/m<=h):=fun b hb=>by
  obtain⟨h,o,r,g1,g2,g3,g4⟩:=hb;rcases j.ob h o g1 with⟨k1,k2⟩|⟨k1,k2⟩
  ·rw[hρ,aF k1]at g3;exact .inl ⟨h,o,r,k2,g2,g3,g4⟩
  ·exact .inr ⟨h,o,r,k1,g2,hrr k1 k2 g3,g4.old (hkp k1 g2 (hrr k1 k2 g3) k2),k2⟩
 have hnew:∀b,Own D w1 ρ1 H1 b->Own D w (ρ.take n) Hv b\/w.heap.size<=b:=st.own;refine⟨⟨?_,?_,?_,?_,hs1.slt,hs1.base⟩,⟨st.os,st.tape,st.output,st.size,fun b hb ho=>st.old b hb fun h=>ho (v.own h),fun b hb=>?_,st.s1,fun b hb=>?_,fun h hh=>?_⟩,hmono⟩
 ·rw[ek,List.length_drop,hl1,hs.len,j.len];have:=j.leN;omega
 ·intro h o r g1 g2;rcases j.ob h o g1 with⟨k1,k2⟩|⟨k1,k2⟩
  ·rw[hρ,aF k1]at g2;refine(hs1.ob h o r k2 g2).mono' (fun _ h=>h) (fun _ _=>rfl) (fun h' r' hr' _=>?_) (fun _ _ _=>rfl);have:h'<m:=by have:=(cy.1 hr').1;omega
   rw[hρ,aF this];exact hr'
  ·have g2':=hrr k1 k2 g2;exact(hs.ob h o r k1 g2').mono' st.s1 (fun b hb=>st.old b (hs.slt b hb) fun ho=>(hs.lt b (v.own ho)).2 hb) hmono fun b hl hbk=>st.old b (hblk k1 hl g2' hbk).1 (hun k1 hl g2' hbk k2)
 ·intro h h' o o' r r' b g1 g2 g3 g4 g5 g6 g7 g8;rcases j.ob h o g1 with⟨k1,k2⟩|⟨k1,k2⟩<;>rcases j.ob h' o' g5 with⟨l1,l2⟩|⟨l1,l2⟩
  ·rw[hρ,aF k1]at g3;rw[hρ,aF l1]at g7;exact hs1.eC h h' o o' r r' b k2 g2 g3 g4 l2 g6 g7 g8
  ·rw[hρ,aF k1]at g3;have QI:=hrr l1 l2 g7;have g8:=g8.old (hkp l1 g6 QI l2);rcases hnew b ⟨h,o,r,k2,g2,g3,g4⟩with ho|ho
   ·exact absurd ho (hun l1 g6 QI g8 l2)
   ·have:=(hblk l1 g6 QI g8).1;omega
  ·rw[hρ,aF l1]at g7;have g3':=hrr k1 k2 g3;have g4:=g4.old (hkp k1 g2 g3' k2);rcases hnew b ⟨h',o',r',l2,g6,g7,g8⟩with ho|ho
   ·exact absurd ho (hun k1 g2 g3' g4 k2)
   ·have:=(hblk k1 g2 g3' g4).1;omega
  ·exact hs.eC h h' o o' r r' b k1 g2 (hrr k1 k2 g3) (g4.old (hkp k1 g2 (hrr k1 k2 g3) k2)) l1 g6 (hrr l1 l2 g7) (g8.old (hkp l1 g6 (hrr l1 l2 g7) l2))
 ·intro b hb;rcases hown b hb with ho|⟨h,o,r,k1,k2,k3,k4,k5⟩
  ·exact hs1.lt b ho
  ·obtain⟨a1,a2⟩:=hblk k1 k2 k3 k4;refine⟨kd a1 st.size,fun hS=>?_⟩;rcases st.s2 b hS with h1|h1|h1
   ·exact a2 h1
   ·exact hun k1 k2 k3 k4 k5 h1
   ·omega
 ·rcases hown b hb with ho|⟨h,o,r,k1,k2,k3,k4,-⟩
  ·rcases hnew b ho with h1|h1
   ·exact .inl (v.own h1)
   ·exact .inr h1
  ·exact .inl ⟨h,o,r,k1,k2,k3,k4⟩
 ·rcases st.s2 b hb with h1|h1|h1
  ·exact .inl h1
  ·exact .inr (.inl (v.own h1))
  ·exact .inr (.inr h1)
 ·rw[hρ,aF (by have:=j.le;omega),hpre h (by omega)]
end Go.V
namespace Go.V
open Go
variable{K :dt}{H H':List (Ob K)}
def cz(T:List Nat)(H H':List (Ob K)):Prop:=H.length<=H'.length/\∀h,h<H.length->h∉T->H'[h]?=H[h]?
theorem cz.refl(T:List Nat)(H:List (Ob K)):cz T H H:=⟨cr _,fun _ _ _=>rfl⟩
theorem cz.app(T:List Nat)(H N:List (Ob K)):cz T H (H++N):=⟨by simp,fun h hh _=>dC hh⟩
theorem cz.trans{T:List Nat}{H H1 H2:List (Ob K)}(a:cz T H H1)(b:cz T H1 H2):cz T H H2:=
 ⟨cN a.1 b.1,fun h hh hn=>(b.2 h (kd hh a.1) hn).trans (a.2 h hh hn)⟩
theorem cz.set{T:List Nat}{H:List (Ob K)}{h:Nat}(o:Ob K)(hT:h∈T):cz T H (H.set h o):=
 ⟨by simp,fun k _ hn=>List.getElem?_set_ne (fun e=>hn (by rw[<-e];exact hT))⟩
theorem cz.more{T T':List Nat}{H H1:List (Ob K)}(a:cz T H H1)(h:∀x∈T,x∈T'):cz T' H H1:=⟨a.1,fun k hk hn=>a.2 k hk fun hm=>hn (h k hm)⟩
theorem QJ(dp:K.U->Bool):∀(cs:List (Option K.U))(l:List (AV K))(H:List (Ob K)),∃N,(thaw dp H cs l).2=H++N
 |[],l,H=>⟨[],by simp[thaw]⟩
 |some c::cs,[],H=>⟨[],by simp[thaw]⟩
 |none::cs,[],H=>⟨[],by simp[thaw]⟩
 |oc::cs,v::r,H=>by
  have keep:thaw dp H (oc::cs) (v::r)=(v::(thaw dp H cs r).1,(thaw dp H cs r).2)->∃N,(thaw dp H (oc::cs) (v::r)).2=H++N:=fun e=>by
   rw[e];exact QJ dp cs r H
  cases oc with
  |none=>exact keep (by cases v<;>rfl)
  |some c=>
   cases v with
   |dk=>
    have e:thaw dp H (some c::cs) (.dk::r)=(.sl H.length::(thaw dp (H++[mJ (dp c) c]) cs r).1,(thaw dp (H++[mJ (dp c) c]) cs r).2):=rfl;rw[e];obtain⟨N,hN⟩:=QJ dp cs r (H++[mJ (dp c) c]);exact⟨mJ (dp c) c::N,by simp only;rw[hN];simp⟩
   |_=>exact keep rfl
theorem QK(T:List Nat)(dp:K.U->Bool)(cs:List (Option K.U))(l:List (AV K))(H:List (Ob K)):cz T H (thaw dp H cs l).2:=by
 obtain⟨N,hN⟩:=QJ dp cs l H;rw[hN];exact cz.app _ _ _
theorem aBw{T:List Nat}{h:Nat}(hT:h∈T)(H:List (Ob K)):cz T H (xc H h):=by
 unfold xc;split
 ·exact cz.set _ hT
 ·exact cz.set _ hT
 ·exact cz.refl _ _
theorem Lh{T:List Nat}:∀(l:List Nat)(H:List (Ob K)),(∀x∈l,x∈T)->cz T H (iQ H l)
 |[],H,_=>cz.refl _ _
 |h::r,H,hT=>(aBw (hT h (by simp)) H).trans (Lh r _ fun x hx=>hT x (by simp[hx]))
def tX(ev:Operand->AV K)(op:Op):List Nat:=(match op with
    |.store _ p _=>hands (ev p)
    |.call {callee:=.builtin .append,args, ..}=>(match args.toList with
      |s::x::_=>hands (ev s)++hands (ev x)
      |[s]=>hands (ev s)
      |[]=>[])
    |_=>[])
theorem aBx{cx:Cx K}{sT:TypeId}{s x v:AV K}{c:Bool}{t:List Nat}(h:K5 cx H sT s x=some (v,H',c,t)):cz (hands s) H H':=by
 unfold K5 at h;split at h
 ·cases h
 ·split at h
  ·cases h
  ·split at h
   ·split at h
    ·cases h
    ·split at h
     ·simp only[aA,aV]at h;rw[<-h.2.1];exact cz.app _ _ _
     ·split at h
      ·split at h
       ·cases h
       ·split at h
        ·simp only[aA,aV]at h;rw[<-h.2.1];exact(cz.set _ (by simp[hands])).trans (cz.app _ _ _)
        ·cases h
      ·split at h
       ·simp only[aA,aV]at h;rw[<-h.2.1];exact(cz.set _ (by simp[hands])).trans (cz.app _ _ _)
       ·cases h
     ·cases h
   ·cases h
theorem akB{cx:Cx K}{ev:Operand->AV K}{op:Op}{v:AV K}{c:Bool}{t:List Nat}(h:xe cx ev H op=some (v,H',c,t)):cz (tX ev op) H H':=by
 unfold xe at h;split at h
 ·split at h
  ·dsimp only at h;split at h
   ·cases h
   ·simp only[aA,aV]at h;rw[<-h.2.1];exact(QK _ _ _ _ _).trans (cz.app _ _ _)
  ·cases h
 ·split at h
  ·split at h
   ·dsimp only at h;split at h
    ·cases h
    ·simp only[aA,aV]at h;rw[<-h.2.1];exact(QK _ _ _ _ _).trans (cz.app _ _ _)
   ·cases h
  ·cases h
 ·split at h
  ·split at h
   ·simp only[fi,aV]at h;obtain⟨cs,-,-,rfl,-⟩:=h;exact cz.refl _ _
   ·cases h
  ·cases h
 ·split at h
  ·split at h
   ·split at h
    ·rename_i hh off hp;split at h
     ·split at h
      ·dsimp only at h;split at h
       ·cases h
       ·simp only[aA,aV]at h;rw[<-h.2.1];refine(QK _ _ _ _ _).trans (cz.set _ ?_);simp only[tX,hp,hands,yN]
      ·cases h
     ·cases h
    ·rename_i hh st i off hp;split at h
     ·split at h
      ·split at h
       ·simp only[aA,aV]at h;rw[<-h.2.1];refine cz.set _ ?_;simp only[tX,hp,hands,yN]
       ·cases h
      ·cases h
     ·cases h
    ·cases h
   ·cases h
  ·cases h
 ·split at h
  ·cases h
  ·split at h
   ·split at h
    ·split at h
     ·simp only[aA,aV]at h;rw[<-h.2.1];exact cz.app _ _ _
     ·cases h
    ·cases h
   ·cases h
 ·split at h
  ·cases h
  ·split at h
   ·split at h
    ·split at h
     ·simp only[aA,aV]at h;rw[<-h.2.1];exact cz.app _ _ _
     ·cases h
    ·cases h
   ·cases h
 ·split at h
  ·split at h
   ·split at h
    ·split at h
     ·simp only[aA,aV]at h;rw[<-h.2.1];exact cz.app _ _ _
     ·cases h
    ·cases h
   ·cases h
  ·cases h
 ·split at h
  ·rename_i s x sT xT ha ht;split at h
   ·cases h
   ·refine(aBx h).more fun y hy=>?_
    simp only[tX,ha];exact dy.2 (.inl hy)
  ·cases h
 ·cases h
mutual
theorem nM:∀(v:AV K){y:Nat},y∈hands (eG H v)->y∈hands v
 |.sl k,y,h=>by
   simp only[eG]at h;split at h
   ·simp[hands]at h
   ·exact h
 |.agg l,y,h=>by simp only[eG,hands]at h⊢;exact QL l h
 |.bT l,y,h=>by simp only[eG,hands]at h⊢;exact QL l h
 |.any,y,h|.int _ _,y,h|.bool _,y,h|.str _,y,h|.dJ,y,h|.dk,y,h|.fn _ _,y,h|.ptr _ _,y,h|.ep _ _ _ _,y,h|.ah _ _,y,h|.rp _ _ _,y,h|.np _,y,h|.vw _ _ _ _,y,h|.opt _ _ _,y,h=>by simpa only[eG]using h
theorem QL:∀(l:List (AV K)){y:Nat},y∈cn (pF H l)->y∈cn l
 |[],y,h=>by simpa [pF]using h
 |v::r,y,h=>by
  simp only[pF,cn,dy]at h⊢;exact h.imp (nM v) (QL r)
end
theorem akC{ev:Operand->AV K}{op:Op}{y:Nat}(h:y∈tX (fun x=>eG H (ev x)) op):y∈tX ev op:=by
 unfold tX at h⊢;split at h
 ·exact nM _ h
 ·split at h
  ·rename_i hs;rcases dy.1 h with h|h
   ·exact dy.2 (.inl (nM _ h))
   ·exact dy.2 (.inr (nM _ h))
  ·exact nM _ h
  ·simp at h
 ·simp at h
theorem E5{T:List Nat}:∀(l:List Nat)(H:List (Ob K)),(∀x∈l,x∈T)->cz T H (fj H l)
 |[],H,_=>cz.refl _ _
 |h::r,H,hT=>(cz.set _ (hT h (by simp))).trans (E5 r _ fun x hx=>hT x (by simp[hx]))
theorem akD{c:K.U}{v:AV K}{l:List (K.El c)}{ks:List Nat}(h:qN H c v=some (l,ks)):∀x∈ks,x∈hands v:=fun x hx=>by
 unfold qN at h;split at h
 ·simp only[aA,aV]at h;obtain⟨rfl,rfl⟩:=h;cases hx
 ·split at h
  ·split at h
   ·simp only[aA,aV]at h;obtain⟨-,rfl⟩:=h;simpa [hands]using hx
   ·cases h
  ·cases h
 ·cases h
theorem akE{ev:Operand->AV K}{x:Nat}:∀(l:List (Nat×Operand)),x∈cn (l.map fun p=>eG H (ev p.2))->x∈cn (l.map fun p=>ev p.2)
 |[],h=>h
 |y::r,h=>by
  simp only[jo,cn,dy]at h⊢;exact h.imp (nM _) (akE r)
theorem akF{v:AV K}{a b c d:Nat}(h:eG H v=.ep a b c d):v=.ep a b c d:=by
 cases v<;>simp[eG]at h⊢<;>first|exact h|(split at h<;>cases h)
theorem aBy{cx:Cx K}{ev:Operand->AV K}{op:Op}{v:AV K}{c:Bool}{t:List Nat}(h:zA cx (fun x=>eG H (ev x)) H op=some (v,H',c,t)):cz (jl ev op) H H':=by
 unfold zA at h;split at h
 ·split at h
  ·cases h
  ·split at h
   ·split at h
    ·split at h
     ·split at h
      ·simp only[aA,aV]at h;rw[<-h.2.1];exact cz.app _ _ _
      ·cases h
     ·cases h
    ·cases h
   ·cases h
 ·rename_i T len parts;split at h
  ·cases h
  ·split at h
   ·rename_i hty hl;split at h
    ·split at h
     ·split at h
      ·simp only[aA,aV]at h;rw[<-h.2.1];refine cz.trans (E5 _ _ fun x hx=>?_) (cz.app _ _ _);rw[(KO _ _ _ hl).1]at hx;simp only[jl,lp,Ks];exact akE _ hx
      ·cases h
     ·cases h
    ·cases h
   ·cases h
 ·rename_i T p x;split at h
  ·rename_i h0 st i off n0 hp hn;split at h
   ·split at h
    ·split at h
     ·split at h
      ·simp only[aA,aV]at h;rw[<-h.2.1];have q1:=akF hp;have hmem:∀y∈h0::cn (eG H (ev x)).cq,y∈jl ev (.store T p x):=fun y hy=>by
        simp only[jl,lp,q1,dy];rcases eH.1 hy with rfl|hy
        ·exact .inr (by simp[hands])
        ·rw[PU]at hy;exact .inl (nM _ hy)
       exact(E5 _ _ hmem).trans (cz.set _ (hmem _ (by simp)))
      ·cases h
     ·cases h
    ·cases h
   ·split at h
    ·split at h
     ·split at h
      ·simp only[aA,aV]at h;rw[<-h.2.1];have q1:=akF hp;have hmem:∀y∈h0::cn (eG H (ev x)).cq,y∈jl ev (.store T p x):=fun y hy=>by
        simp only[jl,lp,q1,dy];rcases eH.1 hy with rfl|hy
        ·exact .inr (by simp[hands])
        ·rw[PU]at hy;exact .inl (nM _ hy)
       exact(E5 _ _ hmem).trans (cz.set _ (hmem _ (by simp)))
      ·cases h
     ·cases h
    ·cases h
   ·cases h
  ·cases h
 ·rename_i args argTypes;split at h
  ·rename_i s x sT xT hargs hat;split at h
   ·cases h
   ·split at h
    ·cases h
    ·split at h
     ·cases h
     ·split at h
      ·split at h
       ·rename_i l ks m ks' hl hm;split at h
        ·simp only[aA,aV]at h;rw[<-h.2.1];refine cz.trans (E5 _ _ fun y hy=>?_) (cz.app _ _ _);simp only[jl,lp,hargs,oh,dy];rcases dy.1 hy with hy|hy
         ·exact .inl (nM _ (akD hl y hy))
         ·exact .inr (nM _ (akD hm y hy))
        ·cases h
       ·cases h
      ·cases h
  ·cases h
 ·cases h
theorem aBz{cx:Cx K}{ev:Operand->AV K}{op:Op}{v:AV K}{c:Bool}{t:List Nat}(h:zB cx ev H op=some (v,H',c,t)):cz (jl ev op) H H':=by
 have e:jl ev op=lp ev op++tX ev op:=rfl;unfold zB at h;split at h
 ·rename_i r hd;simp only[aA]at h;subst h;exact aBy hd
 split at h
 ·refine(akB h).more fun y hy=>?_
  rw[e,dy];exact .inr (akC hy)
 ·have hz:cz (jl ev op) H (iQ H (lp ev op)):=Lh _ _ fun x hx=>by rw[e,dy];exact .inl hx
  split at h
  ·simp only[aA,aV]at h;rw[<-h.2.1];exact hz
  ·refine hz.trans ((akB h).more fun y hy=>?_);rw[e,dy];exact .inr (akC hy)
theorem aBA{cx:Cx K}{ev:Operand->AV K}{op:Op}{v:AV K}{c:Bool}{t:List Nat}(h:cutV cx ev H op=some (v,H',c,t)):cz (jl ev op) H H':=by
 unfold cutV at h;split at h
 ·split at h
  ·split at h
   ·rename_i hx hy he;split at h
    ·split at h
     ·simp only[aA,aV]at h;rw[<-h.2.1];refine cz.trans (cz.set _ ?_) (cz.app _ _ _);simp[jl,lp,hx]
     ·cases h
    ·split at h
     ·simp only[aA,aV]at h;rw[<-h.2.1];refine cz.trans (cz.set _ ?_) (cz.app _ _ _);simp[jl,lp,hx]
     ·cases h
    ·cases h
   ·cases h
  ·cases h
 ·split at h
  ·split at h
   ·rename_i hx hy he;split at h
    ·split at h
     ·simp only[aA,aV]at h;rw[<-h.2.1];refine cz.trans (cz.set _ ?_) (cz.app _ _ _);simp[jl,lp,hx]
     ·cases h
    ·split at h
     ·simp only[aA,aV]at h;rw[<-h.2.1];refine cz.trans (cz.set _ ?_) (cz.app _ _ _);simp[jl,lp,hx]
     ·cases h
    ·cases h
   ·cases h
  ·cases h
 ·cases h
theorem QM{cx:Cx K}{m:Mode}(hm:m=.iG\/m=.fresh){T:List Nat}{f:FuncId}{args:List (AV K)}{v:AV K}{c:Bool}{t:List Nat}(h:k9 cx m H f args=some (v,H',c,t)):cz T H H':=by
 unfold k9 at h;rcases hm with rfl|rfl
 ·simp only at h;split at h
  ·split at h
   ·split at h
    ·simp only[aA,aV]at h;rw[<-h.2.1];exact cz.app _ _ _
    ·cases h
   ·cases h
  ·cases h
 ·simp only at h;split at h
  ·split at h
   ·split at h
    ·split at h
     ·simp only[aA,aV]at h;rw[<-h.2.1];exact cz.app _ _ _
     ·cases h
    ·cases h
   ·cases h
  ·cases h
theorem akG:∀(m:List Nat)(H os:List (Ob K)){T:List Nat},(∀x∈m,x∈T)->cz T H (ji H m os)
 |[],H,os,T,_=>by cases os<;>exact cz.refl _ _
 |h::m,H,[],T,_=>cz.refl _ _
 |h::m,H,o::r,T,hm=>by
  simp only[ji];exact cz.trans (cz.set _ (hm h (by simp))) (akG m _ r fun x hx=>hm x (by simp[hx]))
theorem akH{cx:Cx K}{T:List Nat}{f:FuncId}{args:List (AV K)}{v:AV K}{c:Bool}{t:List Nat}(h:k9 cx .pass H f args=some (v,H',c,t))(hT:∀x∈reach H 64 (cn args) [],x∈T):cz T H H':=by
 unfold k9 at h;simp only at h;split at h
 ·cases h
 ·split at h
  ·split at h
   ·split at h
    ·split at h
     ·simp only[aA,aV]at h;rw[<-h.2.1];exact cz.trans (akG _ _ _ hT) (cz.app _ _ _)
     ·cases h
    ·cases h
   ·cases h
  ·cases h
theorem aBB{cx:Cx K}{ev:Operand->AV K}{t:TypeId}{p:Operand}{v:AV K}{c:Bool}{ts:List Nat}(h:zC cx ev H (.load t p)=some (v,H',c,ts)):cz (hands (ev p)) H H':=by
 unfold zC at h;simp only at h;split at h
 ·split at h
  ·rename_i hh st i off ag n hp hag hn;split at h
   ·split at h
    ·split at h
     ·simp only[aA,aV]at h;rw[<-h.2.1,hp];exact(cz.set _ (by simp[hands])).trans (cz.app _ _ _)
     ·cases h
    ·cases h
   ·cases h
  ·cases h
 ·cases h
theorem aBC{cx:Cx K}{tm:List (AV K)}{T t:TypeId}{p:Operand}{v:AV K}{c:Bool}{ts:List Nat}(hn:iR cx (.load t p)=false)(h:lq false cx tm [] H T (.load t p)=some (v,H',c,ts)):
 cz (match xd cx (fun x=>eG H (dM tm [] x)) H (.load t p)with
  |some _=>[]
  |none=>hands (dM tm [] p)) H H':=by
 unfold lq at h;simp only at h;split at h
 ·rename_i v1 c1 hp;rw[hp];simp only[aA,aV]at h;rw[<-h.2.1];exact cz.refl _ _
 ·rename_i hp;rw[hp];simp only[gJ,gw,hn]at h;split at h
  ·rename_i hov;simp only[aA]at h;rw[h]at hov;exact aBB hov
  ·split at h
   ·rename_i hct;simp[cutV]at hct
   ·simp[zB,zA,lp,xe]at h
theorem aBD{cx:Cx K}{tm:List (AV K)}{gs:List (Nat×Bool)}{T:TypeId}{op:Op}{v:AV K}{c:Bool}{t:List Nat}(he:tO cx op=true)(hnl:∀a b,op≠.load a b)(h:lq false cx tm gs H T op=some (v,H',c,t)):cz ((jl (dM tm gs) op++Qk (dM tm gs) op)++zK cx H (dM tm gs) op) H H':=by
 unfold lq at h;split at h
 ·simp[tO]at he
 ·rename_i fo args _;cases fo with
  |func f=>
   have hf:(cx.mode f=.fresh\/(cx.mode f=.pass\/cx.mode f=.m6))/\(cx.opn=false\/cx.lz=true):=by simpa [tO]using he
   have QN:(cx.opn&& !cx.lz&& !false)=false:=by rcases hf.2 with e|e<;>simp[e]
   have e:dM tm gs (.func f)=(.fn f []:AV K):=rfl;rw[e]at h;simp only[zE,QN,gJ,gw,Ks]at h
   replace hf:=hf.1
   rcases hf with hf|hf|hf
   rotate_left
   ·simp only[qH,hf,gJ,gw]at h;refine akH h fun x hx=>dy.2 (.inr ?_)
    simp only[zK,hf];exact hx
   ·simp only[qH,hf,gJ,gw,wV]at h;refine cz.trans (Lh _ _ fun x hx=>dy.2 (.inr ?_)) (akH h fun x hx=>dy.2 (.inr ?_))
    ·simp only[zK,hf];exact dy.2 (.inl hx)
    ·simp only[zK,hf];exact dy.2 (.inr hx)
   simp only[qH,hf,gJ,gw]at h;split at h
   ·rename_i hc;simp only[aA]at h;rw[h]at hc;exact QM (.inl rfl) hc
   ·split at h
    ·rename_i hc;simp only[aA]at h;rw[h]at hc;exact QM (.inr rfl) hc
    ·unfold wV at h;refine cz.trans (Lh _ _ fun x hx=>?_) (QM (.inl rfl) h);refine dy.2 (.inl (dy.2 (.inr ?_)));have key:∀l:List Operand,x∈cn (l.map fun y=>eG H (dM tm gs y))->x∈cn (l.map (dM tm gs)):=fun l=>by
      induction l with
      |nil=>exact fun h=>h
      |cons y r ih=>
       simp only[jo,cn,dy];exact fun h=>h.imp (nM _) ih
     exact key _ hx
  |_=>simp[tO]at he
 ·simp[tO]at he
 ·split at h
  ·simp only[aA,aV]at h;rw[<-h.2.1];exact cz.refl _ _
  ·rw[ax (by simp)]at h;split at h
   ·cases h
   ·split at h
    ·rename_i hov;exfalso;unfold zC at hov;split at hov
     ·exact hnl _ _ rfl
     ·cases hov
    split at h
    ·rename_i hct;simp only[aA]at h;rw[h]at hct;exact(aBA hct).more fun x hx=>dy.2 (.inl (dy.2 (.inl hx)))
    ·exact(aBz h).more fun x hx=>dy.2 (.inl (dy.2 (.inl hx)))
theorem akI:∀(l:List Nat)(h:Nat),(bitsOf l).testBit h=true↔h∈l
 |[],h=>by simp[bitsOf]
 |k::r,h=>by
  simp only[bitsOf,zG,eM,akI r,Nat.testBit_two_pow,bu,eH];exact⟨fun h=>h.imp Eq.symm id,fun h=>h.imp Eq.symm id⟩
theorem akJ{A:Nat}:∀(ws:List Nat)(i h:Nat),(zM A i ws).testBit h=true↔∃(k:Nat)(b:Nat),ws[k]?=some b/\A.testBit (i+k)=false/\b.testBit h=true
 |[],i,h=>by simp[zM]
 |b::r,i,h=>by
  simp only[zM,zG,eM,akJ r];constructor
  ·rintro (h1|⟨k,b',h1,h2,h3⟩)
   ·split at h1
    ·simp at h1
    ·rename_i hA;exact⟨0,b,rfl,by simpa using hA,h1⟩
   ·exact⟨k+1,b',by simpa using h1,by rw[show i+(k+1)=i+1+k by omega];exact h2,h3⟩
  ·rintro ⟨k,b',h1,h2,h3⟩
   cases k with
   |zero=>simp at h1;subst h1;left;rw[ax (by simpa using h2)];exact h3
   |succ k=>exact .inr ⟨k,b',by simpa using h1,by rw[show i+1+k=i+(k+1) by omega];exact h2,h3⟩
theorem akK{A:Nat}{T:List Nat}:∀(ms:List (Nat×Nat))(i:Nat),K6 A T i ms=true->∀(k m n:Nat),ms[k]?=some (m,n)->A.testBit (i+k)=false->∀h∈T,h<n->m.testBit h=true
 |[],i,_,k,m,n,h,_=>by simp at h
 |(m0,n0)::r,i,hr,k,m,n,hk,hA=>by
  simp only[K6,bJ,eM,ee,bu]at hr;cases k with
  |zero=>
   simp at hk;obtain⟨rfl,rfl⟩:=hk;intro h hT hn;rcases hr.1 with h1|h1
   ·rw[Nat.add_zero]at hA;rw[hA]at h1;cases h1
   ·rcases h1 h hT with h2|h2
    ·omega
    ·exact h2
  |succ k=>exact akK r (i+1) hr.2 k m n (by simpa using hk) (by rw[show i+1+k=i+(k+1) by omega];exact hA)
end Go.V
namespace Go.V
open Go
variable{K :dt}{H H':List (Ob K)}
theorem akL{cx:Cx K}{tm:List (AV K)}{T:TypeId}{op:Op}{v:AV K}{c:Bool}{t:List Nat}(he:tO cx op=true)(hq:nJ cx op=false)(h:lq false cx tm [] H T op=some (v,H',c,t)):cz (pH cx tm H op) H H':=by
 by_cases hl:∃a b,op=.load a b
 ·obtain⟨a,b,rfl⟩:=hl;have:pH cx tm H (.load a b)=(match xd cx (fun x=>eG H (dM tm [] x)) H (.load a b)with
   |some _=>[]
   |none=>hands (dM tm [] b)):=by unfold pH;rw[hq];rfl
  rw[this];exact aBC hq h
 ·have:pH cx tm H op=(jl (dM tm []) op++Qk (dM tm []) op)++zK cx H (dM tm []) op:=by
   unfold pH;rw[hq];simp only[gJ,gw];split
   ·rename_i a b;exact absurd ⟨a,b,rfl⟩ hl
   ·rfl
  rw[this];exact aBD he (fun a b e=>hl ⟨a,b,e⟩) h
theorem aBE{cx:Cx K}{ops:List Oper}{tm:List (AV K)}{wr:List Nat}{o:Oper}{v:AV K}{c:Bool}(h:zL cx ops tm H wr o=some (v,H',c)):cz (pH cx tm H o.op) H H':=by
 unfold zL at h;split at h
 ·rename_i hq;have:H'=H:=by
   unfold iH at h;split at h
   ·cases h
   ·split at h
    ·rename_i hy;split at h
     ·cases h
     ·simp only[aA,aV]at h;obtain⟨-,rfl,-⟩:=h;exact zP hy
    ·cases h
   ·split at h
    ·split at h
     ·split at h
      ·split at h
       ·rename_i hy;split at h
        ·cases h
        ·simp only[aA,aV]at h;obtain⟨-,rfl,-⟩:=h;exact zP hy
       ·cases h
      ·simp only[aA,aV]at h;exact h.2.1.symm
     ·cases h
    split at h
    ·cases h
    ·split at h
     ·split at h
      ·simp only[aA,aV]at h;exact h.2.1.symm
      ·cases h
     ·cases h
  subst this;exact cz.refl _ _
 ·rename_i hq;split at h
  ·rename_i he;have hq':nJ cx o.op=false:=by simpa using hq
   unfold iH at h;split at h
   ·cases h
   ·split at h
    ·rename_i hy;split at h
     ·cases h
     ·simp only[aA,aV]at h;obtain⟨-,rfl,-⟩:=h;exact akL he hq' hy
    ·cases h
   ·split at h
    ·split at h
     ·split at h
      ·split at h
       ·rename_i hy;split at h
        ·cases h
        ·simp only[aA,aV]at h;obtain⟨-,rfl,-⟩:=h;exact akL he hq' hy
       ·cases h
      ·simp only[aA,aV]at h;rw[<-h.2.1];exact cz.refl _ _
     ·cases h
    split at h
    ·cases h
    ·split at h
     ·split at h
      ·simp only[aA,aV]at h;rw[<-h.2.1];exact cz.refl _ _
      ·cases h
     ·cases h
  ·cases h
structure kB (K:dt) where
 vals:Nat->AV K
 hin:Nat->List (Ob K)
 hout:Nat->List (Ob K)
 mask:Nat->Nat
 T:Nat->List Nat
def kB.W(F:kB K)(k h:Nat):Prop:=h∈F.T k\/((F.hin k).length<=h/\h<(F.hout k).length)
structure zS (cx:Cx K) (L:List Oper) (bs:List Nat) (ct:List (AV K)) (F:kB K) (i:Nat) (o:Oper) (dh:List (AV K)) (dX:List Nat):Prop where
 slot:zL cx L (eS (ff bs i) L 0 dh) (iI (F.mask i) 0 (F.hin i)) dX o=some (F.vals i,F.hout i,true)
 up:pG (F.hin i).length (eS (ff bs i) L 0 dh)=true
 Lj:(iI (F.mask i) 0 (F.hin i)).all (Ob.upto (F.hin i).length)=true
 turns:cz (F.T i) (iI (F.mask i) 0 (F.hin i)) (F.hout i)
 len:dh.length=ct.length
 fin:∀(k:Nat) o' d,L[k]?=some o'->o'.dst=some d->k<i->dh[d]?=some (F.vals k)
 rest:∀t,(∀(k:Nat) o,k<i->L[k]?=some o->o.dst≠some t)->dh[t]?=ct[t]?
 dX:∀d∈dX,∃(k:Nat)(o':Oper),k<i/\L[k]?=some o'/\o'.dst=some d
structure gv (cx:Cx K) (L:List Oper) (bs:List Nat) (H0:List (Ob K)) (ct:List (AV K)) (F:kB K) (n:Nat) (tm:List (AV K)) (H:List (Ob K)) (wr:List Nat) (ms:List (Nat×Nat)) (ws:List Nat):Prop where
 len:tm.length=ct.length
 uniq:∀(i j:Nat) o o' d,i<n->j<n->L[i]?=some o->L[j]?=some o'->o.dst=some d->o'.dst=some d->i=j
 inb:∀(i:Nat) o d,i<n->L[i]?=some o->o.dst=some d->d<ct.length
 fin:∀(i:Nat) o d,i<n->L[i]?=some o->o.dst=some d->tm[d]?=some (F.vals i)
 rest:∀t,(∀(k:Nat) o,k<n->L[k]?=some o->o.dst≠some t)->tm[t]?=ct[t]?
 mH:∀d,d∈wr↔∃(k:Nat)(o':Oper),k<n/\L[k]?=some o'/\o'.dst=some d
 slot:∀(i:Nat) o,i<n->L[i]?=some o->∃dh dX,zS cx L bs ct F i o dh dX
 h0:F.hin 0=H0
 hn:F.hin n=H
 hs:∀i,i<n->F.hin (i+1)=kz (F.mask i) 0 (F.hin i) (F.hout i)/\(F.hin i).length<=(F.hout i).length
 E6:ms.length=n
 E7:ws.length=n
 ms:∀i,i<n->ms[i]?=some (F.mask i,(F.hin i).length)
 ws:∀i,i<n->∃b,ws[i]?=some b/\∀h,b.testBit h=true↔F.W i h
 masks:∀i,i<n->∀h,(∃k,k<i/\(bs.getD i 0).testBit k=false/\F.W k h)->(F.mask i).testBit h=true
 clear:∀k,k<n->∀h∈F.T k,(F.mask k).testBit h=false/\h<(F.hin k).length
 readers:∀k,k<n->∀i,i<k->(bs.getD k 0).testBit i=false->∀h∈F.T k,h<(F.hin i).length->(F.mask i).testBit h=true
theorem QA{cx:Cx K}{L:List Oper}{bs:List Nat}:∀(l:List Oper)(i:Nat)(st st':St K)(wr wr':List Nat)(ms:List (Nat×Nat))(ws:List Nat),qS cx L bs l i st wr ms ws=some (st',wr')->st'.ok=true->st.ok=true
 |[],i,st,st',wr,wr',ms,ws,h,hok=>by simp only[qS,aA,aV]at h;rw[h.1];exact hok
 |o::r,i,st,st',wr,wr',ms,ws,h,hok=>by
  simp only[qS]at h;split at h
  ·split at h
   ·cases h
   ·split at h
    ·split at h
     ·rename_i st1 ir hp;obtain⟨p1,p2,-⟩:=qU hp;have q1:=QA r (i+1) st1 st' ir wr' _ _ h hok;rw[p2]at q1;simp only[bJ]at q1;exact q1.2
     ·cases h
    ·cases h
  ·cases h
theorem akM{cx:Cx K}{L:List Oper}{bs:List Nat}{H0:List (Ob K)}{ct:List (AV K)}:∀(l:List Oper)(n:Nat)(st st':St K)(wr wr':List Nat)(ms:List (Nat×Nat))(ws:List Nat)(F:kB K),qS cx L bs l n st wr ms ws=some (st',wr')->st'.ok=true->
 (∀j,l[j]?=L[n+j]?)->n+l.length=L.length->gv cx L bs H0 ct F n st.tm st.H wr ms ws->∃F' ms' ws',gv cx L bs H0 ct F' L.length st'.tm st'.H wr' ms' ws'
 |[],n,st,st',wr,wr',ms,ws,F,h,hok,hl,hn,hp=>by
   simp only[qS,aA,aV]at h;obtain⟨rfl,rfl⟩:=h;simp at hn;subst hn;exact⟨F,ms,ws,hp⟩
 |o::r,n,st,st',wr,wr',ms,ws,F,h,hok,hl,hn,hp=>by
  have hLn:L[n]?=some o:=by have:=hl 0;simpa using this.symm
  simp only[qS]at h;split at h
  ·rename_i hup;simp only[bJ]at hup;split at h
   ·cases h
   ·rename_i v H1 c hsv;split at h
    ·rename_i hrd;simp only[bJ,bu]at hrd;split at h
     ·rename_i st1 ir hput;obtain⟨p1,p2,p3⟩:=qU hput;have hok1:=QA r (n+1) st1 st' ir wr' _ _ h hok;rw[p2]at hok1;simp only[bJ]at hok1;obtain⟨rfl,-⟩:=hok1;have aBF:=hp.hn
      let mk:=qR bs ws n (eS (ff bs n) L 0 st.tm) st.H.length o.op
      let TT:=pH cx (eS (ff bs n) L 0 st.tm) (iI mk 0 st.H) o.op
      let F':kB K:={vals:=fun i=>if i=n then v else F.vals i,hin:=fun i=>if i=n+1 then kz mk 0 st.H H1 else F.hin i,hout:=fun i=>if i=n then H1 else F.hout i,mask:=fun i=>if i=n then mk else F.mask i,T:=fun i=>if i=n then TT else F.T i}
      have ev:∀i,i<n->F'.vals i=F.vals i:=fun i hi=>by simp[F',show i≠n by omega]
      have eh:∀i,i<=n->F'.hin i=F.hin i:=fun i hi=>by simp[F',show i≠n+1 by omega]
      have eo:∀i,i<n->F'.hout i=F.hout i:=fun i hi=>by simp[F',show i≠n by omega]
      have em:∀i,i<n->F'.mask i=F.mask i:=fun i hi=>by simp[F',show i≠n by omega]
      have eT:∀i,i<n->F'.T i=F.T i:=fun i hi=>by simp[F',show i≠n by omega]
      have nv:F'.vals n=v:=by simp[F']
      have nh:F'.hin n=st.H:=by rw[eh n (cr _)];exact aBF
      have nh1:F'.hin (n+1)=kz mk 0 st.H H1:=by simp[F']
      have no:F'.hout n=H1:=by simp[F']
      have nm:F'.mask n=mk:=by simp[F']
      have nT:F'.T n=TT:=by simp[F']
      have eW:∀i,i<n->∀h,F'.W i h↔F.W i h:=fun i hi h=>by unfold kB.W;rw[eT i hi,eh i (by omega),eo i hi]
      have Qs:zS cx L bs ct F' n o st.tm wr:=
       {slot:=by rw[nv,no,nm,nh];exact hsv
        up:=by rw[nh];exact hup.1
        Lj:=by rw[nm,nh];exact hup.2
        turns:=by rw[nT,nm,nh,no];exact aBE hsv
        len:=hp.len
        fin:=fun k o' d h1 h2 h3=>by rw[ev k h3];exact hp.fin k o' d h3 h1 h2
        rest:=fun t ht=>hp.rest t fun k o' hk h1=>ht k o' hk h1
        dX:=fun d hd=>(hp.mH d).1 hd}
      have tW:∀(i:Nat) o1,i<n+1->L[i]?=some o1->∃dh dX,zS cx L bs ct F' i o1 dh dX:=fun i o1 hi ho1=>by
       by_cases hin:i=n
       ·subst hin;rw[hLn]at ho1;simp at ho1;subst ho1;exact⟨_,_,Qs⟩
       ·have hlt:i<n:=by omega
        obtain⟨dh,dX,a⟩:=hp.slot i o1 hlt ho1;exact⟨dh,dX,{slot:=by rw[ev i hlt,eo i hlt,em i hlt,eh i (by omega)];exact a.slot,up:=by rw[eh i (by omega)];exact a.up,Lj:=by rw[em i hlt,eh i (by omega)];exact a.Lj,turns:=by rw[eT i hlt,em i hlt,eh i (by omega),eo i hlt];exact a.turns,len:=a.len,fin:=fun k o' d h1 h2 h3=>by rw[ev k (by omega)];exact a.fin k o' d h1 h2 h3,rest:=a.rest,dX:=a.dX}⟩
      have hmk:∀h,(∃k,k<n/\(bs.getD n 0).testBit k=false/\F'.W k h)->mk.testBit h=true:=fun h=>by
       rintro ⟨k,hk,h2,h3⟩
       rw[show mk=zM (bs.getD n 0) 0 ws|||aj6 (eS (ff bs n) L 0 st.tm) st.H.length o.op from rfl,zG,eM];refine .inl ?_;rw[akJ];obtain⟨b',g1,g2⟩:=hp.ws k hk;exact⟨k,b',g1,by simpa using h2,(g2 h).2 ((eW k hk h).1 h3)⟩
      have base:gv cx L bs H0 ct F' (n+1) st1.tm st1.H ir (ms++[(mk,st.H.length)]) (ws++[bitsOf (TT++List.range' st.H.length (H1.length-st.H.length))]):=by
       have c1:F'.hin 0=H0:=by rw[eh 0 (by omega)];exact hp.h0
       have c2:F'.hin (n+1)=st1.H:=by rw[nh1,p1]
       have c3:∀i,i<n+1->F'.hin (i+1)=kz (F'.mask i) 0 (F'.hin i) (F'.hout i)/\(F'.hin i).length<=(F'.hout i).length:=fun i hi=>by
        by_cases hin:i=n
        ·subst hin;rw[nh1,nm,nh,no];exact⟨rfl,hrd.2⟩
        ·have hlt:i<n:=by omega
         rw[eh (i+1) (by omega),em i hlt,eh i (by omega),eo i hlt];exact hp.hs i hlt
       have c4:∀i,i<n+1->(ms++[(mk,st.H.length)])[i]?=some (F'.mask i,(F'.hin i).length):=fun i hi=>by
        by_cases hin:i=n
        ·subst hin;rw[nm,nh,dH (by rw[hp.E6];exact cr _),hp.E6];simp
        ·have hlt:i<n:=by omega
         rw[em i hlt,eh i (by omega),dC (by rw[hp.E6];exact hlt)];exact hp.ms i hlt
       have c5:∀i,i<n+1->∃b,(ws++[bitsOf (TT++List.range' st.H.length (H1.length-st.H.length))])[i]?=some b/\∀h,b.testBit h=true↔F'.W i h:=fun i hi=>by
        by_cases hin:i=n
        ·subst hin;refine⟨bitsOf (TT++List.range' st.H.length (H1.length-st.H.length)),by rw[dH (by rw[hp.E7];exact cr _),hp.E7];simp,fun h=>?_⟩;rw[akI,dy];unfold kB.W;rw[nT,nh,no,List.mem_range'];constructor
         ·rintro (h1|⟨j,h1,h2⟩)
          ·exact .inl h1
          ·exact .inr (by omega)
         ·rintro (h1|⟨h1,h2⟩)
          ·exact .inl h1
          ·exact .inr ⟨h-st.H.length,by omega,by omega⟩
        ·have hlt:i<n:=by omega
         obtain⟨b,g1,g2⟩:=hp.ws i hlt;exact⟨b,by rw[dC (by rw[hp.E7];exact hlt)];exact g1,fun h=>(g2 h).trans (eW i hlt h).symm⟩
       have c6:∀i,i<n+1->∀h,(∃k,k<i/\(bs.getD i 0).testBit k=false/\F'.W k h)->(F'.mask i).testBit h=true:=fun i hi hh=>by
        by_cases hin:i=n
        ·subst hin;rw[nm];exact hmk hh
        ·have hlt:i<n:=by omega
         rw[em i hlt];exact fun⟨k,h1,h2,h3⟩=>hp.masks i hlt hh ⟨k,h1,h2,(eW k (by omega) hh).1 h3⟩
       have c7:∀k,k<n+1->∀i,i<k->(bs.getD k 0).testBit i=false->∀h∈F'.T k,h<(F'.hin i).length->(F'.mask i).testBit h=true:=fun k hk i hik hA hh hT hlt=>by
        rw[eh i (by omega)]at hlt;rw[em i (by omega)];by_cases hkn:k=n
        ·subst hkn;rw[nT]at hT;exact akK ms 0 hrd.1.1 i _ _ (hp.ms i hik) (by simpa using hA) hh hT hlt
        ·rw[eT k (by omega)]at hT;exact hp.readers k (by omega) i hik hA hh hT hlt
       have c8:∀k,k<n+1->∀h∈F'.T k,(F'.mask k).testBit h=false/\h<(F'.hin k).length:=fun k hk hh hT=>by
        by_cases hkn:k=n
        ·subst hkn;rw[nT]at hT;rw[nm,nh];have:=hrd.1.2;rw[ee]at this;have h2:=this hh hT;rw[bJ,fk,bu]at h2;exact h2
        ·rw[eT k (by omega)]at hT;rw[em k (by omega),eh k (by omega)];exact hp.clear k (by omega) hh hT
       rcases p3 with⟨e1,e2,e3⟩|⟨d,e1,e2,e3,e4,e5⟩
       ·refine⟨by rw[e2];exact hp.len,fun i j o1 o2 d hi hj h1 h2 h3 h4=>?_,fun i o1 d hi h1 h2=>?_,fun i o1 d hi h1 h2=>?_,fun t ht=>by rw[e2];exact hp.rest t fun k o' hk=>ht k o' (by omega),fun d=>?_,tW,c1,c2,c3,by simp[hp.E6],by simp[hp.E7],c4,c5,c6,c8,c7⟩
        ·have hin:i≠n:=fun e=>by subst e;rw[hLn]at h1;simp at h1;subst h1;rw[e1]at h3;cases h3
         have hjn:j≠n:=fun e=>by subst e;rw[hLn]at h2;simp at h2;subst h2;rw[e1]at h4;cases h4
         exact hp.uniq i j o1 o2 d (by omega) (by omega) h1 h2 h3 h4
        ·have hin:i≠n:=fun e=>by subst e;rw[hLn]at h1;simp at h1;subst h1;rw[e1]at h2;cases h2
         exact hp.inb i o1 d (by omega) h1 h2
        ·have hin:i≠n:=fun e=>by subst e;rw[hLn]at h1;simp at h1;subst h1;rw[e1]at h2;cases h2
         rw[e2,ev i (by omega)];exact hp.fin i o1 d (by omega) h1 h2
        ·rw[e3,hp.mH d];constructor
         ·rintro ⟨k,o',hk,h1,h2⟩;exact⟨k,o',by omega,h1,h2⟩
         ·rintro ⟨k,o',hk,h1,h2⟩
          have hkn:k≠n:=fun e=>by subst e;rw[hLn]at h1;simp at h1;subst h1;rw[e1]at h2;cases h2
          exact⟨k,o',by omega,h1,h2⟩
       ·have hnew:∀(k:Nat) o',k<n->L[k]?=some o'->o'.dst≠some d:=fun k o' hk h1 h2=>e2 ((hp.mH d).2 ⟨k,o',hk,h1,h2⟩)
        have hdn:∀{o1:Oper}{d1:Nat},L[n]?=some o1->o1.dst=some d1->d1=d:=fun{o1 d1} h1 h2=>by rw[hLn]at h1;simp at h1;subst h1;rw[e1]at h2;simpa using h2.symm
        refine⟨by rw[e4];simp[hp.len],fun i j o1 o2 d1 hi hj h1 h2 h3 h4=>?_,fun i o1 d1 hi h1 h2=>?_,fun i o1 d1 hi h1 h2=>?_,fun t ht=>?_,fun d1=>?_,tW,c1,c2,c3,by simp[hp.E6],by simp[hp.E7],c4,c5,c6,c8,c7⟩
        ·by_cases hin:i=n<;>by_cases hjn:j=n
         ·omega
         ·subst hin;have:=hdn h1 h3;subst this;exact absurd h4 (hnew j o2 (by omega) h2)
         ·subst hjn;have:=hdn h2 h4;subst this;exact absurd h3 (hnew i o1 (by omega) h1)
         ·exact hp.uniq i j o1 o2 d1 (by omega) (by omega) h1 h2 h3 h4
        ·by_cases hin:i=n
         ·subst hin;have:=hdn h1 h2;subst this;rw[<-hp.len];exact e3
         ·exact hp.inb i o1 d1 (by omega) h1 h2
        ·rw[e4];by_cases hin:i=n
         ·subst hin;have:=hdn h1 h2;subst this;rw[gu,aF rfl,aF e3,nv]
         ·have hne:d1≠d:=fun e=>by subst e;exact hnew i o1 (by omega) h1 h2
          rw[gu,ax (nw hne),ev i (by omega)];exact hp.fin i o1 d1 (by omega) h1 h2
        ·have hne:d≠t:=fun e=>by subst e;exact ht n o (by omega) hLn e1
         rw[e4,gu,ax hne];exact hp.rest t fun k o' hk=>ht k o' (by omega)
        ·rw[e5,eH,hp.mH d1];constructor
         ·rintro (rfl|⟨k,o',hk,h1,h2⟩)
          ·exact⟨n,o,by omega,hLn,e1⟩
          ·exact⟨k,o',by omega,h1,h2⟩
         ·rintro ⟨k,o',hk,h1,h2⟩
          by_cases hkn:k=n
          ·subst hkn;exact .inl (hdn h1 h2)
          ·exact .inr ⟨k,o',by omega,h1,h2⟩
      exact akM r (n+1) st1 st' ir wr' _ _ F' h hok (fun j=>by have:=hl (j+1);simp only[List.getElem?_cons_succ]at this;rw[this];congr 1;omega) (by simp at hn;omega) base
     ·cases h
    ·cases h
  ·cases h
theorem aBh{cx:Cx K}{L:List Oper}{bs:List Nat}{st st':St K}{wr':List Nat}(h:qS cx L bs L 0 st [] [] []=some (st',wr'))(hok:st'.ok=true):
 ∃F ms ws,gv cx L bs st.H st.tm F L.length st'.tm st'.H wr' ms ws:=
 akM (ct:=st.tm) (H0:=st.H) L 0 st st' [] wr' [] [] {vals:=fun _=>.any,hin:=fun _=>st.H,hout:=fun _=>[],mask:=fun _=>0,T:=fun _=>[]} h hok (fun j=>by simp) (by simp)
  ⟨rfl,fun i j _ _ _ hi=>by omega,fun i _ _ hi=>by omega,fun i _ _ hi=>by omega,fun t _=>rfl,fun d=>by simp,fun i _ hi=>by omega,rfl,rfl,fun i hi=>by omega,rfl,rfl,fun i hi=>by omega,fun i hi=>by omega,fun i hi=>by omega,fun i hi=>by omega,fun i hi=>by omega⟩
end Go.V
namespace Go.V
open Go
variable{K :dt}{ρ ρ':List Value}{S S':Nat->Prop}{w w':World}{H H':List (Ob K)}{D:bN K}
section
variable{cx :Cx K}{L:List Oper}{bs:List Nat}{H0:List (Ob K)}{ct fg:List (AV K)}{F:kB K}{HF:List (Ob K)}{wr:List Nat}{ms:List (Nat×Nat)}{ws:List Nat}
theorem gv.tY(hp:gv cx L bs H0 ct F L.length fg HF wr ms ws){i:Nat}(hi:i<L.length):(F.hin (i+1)).length=(F.hout i).length:=by
 obtain⟨h1,h2⟩:=hp.hs i hi;rw[h1,Ld _ _ _ h2]
theorem gv.mono(hp:gv cx L bs H0 ct F L.length fg HF wr ms ws):∀{i j:Nat},i<=j->j<=L.length->(F.hin i).length<=(F.hin j).length:=by
 intro i j hij hj
 induction j with
 |zero=>have:i=0:=by omega
        subst this;exact cr _
 |succ j ih=>
  rcases cJ i (j+1)with h|h
  ·have h1:=ih (by omega) (by omega);rw[hp.tY (show j<L.length by omega)];exact cN h1 (hp.hs j (by omega)).2
  ·have:i=j+1:=by omega
   subst this;exact cr _
theorem gv.aBG(hp:gv cx L bs H0 ct F L.length fg HF wr ms ws){i h:Nat}(hi:i<L.length)(hn:¬F.W i h)(hh:h<(F.hin i).length):(F.hin (i+1))[h]?=(F.hin i)[h]?:=by
 obtain⟨h1,h2⟩:=hp.hs i hi;obtain⟨dh,dX,a⟩:=hp.slot i L[i] hi (cw hi);rw[h1,Le _ _ _ _ h2];by_cases hm:h<(F.hin i).length/\(F.mask i).testBit (0+h)=true
 ·rw[aF hm]
 ·rw[ax hm];have hm':(F.mask i).testBit h=false:=by
   cases hb:(F.mask i).testBit h with
   |false=>rfl
   |true=>exact absurd ⟨hh,by rw[dN];exact hb⟩ hm
  have:=a.turns.2 h (by rw[E4];exact hh) (fun hT=>hn (.inl hT));rw[this,E3,dN,hm'];cases (F.hin i)[h]?<;>simp
theorem gv.stay(hp:gv cx L bs H0 ct F L.length fg HF wr ms ws){i h:Nat}:∀{j:Nat},i<=j->j<=L.length->(∀k,i<=k->k<j->¬F.W k h)->h<(F.hin i).length->(F.hin j)[h]?=(F.hin i)[h]?:=by
 intro j hij hj hn hh
 induction j with
 |zero=>have:i=0:=by omega
        subst this;rfl
 |succ j ih=>
  rcases cJ i (j+1)with h1|h1
  ·have h2:=ih (by omega) (by omega) fun k a b=>hn k a (by omega)
   rw[hp.aBG (by omega) (hn j (by omega) (by omega)) (kd hh (hp.mono (by omega) (by omega))),h2]
  ·have:i=j+1:=by omega
   subst this;rfl
theorem gv.maker(hp:gv cx L bs H0 ct F L.length fg HF wr ms ws){j k h:Nat}(hj:j<L.length)(hk:k<L.length)(h1:(F.hin j).length<=h)(h2:h<(F.hout j).length)(h3:(F.hin k).length<=h)(h4:h<(F.hout k).length):j=k:=by
 rcases Nat.lt_trichotomy j k with h|h|h
 ·have:=hp.mono (show j+1<=k by omega) (by omega);rw[hp.tY hj]at this;omega
 ·exact h
 ·have:=hp.mono (show k+1<=j by omega) (by omega);rw[hp.tY hk]at this;omega
theorem gv.made(hp:gv cx L bs H0 ct F L.length fg HF wr ms ws){h:Nat}:∀{j:Nat},j<=L.length->h<(F.hin j).length->H0.length<=h->∃k,k<j/\(F.hin k).length<=h/\h<(F.hout k).length:=by
 intro j hj hh h0
 induction j with
 |zero=>rw[hp.h0]at hh;omega
 |succ j ih=>
  rw[hp.tY (show j<L.length by omega)]at hh;rcases cJ h (F.hin j).length with h1|h1
  ·obtain⟨k,a,b⟩:=ih (by omega) h1;exact⟨k,by omega,b⟩
  ·exact⟨j,by omega,h1,hh⟩
end
theorem akO{p:Nat->Prop}{n:Nat}(hb:∀k,p k->k<n)(h:∃k,p k):∃k,p k/\∀k',p k'->k'<=k:=by
 induction n with
 |zero=>obtain⟨k,hk⟩:=h;exact absurd (hb k hk) (jy _)
 |succ n ih=>
  by_cases hn:p n
  ·exact⟨n,hn,fun k' hk'=>by have:=hb k' hk';omega⟩
  ·exact ih fun k hk=>by
    have:=hb k hk;rcases cJ k n with h1|h1
    ·exact h1
    ·have:k=n:=by omega
     subst this;exact absurd hk hn
structure jW (cx:Cx K) (L:List Oper) (bs:List Nat) (ct:List (AV K)) (F:kB K) (H0 HF H:List (Ob K)) (ρ:List Value) (S:Nat->Prop) (listed:Array Bool) (a:Act) (w:World):Prop where
 heap:aY cx.D ρ S w H
 hlen:H.length=HF.length
 defers:a.defers=[]
 size:a.tmps.size=ct.length
 nK:listed.size=L.length
 base:∀(t:Nat) v x,(∀(k:Nat) o,L[k]?=some o->o.dst=some t->listed[k]?≠some true)->ct[t]?=some v->a.tmps[t]?=some x->Rep cx.D ρ S w v x
 done:∀(k:Nat) o d x,L[k]?=some o->listed[k]?=some true->o.dst=some d->a.tmps[d]?=some x->eR cx.D ρ S w a.tmps (F.vals k) x
 opts:∀(k g:Nat) b y,listed[k]?=some true->F.vals k=.opt g b y->∃(k':Nat)(o':Oper),L[k']?=some o'/\o'.dst=some g/\listed[k']?=some true
 closed:∀(k:Nat) o,L[k]?=some o->listed[k]?=some true->∀e∈o.after,listed[e.on]?=some true
 QO:∀h,(∀k,listed[k]?=some true->¬F.W k h)->h<HF.length->(h<H0.length->H[h]?=H0[h]?)/\(H0.length<=h->H[h]?=some .dead)
 QP:∀h k,listed[k]?=some true->F.W k h->(∀k',listed[k']?=some true->F.W k' h->k'<=k)->H[h]?=(F.hin (k+1))[h]?
 dum:∀h,H0.length<=h->h<HF.length->(∀k,listed[k]?=some true->¬((F.hin k).length<=h/\h<(F.hout k).length))->ρ[h]?=some dummy
section
variable{cx :Cx K}{L:List Oper}{bs:List Nat}{H0:List (Ob K)}{ct fg:List (AV K)}{F:kB K}{HF:List (Ob K)}{wr:List Nat}{ms:List (Nat×Nat)}{ws:List Nat}{listed:Array Bool}{a:Act}
theorem jW.sees(hp:gv cx L bs H0 ct F L.length fg HF wr ms ws)(hm:jW cx L bs ct F H0 HF H ρ S listed a w){j:Nat}(hj:j<L.length)(gZ:listed[j]?=some false)
 (hA:∀k,(bs.getD j 0).testBit k=true->listed[k]?=some true) (hcl:∀i k,listed[i]?=some true->(bs.getD i 0).testBit k=true->listed[k]?=some true) {h:Nat} (hh:h<(F.hin j).length) (hun:(F.mask j).testBit h=false):H[h]?=(F.hin j)[h]?:=by
 have hlt:∀k,listed[k]?=some true->k<L.length:=fun k hk=>by have:=(jL.1 hk).1;rw[hm.nK]at this;exact this
 have hne:∀k,listed[k]?=some true->k≠j:=fun k hk e=>by subst e;rw[gZ]at hk;cases hk
 have hbef:∀k,k<j->F.W k h->listed[k]?=some true:=fun k hk hw=>by
  cases hb:(bs.getD j 0).testBit k with
  |true=>exact hA k hb
  |false=>have:=hp.masks j hj h ⟨k,hk,hb,hw⟩;rw[hun]at this;cases this
 have haft:∀k,listed[k]?=some true->F.W k h->k<j:=fun k hk hw=>by
  rcases Nat.lt_trichotomy k j with h1|h1|h1
  ·exact h1
  ·exact absurd h1 (hne k hk)
  ·have mI:=hlt k hk;have hlen:=hp.mono (show j<=k by omega) (by omega);rcases hw with hT|⟨h2,-⟩
   ·cases hb:(bs.getD k 0).testBit j with
    |true=>have:=hcl k j hk hb;rw[gZ]at this;cases this
    |false=>have:=hp.readers k mI j h1 hb h hT hh;rw[hun]at this;cases this
   ·omega
 by_cases hex:∃k,listed[k]?=some true/\F.W k h
 ·obtain⟨k,⟨hk1,hk2⟩,hk3⟩:=akO (p:=fun k=>listed[k]?=some true/\F.W k h) (n:=L.length) (fun k hk=>hlt k hk.1) hex;rw[hm.QP h k hk1 hk2 fun k' a b=>hk3 k' ⟨a,b⟩];have hkj:=haft k hk1 hk2;have hno:∀k',k+1<=k'->k'<j->¬F.W k' h:=fun k' h1 h2 hw=>by have:=hk3 k' ⟨hbef k' h2 hw,hw⟩;omega
  by_cases hl:h<(F.hin (k+1)).length
  ·exact(hp.stay (show k+1<=j by omega) (by omega) hno hl).symm
  ·
   exfalso;have:H0.length<=h:=by have:=hp.mono (show 0<=k+1 by omega) (show k+1<=L.length by omega);rw[hp.h0]at this;omega
   obtain⟨k',g1,g2,g3⟩:=hp.made (show j<=L.length by omega) hh this;by_cases hkk:k+1<=k'
   ·exact hno k' hkk g1 (.inr ⟨g2,g3⟩)
   ·have:=hp.mono (show k'+1<=k+1 by omega) (show k+1<=L.length by omega);rw[hp.tY (show k'<L.length by omega)]at this;omega
 ·have hno:∀k,listed[k]?=some true->¬F.W k h:=fun k a b=>hex ⟨k,a,b⟩
  have xp:∀k,0<=k->k<j->¬F.W k h:=fun k _ hk hw=>hno k (hbef k hk hw) hw
  have hHF:h<HF.length:=by have:=hp.mono (show j<=L.length by omega) (cr _);rw[hp.hn]at this;omega
  obtain⟨g1,g2⟩:=hm.QO h hno hHF;by_cases h0:h<H0.length
  ·rw[g1 h0,hp.stay (cU j) (by omega) xp (by rw[hp.h0];exact h0),hp.h0]
  ·obtain⟨k',a1,a2,a3⟩:=hp.made (show j<=L.length by omega) hh (by omega);exact absurd (.inr ⟨a2,a3⟩) (xp k' (cU _) a1)
end
end Go.V
