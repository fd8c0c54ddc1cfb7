/-
  A REGION WHOSE ORDER IS LEFT OPEN, WITH OPERATIONS THAT MAKE AND TURN OBJECTS: each is read with no more than what comes ahead of it; what an operation makes gets the number that it has in the text's order; what one turns no other may lean on that is not bound to it by an edge.
-/
import Derived.Test.YtalddlopgnfpaaaGreatDoorXWdrawA
set_option linter.unusedVariables false
namespace Go.V
open Go
variable {K :cE}{ρ ρ':List Value}{S S':Nat->Prop}{w w':World}{H H':List (Ob K)}{D:bc K}
theorem BU{bits:Nat}:∀(l:List (Ob K))(i k:Nat),(iC bits i l)[k]?=(l[k]?).map fun o=>if bits.testBit (i+k)then .dead else o
 |[],i,k=>by simp[iC]
 |o::r,i,0=>by simp[iC]
 |o::r,i,k+1=>by
  simp only[iC,List.getElem?_cons_succ];rw[BU r (i+1) k,show i+1+k=i+(k+1) by omega]
theorem BV{bits:Nat}:∀(l:List (Ob K))(i:Nat),(iC bits i l).length=l.length
 |[],i=>rfl
 |o::r,i=>by simp only[iC,bX,BV r]
theorem Gq{bits:Nat}:∀(l l':List (Ob K))(i:Nat),l.length<=l'.length->(kr bits i l l').length=l'.length
 |[],l',i,_=>by simp[kr]
 |o::r,[],i,h=>by simp at h
 |o::r,o'::r',i,h=>by
  simp only[kr,bX];rw[Gq r r' (i+1) (by simpa using h)]
theorem Gs{bits:Nat}:∀(l l':List (Ob K))(i k:Nat),l.length<=l'.length->(kr bits i l l')[k]?=if k<l.length/\bits.testBit (i+k)=true then l[k]? else l'[k]?
 |[],l',i,k,_=>by simp[kr]
 |o::r,[],i,k,h=>by simp at h
 |o::r,o'::r',i,0,h=>by
  simp only[kr,List.getElem?_cons_zero,bX,Nat.add_zero];by_cases hb:bits.testBit i=true<;>simp[hb]
 |o::r,o'::r',i,k+1,h=>by
  simp only[kr,List.getElem?_cons_succ,bX,Nat.add_lt_add_iff_right];rw[Gs r r' (i+1) k (by simpa using h),show i+1+k=i+(k+1) by omega]
theorem vX{n:Nat}:∀{l:List (AV K)}{i:Nat}{v:AV K},pq n l=true->l[i]?=some v->v.upto n=true
 |[],i,v,_,h=>by simp at h
 |x::r,0,v,h,hv=>by simp at hv;subst hv;simp only[pq,aZ]at h;exact h.1
 |x::r,i+1,v,h,hv=>by simp only[pq,aZ]at h;exact vX h.2 (by simpa using hv)
theorem Rep.take(hD:bk D){n:Nat}{v:AV K}{x:Value}(h:Rep D ρ S w v x):v.upto n=true->Rep D (ρ.take n) S w v x:=by
 have tk:∀{k:Nat}{r:Value},k<n->ρ[k]?=some r->(ρ.take n)[k]?=some r:=fun hk hr=>by rw[cP,av hk];exact hr
 induction h with
 |any v=>exact fun _=>.any v
 |int k n=>exact fun _=>.int k n
 |bool b=>exact fun _=>.bool b
 |str s=>exact fun _=>.str s
 |cL=>exact fun _=>.cL
 |cB=>exact fun _=>.cB
 |fn hl _ ih=>exact fun hu=>.fn hl fun i v x h1 h2=>ih i v x h1 h2 (vX (by simpa [AV.upto]using hu) h1)
 |kS=>exact fun _=>.kS
 |np hp=>exact fun hu=>.np (tk (by simpa [AV.upto]using hu) hp)
 |ptr hp=>exact fun hu=>.ptr (tk (by simpa [AV.upto]using hu) hp)
 |sl hp=>exact fun hu=>.sl (tk (by simpa [AV.upto]using hu) hp)
 |ep hp hi=>exact fun hu=>.ep (tk (by simpa [AV.upto]using hu) hp) hi
 |vw hp h1 h2 ha=>exact fun hu=>.vw (tk (by simpa [AV.upto]using hu) hp) h1 h2 ha
 |dU a cap=>exact fun _=>.dU a cap
 |aj val h1 h2 h3 h4 h5 ih=>exact fun _=>(Rep.aj val h1 h2 h3 h4 h5).closed hD rfl
 |rp vs h1 h2 h3 h4 ih=>exact fun _=>(Rep.rp vs h1 h2 h3 h4).closed hD rfl
 |agg hl _ ih=>exact fun hu=>.agg hl fun i v x h1 h2=>ih i v x h1 h2 (vX (by simpa [AV.upto]using hu) h1)
 |aV hl _ ih=>exact fun hu=>.aV hl fun i v x h1 h2=>ih i v x h1 h2 (vX (by simpa [AV.upto]using hu) h1)
theorem aS.an5(hD:bk D){n:Nat}{l:List (AV K)}{vs:List Value}(h:aS D ρ S w l vs)(hu:pq n l=true):aS D (ρ.take n) S w l vs:=
 ⟨h.1,fun i v x h1 h2=>(h.2 i v x h1 h2).take hD (vX hu h1)⟩
def dummy:Value:=.bool false
theorem Rep.mono'(hS:∀b,S b->S' b)(hw:∀b,S b->w'.heap[b]?=w.heap[b]?)(hρ:∀(h:Nat) r,ρ[h]?=some r->r≠dummy->ρ'[h]?=some r){v:AV K}{x:Value}
 (h:Rep D ρ S w v x):Rep D ρ' S' w' v x:=by
 induction h with
 |any v=>exact .any v
 |int k n=>exact .int k n
 |bool b=>exact .bool b
 |str s=>exact .str s
 |cL=>exact .cL
 |cB=>exact .cB
 |fn hl _ ih=>exact .fn hl ih
 |kS=>exact .kS
 |np hp=>exact .np (hρ _ _ hp (by simp[dummy]))
 |ptr hp=>exact .ptr (hρ _ _ hp (by simp[dummy]))
 |sl hp=>exact .sl (hρ _ _ hp (by simp[dummy]))
 |ep hp hi=>exact .ep (hρ _ _ hp (by simp[dummy])) hi
 |vw hp h1 h2 ha=>exact .vw (hρ _ _ hp (by simp[dummy])) h1 h2 ha
 |dU a cap=>exact .dU a cap
 |aj val h1 h2 h3 h4 _ ih=>exact .aj val (hS _ h1) h2 h3 (fun i hi=>(h4 i hi).keep (hw _ h1)) ih
 |rp vs h1 h2 h3 _ ih=>exact .rp vs (hS _ h1) h2 (h3.keep (hw _ h1)) ih
 |agg hl _ ih=>exact .agg hl ih
 |aV hl _ ih=>exact .aV hl ih
theorem aS.mono'(hS:∀b,S b->S' b)(hw:∀b,S b->w'.heap[b]?=w.heap[b]?)(hρ:∀(h:Nat) r,ρ[h]?=some r->r≠dummy->ρ'[h]?=some r){l:List (AV K)}{vs:List Value}
 (h:aS D ρ S w l vs):aS D ρ' S' w' l vs:=⟨h.1,fun i v x hv hx=>(h.2 i v x hv hx).mono' hS hw hρ⟩
theorem fp.take(hD:bk D){n:Nat}{o:Ob K}{r:Value}(h:fp D ρ S w o r)(hu:o.upto n=true):fp D (ρ.take n) S w o r:=by
 cases o with
 |dead=>trivial
 |fR c l=>exact Rep.closed hD h rfl
 |box cs=>
  obtain⟨b,vs,T,h1,h2,h3,h4⟩:=h;exact⟨b,vs,T,h1,h2,h3.an5 hD hu,h4⟩
 |arr c l=>
  rcases h with h|⟨b,o,cap,vs,T,fr,h1,h2,h3,h4,h5,h6⟩
  ·exact .inl h
  ·exact .inr ⟨b,o,cap,vs,T,fr,h1,h2,h3,h4,h5,fun i x hx=>(h6 i x hx).closed hD (hD.closed _ _)⟩
 |tree c l=>exact h
 |opn c l i off cs=>exact lS.keep (fun j v u hv hr=>hr.take hD (vX hu hv)) (fun _ _=>rfl) h
theorem fp.mono'(hS:∀b,S b->S' b)(hw:∀b,S b->w'.heap[b]?=w.heap[b]?)(hρ:∀(h:Nat) r,ρ[h]?=some r->r≠dummy->ρ'[h]?=some r){o:Ob K}{r:Value}(h:fp D ρ S w o r)
 (hb:∀b,o.live=true->bS D w o r b->w'.heap[b]?=w.heap[b]?):fp D ρ' S' w' o r:=by
 cases o with
 |dead=>trivial
 |fR c l=>exact Rep.mono' hS hw hρ h
 |box cs=>
  obtain⟨b,vs,T,rfl,h2,h3,h4⟩:=h;exact⟨b,vs,T,rfl,by rw[hb b rfl rfl];exact h2,h3.mono' hS hw hρ,h4⟩
 |arr c l=>
  rcases h with h|⟨b,o,cap,vs,T,fr,rfl,h2,h3,h4,h5,h6⟩
  ·exact .inl h
  ·exact .inr ⟨b,o,cap,vs,T,fr,rfl,by rw[hb b rfl rfl];exact h2,h3,h4,h5,fun i x hx=>(h6 i x hx).mono' hS hw hρ⟩
 |tree c l=>exact Tree.mono h fun k hk=>hb k rfl hk
 |opn c l i off cs=>exact lS.keep (fun _ _ _ _ hr=>hr.mono' hS hw hρ) (fun k hk=>hb k rfl hk) h
structure View (n:Nat) (H Hv:List (Ob K)):Prop where
 len:Hv.length=n
 le:n<=H.length
 ob:∀(h:Nat) o,Hv[h]?=some o->o=.dead\/H[h]?=some o
 up:∀(h:Nat) o,Hv[h]?=some o->o.upto n=true
theorem View.lt{n:Nat}{H Hv:List (Ob K)}(v:View n H Hv){h:Nat}{o:Ob K}(ho:Hv[h]?=some o):h<n:=by
 have:=(bo.1 ho).1;rw[v.len]at this;exact this
theorem View.live{n:Nat}{H Hv:List (Ob K)}(v:View n H Hv){h:Nat}{o:Ob K}(ho:Hv[h]?=some o)(hl:o.live=true):H[h]?=some o:=by
 rcases v.ob h o ho with rfl|h
 ·cases hl
 ·exact h
theorem View.own{n:Nat}{H Hv:List (Ob K)}(v:View n H Hv){b:Nat}(h:Own D w (ρ.take n) Hv b):Own D w ρ H b:=by
 obtain⟨h,o,r,h1,h2,h3,h4⟩:=h;rw[cP,av (v.lt h1)]at h3;exact⟨h,o,r,v.live h1 h2,h2,h3,h4⟩
theorem aN.view(hD:bk D){n:Nat}{H Hv:List (Ob K)}(hs:aN D ρ S w H)(v:View n H Hv):aN D (ρ.take n) S w Hv:={
 len:=by rw[i3,hs.len,v.len];have:=v.le;omega
 ob:=fun h o r ho hr=>by
  rw[cP,av (v.lt ho)]at hr;rcases v.ob h o ho with rfl|h1
  ·trivial
  ·exact(hs.ob h o r h1 hr).take hD (v.up h o ho)
 dL:=fun h h' o o' r r' b h1 h2 h3 h4 h5 h6 h7 h8=>by
  rw[cP,av (v.lt h1)]at h3;rw[cP,av (v.lt h5)]at h7;exact hs.dL h h' o o' r r' b (v.live h1 h2) h2 h3 h4 (v.live h5 h6) h6 h7 h8
 lt:=fun b hb=>hs.lt b (v.own hb)
 slt:=hs.slt
 base:=hs.base}
structure Joined (n m:Nat) (H Hv H1 Hf:List (Ob K)):Prop where
 le:n<=m
 len1:H1.length=m
 len:Hf.length=H.length
 leN:m<=H.length
 ob:∀(h:Nat) o,Hf[h]?=some o->(h<m/\H1[h]?=some o)\/(H[h]?=some o/\((h<n/\Hv[h]?=some .dead)\/m<=h))
theorem aaw{n m:Nat}{ρ ρ1:List Value}(hl:ρ1.length=m)(hm:m<=ρ.length)(k:Nat):(ρ1++ρ.drop m)[k]?=if k<m then ρ1[k]? else ρ[k]?:=by
 by_cases h:k<m
 ·rw[av h,cH (by omega)]
 ·rw[an h,cM (by omega),eI];congr 1;omega
theorem aN.join{n m n0:Nat}{H Hv H1 Hf:List (Ob K)}{ρ1:List Value}{S1:Nat->Prop}{w1:World}(hs:aN D ρ S w H)(v:View n H Hv)(hs1:aN D ρ1 S1 w1 H1)(st:Step D n (ρ.take n) S Hv w ρ1 S1 H1 w1)(j:Joined n m H Hv H1 Hf)
 (hd:∀h,n<=h->h<m->ρ[h]?=some dummy) (hn0:n0<=n):aN D (ρ1++ρ.drop m) S1 w1 Hf/\Step D n0 ρ S H w (ρ1++ρ.drop m) S1 Hf w1/\∀(h:Nat) r,ρ[h]?=some r->r≠dummy->(ρ1++ρ.drop m)[h]?=some r:=by
 have hl1:ρ1.length=m:=by rw[hs1.len,j.len1]
 have an6:m<=ρ.length:=by rw[hs.len];exact j.leN
 have hρ:∀k,(ρ1++ρ.drop m)[k]?=if k<m then ρ1[k]? else ρ[k]?:=aaw (n:=n) hl1 an6
 have hpre:∀h,h<n->ρ1[h]?=ρ[h]?:=fun h hh=>by rw[st.pre h hh,cP,av hh]
 have hmono:∀(h:Nat) r,ρ[h]?=some r->r≠dummy->(ρ1++ρ.drop m)[h]?=some r:=fun h r hr hne=>by
  rw[hρ];by_cases h1:h<m
  ·rw[av h1];by_cases h2:h<n
   ·rw[hpre h h2];exact hr
   ·rw[hd h (by omega) h1]at hr;exact absurd (ft hr).symm hne
  ·rw[an h1];exact hr
 have hun:∀{h:Nat}{o:Ob K}{r:Value}{b:Nat},H[h]?=some o->o.live=true->ρ[h]?=some r->bS D w o r b->((h<n/\Hv[h]?=some .dead)\/m<=h)->¬Own D w (ρ.take n) Hv b:=fun{h o r b} h1 h2 h3 h4 h5 ho=>by
  obtain⟨h',o',r',g1,g2,g3,g4⟩:=ho;have g3':ρ[h']?=some r':=by rw[cP,av (v.lt g1)]at g3;exact g3
  have e:=hs.dL h h' o o' r r' b h1 h2 h3 h4 (v.live g1 g2) g2 g3' g4;subst e;rcases h5 with⟨-,h5⟩|h5
  ·rw[g1]at h5;simp at h5;subst h5;cases g2
  ·have:=v.lt g1;have:=j.le;omega
 have hblk:∀{h:Nat}{o:Ob K}{r:Value}{b:Nat},H[h]?=some o->o.live=true->ρ[h]?=some r->bS D w o r b->b<w.heap.size/\¬S b:=fun{h o r b} h1 h2 h3 h4=>hs.lt b ⟨h,o,r,h1,h2,h3,h4⟩
 have hkp:∀{h:Nat}{o:Ob K}{r:Value},H[h]?=some o->o.live=true->ρ[h]?=some r->((h<n/\Hv[h]?=some .dead)\/m<=h)->∀b,bS D w o r b->w1.heap[b]?=w.heap[b]?:=fun{h o r} h1 h2 h3 h5 b h4=>st.old b (hblk h1 h2 h3 h4).1 (hun h1 h2 h3 h4 h5)
 have hrr:∀{h:Nat}{o:Ob K}{r:Value},H[h]?=some o->((h<n/\Hv[h]?=some .dead)\/m<=h)->(ρ1++ρ.drop m)[h]?=some r->ρ[h]?=some r:=fun{h o r} _ h5 hr=>by
  rw[hρ]at hr;rcases h5 with⟨h5,-⟩|h5
  ·rw[av (by have:=j.le;omega),hpre h h5]at hr;exact hr
  ·rw[an (by omega)]at hr;exact hr
 have hown:∀b,Own D w1 (ρ1++ρ.drop m) Hf b->Own D w1 ρ1 H1 b\/∃(h:Nat)(o:Ob K)(r:Value),H[h]?=some o/\o.live=true/\ρ[h]?=some r/\bS D w o r b/\((h<n/\Hv[h]?=some .dead)\/m<=h):=fun b hb=>by
  obtain⟨h,o,r,g1,g2,g3,g4⟩:=hb;rcases j.ob h o g1 with⟨k1,k2⟩|⟨k1,k2⟩
  ·rw[hρ,av k1]at g3;exact .inl ⟨h,o,r,k2,g2,g3,g4⟩
  ·exact .inr ⟨h,o,r,k1,g2,hrr k1 k2 g3,g4.old (hkp k1 g2 (hrr k1 k2 g3) k2),k2⟩
 have hnew:∀b,Own D w1 ρ1 H1 b->Own D w (ρ.take n) Hv b\/w.heap.size<=b:=st.own;refine⟨⟨?_,?_,?_,?_,hs1.slt,hs1.base⟩,⟨st.os,st.tape,st.output,st.size,fun b hb ho=>st.old b hb fun h=>ho (v.own h),fun b hb=>?_,st.s1,fun b hb=>?_,fun h hh=>?_⟩,hmono⟩
 ·rw[cI,List.length_drop,hl1,hs.len,j.len];have:=j.leN;omega
 ·intro h o r g1 g2;rcases j.ob h o g1 with⟨k1,k2⟩|⟨k1,k2⟩
  ·rw[hρ,av k1]at g2;refine(hs1.ob h o r k2 g2).mono' (fun _ h=>h) (fun _ _=>rfl) (fun h' r' hr' _=>?_) (fun _ _ _=>rfl);have:h'<m:=by have:=(bo.1 hr').1;omega
   rw[hρ,av this];exact hr'
  ·have g2':=hrr k1 k2 g2;exact(hs.ob h o r k1 g2').mono' st.s1 (fun b hb=>st.old b (hs.slt b hb) fun ho=>(hs.lt b (v.own ho)).2 hb) hmono fun b hl hbk=>st.old b (hblk k1 hl g2' hbk).1 (hun k1 hl g2' hbk k2)
 ·intro h h' o o' r r' b g1 g2 g3 g4 g5 g6 g7 g8;rcases j.ob h o g1 with⟨k1,k2⟩|⟨k1,k2⟩<;>rcases j.ob h' o' g5 with⟨l1,l2⟩|⟨l1,l2⟩
  ·rw[hρ,av k1]at g3;rw[hρ,av l1]at g7;exact hs1.dL h h' o o' r r' b k2 g2 g3 g4 l2 g6 g7 g8
  ·rw[hρ,av k1]at g3;have Ni:=hrr l1 l2 g7;have g8:=g8.old (hkp l1 g6 Ni l2);rcases hnew b ⟨h,o,r,k2,g2,g3,g4⟩with ho|ho
   ·exact absurd ho (hun l1 g6 Ni g8 l2)
   ·have:=(hblk l1 g6 Ni g8).1;omega
  ·rw[hρ,av l1]at g7;have g3':=hrr k1 k2 g3;have g4:=g4.old (hkp k1 g2 g3' k2);rcases hnew b ⟨h',o',r',l2,g6,g7,g8⟩with ho|ho
   ·exact absurd ho (hun k1 g2 g3' g4 k2)
   ·have:=(hblk k1 g2 g3' g4).1;omega
  ·exact hs.dL h h' o o' r r' b k1 g2 (hrr k1 k2 g3) (g4.old (hkp k1 g2 (hrr k1 k2 g3) k2)) l1 g6 (hrr l1 l2 g7) (g8.old (hkp l1 g6 (hrr l1 l2 g7) l2))
 ·intro b hb;rcases hown b hb with ho|⟨h,o,r,k1,k2,k3,k4,k5⟩
  ·exact hs1.lt b ho
  ·obtain⟨a1,a2⟩:=hblk k1 k2 k3 k4;refine⟨kH a1 st.size,fun hS=>?_⟩;rcases st.s2 b hS with h1|h1|h1
   ·exact a2 h1
   ·exact hun k1 k2 k3 k4 k5 h1
   ·omega
 ·rcases hown b hb with ho|⟨h,o,r,k1,k2,k3,k4,-⟩
  ·rcases hnew b ho with h1|h1
   ·exact .inl (v.own h1)
   ·exact .inr h1
  ·exact .inl ⟨h,o,r,k1,k2,k3,k4⟩
 ·rcases st.s2 b hb with h1|h1|h1
  ·exact .inl h1
  ·exact .inr (.inl (v.own h1))
  ·exact .inr (.inr h1)
 ·rw[hρ,av (by have:=j.le;omega),hpre h (by omega)]
end Go.V
namespace Go.V
open Go
variable {K :cE}{H H':List (Ob K)}
def bw(T:List Nat)(H H':List (Ob K)):Prop:=H.length<=H'.length/\∀h,h<H.length->h∉T->H'[h]?=H[h]?
theorem bw.refl(T:List Nat)(H:List (Ob K)):bw T H H:=⟨bg _,fun _ _ _=>rfl⟩
theorem bw.app(T:List Nat)(H N:List (Ob K)):bw T H (H++N):=⟨by simp,fun h hh _=>cH hh⟩
theorem bw.trans{T:List Nat}{H H1 H2:List (Ob K)}(a:bw T H H1)(b:bw T H1 H2):bw T H H2:=
 ⟨eS a.1 b.1,fun h hh hn=>(b.2 h (kH hh a.1) hn).trans (a.2 h hh hn)⟩
theorem bw.set{T:List Nat}{H:List (Ob K)}{h:Nat}(o:Ob K)(hT:h∈T):bw T H (H.set h o):=
 ⟨by simp,fun k _ hn=>List.getElem?_set_ne (fun e=>hn (by rw[<-e];exact hT))⟩
theorem bw.more{T T':List Nat}{H H1:List (Ob K)}(a:bw T H H1)(h:∀x∈T,x∈T'):bw T' H H1:=⟨a.1,fun k hk hn=>a.2 k hk fun hm=>hn (h k hm)⟩
theorem Nj(dp:K.U->Bool):∀(cs:List (Option K.U))(l:List (AV K))(H:List (Ob K)),∃N,(thaw dp H cs l).2=H++N
 |[],l,H=>⟨[],by simp[thaw]⟩
 |some c::cs,[],H=>⟨[],by simp[thaw]⟩
 |none::cs,[],H=>⟨[],by simp[thaw]⟩
 |oc::cs,v::r,H=>by
  have keep:thaw dp H (oc::cs) (v::r)=(v::(thaw dp H cs r).1,(thaw dp H cs r).2)->∃N,(thaw dp H (oc::cs) (v::r)).2=H++N:=fun e=>by
   rw[e];exact Nj dp cs r H
  cases oc with
  |none=>exact keep (by cases v<;>rfl)
  |some c=>
   cases v with
   |cB=>
    have e:thaw dp H (some c::cs) (.cB::r)=(.sl H.length::(thaw dp (H++[mA (dp c) c]) cs r).1,(thaw dp (H++[mA (dp c) c]) cs r).2):=rfl;rw[e];obtain⟨N,hN⟩:=Nj dp cs r (H++[mA (dp c) c]);exact⟨mA (dp c) c::N,by simp only;rw[hN];simp⟩
   |_=>exact keep rfl
theorem Nk(T:List Nat)(dp:K.U->Bool)(cs:List (Option K.U))(l:List (AV K))(H:List (Ob K)):bw T H (thaw dp H cs l).2:=by
 obtain⟨N,hN⟩:=Nj dp cs l H;rw[hN];exact bw.app _ _ _
theorem an7{T:List Nat}{h:Nat}(hT:h∈T)(H:List (Ob K)):bw T H (vK H h):=by
 unfold vK;split
 ·exact bw.set _ hT
 ·exact bw.set _ hT
 ·exact bw.refl _ _
theorem Gt{T:List Nat}:∀(l:List Nat)(H:List (Ob K)),(∀x∈l,x∈T)->bw T H (iK H l)
 |[],H,_=>bw.refl _ _
 |h::r,H,hT=>(an7 (hT h (by simp)) H).trans (Gt r _ fun x hx=>hT x (by simp[hx]))
def nt(ev:Operand->AV K)(op:Op):List Nat:=(match op with
    |.store _ p _=>hands (ev p)
    |.call {callee:=.builtin .append,args, ..}=>(match args.toList with
      |s::x::_=>hands (ev s)++hands (ev x)
      |[s]=>hands (ev s)
      |[]=>[])
    |.call {callee:=.builtin .clear,args, ..}=>(match args.toList with
      |s::_=>hands (ev s)
      |[]=>[])
    |.call {callee:=.builtin .copy,args, ..}=>(match args.toList with
      |s::_=>hands (ev s)
      |[]=>[])
    |_=>[])
theorem an8{cx:Cx K}{sT:TypeId}{s x v:AV K}{c:Bool}{t:List Nat}(h:BG cx H sT s x=some (v,H',c,t)):bw (hands s) H H':=by
 unfold BG at h;split at h
 ·split at h
  ·split at h
   ·split at h
    ·split at h
     ·simp only[ar,aH]at h;rw[<-h.2.1];exact(bw.set _ (by simp[hands])).trans (bw.app _ _ _)
     ·cases h
    ·cases h
   ·cases h
  ·cases h
 ·cases h
theorem an9{cx:Cx K}{sT:TypeId}{s x v:AV K}{c:Bool}{t:List Nat}(h:Gh cx H sT s x=some (v,H',c,t)):bw (hands s) H H':=by
 unfold Gh at h;split at h
 ·cases h
 ·split at h
  ·cases h
  ·split at h
   ·split at h
    ·cases h
    ·split at h
     ·simp only[ar,aH]at h;rw[<-h.2.1];exact bw.app _ _ _
     ·split at h
      ·split at h
       ·cases h
       ·split at h
        ·simp only[ar,aH]at h;rw[<-h.2.1];exact(bw.set _ (by simp[hands])).trans (bw.app _ _ _)
        ·cases h
      ·split at h
       ·simp only[ar,aH]at h;rw[<-h.2.1];exact(bw.set _ (by simp[hands])).trans (bw.app _ _ _)
       ·cases h
     ·cases h
   ·cases h
theorem aax{cx:Cx K}{ev:Operand->AV K}{op:Op}{v:AV K}{c:Bool}{t:List Nat}(h:vM cx ev H op=some (v,H',c,t)):bw (nt ev op) H H':=by
 unfold vM at h;split at h
 ·split at h
  ·dsimp only at h;split at h
   ·cases h
   ·simp only[ar,aH]at h;rw[<-h.2.1];exact(Nk _ _ _ _ _).trans (bw.app _ _ _)
  ·cases h
 ·split at h
  ·split at h
   ·dsimp only at h;split at h
    ·cases h
    ·simp only[ar,aH]at h;rw[<-h.2.1];exact(Nk _ _ _ _ _).trans (bw.app _ _ _)
   ·cases h
  ·cases h
 ·split at h
  ·split at h
   ·simp only[dS,aH]at h;obtain⟨cs,-,-,rfl,-⟩:=h;exact bw.refl _ _
   ·cases h
  ·cases h
 ·split at h
  ·split at h
   ·split at h
    ·rename_i hh off hp;split at h
     ·split at h
      ·dsimp only at h;split at h
       ·cases h
       ·simp only[ar,aH]at h;rw[<-h.2.1];refine(Nk _ _ _ _ _).trans (bw.set _ ?_);simp only[nt,hp,hands,vq]
      ·cases h
     ·cases h
    ·rename_i hh st i off hp;split at h
     ·split at h
      ·split at h
       ·simp only[ar,aH]at h;rw[<-h.2.1];refine bw.set _ ?_;simp only[nt,hp,hands,vq]
       ·cases h
      ·cases h
     ·cases h
    ·cases h
   ·cases h
  ·cases h
 ·split at h
  ·cases h
  ·split at h
   ·split at h
    ·split at h
     ·simp only[ar,aH]at h;rw[<-h.2.1];exact bw.app _ _ _
     ·cases h
    ·cases h
   ·cases h
 ·split at h
  ·cases h
  ·split at h
   ·split at h
    ·split at h
     ·simp only[ar,aH]at h;rw[<-h.2.1];exact bw.app _ _ _
     ·cases h
    ·cases h
   ·cases h
 ·split at h
  ·split at h
   ·split at h
    ·split at h
     ·simp only[ar,aH]at h;rw[<-h.2.1];exact bw.app _ _ _
     ·cases h
    ·cases h
   ·cases h
  ·cases h
 ·split at h
  ·rename_i s x sT xT ha ht;split at h
   ·cases h
   split at h
   ·refine(an8 h).more fun y hy=>?_
    simp only[nt,ha];exact dM.2 (.inl hy)
   ·refine(an9 h).more fun y hy=>?_
    simp only[nt,ha];exact dM.2 (.inl hy)
  ·cases h
 ·split at h
  ·rename_i x T ha ht;split at h
   ·rename_i h' st lo hi e hx he;split at h
    ·split at h
     ·split at h
      ·simp only[ar,aH]at h;rw[<-h.2.1];refine bw.set _ ?_;simp only[nt,ha,hx,hands,vq]
      ·cases h
     ·cases h
    ·cases h
   ·cases h
  ·cases h
 ·split at h
  ·rename_i x y T T2 ha ht;split at h
   ·rename_i h' st lo hi s e hx hy he;split at h
    ·split at h
     ·split at h
      ·simp only[ar,aH]at h;rw[<-h.2.1];refine bw.set _ ?_;simp only[nt,ha,hx,hands,vq]
      ·cases h
     ·cases h
    ·cases h
   ·cases h
  ·cases h
 ·cases h
mutual
theorem lV:∀(v:AV K){y:Nat},y∈hands (dH H v)->y∈hands v
 |.sl k,y,h=>by
   simp only[dH]at h;split at h
   ·simp[hands]at h
   ·exact h
 |.vw k a b c,y,h=>by
   simp only[dH]at h;split at h
   ·split at h
    ·simp[hands]at h
    ·exact h
   ·exact h
 |.agg l,y,h=>by simp only[dH,hands]at h⊢;exact Nl l h
 |.aV l,y,h=>by simp only[dH,hands]at h⊢;exact Nl l h
 |.any,y,h|.int _ _,y,h|.bool _,y,h|.str _,y,h|.cL,y,h|.cB,y,h|.fn _ _,y,h|.ptr _ _,y,h|.ep _ _ _ _,y,h|.aj _ _,y,h|.rp _ _ _,y,h|.np _,y,h|.opt _ _ _,y,h=>by simpa only[dH]using h
theorem Nl:∀(l:List (AV K)){y:Nat},y∈bp (pn H l)->y∈bp l
 |[],y,h=>by simpa [pn]using h
 |v::r,y,h=>by
  simp only[pn,bp,dM]at h⊢;exact h.imp (lV v) (Nl r)
end
theorem aay{ev:Operand->AV K}{op:Op}{y:Nat}(h:y∈nt (fun x=>dH H (ev x)) op):y∈nt ev op:=by
 unfold nt at h⊢;split at h
 ·exact lV _ h
 ·split at h
  ·rename_i hs;rcases dM.1 h with h|h
   ·exact dM.2 (.inl (lV _ h))
   ·exact dM.2 (.inr (lV _ h))
  ·exact lV _ h
  ·simp at h
 ·split at h
  ·exact lV _ h
  ·simp at h
 ·split at h
  ·exact lV _ h
  ·simp at h
 ·simp at h
theorem BW{T:List Nat}:∀(l:List Nat)(H:List (Ob K)),(∀x∈l,x∈T)->bw T H (eu H l)
 |[],H,_=>bw.refl _ _
 |h::r,H,hT=>(bw.set _ (hT h (by simp))).trans (BW r _ fun x hx=>hT x (by simp[hx]))
theorem aaz{c:K.U}{v:AV K}{l:List (K.El c)}{ks:List Nat}(h:qL H c v=some (l,ks)):∀x∈ks,x∈hands v:=fun x hx=>by
 unfold qL at h;split at h
 ·simp only[ar,aH]at h;obtain⟨rfl,rfl⟩:=h;cases hx
 ·split at h
  ·split at h
   ·simp only[ar,aH]at h;obtain⟨-,rfl⟩:=h;simpa [hands]using hx
   ·cases h
  ·cases h
 ·cases h
theorem aaA{ev:Operand->AV K}{x:Nat}:∀(l:List (Nat×Operand)),x∈bp (l.map fun p=>dH H (ev p.2))->x∈bp (l.map fun p=>ev p.2)
 |[],h=>h
 |y::r,h=>by
  simp only[fm,bp,dM]at h⊢;exact h.imp (lV _) (aaA r)
theorem aaB{v:AV K}{a b c d:Nat}(h:dH H v=.ep a b c d):v=.ep a b c d:=by
 cases v<;>simp[dH]at h⊢<;>first|exact h|(split at h<;>first|cases h|(split at h<;>cases h))
theorem aoa{cx:Cx K}{ev:Operand->AV K}{op:Op}{v:AV K}{c:Bool}{t:List Nat}(h:y4 cx (fun x=>dH H (ev x)) H op=some (v,H',c,t)):bw (jj ev op) H H':=by
 unfold y4 at h;split at h
 ·split at h
  ·cases h
  ·split at h
   ·split at h
    ·split at h
     ·split at h
      ·simp only[ar,aH]at h;rw[<-h.2.1];exact bw.app _ _ _
      ·cases h
     ·cases h
    ·cases h
   ·cases h
 ·rename_i T len parts;split at h
  ·cases h
  ·split at h
   ·rename_i hty hl;split at h
    ·split at h
     ·split at h
      ·simp only[ar,aH]at h;rw[<-h.2.1];refine bw.trans (BW _ _ fun x hx=>?_) (bw.app _ _ _);rw[(F4 _ _ _ hl).1]at hx;simp only[jj,kX,mb];exact aaA _ hx
      ·cases h
     ·cases h
    ·cases h
   ·cases h
 ·rename_i T p x;split at h
  ·rename_i h0 st i off n0 hp hn;split at h
   ·split at h
    ·split at h
     ·split at h
      ·simp only[ar,aH]at h;rw[<-h.2.1];have q1:=aaB hp;have hmem:∀y∈h0::bp (dH H (ev x)).bm,y∈jj ev (.store T p x):=fun y hy=>by
        simp only[jj,kX,q1,dM];rcases dY.1 hy with rfl|hy
        ·exact .inr (by simp[hands])
        ·rw[LV]at hy;exact .inl (lV _ hy)
       exact(BW _ _ hmem).trans (bw.set _ (hmem _ (by simp)))
      ·cases h
     ·cases h
    ·cases h
   ·split at h
    ·split at h
     ·split at h
      ·simp only[ar,aH]at h;rw[<-h.2.1];have q1:=aaB hp;have hmem:∀y∈h0::bp (dH H (ev x)).bm,y∈jj ev (.store T p x):=fun y hy=>by
        simp only[jj,kX,q1,dM];rcases dY.1 hy with rfl|hy
        ·exact .inr (by simp[hands])
        ·rw[LV]at hy;exact .inl (lV _ hy)
       exact(BW _ _ hmem).trans (bw.set _ (hmem _ (by simp)))
      ·cases h
     ·cases h
    ·cases h
   ·cases h
  ·cases h
 ·rename_i args argTypes;split at h
  ·rename_i s x sT xT hargs hat;split at h
   ·cases h
   ·split at h
    ·cases h
    ·split at h
     ·cases h
     ·split at h
      ·split at h
       ·rename_i l ks m ks' hl hm;split at h
        ·simp only[ar,aH]at h;rw[<-h.2.1];refine bw.trans (BW _ _ fun y hy=>?_) (bw.app _ _ _);simp only[jj,kX,hargs,jF,dM];rcases dM.1 hy with hy|hy
         ·exact .inl (lV _ (aaz hl y hy))
         ·exact .inr (lV _ (aaz hm y hy))
        ·cases h
       ·cases h
      ·cases h
  ·cases h
 ·cases h
theorem aob{cx:Cx K}{ev:Operand->AV K}{op:Op}{v:AV K}{c:Bool}{t:List Nat}(h:y9 cx ev H op=some (v,H',c,t)):bw (jj ev op) H H':=by
 have e:jj ev op=kX ev op++nt ev op:=rfl;unfold y9 at h;split at h
 ·rename_i r hd;simp only[ar]at h;subst h;exact aoa hd
 split at h
 ·refine(aax h).more fun y hy=>?_
  rw[e,dM];exact .inr (aay hy)
 ·have hz:bw (jj ev op) H (iK H (kX ev op)):=Gt _ _ fun x hx=>by rw[e,dM];exact .inl hx
  split at h
  ·simp only[ar,aH]at h;rw[<-h.2.1];exact hz
  ·refine hz.trans ((aax h).more fun y hy=>?_);rw[e,dM];exact .inr (aay hy)
theorem aoc{cx:Cx K}{ev:Operand->AV K}{op:Op}{v:AV K}{c:Bool}{t:List Nat}(h:cutV cx ev H op=some (v,H',c,t)):bw (jj ev op) H H':=by
 unfold cutV at h;split at h
 ·split at h
  ·split at h
   ·rename_i hx hy he;split at h
    ·split at h
     ·simp only[ar,aH]at h;rw[<-h.2.1];refine bw.trans (bw.set _ ?_) (bw.app _ _ _);simp[jj,kX,hx]
     ·cases h
    ·split at h
     ·simp only[ar,aH]at h;rw[<-h.2.1];refine bw.trans (bw.set _ ?_) (bw.app _ _ _);simp[jj,kX,hx]
     ·cases h
    ·cases h
   ·cases h
  ·cases h
 ·split at h
  ·split at h
   ·rename_i hx hy he;split at h
    ·split at h
     ·simp only[ar,aH]at h;rw[<-h.2.1];refine bw.trans (bw.set _ ?_) (bw.app _ _ _);simp[jj,kX,hx]
     ·cases h
    ·split at h
     ·simp only[ar,aH]at h;rw[<-h.2.1];refine bw.trans (bw.set _ ?_) (bw.app _ _ _);simp[jj,kX,hx]
     ·cases h
    ·cases h
   ·cases h
  ·cases h
 ·cases h
theorem Nn{cx:Cx K}{m:Mode}(hm:m=.iF\/m=.fresh){T:List Nat}{f:FuncId}{args:List (AV K)}{v:AV K}{c:Bool}{t:List Nat}(h:kV cx m H f args=some (v,H',c,t)):bw T H H':=by
 unfold kV at h;rcases hm with rfl|rfl
 ·simp only at h;split at h
  ·split at h
   ·split at h
    ·simp only[ar,aH]at h;rw[<-h.2.1];exact bw.app _ _ _
    ·cases h
   ·cases h
  ·cases h
 ·simp only at h;split at h
  ·split at h
   ·split at h
    ·split at h
     ·simp only[ar,aH]at h;rw[<-h.2.1];exact bw.app _ _ _
     ·cases h
    ·cases h
   ·cases h
  ·cases h
theorem aaC:∀(m:List Nat)(H os:List (Ob K)){T:List Nat},(∀x∈m,x∈T)->bw T H (jg H m os)
 |[],H,os,T,_=>by cases os<;>exact bw.refl _ _
 |h::m,H,[],T,_=>bw.refl _ _
 |h::m,H,o::r,T,hm=>by
  simp only[jg];exact bw.trans (bw.set _ (hm h (by simp))) (aaC m _ r fun x hx=>hm x (by simp[hx]))
theorem aaD{cx:Cx K}{T:List Nat}{f:FuncId}{args:List (AV K)}{v:AV K}{c:Bool}{t:List Nat}(h:kV cx .pass H f args=some (v,H',c,t))(hT:∀x∈reach H 64 (bp args) [],x∈T):bw T H H':=by
 unfold kV at h;simp only at h;split at h
 ·cases h
 ·split at h
  ·split at h
   ·split at h
    ·split at h
     ·simp only[ar,aH]at h;rw[<-h.2.1];exact bw.trans (aaC _ _ _ hT) (bw.app _ _ _)
     ·cases h
    ·cases h
   ·cases h
  ·cases h
theorem aod{cx:Cx K}{ev:Operand->AV K}{t:TypeId}{p:Operand}{v:AV K}{c:Bool}{ts:List Nat}(h:za cx ev H (.load t p)=some (v,H',c,ts)):bw (hands (ev p)) H H':=by
 unfold za at h;simp only at h;split at h
 ·split at h
  ·rename_i hh st i off ag n hp hag hn;split at h
   ·split at h
    ·split at h
     ·simp only[ar,aH]at h;rw[<-h.2.1,hp];exact(bw.set _ (by simp[hands])).trans (bw.app _ _ _)
     ·cases h
    ·cases h
   ·cases h
  ·cases h
 ·cases h
theorem aoe{cx:Cx K}{tm:List (AV K)}{T t:TypeId}{p:Operand}{v:AV K}{c:Bool}{ts:List Nat}(hn:iL cx (.load t p)=false)(h:kY false cx tm [] H T (.load t p)=some (v,H',c,ts)):
 bw (match vL cx (fun x=>dH H (da tm [] x)) H (.load t p)with
  |some _=>[]
  |none=>hands (da tm [] p)) H H':=by
 unfold kY at h;simp only at h;split at h
 ·rename_i v1 c1 hp;rw[hp];simp only[ar,aH]at h;rw[<-h.2.1];exact bw.refl _ _
 ·rename_i hp;rw[hp];simp only[ki,fa,hn]at h;split at h
  ·rename_i hov;simp only[ar]at h;rw[h]at hov;exact aod hov
  ·split at h
   ·rename_i hct;simp[cutV]at hct
   ·simp[y9,y4,kX,vM]at h
theorem aof{cx:Cx K}{tm:List (AV K)}{gs:List (Nat×Bool)}{T:TypeId}{op:Op}{v:AV K}{c:Bool}{t:List Nat}(he:tg cx op=true)(hnl:∀a b,op≠.load a b)(h:kY false cx tm gs H T op=some (v,H',c,t)):bw ((jj (da tm gs) op++MM (da tm gs) op)++zh cx H (da tm gs) op) H H':=by
 unfold kY at h;split at h
 ·simp[tg]at he
 ·rename_i fo args _;cases fo with
  |func f=>
   have hf:(cx.mode f=.fresh\/(cx.mode f=.pass\/cx.mode f=.cT))/\(cx.opn=false\/cx.lz=true):=by simpa [tg]using he
   have Np:(cx.opn&& !cx.lz&& !false)=false:=by rcases hf.2 with e|e<;>simp[e]
   have e:da tm gs (.func f)=(.fn f []:AV K):=rfl;rw[e]at h;simp only[zc,Np,ki,fa,mb]at h
   replace hf:=hf.1
   rcases hf with hf|hf|hf
   rotate_left
   ·simp only[qH,hf,ki,fa]at h;refine aaD h fun x hx=>dM.2 (.inr ?_)
    simp only[zh,hf];exact hx
   ·simp only[qH,hf,ki,fa,vE]at h;refine bw.trans (Gt _ _ fun x hx=>dM.2 (.inr ?_)) (aaD h fun x hx=>dM.2 (.inr ?_))
    ·simp only[zh,hf];exact dM.2 (.inl hx)
    ·simp only[zh,hf];exact dM.2 (.inr hx)
   simp only[qH,hf,ki,fa]at h;split at h
   ·rename_i hc;simp only[ar]at h;rw[h]at hc;exact Nn (.inl rfl) hc
   ·split at h
    ·rename_i hc;simp only[ar]at h;rw[h]at hc;exact Nn (.inr rfl) hc
    ·unfold vE at h;refine bw.trans (Gt _ _ fun x hx=>?_) (Nn (.inl rfl) h);refine dM.2 (.inl (dM.2 (.inr ?_)));have key:∀l:List Operand,x∈bp (l.map fun y=>dH H (da tm gs y))->x∈bp (l.map (da tm gs)):=fun l=>by
      induction l with
      |nil=>exact fun h=>h
      |cons y r ih=>
       simp only[fm,bp,dM];exact fun h=>h.imp (lV _) ih
     exact key _ hx
  |_=>simp[tg]at he
 ·simp[tg]at he
 ·split at h
  ·simp only[ar,aH]at h;rw[<-h.2.1];exact bw.refl _ _
  ·rw[an (by simp)]at h;split at h
   ·cases h
   ·split at h
    ·rename_i hov;exfalso;unfold za at hov;split at hov
     ·exact hnl _ _ rfl
     ·cases hov
    split at h
    ·rename_i hct;simp only[ar]at h;rw[h]at hct;exact(aoc hct).more fun x hx=>dM.2 (.inl (dM.2 (.inl hx)))
    ·exact(aob h).more fun x hx=>dM.2 (.inl (dM.2 (.inl hx)))
theorem aaE:∀(l:List Nat)(h:Nat),(bitsOf l).testBit h=true↔h∈l
 |[],h=>by simp[bitsOf]
 |k::r,h=>by
  simp only[bitsOf,zd,i5,aaE r,Nat.testBit_two_pow,bh,dY];exact⟨fun h=>h.imp Eq.symm id,fun h=>h.imp Eq.symm id⟩
theorem aaF{A:Nat}:∀(ws:List Nat)(i h:Nat),(zj A i ws).testBit h=true↔∃(k:Nat)(b:Nat),ws[k]?=some b/\A.testBit (i+k)=false/\b.testBit h=true
 |[],i,h=>by simp[zj]
 |b::r,i,h=>by
  simp only[zj,zd,i5,aaF r];constructor
  ·rintro (h1|⟨k,b',h1,h2,h3⟩)
   ·split at h1
    ·simp at h1
    ·rename_i hA;exact⟨0,b,rfl,by simpa using hA,h1⟩
   ·exact⟨k+1,b',by simpa using h1,by rw[show i+(k+1)=i+1+k by omega];exact h2,h3⟩
  ·rintro ⟨k,b',h1,h2,h3⟩
   cases k with
   |zero=>simp at h1;subst h1;left;rw[an (by simpa using h2)];exact h3
   |succ k=>exact .inr ⟨k,b',by simpa using h1,by rw[show i+1+k=i+(k+1) by omega];exact h2,h3⟩
theorem aaG{A:Nat}{T:List Nat}:∀(ms:List (Nat×Nat))(i:Nat),Gi A T i ms=true->∀(k m n:Nat),ms[k]?=some (m,n)->A.testBit (i+k)=false->∀h∈T,h<n->m.testBit h=true
 |[],i,_,k,m,n,h,_=>by simp at h
 |(m0,n0)::r,i,hr,k,m,n,hk,hA=>by
  simp only[Gi,aZ,i5,eP,bh]at hr;cases k with
  |zero=>
   simp at hk;obtain⟨rfl,rfl⟩:=hk;intro h hT hn;rcases hr.1 with h1|h1
   ·rw[Nat.add_zero]at hA;rw[hA]at h1;cases h1
   ·rcases h1 h hT with h2|h2
    ·omega
    ·exact h2
  |succ k=>exact aaG r (i+1) hr.2 k m n (by simpa using hk) (by rw[show i+1+k=i+(k+1) by omega];exact hA)
end Go.V
namespace Go.V
open Go
variable {K :cE}{H H':List (Ob K)}
theorem aaH{cx:Cx K}{tm:List (AV K)}{T:TypeId}{op:Op}{v:AV K}{c:Bool}{t:List Nat}(he:tg cx op=true)(hq:nq cx op=false)(h:kY false cx tm [] H T op=some (v,H',c,t)):bw (pr cx tm H op) H H':=by
 by_cases hl:∃a b,op=.load a b
 ·obtain⟨a,b,rfl⟩:=hl;have:pr cx tm H (.load a b)=(match vL cx (fun x=>dH H (da tm [] x)) H (.load a b)with
   |some _=>[]
   |none=>hands (da tm [] b)):=by unfold pr;rw[hq];rfl
  rw[this];exact aoe hq h
 ·have:pr cx tm H op=(jj (da tm []) op++MM (da tm []) op)++zh cx H (da tm []) op:=by
   unfold pr;rw[hq];simp only[ki,fa];split
   ·rename_i a b;exact absurd ⟨a,b,rfl⟩ hl
   ·rfl
  rw[this];exact aof he (fun a b e=>hl ⟨a,b,e⟩) h
theorem aog{cx:Cx K}{ops:List Oper}{tm:List (AV K)}{wr:List Nat}{o:Oper}{v:AV K}{c:Bool}(h:zi cx ops tm H wr o=some (v,H',c)):bw (pr cx tm H o.op) H H':=by
 unfold zi at h;split at h
 ·rename_i hq;have:H'=H:=by
   unfold iz at h;split at h
   ·cases h
   ·split at h
    ·rename_i hy;split at h
     ·cases h
     ·simp only[ar,aH]at h;obtain⟨-,rfl,-⟩:=h;exact zm hy
    ·cases h
   ·split at h
    ·split at h
     ·split at h
      ·split at h
       ·rename_i hy;split at h
        ·cases h
        ·simp only[ar,aH]at h;obtain⟨-,rfl,-⟩:=h;exact zm hy
       ·cases h
      ·simp only[ar,aH]at h;exact h.2.1.symm
     ·cases h
    split at h
    ·cases h
    ·split at h
     ·split at h
      ·simp only[ar,aH]at h;exact h.2.1.symm
      ·cases h
     ·cases h
  subst this;exact bw.refl _ _
 ·rename_i hq;split at h
  ·rename_i he;have hq':nq cx o.op=false:=by simpa using hq
   unfold iz at h;split at h
   ·cases h
   ·split at h
    ·rename_i hy;split at h
     ·cases h
     ·simp only[ar,aH]at h;obtain⟨-,rfl,-⟩:=h;exact aaH he hq' hy
    ·cases h
   ·split at h
    ·split at h
     ·split at h
      ·split at h
       ·rename_i hy;split at h
        ·cases h
        ·simp only[ar,aH]at h;obtain⟨-,rfl,-⟩:=h;exact aaH he hq' hy
       ·cases h
      ·simp only[ar,aH]at h;rw[<-h.2.1];exact bw.refl _ _
     ·cases h
    split at h
    ·cases h
    ·split at h
     ·split at h
      ·simp only[ar,aH]at h;rw[<-h.2.1];exact bw.refl _ _
      ·cases h
     ·cases h
  ·cases h
structure ky (K:cE) where
 vals:Nat->AV K
 hin:Nat->List (Ob K)
 hout:Nat->List (Ob K)
 mask:Nat->Nat
 T:Nat->List Nat
def ky.W(F:ky K)(k h:Nat):Prop:=h∈F.T k\/((F.hin k).length<=h/\h<(F.hout k).length)
structure zp (cx:Cx K) (L:List Oper) (bs:List Nat) (bD:List (AV K)) (F:ky K) (i:Nat) (o:Oper) (cF:List (AV K)) (du:List Nat):Prop where
 slot:zi cx L (dQ (eg bs i) L 0 cF) (iC (F.mask i) 0 (F.hin i)) du o=some (F.vals i,F.hout i,true)
 up:pq (F.hin i).length (dQ (eg bs i) L 0 cF)=true
 Gu:(iC (F.mask i) 0 (F.hin i)).all (Ob.upto (F.hin i).length)=true
 turns:bw (F.T i) (iC (F.mask i) 0 (F.hin i)) (F.hout i)
 len:cF.length=bD.length
 fin:∀(k:Nat) o' d,L[k]?=some o'->o'.dst=some d->k<i->cF[d]?=some (F.vals k)
 rest:∀t,(∀(k:Nat) o,k<i->L[k]?=some o->o.dst≠some t)->cF[t]?=bD[t]?
 du:∀d∈du,∃(k:Nat)(o':Oper),k<i/\L[k]?=some o'/\o'.dst=some d
structure fG (cx:Cx K) (L:List Oper) (bs:List Nat) (H0:List (Ob K)) (bD:List (AV K)) (F:ky K) (n:Nat) (tm:List (AV K)) (H:List (Ob K)) (wr:List Nat) (ms:List (Nat×Nat)) (ws:List Nat):Prop where
 len:tm.length=bD.length
 uniq:∀(i j:Nat) o o' d,i<n->j<n->L[i]?=some o->L[j]?=some o'->o.dst=some d->o'.dst=some d->i=j
 inb:∀(i:Nat) o d,i<n->L[i]?=some o->o.dst=some d->d<bD.length
 fin:∀(i:Nat) o d,i<n->L[i]?=some o->o.dst=some d->tm[d]?=some (F.vals i)
 rest:∀t,(∀(k:Nat) o,k<n->L[k]?=some o->o.dst≠some t)->tm[t]?=bD[t]?
 my:∀d,d∈wr↔∃(k:Nat)(o':Oper),k<n/\L[k]?=some o'/\o'.dst=some d
 slot:∀(i:Nat) o,i<n->L[i]?=some o->∃cF du,zp cx L bs bD F i o cF du
 h0:F.hin 0=H0
 hn:F.hin n=H
 hs:∀i,i<n->F.hin (i+1)=kr (F.mask i) 0 (F.hin i) (F.hout i)/\(F.hin i).length<=(F.hout i).length
 BX:ms.length=n
 BY:ws.length=n
 ms:∀i,i<n->ms[i]?=some (F.mask i,(F.hin i).length)
 ws:∀i,i<n->∃b,ws[i]?=some b/\∀h,b.testBit h=true↔F.W i h
 masks:∀i,i<n->∀h,(∃k,k<i/\(bs.getD i 0).testBit k=false/\F.W k h)->(F.mask i).testBit h=true
 clear:∀k,k<n->∀h∈F.T k,(F.mask k).testBit h=false/\h<(F.hin k).length
 readers:∀k,k<n->∀i,i<k->(bs.getD k 0).testBit i=false->∀h∈F.T k,h<(F.hin i).length->(F.mask i).testBit h=true
theorem M5{cx:Cx K}{L:List Oper}{bs:List Nat}:∀(l:List Oper)(i:Nat)(st st':St K)(wr wr':List Nat)(ms:List (Nat×Nat))(ws:List Nat),qR cx L bs l i st wr ms ws=some (st',wr')->st'.ok=true->st.ok=true
 |[],i,st,st',wr,wr',ms,ws,h,hok=>by simp only[qR,ar,aH]at h;rw[h.1];exact hok
 |o::r,i,st,st',wr,wr',ms,ws,h,hok=>by
  simp only[qR]at h;split at h
  ·split at h
   ·cases h
   ·split at h
    ·split at h
     ·rename_i st1 hZ hp;obtain⟨p1,p2,-⟩:=qT hp;have q1:=M5 r (i+1) st1 st' hZ wr' _ _ h hok;rw[p2]at q1;simp only[aZ]at q1;exact q1.2
     ·cases h
    ·cases h
  ·cases h
theorem aaI{cx:Cx K}{L:List Oper}{bs:List Nat}{H0:List (Ob K)}{bD:List (AV K)}:∀(l:List Oper)(n:Nat)(st st':St K)(wr wr':List Nat)(ms:List (Nat×Nat))(ws:List Nat)(F:ky K),qR cx L bs l n st wr ms ws=some (st',wr')->st'.ok=true->
 (∀j,l[j]?=L[n+j]?)->n+l.length=L.length->fG cx L bs H0 bD F n st.tm st.H wr ms ws->∃F' ms' ws',fG cx L bs H0 bD F' L.length st'.tm st'.H wr' ms' ws'
 |[],n,st,st',wr,wr',ms,ws,F,h,hok,hl,hn,hp=>by
   simp only[qR,ar,aH]at h;obtain⟨rfl,rfl⟩:=h;simp at hn;subst hn;exact⟨F,ms,ws,hp⟩
 |o::r,n,st,st',wr,wr',ms,ws,F,h,hok,hl,hn,hp=>by
  have hLn:L[n]?=some o:=by have:=hl 0;simpa using this.symm
  simp only[qR]at h;split at h
  ·rename_i hup;simp only[aZ]at hup;split at h
   ·cases h
   ·rename_i v H1 c hsv;split at h
    ·rename_i hrd;simp only[aZ,bh]at hrd;split at h
     ·rename_i st1 hZ hput;obtain⟨p1,p2,p3⟩:=qT hput;have hok1:=M5 r (n+1) st1 st' hZ wr' _ _ h hok;rw[p2]at hok1;simp only[aZ]at hok1;obtain⟨rfl,-⟩:=hok1;have aoh:=hp.hn
      let mk:=qQ bs ws n (dQ (eg bs n) L 0 st.tm) st.H.length o.op
      let TT:=pr cx (dQ (eg bs n) L 0 st.tm) (iC mk 0 st.H) o.op
      let F':ky K:={vals:=fun i=>if i=n then v else F.vals i,hin:=fun i=>if i=n+1 then kr mk 0 st.H H1 else F.hin i,hout:=fun i=>if i=n then H1 else F.hout i,mask:=fun i=>if i=n then mk else F.mask i,T:=fun i=>if i=n then TT else F.T i}
      have ev:∀i,i<n->F'.vals i=F.vals i:=fun i hi=>by simp[F',show i≠n by omega]
      have eh:∀i,i<=n->F'.hin i=F.hin i:=fun i hi=>by simp[F',show i≠n+1 by omega]
      have eo:∀i,i<n->F'.hout i=F.hout i:=fun i hi=>by simp[F',show i≠n by omega]
      have em:∀i,i<n->F'.mask i=F.mask i:=fun i hi=>by simp[F',show i≠n by omega]
      have eT:∀i,i<n->F'.T i=F.T i:=fun i hi=>by simp[F',show i≠n by omega]
      have nv:F'.vals n=v:=by simp[F']
      have nh:F'.hin n=st.H:=by rw[eh n (bg _)];exact aoh
      have nh1:F'.hin (n+1)=kr mk 0 st.H H1:=by simp[F']
      have no:F'.hout n=H1:=by simp[F']
      have nm:F'.mask n=mk:=by simp[F']
      have nT:F'.T n=TT:=by simp[F']
      have eW:∀i,i<n->∀h,F'.W i h↔F.W i h:=fun i hi h=>by unfold ky.W;rw[eT i hi,eh i (by omega),eo i hi]
      have MW:zp cx L bs bD F' n o st.tm wr:=
       {slot:=by rw[nv,no,nm,nh];exact hsv
        up:=by rw[nh];exact hup.1
        Gu:=by rw[nm,nh];exact hup.2
        turns:=by rw[nT,nm,nh,no];exact aog hsv
        len:=hp.len
        fin:=fun k o' d h1 h2 h3=>by rw[ev k h3];exact hp.fin k o' d h3 h1 h2
        rest:=fun t ht=>hp.rest t fun k o' hk h1=>ht k o' hk h1
        du:=fun d hd=>(hp.my d).1 hd}
      have tr:∀(i:Nat) o1,i<n+1->L[i]?=some o1->∃cF du,zp cx L bs bD F' i o1 cF du:=fun i o1 hi ho1=>by
       by_cases hin:i=n
       ·subst hin;rw[hLn]at ho1;simp at ho1;subst ho1;exact⟨_,_,MW⟩
       ·have hlt:i<n:=by omega
        obtain⟨cF,du,a⟩:=hp.slot i o1 hlt ho1;exact⟨cF,du,{slot:=by rw[ev i hlt,eo i hlt,em i hlt,eh i (by omega)];exact a.slot,up:=by rw[eh i (by omega)];exact a.up,Gu:=by rw[em i hlt,eh i (by omega)];exact a.Gu,turns:=by rw[eT i hlt,em i hlt,eh i (by omega),eo i hlt];exact a.turns,len:=a.len,fin:=fun k o' d h1 h2 h3=>by rw[ev k (by omega)];exact a.fin k o' d h1 h2 h3,rest:=a.rest,du:=a.du}⟩
      have hmk:∀h,(∃k,k<n/\(bs.getD n 0).testBit k=false/\F'.W k h)->mk.testBit h=true:=fun h=>by
       rintro ⟨k,hk,h2,h3⟩
       rw[show mk=zj (bs.getD n 0) 0 ws|||Z0 (dQ (eg bs n) L 0 st.tm) st.H.length o.op from rfl,zd,i5];refine .inl ?_;rw[aaF];obtain⟨b',g1,g2⟩:=hp.ws k hk;exact⟨k,b',g1,by simpa using h2,(g2 h).2 ((eW k hk h).1 h3)⟩
      have base:fG cx L bs H0 bD F' (n+1) st1.tm st1.H hZ (ms++[(mk,st.H.length)]) (ws++[bitsOf (TT++List.range' st.H.length (H1.length-st.H.length))]):=by
       have c1:F'.hin 0=H0:=by rw[eh 0 (by omega)];exact hp.h0
       have c2:F'.hin (n+1)=st1.H:=by rw[nh1,p1]
       have c3:∀i,i<n+1->F'.hin (i+1)=kr (F'.mask i) 0 (F'.hin i) (F'.hout i)/\(F'.hin i).length<=(F'.hout i).length:=fun i hi=>by
        by_cases hin:i=n
        ·subst hin;rw[nh1,nm,nh,no];exact⟨rfl,hrd.2⟩
        ·have hlt:i<n:=by omega
         rw[eh (i+1) (by omega),em i hlt,eh i (by omega),eo i hlt];exact hp.hs i hlt
       have c4:∀i,i<n+1->(ms++[(mk,st.H.length)])[i]?=some (F'.mask i,(F'.hin i).length):=fun i hi=>by
        by_cases hin:i=n
        ·subst hin;rw[nm,nh,cM (by rw[hp.BX];exact bg _),hp.BX];simp
        ·have hlt:i<n:=by omega
         rw[em i hlt,eh i (by omega),cH (by rw[hp.BX];exact hlt)];exact hp.ms i hlt
       have c5:∀i,i<n+1->∃b,(ws++[bitsOf (TT++List.range' st.H.length (H1.length-st.H.length))])[i]?=some b/\∀h,b.testBit h=true↔F'.W i h:=fun i hi=>by
        by_cases hin:i=n
        ·subst hin;refine⟨bitsOf (TT++List.range' st.H.length (H1.length-st.H.length)),by rw[cM (by rw[hp.BY];exact bg _),hp.BY];simp,fun h=>?_⟩;rw[aaE,dM];unfold ky.W;rw[nT,nh,no,List.mem_range'];constructor
         ·rintro (h1|⟨j,h1,h2⟩)
          ·exact .inl h1
          ·exact .inr (by omega)
         ·rintro (h1|⟨h1,h2⟩)
          ·exact .inl h1
          ·exact .inr ⟨h-st.H.length,by omega,by omega⟩
        ·have hlt:i<n:=by omega
         obtain⟨b,g1,g2⟩:=hp.ws i hlt;exact⟨b,by rw[cH (by rw[hp.BY];exact hlt)];exact g1,fun h=>(g2 h).trans (eW i hlt h).symm⟩
       have c6:∀i,i<n+1->∀h,(∃k,k<i/\(bs.getD i 0).testBit k=false/\F'.W k h)->(F'.mask i).testBit h=true:=fun i hi hh=>by
        by_cases hin:i=n
        ·subst hin;rw[nm];exact hmk hh
        ·have hlt:i<n:=by omega
         rw[em i hlt];exact fun⟨k,h1,h2,h3⟩=>hp.masks i hlt hh ⟨k,h1,h2,(eW k (by omega) hh).1 h3⟩
       have c7:∀k,k<n+1->∀i,i<k->(bs.getD k 0).testBit i=false->∀h∈F'.T k,h<(F'.hin i).length->(F'.mask i).testBit h=true:=fun k hk i hik hA hh hT hlt=>by
        rw[eh i (by omega)]at hlt;rw[em i (by omega)];by_cases hkn:k=n
        ·subst hkn;rw[nT]at hT;exact aaG ms 0 hrd.1.1 i _ _ (hp.ms i hik) (by simpa using hA) hh hT hlt
        ·rw[eT k (by omega)]at hT;exact hp.readers k (by omega) i hik hA hh hT hlt
       have c8:∀k,k<n+1->∀h∈F'.T k,(F'.mask k).testBit h=false/\h<(F'.hin k).length:=fun k hk hh hT=>by
        by_cases hkn:k=n
        ·subst hkn;rw[nT]at hT;rw[nm,nh];have:=hrd.1.2;rw[eP]at this;have h2:=this hh hT;rw[aZ,iv,bh]at h2;exact h2
        ·rw[eT k (by omega)]at hT;rw[em k (by omega),eh k (by omega)];exact hp.clear k (by omega) hh hT
       rcases p3 with⟨e1,e2,e3⟩|⟨d,e1,e2,e3,e4,e5⟩
       ·refine⟨by rw[e2];exact hp.len,fun i j o1 o2 d hi hj h1 h2 h3 h4=>?_,fun i o1 d hi h1 h2=>?_,fun i o1 d hi h1 h2=>?_,fun t ht=>by rw[e2];exact hp.rest t fun k o' hk=>ht k o' (by omega),fun d=>?_,tr,c1,c2,c3,by simp[hp.BX],by simp[hp.BY],c4,c5,c6,c8,c7⟩
        ·have hin:i≠n:=fun e=>by subst e;rw[hLn]at h1;simp at h1;subst h1;rw[e1]at h3;cases h3
         have hjn:j≠n:=fun e=>by subst e;rw[hLn]at h2;simp at h2;subst h2;rw[e1]at h4;cases h4
         exact hp.uniq i j o1 o2 d (by omega) (by omega) h1 h2 h3 h4
        ·have hin:i≠n:=fun e=>by subst e;rw[hLn]at h1;simp at h1;subst h1;rw[e1]at h2;cases h2
         exact hp.inb i o1 d (by omega) h1 h2
        ·have hin:i≠n:=fun e=>by subst e;rw[hLn]at h1;simp at h1;subst h1;rw[e1]at h2;cases h2
         rw[e2,ev i (by omega)];exact hp.fin i o1 d (by omega) h1 h2
        ·rw[e3,hp.my d];constructor
         ·rintro ⟨k,o',hk,h1,h2⟩;exact⟨k,o',by omega,h1,h2⟩
         ·rintro ⟨k,o',hk,h1,h2⟩
          have hkn:k≠n:=fun e=>by subst e;rw[hLn]at h1;simp at h1;subst h1;rw[e1]at h2;cases h2
          exact⟨k,o',by omega,h1,h2⟩
       ·have hnew:∀(k:Nat) o',k<n->L[k]?=some o'->o'.dst≠some d:=fun k o' hk h1 h2=>e2 ((hp.my d).2 ⟨k,o',hk,h1,h2⟩)
        have hdn:∀{o1:Oper}{d1:Nat},L[n]?=some o1->o1.dst=some d1->d1=d:=fun{o1 d1} h1 h2=>by rw[hLn]at h1;simp at h1;subst h1;rw[e1]at h2;simpa using h2.symm
        refine⟨by rw[e4];simp[hp.len],fun i j o1 o2 d1 hi hj h1 h2 h3 h4=>?_,fun i o1 d1 hi h1 h2=>?_,fun i o1 d1 hi h1 h2=>?_,fun t ht=>?_,fun d1=>?_,tr,c1,c2,c3,by simp[hp.BX],by simp[hp.BY],c4,c5,c6,c8,c7⟩
        ·by_cases hin:i=n<;>by_cases hjn:j=n
         ·omega
         ·subst hin;have:=hdn h1 h3;subst this;exact absurd h4 (hnew j o2 (by omega) h2)
         ·subst hjn;have:=hdn h2 h4;subst this;exact absurd h3 (hnew i o1 (by omega) h1)
         ·exact hp.uniq i j o1 o2 d1 (by omega) (by omega) h1 h2 h3 h4
        ·by_cases hin:i=n
         ·subst hin;have:=hdn h1 h2;subst this;rw[<-hp.len];exact e3
         ·exact hp.inb i o1 d1 (by omega) h1 h2
        ·rw[e4];by_cases hin:i=n
         ·subst hin;have:=hdn h1 h2;subst this;rw[gC,av rfl,av e3,nv]
         ·have hne:d1≠d:=fun e=>by subst e;exact hnew i o1 (by omega) h1 h2
          rw[gC,an (pj hne),ev i (by omega)];exact hp.fin i o1 d1 (by omega) h1 h2
        ·have hne:d≠t:=fun e=>by subst e;exact ht n o (by omega) hLn e1
         rw[e4,gC,an hne];exact hp.rest t fun k o' hk=>ht k o' (by omega)
        ·rw[e5,dY,hp.my d1];constructor
         ·rintro (rfl|⟨k,o',hk,h1,h2⟩)
          ·exact⟨n,o,by omega,hLn,e1⟩
          ·exact⟨k,o',by omega,h1,h2⟩
         ·rintro ⟨k,o',hk,h1,h2⟩
          by_cases hkn:k=n
          ·subst hkn;exact .inl (hdn h1 h2)
          ·exact .inr ⟨k,o',by omega,h1,h2⟩
      exact aaI r (n+1) st1 st' hZ wr' _ _ F' h hok (fun j=>by have:=hl (j+1);simp only[List.getElem?_cons_succ]at this;rw[this];congr 1;omega) (by simp at hn;omega) base
     ·cases h
    ·cases h
  ·cases h
theorem anS{cx:Cx K}{L:List Oper}{bs:List Nat}{st st':St K}{wr':List Nat}(h:qR cx L bs L 0 st [] [] []=some (st',wr'))(hok:st'.ok=true):
 ∃F ms ws,fG cx L bs st.H st.tm F L.length st'.tm st'.H wr' ms ws:=
 aaI (bD:=st.tm) (H0:=st.H) L 0 st st' [] wr' [] [] {vals:=fun _=>.any,hin:=fun _=>st.H,hout:=fun _=>[],mask:=fun _=>0,T:=fun _=>[]} h hok (fun j=>by simp) (by simp)
  ⟨rfl,fun i j _ _ _ hi=>by omega,fun i _ _ hi=>by omega,fun i _ _ hi=>by omega,fun t _=>rfl,fun d=>by simp,fun i _ hi=>by omega,rfl,rfl,fun i hi=>by omega,rfl,rfl,fun i hi=>by omega,fun i hi=>by omega,fun i hi=>by omega,fun i hi=>by omega,fun i hi=>by omega⟩
end Go.V
namespace Go.V
open Go
variable {K :cE}{ρ ρ':List Value}{S S':Nat->Prop}{w w':World}{H H':List (Ob K)}{D:bc K}
section
variable {cx :Cx K}{L:List Oper}{bs:List Nat}{H0:List (Ob K)}{bD ei:List (AV K)}{F:ky K}{HF:List (Ob K)}{wr:List Nat}{ms:List (Nat×Nat)}{ws:List Nat}
theorem fG.tu(hp:fG cx L bs H0 bD F L.length ei HF wr ms ws){i:Nat}(hi:i<L.length):(F.hin (i+1)).length=(F.hout i).length:=by
 obtain⟨h1,h2⟩:=hp.hs i hi;rw[h1,Gq _ _ _ h2]
theorem fG.mono(hp:fG cx L bs H0 bD F L.length ei HF wr ms ws):∀{i j:Nat},i<=j->j<=L.length->(F.hin i).length<=(F.hin j).length:=by
 intro i j hij hj
 induction j with
 |zero=>have:i=0:=by omega
        subst this;exact bg _
 |succ j ih=>
  rcases cO i (j+1)with h|h
  ·have h1:=ih (by omega) (by omega);rw[hp.tu (show j<L.length by omega)];exact eS h1 (hp.hs j (by omega)).2
  ·have:i=j+1:=by omega
   subst this;exact bg _
theorem fG.aoi(hp:fG cx L bs H0 bD F L.length ei HF wr ms ws){i h:Nat}(hi:i<L.length)(hn:¬F.W i h)(hh:h<(F.hin i).length):(F.hin (i+1))[h]?=(F.hin i)[h]?:=by
 obtain⟨h1,h2⟩:=hp.hs i hi;obtain⟨cF,du,a⟩:=hp.slot i L[i] hi (bZ hi);rw[h1,Gs _ _ _ _ h2];by_cases hm:h<(F.hin i).length/\(F.mask i).testBit (0+h)=true
 ·rw[av hm]
 ·rw[an hm];have hm':(F.mask i).testBit h=false:=by
   cases hb:(F.mask i).testBit h with
   |false=>rfl
   |true=>exact absurd ⟨hh,by rw[dD];exact hb⟩ hm
  have:=a.turns.2 h (by rw[BV];exact hh) (fun hT=>hn (.inl hT));rw[this,BU,dD,hm'];cases (F.hin i)[h]?<;>simp
theorem fG.stay(hp:fG cx L bs H0 bD F L.length ei HF wr ms ws){i h:Nat}:∀{j:Nat},i<=j->j<=L.length->(∀k,i<=k->k<j->¬F.W k h)->h<(F.hin i).length->(F.hin j)[h]?=(F.hin i)[h]?:=by
 intro j hij hj hn hh
 induction j with
 |zero=>have:i=0:=by omega
        subst this;rfl
 |succ j ih=>
  rcases cO i (j+1)with h1|h1
  ·have h2:=ih (by omega) (by omega) fun k a b=>hn k a (by omega)
   rw[hp.aoi (by omega) (hn j (by omega) (by omega)) (kH hh (hp.mono (by omega) (by omega))),h2]
  ·have:i=j+1:=by omega
   subst this;rfl
theorem fG.maker(hp:fG cx L bs H0 bD F L.length ei HF wr ms ws){j k h:Nat}(hj:j<L.length)(hk:k<L.length)(h1:(F.hin j).length<=h)(h2:h<(F.hout j).length)(h3:(F.hin k).length<=h)(h4:h<(F.hout k).length):j=k:=by
 rcases Nat.lt_trichotomy j k with h|h|h
 ·have:=hp.mono (show j+1<=k by omega) (by omega);rw[hp.tu hj]at this;omega
 ·exact h
 ·have:=hp.mono (show k+1<=j by omega) (by omega);rw[hp.tu hk]at this;omega
theorem fG.made(hp:fG cx L bs H0 bD F L.length ei HF wr ms ws){h:Nat}:∀{j:Nat},j<=L.length->h<(F.hin j).length->H0.length<=h->∃k,k<j/\(F.hin k).length<=h/\h<(F.hout k).length:=by
 intro j hj hh h0
 induction j with
 |zero=>rw[hp.h0]at hh;omega
 |succ j ih=>
  rw[hp.tu (show j<L.length by omega)]at hh;rcases cO h (F.hin j).length with h1|h1
  ·obtain⟨k,a,b⟩:=ih (by omega) h1;exact⟨k,by omega,b⟩
  ·exact⟨j,by omega,h1,hh⟩
end
theorem aaK{p:Nat->Prop}{n:Nat}(hb:∀k,p k->k<n)(h:∃k,p k):∃k,p k/\∀k',p k'->k'<=k:=by
 induction n with
 |zero=>obtain⟨k,hk⟩:=h;exact absurd (hb k hk) (en _)
 |succ n ih=>
  by_cases hn:p n
  ·exact⟨n,hn,fun k' hk'=>by have:=hb k' hk';omega⟩
  ·exact ih fun k hk=>by
    have:=hb k hk;rcases cO k n with h1|h1
    ·exact h1
    ·have:k=n:=by omega
     subst this;exact absurd hk hn
structure jT (cx:Cx K) (L:List Oper) (bs:List Nat) (bD:List (AV K)) (F:ky K) (H0 HF H:List (Ob K)) (ρ:List Value) (S:Nat->Prop) (listed:Array Bool) (a:Act) (w:World):Prop where
 heap:aN cx.D ρ S w H
 hlen:H.length=HF.length
 defers:a.defers=[]
 size:a.tmps.size=bD.length
 nr:listed.size=L.length
 base:∀(t:Nat) v x,(∀(k:Nat) o,L[k]?=some o->o.dst=some t->listed[k]?≠some true)->bD[t]?=some v->a.tmps[t]?=some x->Rep cx.D ρ S w v x
 done:∀(k:Nat) o d x,L[k]?=some o->listed[k]?=some true->o.dst=some d->a.tmps[d]?=some x->dP cx.D ρ S w a.tmps (F.vals k) x
 opts:∀(k g:Nat) b y,listed[k]?=some true->F.vals k=.opt g b y->∃(k':Nat)(o':Oper),L[k']?=some o'/\o'.dst=some g/\listed[k']?=some true
 closed:∀(k:Nat) o,L[k]?=some o->listed[k]?=some true->∀e∈o.after,listed[e.on]?=some true
 Nq:∀h,(∀k,listed[k]?=some true->¬F.W k h)->h<HF.length->(h<H0.length->H[h]?=H0[h]?)/\(H0.length<=h->H[h]?=some .dead)
 Nr:∀h k,listed[k]?=some true->F.W k h->(∀k',listed[k']?=some true->F.W k' h->k'<=k)->H[h]?=(F.hin (k+1))[h]?
 dum:∀h,H0.length<=h->h<HF.length->(∀k,listed[k]?=some true->¬((F.hin k).length<=h/\h<(F.hout k).length))->ρ[h]?=some dummy
section
variable {cx :Cx K}{L:List Oper}{bs:List Nat}{H0:List (Ob K)}{bD ei:List (AV K)}{F:ky K}{HF:List (Ob K)}{wr:List Nat}{ms:List (Nat×Nat)}{ws:List Nat}{listed:Array Bool}{a:Act}
theorem jT.sees(hp:fG cx L bs H0 bD F L.length ei HF wr ms ws)(hm:jT cx L bs bD F H0 HF H ρ S listed a w){j:Nat}(hj:j<L.length)(gd:listed[j]?=some false)
 (hA:∀k,(bs.getD j 0).testBit k=true->listed[k]?=some true) (hcl:∀i k,listed[i]?=some true->(bs.getD i 0).testBit k=true->listed[k]?=some true) {h:Nat} (hh:h<(F.hin j).length) (hun:(F.mask j).testBit h=false):H[h]?=(F.hin j)[h]?:=by
 have hlt:∀k,listed[k]?=some true->k<L.length:=fun k hk=>by have:=(iH.1 hk).1;rw[hm.nr]at this;exact this
 have hne:∀k,listed[k]?=some true->k≠j:=fun k hk e=>by subst e;rw[gd]at hk;cases hk
 have hbef:∀k,k<j->F.W k h->listed[k]?=some true:=fun k hk hw=>by
  cases hb:(bs.getD j 0).testBit k with
  |true=>exact hA k hb
  |false=>have:=hp.masks j hj h ⟨k,hk,hb,hw⟩;rw[hun]at this;cases this
 have haft:∀k,listed[k]?=some true->F.W k h->k<j:=fun k hk hw=>by
  rcases Nat.lt_trichotomy k j with h1|h1|h1
  ·exact h1
  ·exact absurd h1 (hne k hk)
  ·have mz:=hlt k hk;have hlen:=hp.mono (show j<=k by omega) (by omega);rcases hw with hT|⟨h2,-⟩
   ·cases hb:(bs.getD k 0).testBit j with
    |true=>have:=hcl k j hk hb;rw[gd]at this;cases this
    |false=>have:=hp.readers k mz j h1 hb h hT hh;rw[hun]at this;cases this
   ·omega
 by_cases hex:∃k,listed[k]?=some true/\F.W k h
 ·obtain⟨k,⟨hk1,hk2⟩,hk3⟩:=aaK (p:=fun k=>listed[k]?=some true/\F.W k h) (n:=L.length) (fun k hk=>hlt k hk.1) hex;rw[hm.Nr h k hk1 hk2 fun k' a b=>hk3 k' ⟨a,b⟩];have hkj:=haft k hk1 hk2;have hno:∀k',k+1<=k'->k'<j->¬F.W k' h:=fun k' h1 h2 hw=>by have:=hk3 k' ⟨hbef k' h2 hw,hw⟩;omega
  by_cases hl:h<(F.hin (k+1)).length
  ·exact(hp.stay (show k+1<=j by omega) (by omega) hno hl).symm
  ·
   exfalso;have:H0.length<=h:=by have:=hp.mono (show 0<=k+1 by omega) (show k+1<=L.length by omega);rw[hp.h0]at this;omega
   obtain⟨k',g1,g2,g3⟩:=hp.made (show j<=L.length by omega) hh this;by_cases hkk:k+1<=k'
   ·exact hno k' hkk g1 (.inr ⟨g2,g3⟩)
   ·have:=hp.mono (show k'+1<=k+1 by omega) (show k+1<=L.length by omega);rw[hp.tu (show k'<L.length by omega)]at this;omega
 ·have hno:∀k,listed[k]?=some true->¬F.W k h:=fun k a b=>hex ⟨k,a,b⟩
  have vY:∀k,0<=k->k<j->¬F.W k h:=fun k _ hk hw=>hno k (hbef k hk hw) hw
  have hHF:h<HF.length:=by have:=hp.mono (show j<=L.length by omega) (bg _);rw[hp.hn]at this;omega
  obtain⟨g1,g2⟩:=hm.Nq h hno hHF;by_cases h0:h<H0.length
  ·rw[g1 h0,hp.stay (cU j) (by omega) vY (by rw[hp.h0];exact h0),hp.h0]
  ·obtain⟨k',a1,a2,a3⟩:=hp.made (show j<=L.length by omega) hh (by omega);exact absurd (.inr ⟨a2,a3⟩) (vY k' (cU _) a1)
end
end Go.V
