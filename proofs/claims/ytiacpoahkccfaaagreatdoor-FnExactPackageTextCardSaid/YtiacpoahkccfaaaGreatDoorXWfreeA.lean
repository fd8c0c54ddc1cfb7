/-
  A REGION WHOSE ORDER IS LEFT OPEN, WITH OPERATIONS THAT MAKE AND TURN OBJECTS: each is read with no more than what comes ahead of it; what an operation makes gets the number that it has in the text's order; what one turns no other may lean on that is not bound to it by an edge.
-/
import Derived.Test.YtiacpoahkccfaaaGreatDoorXWdrawA
set_option linter.unusedVariables false
namespace Go.V
open Go
variable {K :dh}{ρ ρ':List Value}{S S':Nat->Prop}{w w':World}{H H':List (Ob K)}{D:bF K}
theorem zG{bits:Nat}:∀(l:List (Ob K))(i k:Nat),(iR bits i l)[k]?=(l[k]?).map fun o=>if bits.testBit (i+k)then .dead else o
 |[],i,k=>by simp[iR]
 |o::r,i,0=>by simp[iR]
 |o::r,i,k+1=>by
  simp only[iR,List.getElem?_cons_succ];rw[zG r (i+1) k,show i+1+k=i+(k+1) by omega]
theorem zH{bits:Nat}:∀(l:List (Ob K))(i:Nat),(iR bits i l).length=l.length
 |[],i=>rfl
 |o::r,i=>by simp only[iR,aU,zH r]
theorem D4{bits:Nat}:∀(l l':List (Ob K))(i:Nat),l.length<=l'.length->(kK bits i l l').length=l'.length
 |[],l',i,_=>by simp[kK]
 |o::r,[],i,h=>by simp at h
 |o::r,o'::r',i,h=>by
  simp only[kK,aU];rw[D4 r r' (i+1) (by simpa using h)]
theorem D5{bits:Nat}:∀(l l':List (Ob K))(i k:Nat),l.length<=l'.length->(kK bits i l l')[k]?=if k<l.length/\bits.testBit (i+k)=true then l[k]? else l'[k]?
 |[],l',i,k,_=>by simp[kK]
 |o::r,[],i,k,h=>by simp at h
 |o::r,o'::r',i,0,h=>by
  simp only[kK,List.getElem?_cons_zero,aU,Nat.add_zero];by_cases hb:bits.testBit i=true<;>simp[hb]
 |o::r,o'::r',i,k+1,h=>by
  simp only[kK,List.getElem?_cons_succ,aU,Nat.add_lt_add_iff_right];rw[D5 r r' (i+1) k (by simpa using h),show i+1+k=i+(k+1) by omega]
theorem uV{n:Nat}:∀{l:List (AV K)}{i:Nat}{v:AV K},oI n l=true->l[i]?=some v->v.upto n=true
 |[],i,v,_,h=>by simp at h
 |x::r,0,v,h,hv=>by simp at hv;subst hv;simp only[oI,cC]at h;exact h.1
 |x::r,i+1,v,h,hv=>by simp only[oI,cC]at h;exact uV h.2 (by simpa using hv)
theorem Rep.take(hD:bQ D){n:Nat}{v:AV K}{x:Value}(h:Rep D ρ S w v x):v.upto n=true->Rep D (ρ.take n) S w v x:=by
 have tk:∀{k:Nat}{r:Value},k<n->ρ[k]?=some r->(ρ.take n)[k]?=some r:=fun hk hr=>by rw[dE,dP hk];exact hr
 induction h with
 |any v=>exact fun _=>.any v
 |int k n=>exact fun _=>.int k n
 |bool b=>exact fun _=>.bool b
 |str s=>exact fun _=>.str s
 |dA=>exact fun _=>.dA
 |dn=>exact fun _=>.dn
 |fn hl _ ih=>exact fun hu=>.fn hl fun i v x h1 h2=>ih i v x h1 h2 (uV (by simpa [AV.upto]using hu) h1)
 |kF=>exact fun _=>.kF
 |np hp=>exact fun hu=>.np (tk (by simpa [AV.upto]using hu) hp)
 |ptr hp=>exact fun hu=>.ptr (tk (by simpa [AV.upto]using hu) hp)
 |sl hp=>exact fun hu=>.sl (tk (by simpa [AV.upto]using hu) hp)
 |ep hp hi=>exact fun hu=>.ep (tk (by simpa [AV.upto]using hu) hp) hi
 |vw hp h1 h2 ha=>exact fun hu=>.vw (tk (by simpa [AV.upto]using hu) hp) h1 h2 ha
 |fj a cap=>exact fun _=>.fj a cap
 |an val h1 h2 h3 h4 h5 ih=>exact fun _=>(Rep.an val h1 h2 h3 h4 h5).closed hD rfl
 |rp vs h1 h2 h3 h4 ih=>exact fun _=>(Rep.rp vs h1 h2 h3 h4).closed hD rfl
 |agg hl _ ih=>exact fun hu=>.agg hl fun i v x h1 h2=>ih i v x h1 h2 (uV (by simpa [AV.upto]using hu) h1)
 |bD hl _ ih=>exact fun hu=>.bD hl fun i v x h1 h2=>ih i v x h1 h2 (uV (by simpa [AV.upto]using hu) h1)
theorem bc.aeg(hD:bQ D){n:Nat}{l:List (AV K)}{vs:List Value}(h:bc D ρ S w l vs)(hu:oI n l=true):bc D (ρ.take n) S w l vs:=
 ⟨h.1,fun i v x h1 h2=>(h.2 i v x h1 h2).take hD (uV hu h1)⟩
def dummy:Value:=.bool false
theorem Rep.mono'(hS:∀b,S b->S' b)(hw:∀b,S b->w'.heap[b]?=w.heap[b]?)(hρ:∀(h:Nat) r,ρ[h]?=some r->r≠dummy->ρ'[h]?=some r){v:AV K}{x:Value}
 (h:Rep D ρ S w v x):Rep D ρ' S' w' v x:=by
 induction h with
 |any v=>exact .any v
 |int k n=>exact .int k n
 |bool b=>exact .bool b
 |str s=>exact .str s
 |dA=>exact .dA
 |dn=>exact .dn
 |fn hl _ ih=>exact .fn hl ih
 |kF=>exact .kF
 |np hp=>exact .np (hρ _ _ hp (by simp[dummy]))
 |ptr hp=>exact .ptr (hρ _ _ hp (by simp[dummy]))
 |sl hp=>exact .sl (hρ _ _ hp (by simp[dummy]))
 |ep hp hi=>exact .ep (hρ _ _ hp (by simp[dummy])) hi
 |vw hp h1 h2 ha=>exact .vw (hρ _ _ hp (by simp[dummy])) h1 h2 ha
 |fj a cap=>exact .fj a cap
 |an val h1 h2 h3 h4 _ ih=>exact .an val (hS _ h1) h2 h3 (fun i hi=>(h4 i hi).keep (hw _ h1)) ih
 |rp vs h1 h2 h3 _ ih=>exact .rp vs (hS _ h1) h2 (h3.keep (hw _ h1)) ih
 |agg hl _ ih=>exact .agg hl ih
 |bD hl _ ih=>exact .bD hl ih
theorem bc.mono'(hS:∀b,S b->S' b)(hw:∀b,S b->w'.heap[b]?=w.heap[b]?)(hρ:∀(h:Nat) r,ρ[h]?=some r->r≠dummy->ρ'[h]?=some r){l:List (AV K)}{vs:List Value}
 (h:bc D ρ S w l vs):bc D ρ' S' w' l vs:=⟨h.1,fun i v x hv hx=>(h.2 i v x hv hx).mono' hS hw hρ⟩
theorem fY.take(hD:bQ D){n:Nat}{o:Ob K}{r:Value}(h:fY D ρ S w o r)(hu:o.upto n=true):fY D (ρ.take n) S w o r:=by
 cases o with
 |dead=>trivial
 |gU c l=>exact Rep.closed hD h rfl
 |box cs=>
  obtain⟨b,vs,T,h1,h2,h3,h4⟩:=h;exact⟨b,vs,T,h1,h2,h3.aeg hD hu,h4⟩
 |arr c l=>
  rcases h with h|⟨b,o,cap,vs,T,fr,h1,h2,h3,h4,h5,h6⟩
  ·exact .inl h
  ·exact .inr ⟨b,o,cap,vs,T,fr,h1,h2,h3,h4,h5,fun i x hx=>(h6 i x hx).closed hD (hD.closed _ _)⟩
 |tree c l=>exact h
 |opn c l i off cs=>exact l5.keep (fun j v u hv hr=>hr.take hD (uV hu hv)) (fun _ _=>rfl) h
theorem fY.mono'(hS:∀b,S b->S' b)(hw:∀b,S b->w'.heap[b]?=w.heap[b]?)(hρ:∀(h:Nat) r,ρ[h]?=some r->r≠dummy->ρ'[h]?=some r){o:Ob K}{r:Value}(h:fY D ρ S w o r)
 (hb:∀b,o.live=true->cG D w o r b->w'.heap[b]?=w.heap[b]?):fY D ρ' S' w' o r:=by
 cases o with
 |dead=>trivial
 |gU c l=>exact Rep.mono' hS hw hρ h
 |box cs=>
  obtain⟨b,vs,T,rfl,h2,h3,h4⟩:=h;exact⟨b,vs,T,rfl,by rw[hb b rfl rfl];exact h2,h3.mono' hS hw hρ,h4⟩
 |arr c l=>
  rcases h with h|⟨b,o,cap,vs,T,fr,rfl,h2,h3,h4,h5,h6⟩
  ·exact .inl h
  ·exact .inr ⟨b,o,cap,vs,T,fr,rfl,by rw[hb b rfl rfl];exact h2,h3,h4,h5,fun i x hx=>(h6 i x hx).mono' hS hw hρ⟩
 |tree c l=>exact Tree.mono h fun k hk=>hb k rfl hk
 |opn c l i off cs=>exact l5.keep (fun _ _ _ _ hr=>hr.mono' hS hw hρ) (fun k hk=>hb k rfl hk) h
structure View (n:Nat) (H Hv:List (Ob K)):Prop where
 len:Hv.length=n
 le:n<=H.length
 ob:∀(h:Nat) o,Hv[h]?=some o->o=.dead\/H[h]?=some o
 up:∀(h:Nat) o,Hv[h]?=some o->o.upto n=true
theorem View.lt{n:Nat}{H Hv:List (Ob K)}(v:View n H Hv){h:Nat}{o:Ob K}(ho:Hv[h]?=some o):h<n:=by
 have:=(bg.1 ho).1;rw[v.len]at this;exact this
theorem View.live{n:Nat}{H Hv:List (Ob K)}(v:View n H Hv){h:Nat}{o:Ob K}(ho:Hv[h]?=some o)(hl:o.live=true):H[h]?=some o:=by
 rcases v.ob h o ho with rfl|h
 ·cases hl
 ·exact h
theorem View.own{n:Nat}{H Hv:List (Ob K)}(v:View n H Hv){b:Nat}(h:Own D w (ρ.take n) Hv b):Own D w ρ H b:=by
 obtain⟨h,o,r,h1,h2,h3,h4⟩:=h;rw[dE,dP (v.lt h1)]at h3;exact⟨h,o,r,v.live h1 h2,h2,h3,h4⟩
theorem aT.view(hD:bQ D){n:Nat}{H Hv:List (Ob K)}(hs:aT D ρ S w H)(v:View n H Hv):aT D (ρ.take n) S w Hv:={
 len:=by rw[qe,hs.len,v.len];have:=v.le;omega
 ob:=fun h o r ho hr=>by
  rw[dE,dP (v.lt ho)]at hr;rcases v.ob h o ho with rfl|h1
  ·trivial
  ·exact(hs.ob h o r h1 hr).take hD (v.up h o ho)
 eM:=fun h h' o o' r r' b h1 h2 h3 h4 h5 h6 h7 h8=>by
  rw[dE,dP (v.lt h1)]at h3;rw[dE,dP (v.lt h5)]at h7;exact hs.eM h h' o o' r r' b (v.live h1 h2) h2 h3 h4 (v.live h5 h6) h6 h7 h8
 lt:=fun b hb=>hs.lt b (v.own hb)
 slt:=hs.slt
 base:=hs.base}
structure Joined (n m:Nat) (H Hv H1 Hf:List (Ob K)):Prop where
 le:n<=m
 len1:H1.length=m
 len:Hf.length=H.length
 O8:m<=H.length
 ob:∀(h:Nat) o,Hf[h]?=some o->(h<m/\H1[h]?=some o)\/(H[h]?=some o/\((h<n/\Hv[h]?=some .dead)\/m<=h))
theorem O9{n m:Nat}{ρ ρ1:List Value}(hl:ρ1.length=m)(hm:m<=ρ.length)(k:Nat):(ρ1++ρ.drop m)[k]?=if k<m then ρ1[k]? else ρ[k]?:=by
 by_cases h:k<m
 ·rw[dP h,cT (by omega)]
 ·rw[gq h,cM (by omega),ej];congr 1;omega
theorem aT.join{n m n0:Nat}{H Hv H1 Hf:List (Ob K)}{ρ1:List Value}{S1:Nat->Prop}{w1:World}(hs:aT D ρ S w H)(v:View n H Hv)(hs1:aT D ρ1 S1 w1 H1)(st:Step D n (ρ.take n) S Hv w ρ1 S1 H1 w1)(j:Joined n m H Hv H1 Hf)
 (hd:∀h,n<=h->h<m->ρ[h]?=some dummy) (hn0:n0<=n):aT D (ρ1++ρ.drop m) S1 w1 Hf/\Step D n0 ρ S H w (ρ1++ρ.drop m) S1 Hf w1/\∀(h:Nat) r,ρ[h]?=some r->r≠dummy->(ρ1++ρ.drop m)[h]?=some r:=by
 have hl1:ρ1.length=m:=by rw[hs1.len,j.len1]
 have aeh:m<=ρ.length:=by rw[hs.len];exact j.O8
 have hρ:∀k,(ρ1++ρ.drop m)[k]?=if k<m then ρ1[k]? else ρ[k]?:=O9 (n:=n) hl1 aeh
 have hpre:∀h,h<n->ρ1[h]?=ρ[h]?:=fun h hh=>by rw[st.pre h hh,dE,dP hh]
 have hmono:∀(h:Nat) r,ρ[h]?=some r->r≠dummy->(ρ1++ρ.drop m)[h]?=some r:=fun h r hr hne=>by
  rw[hρ];by_cases h1:h<m
  ·rw[dP h1];by_cases h2:h<n
   ·rw[hpre h h2];exact hr
   ·rw[hd h (by omega) h1]at hr;exact absurd (iP hr).symm hne
  ·rw[gq h1];exact hr
 have hun:∀{h:Nat}{o:Ob K}{r:Value}{b:Nat},H[h]?=some o->o.live=true->ρ[h]?=some r->cG D w o r b->((h<n/\Hv[h]?=some .dead)\/m<=h)->¬Own D w (ρ.take n) Hv b:=fun{h o r b} h1 h2 h3 h4 h5 ho=>by
  obtain⟨h',o',r',g1,g2,g3,g4⟩:=ho;have g3':ρ[h']?=some r':=by rw[dE,dP (v.lt g1)]at g3;exact g3
  have e:=hs.eM h h' o o' r r' b h1 h2 h3 h4 (v.live g1 g2) g2 g3' g4;subst e;rcases h5 with⟨-,h5⟩|h5
  ·rw[g1]at h5;simp at h5;subst h5;cases g2
  ·have:=v.lt g1;have:=j.le;omega
 have hblk:∀{h:Nat}{o:Ob K}{r:Value}{b:Nat},H[h]?=some o->o.live=true->ρ[h]?=some r->cG D w o r b->b<w.heap.size/\¬S b:=fun{h o r b} h1 h2 h3 h4=>hs.lt b ⟨h,o,r,h1,h2,h3,h4⟩
 have hkp:∀{h:Nat}{o:Ob K}{r:Value},H[h]?=some o->o.live=true->ρ[h]?=some r->((h<n/\Hv[h]?=some .dead)\/m<=h)->∀b,cG D w o r b->w1.heap[b]?=w.heap[b]?:=fun{h o r} h1 h2 h3 h5 b h4=>st.old b (hblk h1 h2 h3 h4).1 (hun h1 h2 h3 h4 h5)
 have hrr:∀{h:Nat}{o:Ob K}{r:Value},H[h]?=some o->((h<n/\Hv[h]?=some .dead)\/m<=h)->(ρ1++ρ.drop m)[h]?=some r->ρ[h]?=some r:=fun{h o r} _ h5 hr=>by
  rw[hρ]at hr;rcases h5 with⟨h5,-⟩|h5
  ·rw[dP (by have:=j.le;omega),hpre h h5]at hr;exact hr
  ·rw[gq (by omega)]at hr;exact hr
 have hown:∀b,Own D w1 (ρ1++ρ.drop m) Hf b->Own D w1 ρ1 H1 b\/∃(h:Nat)(o:Ob K)(r:Value),H[h]?=some o/\o.live=true/\ρ[h]?=some r/\cG D w o r b/\((h<n/\Hv[h]?=some .dead)\/m<=h):=fun b hb=>by
  obtain⟨h,o,r,g1,g2,g3,g4⟩:=hb;rcases j.ob h o g1 with⟨k1,k2⟩|⟨k1,k2⟩
  ·rw[hρ,dP k1]at g3;exact .inl ⟨h,o,r,k2,g2,g3,g4⟩
  ·exact .inr ⟨h,o,r,k1,g2,hrr k1 k2 g3,g4.old (hkp k1 g2 (hrr k1 k2 g3) k2),k2⟩
 have hnew:∀b,Own D w1 ρ1 H1 b->Own D w (ρ.take n) Hv b\/w.heap.size<=b:=st.own;refine⟨⟨?_,?_,?_,?_,hs1.slt,hs1.base⟩,⟨st.os,st.tape,st.output,st.size,fun b hb ho=>st.old b hb fun h=>ho (v.own h),fun b hb=>?_,st.s1,fun b hb=>?_,fun h hh=>?_⟩,hmono⟩
 ·rw[aM,List.length_drop,hl1,hs.len,j.len];have:=j.O8;omega
 ·intro h o r g1 g2;rcases j.ob h o g1 with⟨k1,k2⟩|⟨k1,k2⟩
  ·rw[hρ,dP k1]at g2;refine(hs1.ob h o r k2 g2).mono' (fun _ h=>h) (fun _ _=>rfl) (fun h' r' hr' _=>?_) (fun _ _ _=>rfl);have:h'<m:=by have:=(bg.1 hr').1;omega
   rw[hρ,dP this];exact hr'
  ·have g2':=hrr k1 k2 g2;exact(hs.ob h o r k1 g2').mono' st.s1 (fun b hb=>st.old b (hs.slt b hb) fun ho=>(hs.lt b (v.own ho)).2 hb) hmono fun b hl hbk=>st.old b (hblk k1 hl g2' hbk).1 (hun k1 hl g2' hbk k2)
 ·intro h h' o o' r r' b g1 g2 g3 g4 g5 g6 g7 g8;rcases j.ob h o g1 with⟨k1,k2⟩|⟨k1,k2⟩<;>rcases j.ob h' o' g5 with⟨l1,l2⟩|⟨l1,l2⟩
  ·rw[hρ,dP k1]at g3;rw[hρ,dP l1]at g7;exact hs1.eM h h' o o' r r' b k2 g2 g3 g4 l2 g6 g7 g8
  ·rw[hρ,dP k1]at g3;have JE:=hrr l1 l2 g7;have g8:=g8.old (hkp l1 g6 JE l2);rcases hnew b ⟨h,o,r,k2,g2,g3,g4⟩with ho|ho
   ·exact absurd ho (hun l1 g6 JE g8 l2)
   ·have:=(hblk l1 g6 JE g8).1;omega
  ·rw[hρ,dP l1]at g7;have g3':=hrr k1 k2 g3;have g4:=g4.old (hkp k1 g2 g3' k2);rcases hnew b ⟨h',o',r',l2,g6,g7,g8⟩with ho|ho
   ·exact absurd ho (hun k1 g2 g3' g4 k2)
   ·have:=(hblk k1 g2 g3' g4).1;omega
  ·exact hs.eM h h' o o' r r' b k1 g2 (hrr k1 k2 g3) (g4.old (hkp k1 g2 (hrr k1 k2 g3) k2)) l1 g6 (hrr l1 l2 g7) (g8.old (hkp l1 g6 (hrr l1 l2 g7) l2))
 ·intro b hb;rcases hown b hb with ho|⟨h,o,r,k1,k2,k3,k4,k5⟩
  ·exact hs1.lt b ho
  ·obtain⟨a1,a2⟩:=hblk k1 k2 k3 k4;refine⟨fS a1 st.size,fun hS=>?_⟩;rcases st.s2 b hS with h1|h1|h1
   ·exact a2 h1
   ·exact hun k1 k2 k3 k4 k5 h1
   ·omega
 ·rcases hown b hb with ho|⟨h,o,r,k1,k2,k3,k4,-⟩
  ·rcases hnew b ho with h1|h1
   ·exact .inl (v.own h1)
   ·exact .inr h1
  ·exact .inl ⟨h,o,r,k1,k2,k3,k4⟩
 ·rcases st.s2 b hb with h1|h1|h1
  ·exact .inl h1
  ·exact .inr (.inl (v.own h1))
  ·exact .inr (.inr h1)
 ·rw[hρ,dP (by have:=j.le;omega),hpre h (by omega)]
end Go.V
namespace Go.V
open Go
variable {K :dh}{H H':List (Ob K)}
def bX(T:List Nat)(H H':List (Ob K)):Prop:=H.length<=H'.length/\∀h,h<H.length->h∉T->H'[h]?=H[h]?
theorem bX.refl(T:List Nat)(H:List (Ob K)):bX T H H:=⟨cw _,fun _ _ _=>rfl⟩
theorem bX.app(T:List Nat)(H N:List (Ob K)):bX T H (H++N):=⟨by simp,fun h hh _=>cT hh⟩
theorem bX.trans{T:List Nat}{H H1 H2:List (Ob K)}(a:bX T H H1)(b:bX T H1 H2):bX T H H2:=
 ⟨mD a.1 b.1,fun h hh hn=>(b.2 h (fS hh a.1) hn).trans (a.2 h hh hn)⟩
theorem bX.set{T:List Nat}{H:List (Ob K)}{h:Nat}(o:Ob K)(hT:h∈T):bX T H (H.set h o):=
 ⟨by simp,fun k _ hn=>List.getElem?_set_ne (fun e=>hn (by rw[<-e];exact hT))⟩
theorem bX.more{T T':List Nat}{H H1:List (Ob K)}(a:bX T H H1)(h:∀x∈T,x∈T'):bX T' H H1:=⟨a.1,fun k hk hn=>a.2 k hk fun hm=>hn (h k hm)⟩
theorem JF(dp:K.U->Bool):∀(cs:List (Option K.U))(l:List (AV K))(H:List (Ob K)),∃N,(thaw dp H cs l).2=H++N
 |[],l,H=>⟨[],by simp[thaw]⟩
 |some c::cs,[],H=>⟨[],by simp[thaw]⟩
 |none::cs,[],H=>⟨[],by simp[thaw]⟩
 |oc::cs,v::r,H=>by
  have keep:thaw dp H (oc::cs) (v::r)=(v::(thaw dp H cs r).1,(thaw dp H cs r).2)->∃N,(thaw dp H (oc::cs) (v::r)).2=H++N:=fun e=>by
   rw[e];exact JF dp cs r H
  cases oc with
  |none=>exact keep (by cases v<;>rfl)
  |some c=>
   cases v with
   |dn=>
    have e:thaw dp H (some c::cs) (.dn::r)=(.sl H.length::(thaw dp (H++[mH (dp c) c]) cs r).1,(thaw dp (H++[mH (dp c) c]) cs r).2):=rfl;rw[e];obtain⟨N,hN⟩:=JF dp cs r (H++[mH (dp c) c]);exact⟨mH (dp c) c::N,by simp only;rw[hN];simp⟩
   |_=>exact keep rfl
theorem JG(T:List Nat)(dp:K.U->Bool)(cs:List (Option K.U))(l:List (AV K))(H:List (Ob K)):bX T H (thaw dp H cs l).2:=by
 obtain⟨N,hN⟩:=JF dp cs l H;rw[hN];exact bX.app _ _ _
theorem aei{T:List Nat}{h:Nat}(hT:h∈T)(H:List (Ob K)):bX T H (uH H h):=by
 unfold uH;split
 ·exact bX.set _ hT
 ·exact bX.set _ hT
 ·exact bX.refl _ _
theorem D6{T:List Nat}:∀(l:List Nat)(H:List (Ob K)),(∀x∈l,x∈T)->bX T H (ja H l)
 |[],H,_=>bX.refl _ _
 |h::r,H,hT=>(aei (hT h (by simp)) H).trans (D6 r _ fun x hx=>hT x (by simp[hx]))
def nB(ev:Operand->AV K)(op:Op):List Nat:=(match op with
    |.store _ p _=>hands (ev p)
    |.call {callee:=.builtin .append,args, ..}=>(match args.toList with
      |s::x::_=>hands (ev s)++hands (ev x)
      |[s]=>hands (ev s)
      |[]=>[])
    |.call {callee:=.builtin .clear,args, ..}=>(match args.toList with
      |s::_=>hands (ev s)
      |[]=>[])
    |.call {callee:=.builtin .copy,args, ..}=>(match args.toList with
      |s::_=>hands (ev s)
      |[]=>[])
    |_=>[])
theorem aej{cx:Cx K}{sT:TypeId}{s x v:AV K}{c:Bool}{t:List Nat}(h:zr cx H sT s x=some (v,H',c,t)):bX (hands s) H H':=by unfold zr at h;cases h
theorem aek{cx:Cx K}{sT:TypeId}{s x v:AV K}{c:Bool}{t:List Nat}(h:DO cx H sT s x=some (v,H',c,t)):bX (hands s) H H':=by
 unfold DO at h;split at h
 ·cases h
 ·split at h
  ·cases h
  ·split at h
   ·split at h
    ·cases h
    ·split at h
     ·simp only[ay,aR]at h;rw[<-h.2.1];exact bX.app _ _ _
     ·split at h
      ·split at h
       ·cases h
       ·split at h
        ·simp only[ay,aR]at h;rw[<-h.2.1];exact(bX.set _ (by simp[hands])).trans (bX.app _ _ _)
        ·cases h
      ·split at h
       ·simp only[ay,aR]at h;rw[<-h.2.1];exact(bX.set _ (by simp[hands])).trans (bX.app _ _ _)
       ·cases h
     ·cases h
   ·cases h
theorem Pe{cx:Cx K}{ev:Operand->AV K}{op:Op}{v:AV K}{c:Bool}{t:List Nat}(h:uJ cx ev H op=some (v,H',c,t)):bX (nB ev op) H H':=by
 unfold uJ at h;split at h
 ·split at h
  ·dsimp only at h;split at h
   ·cases h
   ·simp only[ay,aR]at h;rw[<-h.2.1];exact(JG _ _ _ _ _).trans (bX.app _ _ _)
  ·cases h
 ·split at h
  ·split at h
   ·dsimp only at h;split at h
    ·cases h
    ·simp only[ay,aR]at h;rw[<-h.2.1];exact(JG _ _ _ _ _).trans (bX.app _ _ _)
   ·cases h
  ·split at h
   ·simp only[ay,aR]at h;rw[<-h.2.1];exact bX.app _ _ _
   ·cases h
 ·split at h
  ·split at h
   ·simp only[fu,aR]at h;obtain⟨cs,-,-,rfl,-⟩:=h;exact bX.refl _ _
   ·cases h
  ·cases h
 ·split at h
  ·split at h
   ·split at h
    ·rename_i hh off hp;split at h
     ·split at h
      ·dsimp only at h;split at h
       ·cases h
       ·simp only[ay,aR]at h;rw[<-h.2.1];refine(JG _ _ _ _ _).trans (bX.set _ ?_);simp only[nB,hp,hands,iE]
      ·cases h
     ·cases h
    ·rename_i hh st i off hp;split at h
     ·split at h
      ·split at h
       ·simp only[ay,aR]at h;rw[<-h.2.1];refine bX.set _ ?_;simp only[nB,hp,hands,iE]
       ·cases h
      ·cases h
     ·cases h
    ·cases h
   ·cases h
  ·cases h
 ·split at h
  ·cases h
  ·split at h
   ·split at h
    ·split at h
     ·simp only[ay,aR]at h;rw[<-h.2.1];exact bX.app _ _ _
     ·cases h
    ·cases h
   ·cases h
 ·split at h
  ·cases h
  ·split at h
   ·split at h
    ·split at h
     ·simp only[ay,aR]at h;rw[<-h.2.1];exact bX.app _ _ _
     ·cases h
    ·cases h
   ·cases h
 ·split at h
  ·split at h
   ·split at h
    ·split at h
     ·simp only[ay,aR]at h;rw[<-h.2.1];exact bX.app _ _ _
     ·cases h
    ·cases h
   ·cases h
  ·cases h
 ·split at h
  ·rename_i s x sT xT ha ht;split at h
   ·cases h
   split at h
   ·refine(aej h).more fun y hy=>?_
    simp only[nB,ha];exact aQ.2 (.inl hy)
   ·refine(aek h).more fun y hy=>?_
    simp only[nB,ha];exact aQ.2 (.inl hy)
  ·cases h
 ·cases h
mutual
theorem l9:∀(v:AV K){y:Nat},y∈hands (eE H v)->y∈hands v
 |.sl k,y,h=>by
   simp only[eE]at h;split at h
   ·simp[hands]at h
   ·exact h
 |.vw k a b c,y,h=>by
   simp only[eE]at h;split at h
   ·split at h
    ·simp[hands]at h
    ·exact h
   ·exact h
 |.agg l,y,h=>by simp only[eE,hands]at h⊢;exact JH l h
 |.bD l,y,h=>by simp only[eE,hands]at h⊢;exact JH l h
 |.any,y,h|.int _ _,y,h|.bool _,y,h|.str _,y,h|.dA,y,h|.dn,y,h|.fn _ _,y,h|.ptr _ _,y,h|.ep _ _ _ _,y,h|.an _ _,y,h|.rp _ _ _,y,h|.np _,y,h|.opt _ _ _,y,h=>by simpa only[eE]using h
theorem JH:∀(l:List (AV K)){y:Nat},y∈bT (oG H l)->y∈bT l
 |[],y,h=>by simpa [oG]using h
 |v::r,y,h=>by
  simp only[oG,bT,aQ]at h⊢;exact h.imp (l9 v) (JH r)
end
theorem Pg{ev:Operand->AV K}{op:Op}{y:Nat}(h:y∈nB (fun x=>eE H (ev x)) op):y∈nB ev op:=by
 unfold nB at h⊢;split at h
 ·exact l9 _ h
 ·split at h
  ·rename_i hs;rcases aQ.1 h with h|h
   ·exact aQ.2 (.inl (l9 _ h))
   ·exact aQ.2 (.inr (l9 _ h))
  ·exact l9 _ h
  ·simp at h
 ·split at h
  ·exact l9 _ h
  ·simp at h
 ·split at h
  ·exact l9 _ h
  ·simp at h
 ·simp at h
theorem zI{T:List Nat}:∀(l:List Nat)(H:List (Ob K)),(∀x∈l,x∈T)->bX T H (fx H l)
 |[],H,_=>bX.refl _ _
 |h::r,H,hT=>(bX.set _ (hT h (by simp))).trans (zI r _ fun x hx=>hT x (by simp[hx]))
theorem Ph{c:K.U}{v:AV K}{l:List (K.El c)}{ks:List Nat}(h:qh H c v=some (l,ks)):∀x∈ks,x∈hands v:=fun x hx=>by
 unfold qh at h;split at h
 ·simp only[ay,aR]at h;obtain⟨rfl,rfl⟩:=h;cases hx
 ·split at h
  ·split at h
   ·simp only[ay,aR]at h;obtain⟨-,rfl⟩:=h;simpa [hands]using hx
   ·cases h
  ·cases h
 ·cases h
theorem Pj{ev:Operand->AV K}{x:Nat}:∀(l:List (Nat×Operand)),x∈bT (l.map fun p=>eE H (ev p.2))->x∈bT (l.map fun p=>ev p.2)
 |[],h=>h
 |y::r,h=>by
  simp only[fy,bT,aQ]at h⊢;exact h.imp (l9 _) (Pj r)
theorem Pl{v:AV K}{a b c d:Nat}(h:eE H v=.ep a b c d):v=.ep a b c d:=by
 cases v<;>simp[eE]at h⊢<;>first|exact h|(split at h<;>first|cases h|(split at h<;>cases h))
theorem ael{cx:Cx K}{ev:Operand->AV K}{op:Op}{v:AV K}{c:Bool}{t:List Nat}(h:wN cx (fun x=>eE H (ev x)) H op=some (v,H',c,t)):bX (jv ev op) H H':=by
 unfold wN at h;split at h
 ·split at h
  ·cases h
  ·split at h
   ·split at h
    ·split at h
     ·split at h
      ·simp only[ay,aR]at h;rw[<-h.2.1];exact bX.app _ _ _
      ·cases h
     ·cases h
    ·cases h
   ·cases h
 ·rename_i T len parts;split at h
  ·cases h
  ·split at h
   ·rename_i hty hl;split at h
    ·split at h
     ·split at h
      ·simp only[ay,aR]at h;rw[<-h.2.1];refine bX.trans (zI _ _ fun x hx=>?_) (bX.app _ _ _);rw[(Dt _ _ _ hl).1]at hx;simp only[jv,lr,uE];exact Pj _ hx
      ·cases h
     ·cases h
    ·cases h
   ·cases h
 ·rename_i T p x;split at h
  ·rename_i h0 st i off n0 hp hn;split at h
   ·split at h
    ·split at h
     ·split at h
      ·simp only[ay,aR]at h;rw[<-h.2.1];have q1:=Pl hp;have hmem:∀y∈h0::bT (eE H (ev x)).bR,y∈jv ev (.store T p x):=fun y hy=>by
        simp only[jv,lr,q1,aQ];rcases fF.1 hy with rfl|hy
        ·exact .inr (by simp[hands])
        ·rw[IK]at hy;exact .inl (l9 _ hy)
       exact(zI _ _ hmem).trans (bX.set _ (hmem _ (by simp)))
      ·cases h
     ·cases h
    ·cases h
   ·cases h
  ·cases h
 ·rename_i args argTypes;split at h
  ·rename_i s x sT xT hargs hat;split at h
   ·cases h
   ·split at h
    ·cases h
    ·split at h
     ·cases h
     ·split at h
      ·split at h
       ·rename_i l ks m ks' hl hm;split at h
        ·simp only[ay,aR]at h;rw[<-h.2.1];refine bX.trans (zI _ _ fun y hy=>?_) (bX.app _ _ _);simp only[jv,lr,hargs,lp,aQ];rcases aQ.1 hy with hy|hy
         ·exact .inl (l9 _ (Ph hl y hy))
         ·exact .inr (l9 _ (Ph hm y hy))
        ·cases h
       ·cases h
      ·cases h
  ·cases h
 ·cases h
theorem aem{cx:Cx K}{ev:Operand->AV K}{op:Op}{v:AV K}{c:Bool}{t:List Nat}(h:wP cx ev H op=some (v,H',c,t)):bX (jv ev op) H H':=by
 have e:jv ev op=lr ev op++nB ev op:=rfl;unfold wP at h;split at h
 ·rename_i r hd;simp only[ay]at h;subst h;exact ael hd
 split at h
 ·refine(Pe h).more fun y hy=>?_
  rw[e,aQ];exact .inr (Pg hy)
 ·have hz:bX (jv ev op) H (ja H (lr ev op)):=D6 _ _ fun x hx=>by rw[e,aQ];exact .inl hx
  split at h
  ·simp only[ay,aR]at h;rw[<-h.2.1];exact hz
  ·refine hz.trans ((Pe h).more fun y hy=>?_);rw[e,aQ];exact .inr (Pg hy)
theorem aen{cx:Cx K}{ev:Operand->AV K}{op:Op}{v:AV K}{c:Bool}{t:List Nat}(h:cutV cx ev H op=some (v,H',c,t)):bX (jv ev op) H H':=by unfold cutV at h;cases h
theorem JI{cx:Cx K}{m:Mode}(hm:m=.jq\/m=.fresh){T:List Nat}{f:FuncId}{args:List (AV K)}{v:AV K}{c:Bool}{t:List Nat}(h:lk cx m H f args=some (v,H',c,t)):bX T H H':=by
 unfold lk at h;rcases hm with rfl|rfl
 ·simp only at h;split at h
  ·split at h
   ·split at h
    ·simp only[ay,aR]at h;rw[<-h.2.1];exact bX.app _ _ _
    ·cases h
   ·cases h
  ·cases h
 ·simp only at h;split at h
  ·split at h
   ·split at h
    ·split at h
     ·simp only[ay,aR]at h;rw[<-h.2.1];exact bX.app _ _ _
     ·cases h
    ·cases h
   ·cases h
  ·cases h
theorem Pm:∀(m:List Nat)(H os:List (Ob K)){T:List Nat},(∀x∈m,x∈T)->bX T H (jo H m os)
 |[],H,os,T,_=>by cases os<;>exact bX.refl _ _
 |h::m,H,[],T,_=>bX.refl _ _
 |h::m,H,o::r,T,hm=>by
  simp only[jo];exact bX.trans (bX.set _ (hm h (by simp))) (Pm m _ r fun x hx=>hm x (by simp[hx]))
theorem Pn{cx:Cx K}{T:List Nat}{f:FuncId}{args:List (AV K)}{v:AV K}{c:Bool}{t:List Nat}(h:lk cx .pass H f args=some (v,H',c,t))(hT:∀x∈reach H 64 (bT args) [],x∈T):bX T H H':=by
 unfold lk at h;simp only at h;split at h
 ·cases h
 ·split at h
  ·split at h
   ·split at h
    ·split at h
     ·simp only[ay,aR]at h;rw[<-h.2.1];exact bX.trans (Pm _ _ _ hT) (bX.app _ _ _)
     ·cases h
    ·cases h
   ·cases h
  ·cases h
theorem aeo{cx:Cx K}{ev:Operand->AV K}{t:TypeId}{p:Operand}{v:AV K}{c:Bool}{ts:List Nat}(h:wQ cx ev H (.load t p)=some (v,H',c,ts)):bX (hands (ev p)) H H':=by unfold wQ at h;cases h
theorem aep{cx:Cx K}{tm:List (AV K)}{T t:TypeId}{p:Operand}{v:AV K}{c:Bool}{ts:List Nat}(hn:jb cx (.load t p)=false)(h:lB false cx tm [] H T (.load t p)=some (v,H',c,ts)):
 bX (match uI cx (fun x=>eE H (dT tm [] x)) H (.load t p)with
  |some _=>[]
  |none=>hands (dT tm [] p)) H H':=by
 unfold lB at h;simp only at h;split at h
 ·rename_i v1 c1 hp;rw[hp];simp only[ay,aR]at h;rw[<-h.2.1];exact bX.refl _ _
 ·rename_i hp;rw[hp];simp only[nj,oz,hn]at h;split at h
  ·rename_i hov;simp only[ay]at h;rw[h]at hov;exact aeo hov
  ·split at h
   ·rename_i hct;simp[cutV]at hct
   ·simp[wP,wN,lr,uJ]at h
theorem aeq{cx:Cx K}{tm:List (AV K)}{gs:List (Nat×Bool)}{T:TypeId}{op:Op}{v:AV K}{c:Bool}{t:List Nat}(he:rS cx op=true)(hnl:∀a b,op≠.load a b)(h:lB false cx tm gs H T op=some (v,H',c,t)):bX ((jv (dT tm gs) op++Je (dT tm gs) op)++wZ cx H (dT tm gs) op) H H':=by
 unfold lB at h;split at h
 ·simp[rS]at he
 ·rename_i fo args _;cases fo with
  |func f=>
   have hf:(cx.mode f=.fresh\/(cx.mode f=.pass\/cx.mode f=.bh))/\(cx.opn=false\/cx.lz=true):=by simpa [rS]using he
   have JJ:(cx.opn&& !cx.lz&& !false)=false:=by rcases hf.2 with e|e<;>simp[e]
   have e:dT tm gs (.func f)=(.fn f []:AV K):=rfl;rw[e]at h;simp only[wS,JJ,nj,oz,uE]at h
   replace hf:=hf.1
   rcases hf with hf|hf|hf
   rotate_left
   ·simp only[pY,hf,nj,oz]at h;refine Pn h fun x hx=>aQ.2 (.inr ?_)
    simp only[wZ,hf];exact hx
   ·simp only[pY,hf,nj,oz,uk]at h;refine bX.trans (D6 _ _ fun x hx=>aQ.2 (.inr ?_)) (Pn h fun x hx=>aQ.2 (.inr ?_))
    ·simp only[wZ,hf];exact aQ.2 (.inl hx)
    ·simp only[wZ,hf];exact aQ.2 (.inr hx)
   simp only[pY,hf,nj,oz]at h;split at h
   ·rename_i hc;simp only[ay]at h;rw[h]at hc;exact JI (.inl rfl) hc
   ·split at h
    ·rename_i hc;simp only[ay]at h;rw[h]at hc;exact JI (.inr rfl) hc
    ·unfold uk at h;refine bX.trans (D6 _ _ fun x hx=>?_) (JI (.inl rfl) h);refine aQ.2 (.inl (aQ.2 (.inr ?_)));have key:∀l:List Operand,x∈bT (l.map fun y=>eE H (dT tm gs y))->x∈bT (l.map (dT tm gs)):=fun l=>by
      induction l with
      |nil=>exact fun h=>h
      |cons y r ih=>
       simp only[fy,bT,aQ];exact fun h=>h.imp (l9 _) ih
     exact key _ hx
  |_=>simp[rS]at he
 ·simp[rS]at he
 ·split at h
  ·simp only[ay,aR]at h;rw[<-h.2.1];exact bX.refl _ _
  ·rw[gq (by simp)]at h;split at h
   ·cases h
   ·split at h
    ·rename_i hov;exfalso;unfold wQ at hov;cases hov
    split at h
    ·rename_i hct;simp only[ay]at h;rw[h]at hct;exact(aen hct).more fun x hx=>aQ.2 (.inl (aQ.2 (.inl hx)))
    ·exact(aem h).more fun x hx=>aQ.2 (.inl (aQ.2 (.inl hx)))
theorem Po:∀(l:List Nat)(h:Nat),(bitsOf l).testBit h=true↔h∈l
 |[],h=>by simp[bitsOf]
 |k::r,h=>by
  simp only[bitsOf,oC,fG,Po r,Nat.testBit_two_pow,cz,fF];exact⟨fun h=>h.imp Eq.symm id,fun h=>h.imp Eq.symm id⟩
theorem Pq{A:Nat}:∀(ws:List Nat)(i h:Nat),(w9 A i ws).testBit h=true↔∃(k:Nat)(b:Nat),ws[k]?=some b/\A.testBit (i+k)=false/\b.testBit h=true
 |[],i,h=>by simp[w9]
 |b::r,i,h=>by
  simp only[w9,oC,fG,Pq r];constructor
  ·rintro (h1|⟨k,b',h1,h2,h3⟩)
   ·split at h1
    ·simp at h1
    ·rename_i hA;exact⟨0,b,rfl,by simpa using hA,h1⟩
   ·exact⟨k+1,b',by simpa using h1,by rw[show i+(k+1)=i+1+k by omega];exact h2,h3⟩
  ·rintro ⟨k,b',h1,h2,h3⟩
   cases k with
   |zero=>simp at h1;subst h1;left;rw[gq (by simpa using h2)];exact h3
   |succ k=>exact .inr ⟨k,b',by simpa using h1,by rw[show i+1+k=i+(k+1) by omega];exact h2,h3⟩
theorem Pv{A:Nat}{T:List Nat}:∀(ms:List (Nat×Nat))(i:Nat),DR A T i ms=true->∀(k m n:Nat),ms[k]?=some (m,n)->A.testBit (i+k)=false->∀h∈T,h<n->m.testBit h=true
 |[],i,_,k,m,n,h,_=>by simp at h
 |(m0,n0)::r,i,hr,k,m,n,hk,hA=>by
  simp only[DR,cC,fG,fb,cz]at hr;cases k with
  |zero=>
   simp at hk;obtain⟨rfl,rfl⟩:=hk;intro h hT hn;rcases hr.1 with h1|h1
   ·rw[Nat.add_zero]at hA;rw[hA]at h1;cases h1
   ·rcases h1 h hT with h2|h2
    ·omega
    ·exact h2
  |succ k=>exact Pv r (i+1) hr.2 k m n (by simpa using hk) (by rw[show i+1+k=i+(k+1) by omega];exact hA)
end Go.V
namespace Go.V
open Go
variable {K :dh}{H H':List (Ob K)}
theorem Px{cx:Cx K}{tm:List (AV K)}{T:TypeId}{op:Op}{v:AV K}{c:Bool}{t:List Nat}(he:rS cx op=true)(hq:nz cx op=false)(h:lB false cx tm [] H T op=some (v,H',c,t)):bX (oJ cx tm H op) H H':=by
 by_cases hl:∃a b,op=.load a b
 ·obtain⟨a,b,rfl⟩:=hl;have:oJ cx tm H (.load a b)=(match uI cx (fun x=>eE H (dT tm [] x)) H (.load a b)with
   |some _=>[]
   |none=>hands (dT tm [] b)):=by unfold oJ;rw[hq];rfl
  rw[this];exact aep hq h
 ·have:oJ cx tm H op=(jv (dT tm []) op++Je (dT tm []) op)++wZ cx H (dT tm []) op:=by
   unfold oJ;rw[hq];simp only[nj,oz];split
   ·rename_i a b;exact absurd ⟨a,b,rfl⟩ hl
   ·rfl
  rw[this];exact aeq he (fun a b e=>hl ⟨a,b,e⟩) h
theorem aer{cx:Cx K}{ops:List Oper}{tm:List (AV K)}{wr:List Nat}{o:Oper}{v:AV K}{c:Bool}(h:w8 cx ops tm H wr o=some (v,H',c)):bX (oJ cx tm H o.op) H H':=by
 unfold w8 at h;split at h
 ·rename_i hq;have:H'=H:=by
   unfold iQ at h;split at h
   ·cases h
   ·split at h
    ·rename_i hy;split at h
     ·cases h
     ·simp only[ay,aR]at h;obtain⟨-,rfl,-⟩:=h;exact xc hy
    ·cases h
   ·split at h
    ·split at h
     ·split at h
      ·split at h
       ·rename_i hy;split at h
        ·cases h
        ·simp only[ay,aR]at h;obtain⟨-,rfl,-⟩:=h;exact xc hy
       ·cases h
      ·simp only[ay,aR]at h;exact h.2.1.symm
     ·cases h
    split at h
    ·cases h
    ·split at h
     ·split at h
      ·simp only[ay,aR]at h;exact h.2.1.symm
      ·cases h
     ·cases h
  subst this;exact bX.refl _ _
 ·rename_i hq;split at h
  ·rename_i he;have hq':nz cx o.op=false:=by simpa using hq
   unfold iQ at h;split at h
   ·cases h
   ·split at h
    ·rename_i hy;split at h
     ·cases h
     ·simp only[ay,aR]at h;obtain⟨-,rfl,-⟩:=h;exact Px he hq' hy
    ·cases h
   ·split at h
    ·split at h
     ·split at h
      ·split at h
       ·rename_i hy;split at h
        ·cases h
        ·simp only[ay,aR]at h;obtain⟨-,rfl,-⟩:=h;exact Px he hq' hy
       ·cases h
      ·simp only[ay,aR]at h;rw[<-h.2.1];exact bX.refl _ _
     ·cases h
    split at h
    ·cases h
    ·split at h
     ·split at h
      ·simp only[ay,aR]at h;rw[<-h.2.1];exact bX.refl _ _
      ·cases h
     ·cases h
  ·cases h
structure kM (K:dh) where
 vals:Nat->AV K
 hin:Nat->List (Ob K)
 hout:Nat->List (Ob K)
 mask:Nat->Nat
 T:Nat->List Nat
def kM.W(F:kM K)(k h:Nat):Prop:=h∈F.T k\/((F.hin k).length<=h/\h<(F.hout k).length)
structure xg (cx:Cx K) (L:List Oper) (bs:List Nat) (cm:List (AV K)) (F:kM K) (i:Nat) (o:Oper) (di:List (AV K)) (d3:List Nat):Prop where
 slot:w8 cx L (eV (fk bs i) L 0 di) (iR (F.mask i) 0 (F.hin i)) d3 o=some (F.vals i,F.hout i,true)
 up:oI (F.hin i).length (eV (fk bs i) L 0 di)=true
 D7:(iR (F.mask i) 0 (F.hin i)).all (Ob.upto (F.hin i).length)=true
 turns:bX (F.T i) (iR (F.mask i) 0 (F.hin i)) (F.hout i)
 len:di.length=cm.length
 fin:∀(k:Nat) o' d,L[k]?=some o'->o'.dst=some d->k<i->di[d]?=some (F.vals k)
 rest:∀t,(∀(k:Nat) o,k<i->L[k]?=some o->o.dst≠some t)->di[t]?=cm[t]?
 d3:∀d∈d3,∃(k:Nat)(o':Oper),k<i/\L[k]?=some o'/\o'.dst=some d
structure gG (cx:Cx K) (L:List Oper) (bs:List Nat) (H0:List (Ob K)) (cm:List (AV K)) (F:kM K) (n:Nat) (tm:List (AV K)) (H:List (Ob K)) (wr:List Nat) (ms:List (Nat×Nat)) (ws:List Nat):Prop where
 len:tm.length=cm.length
 uniq:∀(i j:Nat) o o' d,i<n->j<n->L[i]?=some o->L[j]?=some o'->o.dst=some d->o'.dst=some d->i=j
 inb:∀(i:Nat) o d,i<n->L[i]?=some o->o.dst=some d->d<cm.length
 fin:∀(i:Nat) o d,i<n->L[i]?=some o->o.dst=some d->tm[d]?=some (F.vals i)
 rest:∀t,(∀(k:Nat) o,k<n->L[k]?=some o->o.dst≠some t)->tm[t]?=cm[t]?
 mF:∀d,d∈wr↔∃(k:Nat)(o':Oper),k<n/\L[k]?=some o'/\o'.dst=some d
 slot:∀(i:Nat) o,i<n->L[i]?=some o->∃di d3,xg cx L bs cm F i o di d3
 h0:F.hin 0=H0
 hn:F.hin n=H
 hs:∀i,i<n->F.hin (i+1)=kK (F.mask i) 0 (F.hin i) (F.hout i)/\(F.hin i).length<=(F.hout i).length
 zJ:ms.length=n
 zK:ws.length=n
 ms:∀i,i<n->ms[i]?=some (F.mask i,(F.hin i).length)
 ws:∀i,i<n->∃b,ws[i]?=some b/\∀h,b.testBit h=true↔F.W i h
 masks:∀i,i<n->∀h,(∃k,k<i/\(bs.getD i 0).testBit k=false/\F.W k h)->(F.mask i).testBit h=true
 clear:∀k,k<n->∀h∈F.T k,(F.mask k).testBit h=false/\h<(F.hin k).length
 readers:∀k,k<n->∀i,i<k->(bs.getD k 0).testBit i=false->∀h∈F.T k,h<(F.hin i).length->(F.mask i).testBit h=true
theorem Ju{cx:Cx K}{L:List Oper}{bs:List Nat}:∀(l:List Oper)(i:Nat)(st st':St K)(wr wr':List Nat)(ms:List (Nat×Nat))(ws:List Nat),qp cx L bs l i st wr ms ws=some (st',wr')->st'.ok=true->st.ok=true
 |[],i,st,st',wr,wr',ms,ws,h,hok=>by simp only[qp,ay,aR]at h;rw[h.1];exact hok
 |o::r,i,st,st',wr,wr',ms,ws,h,hok=>by
  simp only[qp]at h;split at h
  ·split at h
   ·cases h
   ·split at h
    ·split at h
     ·rename_i st1 iI hp;obtain⟨p1,p2,-⟩:=qt hp;have q1:=Ju r (i+1) st1 st' iI wr' _ _ h hok;rw[p2]at q1;simp only[cC]at q1;exact q1.2
     ·cases h
    ·cases h
  ·cases h
theorem Py{cx:Cx K}{L:List Oper}{bs:List Nat}{H0:List (Ob K)}{cm:List (AV K)}:∀(l:List Oper)(n:Nat)(st st':St K)(wr wr':List Nat)(ms:List (Nat×Nat))(ws:List Nat)(F:kM K),qp cx L bs l n st wr ms ws=some (st',wr')->st'.ok=true->
 (∀j,l[j]?=L[n+j]?)->n+l.length=L.length->gG cx L bs H0 cm F n st.tm st.H wr ms ws->∃F' ms' ws',gG cx L bs H0 cm F' L.length st'.tm st'.H wr' ms' ws'
 |[],n,st,st',wr,wr',ms,ws,F,h,hok,hl,hn,hp=>by
   simp only[qp,ay,aR]at h;obtain⟨rfl,rfl⟩:=h;simp at hn;subst hn;exact⟨F,ms,ws,hp⟩
 |o::r,n,st,st',wr,wr',ms,ws,F,h,hok,hl,hn,hp=>by
  have hLn:L[n]?=some o:=by have:=hl 0;simpa using this.symm
  simp only[qp]at h;split at h
  ·rename_i hup;simp only[cC]at hup;split at h
   ·cases h
   ·rename_i v H1 c hsv;split at h
    ·rename_i hrd;simp only[cC,cz]at hrd;split at h
     ·rename_i st1 iI hput;obtain⟨p1,p2,p3⟩:=qt hput;have hok1:=Ju r (n+1) st1 st' iI wr' _ _ h hok;rw[p2]at hok1;simp only[cC]at hok1;obtain⟨rfl,-⟩:=hok1;have aes:=hp.hn
      let mk:=qo bs ws n (eV (fk bs n) L 0 st.tm) st.H.length o.op
      let TT:=oJ cx (eV (fk bs n) L 0 st.tm) (iR mk 0 st.H) o.op
      let F':kM K:={vals:=fun i=>if i=n then v else F.vals i,hin:=fun i=>if i=n+1 then kK mk 0 st.H H1 else F.hin i,hout:=fun i=>if i=n then H1 else F.hout i,mask:=fun i=>if i=n then mk else F.mask i,T:=fun i=>if i=n then TT else F.T i}
      have ev:∀i,i<n->F'.vals i=F.vals i:=fun i hi=>by simp[F',show i≠n by omega]
      have eh:∀i,i<=n->F'.hin i=F.hin i:=fun i hi=>by simp[F',show i≠n+1 by omega]
      have eo:∀i,i<n->F'.hout i=F.hout i:=fun i hi=>by simp[F',show i≠n by omega]
      have em:∀i,i<n->F'.mask i=F.mask i:=fun i hi=>by simp[F',show i≠n by omega]
      have eT:∀i,i<n->F'.T i=F.T i:=fun i hi=>by simp[F',show i≠n by omega]
      have nv:F'.vals n=v:=by simp[F']
      have nh:F'.hin n=st.H:=by rw[eh n (cw _)];exact aes
      have Pz:F'.hin (n+1)=kK mk 0 st.H H1:=by simp[F']
      have no:F'.hout n=H1:=by simp[F']
      have nm:F'.mask n=mk:=by simp[F']
      have nT:F'.T n=TT:=by simp[F']
      have eW:∀i,i<n->∀h,F'.W i h↔F.W i h:=fun i hi h=>by unfold kM.W;rw[eT i hi,eh i (by omega),eo i hi]
      have Jn:xg cx L bs cm F' n o st.tm wr:=
       {slot:=by rw[nv,no,nm,nh];exact hsv
        up:=by rw[nh];exact hup.1
        D7:=by rw[nm,nh];exact hup.2
        turns:=by rw[nT,nm,nh,no];exact aer hsv
        len:=hp.len
        fin:=fun k o' d h1 h2 h3=>by rw[ev k h3];exact hp.fin k o' d h3 h1 h2
        rest:=fun t ht=>hp.rest t fun k o' hk h1=>ht k o' hk h1
        d3:=fun d hd=>(hp.mF d).1 hd}
      have rY:∀(i:Nat) o1,i<n+1->L[i]?=some o1->∃di d3,xg cx L bs cm F' i o1 di d3:=fun i o1 hi ho1=>by
       by_cases hin:i=n
       ·subst hin;rw[hLn]at ho1;simp at ho1;subst ho1;exact⟨_,_,Jn⟩
       ·have hlt:i<n:=by omega
        obtain⟨di,d3,a⟩:=hp.slot i o1 hlt ho1;exact⟨di,d3,{slot:=by rw[ev i hlt,eo i hlt,em i hlt,eh i (by omega)];exact a.slot,up:=by rw[eh i (by omega)];exact a.up,D7:=by rw[em i hlt,eh i (by omega)];exact a.D7,turns:=by rw[eT i hlt,em i hlt,eh i (by omega),eo i hlt];exact a.turns,len:=a.len,fin:=fun k o' d h1 h2 h3=>by rw[ev k (by omega)];exact a.fin k o' d h1 h2 h3,rest:=a.rest,d3:=a.d3}⟩
      have hmk:∀h,(∃k,k<n/\(bs.getD n 0).testBit k=false/\F'.W k h)->mk.testBit h=true:=fun h=>by
       rintro ⟨k,hk,h2,h3⟩
       rw[show mk=w9 (bs.getD n 0) 0 ws|||OF (eV (fk bs n) L 0 st.tm) st.H.length o.op from rfl,oC,fG];refine .inl ?_;rw[Pq];obtain⟨b',g1,g2⟩:=hp.ws k hk;exact⟨k,b',g1,by simpa using h2,(g2 h).2 ((eW k hk h).1 h3)⟩
      have base:gG cx L bs H0 cm F' (n+1) st1.tm st1.H iI (ms++[(mk,st.H.length)]) (ws++[bitsOf (TT++List.range' st.H.length (H1.length-st.H.length))]):=by
       have c1:F'.hin 0=H0:=by rw[eh 0 (by omega)];exact hp.h0
       have c2:F'.hin (n+1)=st1.H:=by rw[Pz,p1]
       have c3:∀i,i<n+1->F'.hin (i+1)=kK (F'.mask i) 0 (F'.hin i) (F'.hout i)/\(F'.hin i).length<=(F'.hout i).length:=fun i hi=>by
        by_cases hin:i=n
        ·subst hin;rw[Pz,nm,nh,no];exact⟨rfl,hrd.2⟩
        ·have hlt:i<n:=by omega
         rw[eh (i+1) (by omega),em i hlt,eh i (by omega),eo i hlt];exact hp.hs i hlt
       have c4:∀i,i<n+1->(ms++[(mk,st.H.length)])[i]?=some (F'.mask i,(F'.hin i).length):=fun i hi=>by
        by_cases hin:i=n
        ·subst hin;rw[nm,nh,cM (by rw[hp.zJ];exact cw _),hp.zJ];simp
        ·have hlt:i<n:=by omega
         rw[em i hlt,eh i (by omega),cT (by rw[hp.zJ];exact hlt)];exact hp.ms i hlt
       have c5:∀i,i<n+1->∃b,(ws++[bitsOf (TT++List.range' st.H.length (H1.length-st.H.length))])[i]?=some b/\∀h,b.testBit h=true↔F'.W i h:=fun i hi=>by
        by_cases hin:i=n
        ·subst hin;refine⟨bitsOf (TT++List.range' st.H.length (H1.length-st.H.length)),by rw[cM (by rw[hp.zK];exact cw _),hp.zK];simp,fun h=>?_⟩;rw[Po,aQ];unfold kM.W;rw[nT,nh,no,List.mem_range'];constructor
         ·rintro (h1|⟨j,h1,h2⟩)
          ·exact .inl h1
          ·exact .inr (by omega)
         ·rintro (h1|⟨h1,h2⟩)
          ·exact .inl h1
          ·exact .inr ⟨h-st.H.length,by omega,by omega⟩
        ·have hlt:i<n:=by omega
         obtain⟨b,g1,g2⟩:=hp.ws i hlt;exact⟨b,by rw[cT (by rw[hp.zK];exact hlt)];exact g1,fun h=>(g2 h).trans (eW i hlt h).symm⟩
       have c6:∀i,i<n+1->∀h,(∃k,k<i/\(bs.getD i 0).testBit k=false/\F'.W k h)->(F'.mask i).testBit h=true:=fun i hi hh=>by
        by_cases hin:i=n
        ·subst hin;rw[nm];exact hmk hh
        ·have hlt:i<n:=by omega
         rw[em i hlt];exact fun⟨k,h1,h2,h3⟩=>hp.masks i hlt hh ⟨k,h1,h2,(eW k (by omega) hh).1 h3⟩
       have c7:∀k,k<n+1->∀i,i<k->(bs.getD k 0).testBit i=false->∀h∈F'.T k,h<(F'.hin i).length->(F'.mask i).testBit h=true:=fun k hk i hik hA hh hT hlt=>by
        rw[eh i (by omega)]at hlt;rw[em i (by omega)];by_cases hkn:k=n
        ·subst hkn;rw[nT]at hT;exact Pv ms 0 hrd.1.1 i _ _ (hp.ms i hik) (by simpa using hA) hh hT hlt
        ·rw[eT k (by omega)]at hT;exact hp.readers k (by omega) i hik hA hh hT hlt
       have c8:∀k,k<n+1->∀h∈F'.T k,(F'.mask k).testBit h=false/\h<(F'.hin k).length:=fun k hk hh hT=>by
        by_cases hkn:k=n
        ·subst hkn;rw[nT]at hT;rw[nm,nh];have:=hrd.1.2;rw[fb]at this;have h2:=this hh hT;rw[cC,fE,cz]at h2;exact h2
        ·rw[eT k (by omega)]at hT;rw[em k (by omega),eh k (by omega)];exact hp.clear k (by omega) hh hT
       rcases p3 with⟨e1,e2,e3⟩|⟨d,e1,e2,e3,e4,e5⟩
       ·refine⟨by rw[e2];exact hp.len,fun i j o1 o2 d hi hj h1 h2 h3 h4=>?_,fun i o1 d hi h1 h2=>?_,fun i o1 d hi h1 h2=>?_,fun t ht=>by rw[e2];exact hp.rest t fun k o' hk=>ht k o' (by omega),fun d=>?_,rY,c1,c2,c3,by simp[hp.zJ],by simp[hp.zK],c4,c5,c6,c8,c7⟩
        ·have hin:i≠n:=fun e=>by subst e;rw[hLn]at h1;simp at h1;subst h1;rw[e1]at h3;cases h3
         have hjn:j≠n:=fun e=>by subst e;rw[hLn]at h2;simp at h2;subst h2;rw[e1]at h4;cases h4
         exact hp.uniq i j o1 o2 d (by omega) (by omega) h1 h2 h3 h4
        ·have hin:i≠n:=fun e=>by subst e;rw[hLn]at h1;simp at h1;subst h1;rw[e1]at h2;cases h2
         exact hp.inb i o1 d (by omega) h1 h2
        ·have hin:i≠n:=fun e=>by subst e;rw[hLn]at h1;simp at h1;subst h1;rw[e1]at h2;cases h2
         rw[e2,ev i (by omega)];exact hp.fin i o1 d (by omega) h1 h2
        ·rw[e3,hp.mF d];constructor
         ·rintro ⟨k,o',hk,h1,h2⟩;exact⟨k,o',by omega,h1,h2⟩
         ·rintro ⟨k,o',hk,h1,h2⟩
          have hkn:k≠n:=fun e=>by subst e;rw[hLn]at h1;simp at h1;subst h1;rw[e1]at h2;cases h2
          exact⟨k,o',by omega,h1,h2⟩
       ·have hnew:∀(k:Nat) o',k<n->L[k]?=some o'->o'.dst≠some d:=fun k o' hk h1 h2=>e2 ((hp.mF d).2 ⟨k,o',hk,h1,h2⟩)
        have hdn:∀{o1:Oper}{d1:Nat},L[n]?=some o1->o1.dst=some d1->d1=d:=fun{o1 d1} h1 h2=>by rw[hLn]at h1;simp at h1;subst h1;rw[e1]at h2;simpa using h2.symm
        refine⟨by rw[e4];simp[hp.len],fun i j o1 o2 d1 hi hj h1 h2 h3 h4=>?_,fun i o1 d1 hi h1 h2=>?_,fun i o1 d1 hi h1 h2=>?_,fun t ht=>?_,fun d1=>?_,rY,c1,c2,c3,by simp[hp.zJ],by simp[hp.zK],c4,c5,c6,c8,c7⟩
        ·by_cases hin:i=n<;>by_cases hjn:j=n
         ·omega
         ·subst hin;have:=hdn h1 h3;subst this;exact absurd h4 (hnew j o2 (by omega) h2)
         ·subst hjn;have:=hdn h2 h4;subst this;exact absurd h3 (hnew i o1 (by omega) h1)
         ·exact hp.uniq i j o1 o2 d1 (by omega) (by omega) h1 h2 h3 h4
        ·by_cases hin:i=n
         ·subst hin;have:=hdn h1 h2;subst this;rw[<-hp.len];exact e3
         ·exact hp.inb i o1 d1 (by omega) h1 h2
        ·rw[e4];by_cases hin:i=n
         ·subst hin;have:=hdn h1 h2;subst this;rw[kD,dP rfl,dP e3,nv]
         ·have hne:d1≠d:=fun e=>by subst e;exact hnew i o1 (by omega) h1 h2
          rw[kD,gq (wL hne),ev i (by omega)];exact hp.fin i o1 d1 (by omega) h1 h2
        ·have hne:d≠t:=fun e=>by subst e;exact ht n o (by omega) hLn e1
         rw[e4,kD,gq hne];exact hp.rest t fun k o' hk=>ht k o' (by omega)
        ·rw[e5,fF,hp.mF d1];constructor
         ·rintro (rfl|⟨k,o',hk,h1,h2⟩)
          ·exact⟨n,o,by omega,hLn,e1⟩
          ·exact⟨k,o',by omega,h1,h2⟩
         ·rintro ⟨k,o',hk,h1,h2⟩
          by_cases hkn:k=n
          ·subst hkn;exact .inl (hdn h1 h2)
          ·exact .inr ⟨k,o',by omega,h1,h2⟩
      exact Py r (n+1) st1 st' iI wr' _ _ F' h hok (fun j=>by have:=hl (j+1);simp only[List.getElem?_cons_succ]at this;rw[this];congr 1;omega) (by simp at hn;omega) base
     ·cases h
    ·cases h
  ·cases h
theorem ad3{cx:Cx K}{L:List Oper}{bs:List Nat}{st st':St K}{wr':List Nat}(h:qp cx L bs L 0 st [] [] []=some (st',wr'))(hok:st'.ok=true):
 ∃F ms ws,gG cx L bs st.H st.tm F L.length st'.tm st'.H wr' ms ws:=
 Py (cm:=st.tm) (H0:=st.H) L 0 st st' [] wr' [] [] {vals:=fun _=>.any,hin:=fun _=>st.H,hout:=fun _=>[],mask:=fun _=>0,T:=fun _=>[]} h hok (fun j=>by simp) (by simp)
  ⟨rfl,fun i j _ _ _ hi=>by omega,fun i _ _ hi=>by omega,fun i _ _ hi=>by omega,fun t _=>rfl,fun d=>by simp,fun i _ hi=>by omega,rfl,rfl,fun i hi=>by omega,rfl,rfl,fun i hi=>by omega,fun i hi=>by omega,fun i hi=>by omega,fun i hi=>by omega,fun i hi=>by omega⟩
end Go.V
namespace Go.V
open Go
variable {K :dh}{ρ ρ':List Value}{S S':Nat->Prop}{w w':World}{H H':List (Ob K)}{D:bF K}
section
variable {cx :Cx K}{L:List Oper}{bs:List Nat}{H0:List (Ob K)}{cm fm:List (AV K)}{F:kM K}{HF:List (Ob K)}{wr:List Nat}{ms:List (Nat×Nat)}{ws:List Nat}
theorem gG.rZ(hp:gG cx L bs H0 cm F L.length fm HF wr ms ws){i:Nat}(hi:i<L.length):(F.hin (i+1)).length=(F.hout i).length:=by
 obtain⟨h1,h2⟩:=hp.hs i hi;rw[h1,D4 _ _ _ h2]
theorem gG.mono(hp:gG cx L bs H0 cm F L.length fm HF wr ms ws):∀{i j:Nat},i<=j->j<=L.length->(F.hin i).length<=(F.hin j).length:=by
 intro i j hij hj
 induction j with
 |zero=>have:i=0:=by omega
        subst this;exact cw _
 |succ j ih=>
  rcases cP i (j+1)with h|h
  ·have h1:=ih (by omega) (by omega);rw[hp.rZ (show j<L.length by omega)];exact mD h1 (hp.hs j (by omega)).2
  ·have:i=j+1:=by omega
   subst this;exact cw _
theorem gG.aet(hp:gG cx L bs H0 cm F L.length fm HF wr ms ws){i h:Nat}(hi:i<L.length)(hn:¬F.W i h)(hh:h<(F.hin i).length):(F.hin (i+1))[h]?=(F.hin i)[h]?:=by
 obtain⟨h1,h2⟩:=hp.hs i hi;obtain⟨di,d3,a⟩:=hp.slot i L[i] hi (bB hi);rw[h1,D5 _ _ _ _ h2];by_cases hm:h<(F.hin i).length/\(F.mask i).testBit (0+h)=true
 ·rw[dP hm]
 ·rw[gq hm];have hm':(F.mask i).testBit h=false:=by
   cases hb:(F.mask i).testBit h with
   |false=>rfl
   |true=>exact absurd ⟨hh,by rw[iC];exact hb⟩ hm
  have:=a.turns.2 h (by rw[zH];exact hh) (fun hT=>hn (.inl hT));rw[this,zG,iC,hm'];cases (F.hin i)[h]?<;>simp
theorem gG.stay(hp:gG cx L bs H0 cm F L.length fm HF wr ms ws){i h:Nat}:∀{j:Nat},i<=j->j<=L.length->(∀k,i<=k->k<j->¬F.W k h)->h<(F.hin i).length->(F.hin j)[h]?=(F.hin i)[h]?:=by
 intro j hij hj hn hh
 induction j with
 |zero=>have:i=0:=by omega
        subst this;rfl
 |succ j ih=>
  rcases cP i (j+1)with h1|h1
  ·have h2:=ih (by omega) (by omega) fun k a b=>hn k a (by omega)
   rw[hp.aet (by omega) (hn j (by omega) (by omega)) (fS hh (hp.mono (by omega) (by omega))),h2]
  ·have:i=j+1:=by omega
   subst this;rfl
theorem gG.maker(hp:gG cx L bs H0 cm F L.length fm HF wr ms ws){j k h:Nat}(hj:j<L.length)(hk:k<L.length)(h1:(F.hin j).length<=h)(h2:h<(F.hout j).length)(h3:(F.hin k).length<=h)(h4:h<(F.hout k).length):j=k:=by
 rcases Nat.lt_trichotomy j k with h|h|h
 ·have:=hp.mono (show j+1<=k by omega) (by omega);rw[hp.rZ hj]at this;omega
 ·exact h
 ·have:=hp.mono (show k+1<=j by omega) (by omega);rw[hp.rZ hk]at this;omega
theorem gG.made(hp:gG cx L bs H0 cm F L.length fm HF wr ms ws){h:Nat}:∀{j:Nat},j<=L.length->h<(F.hin j).length->H0.length<=h->∃k,k<j/\(F.hin k).length<=h/\h<(F.hout k).length:=by
 intro j hj hh h0
 induction j with
 |zero=>rw[hp.h0]at hh;omega
 |succ j ih=>
  rw[hp.rZ (show j<L.length by omega)]at hh;rcases cP h (F.hin j).length with h1|h1
  ·obtain⟨k,a,b⟩:=ih (by omega) h1;exact⟨k,by omega,b⟩
  ·exact⟨j,by omega,h1,hh⟩
end
theorem PC{p:Nat->Prop}{n:Nat}(hb:∀k,p k->k<n)(h:∃k,p k):∃k,p k/\∀k',p k'->k'<=k:=by
 induction n with
 |zero=>obtain⟨k,hk⟩:=h;exact absurd (hb k hk) (wz _)
 |succ n ih=>
  by_cases hn:p n
  ·exact⟨n,hn,fun k' hk'=>by have:=hb k' hk';omega⟩
  ·exact ih fun k hk=>by
    have:=hb k hk;rcases cP k n with h1|h1
    ·exact h1
    ·have:k=n:=by omega
     subst this;exact absurd hk hn
structure ka (cx:Cx K) (L:List Oper) (bs:List Nat) (cm:List (AV K)) (F:kM K) (H0 HF H:List (Ob K)) (ρ:List Value) (S:Nat->Prop) (listed:Array Bool) (a:Act) (w:World):Prop where
 heap:aT cx.D ρ S w H
 hlen:H.length=HF.length
 defers:a.defers=[]
 size:a.tmps.size=cm.length
 nA:listed.size=L.length
 base:∀(t:Nat) v x,(∀(k:Nat) o,L[k]?=some o->o.dst=some t->listed[k]?≠some true)->cm[t]?=some v->a.tmps[t]?=some x->Rep cx.D ρ S w v x
 done:∀(k:Nat) o d x,L[k]?=some o->listed[k]?=some true->o.dst=some d->a.tmps[d]?=some x->eR cx.D ρ S w a.tmps (F.vals k) x
 opts:∀(k g:Nat) b y,listed[k]?=some true->F.vals k=.opt g b y->∃(k':Nat)(o':Oper),L[k']?=some o'/\o'.dst=some g/\listed[k']?=some true
 closed:∀(k:Nat) o,L[k]?=some o->listed[k]?=some true->∀e∈o.after,listed[e.on]?=some true
 JK:∀h,(∀k,listed[k]?=some true->¬F.W k h)->h<HF.length->(h<H0.length->H[h]?=H0[h]?)/\(H0.length<=h->H[h]?=some .dead)
 JL:∀h k,listed[k]?=some true->F.W k h->(∀k',listed[k']?=some true->F.W k' h->k'<=k)->H[h]?=(F.hin (k+1))[h]?
 PD:∀h,H0.length<=h->h<HF.length->(∀k,listed[k]?=some true->¬((F.hin k).length<=h/\h<(F.hout k).length))->ρ[h]?=some dummy
section
variable {cx :Cx K}{L:List Oper}{bs:List Nat}{H0:List (Ob K)}{cm fm:List (AV K)}{F:kM K}{HF:List (Ob K)}{wr:List Nat}{ms:List (Nat×Nat)}{ws:List Nat}{listed:Array Bool}{a:Act}
theorem ka.sees(hp:gG cx L bs H0 cm F L.length fm HF wr ms ws)(hm:ka cx L bs cm F H0 HF H ρ S listed a w){j:Nat}(hj:j<L.length)(ic:listed[j]?=some false)
 (hA:∀k,(bs.getD j 0).testBit k=true->listed[k]?=some true) (hcl:∀i k,listed[i]?=some true->(bs.getD i 0).testBit k=true->listed[k]?=some true) {h:Nat} (hh:h<(F.hin j).length) (hun:(F.mask j).testBit h=false):H[h]?=(F.hin j)[h]?:=by
 have hlt:∀k,listed[k]?=some true->k<L.length:=fun k hk=>by have:=(eS.1 hk).1;rw[hm.nA]at this;exact this
 have hne:∀k,listed[k]?=some true->k≠j:=fun k hk e=>by subst e;rw[ic]at hk;cases hk
 have hbef:∀k,k<j->F.W k h->listed[k]?=some true:=fun k hk hw=>by
  cases hb:(bs.getD j 0).testBit k with
  |true=>exact hA k hb
  |false=>have:=hp.masks j hj h ⟨k,hk,hb,hw⟩;rw[hun]at this;cases this
 have haft:∀k,listed[k]?=some true->F.W k h->k<j:=fun k hk hw=>by
  rcases Nat.lt_trichotomy k j with h1|h1|h1
  ·exact h1
  ·exact absurd h1 (hne k hk)
  ·have mG:=hlt k hk;have hlen:=hp.mono (show j<=k by omega) (by omega);rcases hw with hT|⟨h2,-⟩
   ·cases hb:(bs.getD k 0).testBit j with
    |true=>have:=hcl k j hk hb;rw[ic]at this;cases this
    |false=>have:=hp.readers k mG j h1 hb h hT hh;rw[hun]at this;cases this
   ·omega
 by_cases hex:∃k,listed[k]?=some true/\F.W k h
 ·obtain⟨k,⟨hk1,hk2⟩,hk3⟩:=PC (p:=fun k=>listed[k]?=some true/\F.W k h) (n:=L.length) (fun k hk=>hlt k hk.1) hex;rw[hm.JL h k hk1 hk2 fun k' a b=>hk3 k' ⟨a,b⟩];have hkj:=haft k hk1 hk2;have hno:∀k',k+1<=k'->k'<j->¬F.W k' h:=fun k' h1 h2 hw=>by have:=hk3 k' ⟨hbef k' h2 hw,hw⟩;omega
  by_cases hl:h<(F.hin (k+1)).length
  ·exact(hp.stay (show k+1<=j by omega) (by omega) hno hl).symm
  ·
   exfalso;have:H0.length<=h:=by have:=hp.mono (show 0<=k+1 by omega) (show k+1<=L.length by omega);rw[hp.h0]at this;omega
   obtain⟨k',g1,g2,g3⟩:=hp.made (show j<=L.length by omega) hh this;by_cases hkk:k+1<=k'
   ·exact hno k' hkk g1 (.inr ⟨g2,g3⟩)
   ·have:=hp.mono (show k'+1<=k+1 by omega) (show k+1<=L.length by omega);rw[hp.rZ (show k'<L.length by omega)]at this;omega
 ·have hno:∀k,listed[k]?=some true->¬F.W k h:=fun k a b=>hex ⟨k,a,b⟩
  have uW:∀k,0<=k->k<j->¬F.W k h:=fun k _ hk hw=>hno k (hbef k hk hw) hw
  have hHF:h<HF.length:=by have:=hp.mono (show j<=L.length by omega) (cw _);rw[hp.hn]at this;omega
  obtain⟨g1,g2⟩:=hm.JK h hno hHF;by_cases h0:h<H0.length
  ·rw[g1 h0,hp.stay (jr j) (by omega) uW (by rw[hp.h0];exact h0),hp.h0]
  ·obtain⟨k',a1,a2,a3⟩:=hp.made (show j<=L.length by omega) hh (by omega);exact absurd (.inr ⟨a2,a3⟩) (uW k' (jr _) a1)
end
end Go.V
