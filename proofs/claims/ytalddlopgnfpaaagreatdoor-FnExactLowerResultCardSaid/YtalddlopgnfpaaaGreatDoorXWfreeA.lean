/-
  A REGION WHOSE ORDER IS LEFT OPEN, WITH OPERATIONS THAT MAKE AND TURN OBJECTS: each is read with no more than what comes ahead of it; what an operation makes gets the number that it has in the text's order; what one turns no other may lean on that is not bound to it by an edge.
-/
import Derived.Test.YtalddlopgnfpaaaGreatDoorXWdrawA
set_option linter.unusedVariables false
namespace Go.V
open Go
variable {K :cJ}{ρ ρ':List Value}{S S':Nat->Prop}{w w':World}{H H':List (Ob K)}{D:ba K}
theorem Ba{bits:Nat}:∀(l:List (Ob K))(i k:Nat),(ik bits i l)[k]?=(l[k]?).map fun o=>if bits.testBit (i+k)then .dead else o
 |[],i,k=>by simp[ik]
 |o::r,i,0=>by simp[ik]
 |o::r,i,k+1=>by
  simp only[ik,List.getElem?_cons_succ];rw[Ba r (i+1) k,show i+1+k=i+(k+1) by omega]
theorem Bc{bits:Nat}:∀(l:List (Ob K))(i:Nat),(ik bits i l).length=l.length
 |[],i=>rfl
 |o::r,i=>by simp only[ik,bQ,Bc r]
theorem FM{bits:Nat}:∀(l l':List (Ob K))(i:Nat),l.length<=l'.length->(ki bits i l l').length=l'.length
 |[],l',i,_=>by simp[ki]
 |o::r,[],i,h=>by simp at h
 |o::r,o'::r',i,h=>by
  simp only[ki,bQ];rw[FM r r' (i+1) (by simpa using h)]
theorem FN{bits:Nat}:∀(l l':List (Ob K))(i k:Nat),l.length<=l'.length->(ki bits i l l')[k]?=if k<l.length/\bits.testBit (i+k)=true then l[k]? else l'[k]?
 |[],l',i,k,_=>by simp[ki]
 |o::r,[],i,k,h=>by simp at h
 |o::r,o'::r',i,0,h=>by
  simp only[ki,List.getElem?_cons_zero,bQ,Nat.add_zero];by_cases hb:bits.testBit i=true<;>simp[hb]
 |o::r,o'::r',i,k+1,h=>by
  simp only[ki,List.getElem?_cons_succ,bQ,Nat.add_lt_add_iff_right];rw[FN r r' (i+1) k (by simpa using h),show i+1+k=i+(k+1) by omega]
theorem vv{n:Nat}:∀{l:List (AV K)}{i:Nat}{v:AV K},o8 n l=true->l[i]?=some v->v.upto n=true
 |[],i,v,_,h=>by simp at h
 |x::r,0,v,h,hv=>by simp at hv;subst hv;simp only[o8,aW]at h;exact h.1
 |x::r,i+1,v,h,hv=>by simp only[o8,aW]at h;exact vv h.2 (by simpa using hv)
theorem Rep.take(hD:bn D){n:Nat}{v:AV K}{x:Value}(h:Rep D ρ S w v x):v.upto n=true->Rep D (ρ.take n) S w v x:=by
 have tk:∀{k:Nat}{r:Value},k<n->ρ[k]?=some r->(ρ.take n)[k]?=some r:=fun hk hr=>by rw[cR,av hk];exact hr
 induction h with
 |any v=>exact fun _=>.any v
 |int k n=>exact fun _=>.int k n
 |bool b=>exact fun _=>.bool b
 |str s=>exact fun _=>.str s
 |da=>exact fun _=>.da
 |cD=>exact fun _=>.cD
 |fn hl _ ih=>exact fun hu=>.fn hl fun i v x h1 h2=>ih i v x h1 h2 (vv (by simpa [AV.upto]using hu) h1)
 |kP=>exact fun _=>.kP
 |np hp=>exact fun hu=>.np (tk (by simpa [AV.upto]using hu) hp)
 |ptr hp=>exact fun hu=>.ptr (tk (by simpa [AV.upto]using hu) hp)
 |sl hp=>exact fun hu=>.sl (tk (by simpa [AV.upto]using hu) hp)
 |ep hp hi=>exact fun hu=>.ep (tk (by simpa [AV.upto]using hu) hp) hi
 |vw hp h1 h2 ha=>exact fun hu=>.vw (tk (by simpa [AV.upto]using hu) hp) h1 h2 ha
 |dS a cap=>exact fun _=>.dS a cap
 |an val h1 h2 h3 h4 h5 ih=>exact fun _=>(Rep.an val h1 h2 h3 h4 h5).closed hD rfl
 |rp vs h1 h2 h3 h4 ih=>exact fun _=>(Rep.rp vs h1 h2 h3 h4).closed hD rfl
 |agg hl _ ih=>exact fun hu=>.agg hl fun i v x h1 h2=>ih i v x h1 h2 (vv (by simpa [AV.upto]using hu) h1)
 |aX hl _ ih=>exact fun hu=>.aX hl fun i v x h1 h2=>ih i v x h1 h2 (vv (by simpa [AV.upto]using hu) h1)
theorem aQ.alK(hD:bn D){n:Nat}{l:List (AV K)}{vs:List Value}(h:aQ D ρ S w l vs)(hu:o8 n l=true):aQ D (ρ.take n) S w l vs:=
 ⟨h.1,fun i v x h1 h2=>(h.2 i v x h1 h2).take hD (vv hu h1)⟩
def dummy:Value:=.bool false
theorem Rep.mono'(hS:∀b,S b->S' b)(hw:∀b,S b->w'.heap[b]?=w.heap[b]?)(hρ:∀(h:Nat) r,ρ[h]?=some r->r≠dummy->ρ'[h]?=some r){v:AV K}{x:Value}
 (h:Rep D ρ S w v x):Rep D ρ' S' w' v x:=by
 induction h with
 |any v=>exact .any v
 |int k n=>exact .int k n
 |bool b=>exact .bool b
 |str s=>exact .str s
 |da=>exact .da
 |cD=>exact .cD
 |fn hl _ ih=>exact .fn hl ih
 |kP=>exact .kP
 |np hp=>exact .np (hρ _ _ hp (by simp[dummy]))
 |ptr hp=>exact .ptr (hρ _ _ hp (by simp[dummy]))
 |sl hp=>exact .sl (hρ _ _ hp (by simp[dummy]))
 |ep hp hi=>exact .ep (hρ _ _ hp (by simp[dummy])) hi
 |vw hp h1 h2 ha=>exact .vw (hρ _ _ hp (by simp[dummy])) h1 h2 ha
 |dS a cap=>exact .dS a cap
 |an val h1 h2 h3 h4 _ ih=>exact .an val (hS _ h1) h2 h3 (fun i hi=>(h4 i hi).keep (hw _ h1)) ih
 |rp vs h1 h2 h3 _ ih=>exact .rp vs (hS _ h1) h2 (h3.keep (hw _ h1)) ih
 |agg hl _ ih=>exact .agg hl ih
 |aX hl _ ih=>exact .aX hl ih
theorem aQ.mono'(hS:∀b,S b->S' b)(hw:∀b,S b->w'.heap[b]?=w.heap[b]?)(hρ:∀(h:Nat) r,ρ[h]?=some r->r≠dummy->ρ'[h]?=some r){l:List (AV K)}{vs:List Value}
 (h:aQ D ρ S w l vs):aQ D ρ' S' w' l vs:=⟨h.1,fun i v x hv hx=>(h.2 i v x hv hx).mono' hS hw hρ⟩
theorem fc.take(hD:bn D){n:Nat}{o:Ob K}{r:Value}(h:fc D ρ S w o r)(hu:o.upto n=true):fc D (ρ.take n) S w o r:=by
 cases o with
 |dead=>trivial
 |fJ c l=>exact Rep.closed hD h rfl
 |box cs=>
  obtain⟨b,vs,T,h1,h2,h3,h4⟩:=h;exact⟨b,vs,T,h1,h2,h3.alK hD hu,h4⟩
 |arr c l=>
  rcases h with h|⟨b,o,cap,vs,T,fr,h1,h2,h3,h4,h5,h6⟩
  ·exact .inl h
  ·exact .inr ⟨b,o,cap,vs,T,fr,h1,h2,h3,h4,h5,fun i x hx=>(h6 i x hx).closed hD (hD.closed _ _)⟩
 |tree c l=>exact h
 |opn c l i off cs=>exact lO.keep (fun j v u hv hr=>hr.take hD (vv hu hv)) (fun _ _=>rfl) h
theorem fc.mono'(hS:∀b,S b->S' b)(hw:∀b,S b->w'.heap[b]?=w.heap[b]?)(hρ:∀(h:Nat) r,ρ[h]?=some r->r≠dummy->ρ'[h]?=some r){o:Ob K}{r:Value}(h:fc D ρ S w o r)
 (hb:∀b,o.live=true->bG D w o r b->w'.heap[b]?=w.heap[b]?):fc D ρ' S' w' o r:=by
 cases o with
 |dead=>trivial
 |fJ c l=>exact Rep.mono' hS hw hρ h
 |box cs=>
  obtain⟨b,vs,T,rfl,h2,h3,h4⟩:=h;exact⟨b,vs,T,rfl,by rw[hb b rfl rfl];exact h2,h3.mono' hS hw hρ,h4⟩
 |arr c l=>
  rcases h with h|⟨b,o,cap,vs,T,fr,rfl,h2,h3,h4,h5,h6⟩
  ·exact .inl h
  ·exact .inr ⟨b,o,cap,vs,T,fr,rfl,by rw[hb b rfl rfl];exact h2,h3,h4,h5,fun i x hx=>(h6 i x hx).mono' hS hw hρ⟩
 |tree c l=>exact Tree.mono h fun k hk=>hb k rfl hk
 |opn c l i off cs=>exact lO.keep (fun _ _ _ _ hr=>hr.mono' hS hw hρ) (fun k hk=>hb k rfl hk) h
structure View (n:Nat) (H Hv:List (Ob K)):Prop where
 len:Hv.length=n
 le:n<=H.length
 ob:∀(h:Nat) o,Hv[h]?=some o->o=.dead\/H[h]?=some o
 up:∀(h:Nat) o,Hv[h]?=some o->o.upto n=true
theorem View.lt{n:Nat}{H Hv:List (Ob K)}(v:View n H Hv){h:Nat}{o:Ob K}(ho:Hv[h]?=some o):h<n:=by
 have:=(bq.1 ho).1;rw[v.len]at this;exact this
theorem View.live{n:Nat}{H Hv:List (Ob K)}(v:View n H Hv){h:Nat}{o:Ob K}(ho:Hv[h]?=some o)(hl:o.live=true):H[h]?=some o:=by
 rcases v.ob h o ho with rfl|h
 ·cases hl
 ·exact h
theorem View.own{n:Nat}{H Hv:List (Ob K)}(v:View n H Hv){b:Nat}(h:Own D w (ρ.take n) Hv b):Own D w ρ H b:=by
 obtain⟨h,o,r,h1,h2,h3,h4⟩:=h;rw[cR,av (v.lt h1)]at h3;exact⟨h,o,r,v.live h1 h2,h2,h3,h4⟩
theorem aH.view(hD:bn D){n:Nat}{H Hv:List (Ob K)}(hs:aH D ρ S w H)(v:View n H Hv):aH D (ρ.take n) S w Hv:={
 len:=by rw[iV,hs.len,v.len];have:=v.le;omega
 ob:=fun h o r ho hr=>by
  rw[cR,av (v.lt ho)]at hr;rcases v.ob h o ho with rfl|h1
  ·trivial
  ·exact(hs.ob h o r h1 hr).take hD (v.up h o ho)
 dH:=fun h h' o o' r r' b h1 h2 h3 h4 h5 h6 h7 h8=>by
  rw[cR,av (v.lt h1)]at h3;rw[cR,av (v.lt h5)]at h7;exact hs.dH h h' o o' r r' b (v.live h1 h2) h2 h3 h4 (v.live h5 h6) h6 h7 h8
 lt:=fun b hb=>hs.lt b (v.own hb)
 slt:=hs.slt
 base:=hs.base}
structure Joined (n m:Nat) (H Hv H1 Hf:List (Ob K)):Prop where
 le:n<=m
 len1:H1.length=m
 len:Hf.length=H.length
 YU:m<=H.length
 ob:∀(h:Nat) o,Hf[h]?=some o->(h<m/\H1[h]?=some o)\/(H[h]?=some o/\((h<n/\Hv[h]?=some .dead)\/m<=h))
theorem YV{n m:Nat}{ρ ρ1:List Value}(hl:ρ1.length=m)(hm:m<=ρ.length)(k:Nat):(ρ1++ρ.drop m)[k]?=if k<m then ρ1[k]? else ρ[k]?:=by
 by_cases h:k<m
 ·rw[av h,cI (by omega)]
 ·rw[ak h,bL (by omega),eF];congr 1;omega
theorem aH.join{n m n0:Nat}{H Hv H1 Hf:List (Ob K)}{ρ1:List Value}{S1:Nat->Prop}{w1:World}(hs:aH D ρ S w H)(v:View n H Hv)(hs1:aH D ρ1 S1 w1 H1)(st:Step D n (ρ.take n) S Hv w ρ1 S1 H1 w1)(j:Joined n m H Hv H1 Hf)
 (hd:∀h,n<=h->h<m->ρ[h]?=some dummy) (hn0:n0<=n):aH D (ρ1++ρ.drop m) S1 w1 Hf/\Step D n0 ρ S H w (ρ1++ρ.drop m) S1 Hf w1/\∀(h:Nat) r,ρ[h]?=some r->r≠dummy->(ρ1++ρ.drop m)[h]?=some r:=by
 have hl1:ρ1.length=m:=by rw[hs1.len,j.len1]
 have alL:m<=ρ.length:=by rw[hs.len];exact j.YU
 have hρ:∀k,(ρ1++ρ.drop m)[k]?=if k<m then ρ1[k]? else ρ[k]?:=YV (n:=n) hl1 alL
 have hpre:∀h,h<n->ρ1[h]?=ρ[h]?:=fun h hh=>by rw[st.pre h hh,cR,av hh]
 have hmono:∀(h:Nat) r,ρ[h]?=some r->r≠dummy->(ρ1++ρ.drop m)[h]?=some r:=fun h r hr hne=>by
  rw[hρ];by_cases h1:h<m
  ·rw[av h1];by_cases h2:h<n
   ·rw[hpre h h2];exact hr
   ·rw[hd h (by omega) h1]at hr;exact absurd (fe hr).symm hne
  ·rw[ak h1];exact hr
 have hun:∀{h:Nat}{o:Ob K}{r:Value}{b:Nat},H[h]?=some o->o.live=true->ρ[h]?=some r->bG D w o r b->((h<n/\Hv[h]?=some .dead)\/m<=h)->¬Own D w (ρ.take n) Hv b:=fun{h o r b} h1 h2 h3 h4 h5 ho=>by
  obtain⟨h',o',r',g1,g2,g3,g4⟩:=ho;have g3':ρ[h']?=some r':=by rw[cR,av (v.lt g1)]at g3;exact g3
  have e:=hs.dH h h' o o' r r' b h1 h2 h3 h4 (v.live g1 g2) g2 g3' g4;subst e;rcases h5 with⟨-,h5⟩|h5
  ·rw[g1]at h5;simp at h5;subst h5;cases g2
  ·have:=v.lt g1;have:=j.le;omega
 have hblk:∀{h:Nat}{o:Ob K}{r:Value}{b:Nat},H[h]?=some o->o.live=true->ρ[h]?=some r->bG D w o r b->b<w.heap.size/\¬S b:=fun{h o r b} h1 h2 h3 h4=>hs.lt b ⟨h,o,r,h1,h2,h3,h4⟩
 have hkp:∀{h:Nat}{o:Ob K}{r:Value},H[h]?=some o->o.live=true->ρ[h]?=some r->((h<n/\Hv[h]?=some .dead)\/m<=h)->∀b,bG D w o r b->w1.heap[b]?=w.heap[b]?:=fun{h o r} h1 h2 h3 h5 b h4=>st.old b (hblk h1 h2 h3 h4).1 (hun h1 h2 h3 h4 h5)
 have hrr:∀{h:Nat}{o:Ob K}{r:Value},H[h]?=some o->((h<n/\Hv[h]?=some .dead)\/m<=h)->(ρ1++ρ.drop m)[h]?=some r->ρ[h]?=some r:=fun{h o r} _ h5 hr=>by
  rw[hρ]at hr;rcases h5 with⟨h5,-⟩|h5
  ·rw[av (by have:=j.le;omega),hpre h h5]at hr;exact hr
  ·rw[ak (by omega)]at hr;exact hr
 have hown:∀b,Own D w1 (ρ1++ρ.drop m) Hf b->Own D w1 ρ1 H1 b\/∃(h:Nat)(o:Ob K)(r:Value),H[h]?=some o/\o.live=true/\ρ[h]?=some r/\bG D w o r b/\((h<n/\Hv[h]?=some .dead)\/m<=h):=fun b hb=>by
  obtain⟨h,o,r,g1,g2,g3,g4⟩:=hb;rcases j.ob h o g1 with⟨k1,k2⟩|⟨k1,k2⟩
  ·rw[hρ,av k1]at g3;exact .inl ⟨h,o,r,k2,g2,g3,g4⟩
  ·exact .inr ⟨h,o,r,k1,g2,hrr k1 k2 g3,g4.old (hkp k1 g2 (hrr k1 k2 g3) k2),k2⟩
 have hnew:∀b,Own D w1 ρ1 H1 b->Own D w (ρ.take n) Hv b\/w.heap.size<=b:=st.own;refine⟨⟨?_,?_,?_,?_,hs1.slt,hs1.base⟩,⟨st.os,st.tape,st.output,st.size,fun b hb ho=>st.old b hb fun h=>ho (v.own h),fun b hb=>?_,st.s1,fun b hb=>?_,fun h hh=>?_⟩,hmono⟩
 ·rw[cL,List.length_drop,hl1,hs.len,j.len];have:=j.YU;omega
 ·intro h o r g1 g2;rcases j.ob h o g1 with⟨k1,k2⟩|⟨k1,k2⟩
  ·rw[hρ,av k1]at g2;refine(hs1.ob h o r k2 g2).mono' (fun _ h=>h) (fun _ _=>rfl) (fun h' r' hr' _=>?_) (fun _ _ _=>rfl);have:h'<m:=by have:=(bq.1 hr').1;omega
   rw[hρ,av this];exact hr'
  ·have g2':=hrr k1 k2 g2;exact(hs.ob h o r k1 g2').mono' st.s1 (fun b hb=>st.old b (hs.slt b hb) fun ho=>(hs.lt b (v.own ho)).2 hb) hmono fun b hl hbk=>st.old b (hblk k1 hl g2' hbk).1 (hun k1 hl g2' hbk k2)
 ·intro h h' o o' r r' b g1 g2 g3 g4 g5 g6 g7 g8;rcases j.ob h o g1 with⟨k1,k2⟩|⟨k1,k2⟩<;>rcases j.ob h' o' g5 with⟨l1,l2⟩|⟨l1,l2⟩
  ·rw[hρ,av k1]at g3;rw[hρ,av l1]at g7;exact hs1.dH h h' o o' r r' b k2 g2 g3 g4 l2 g6 g7 g8
  ·rw[hρ,av k1]at g3;have LJ:=hrr l1 l2 g7;have g8:=g8.old (hkp l1 g6 LJ l2);rcases hnew b ⟨h,o,r,k2,g2,g3,g4⟩with ho|ho
   ·exact absurd ho (hun l1 g6 LJ g8 l2)
   ·have:=(hblk l1 g6 LJ g8).1;omega
  ·rw[hρ,av l1]at g7;have g3':=hrr k1 k2 g3;have g4:=g4.old (hkp k1 g2 g3' k2);rcases hnew b ⟨h',o',r',l2,g6,g7,g8⟩with ho|ho
   ·exact absurd ho (hun k1 g2 g3' g4 k2)
   ·have:=(hblk k1 g2 g3' g4).1;omega
  ·exact hs.dH h h' o o' r r' b k1 g2 (hrr k1 k2 g3) (g4.old (hkp k1 g2 (hrr k1 k2 g3) k2)) l1 g6 (hrr l1 l2 g7) (g8.old (hkp l1 g6 (hrr l1 l2 g7) l2))
 ·intro b hb;rcases hown b hb with ho|⟨h,o,r,k1,k2,k3,k4,k5⟩
  ·exact hs1.lt b ho
  ·obtain⟨a1,a2⟩:=hblk k1 k2 k3 k4;refine⟨iy a1 st.size,fun hS=>?_⟩;rcases st.s2 b hS with h1|h1|h1
   ·exact a2 h1
   ·exact hun k1 k2 k3 k4 k5 h1
   ·omega
 ·rcases hown b hb with ho|⟨h,o,r,k1,k2,k3,k4,-⟩
  ·rcases hnew b ho with h1|h1
   ·exact .inl (v.own h1)
   ·exact .inr h1
  ·exact .inl ⟨h,o,r,k1,k2,k3,k4⟩
 ·rcases st.s2 b hb with h1|h1|h1
  ·exact .inl h1
  ·exact .inr (.inl (v.own h1))
  ·exact .inr (.inr h1)
 ·rw[hρ,av (by have:=j.le;omega),hpre h (by omega)]
end Go.V
namespace Go.V
open Go
variable {K :cJ}{H H':List (Ob K)}
def bA(T:List Nat)(H H':List (Ob K)):Prop:=H.length<=H'.length/\∀h,h<H.length->h∉T->H'[h]?=H[h]?
theorem bA.refl(T:List Nat)(H:List (Ob K)):bA T H H:=⟨bj _,fun _ _ _=>rfl⟩
theorem bA.app(T:List Nat)(H N:List (Ob K)):bA T H (H++N):=⟨by simp,fun h hh _=>cI hh⟩
theorem bA.trans{T:List Nat}{H H1 H2:List (Ob K)}(a:bA T H H1)(b:bA T H1 H2):bA T H H2:=
 ⟨fD a.1 b.1,fun h hh hn=>(b.2 h (iy hh a.1) hn).trans (a.2 h hh hn)⟩
theorem bA.set{T:List Nat}{H:List (Ob K)}{h:Nat}(o:Ob K)(hT:h∈T):bA T H (H.set h o):=
 ⟨by simp,fun k _ hn=>List.getElem?_set_ne (fun e=>hn (by rw[<-e];exact hT))⟩
theorem bA.more{T T':List Nat}{H H1:List (Ob K)}(a:bA T H H1)(h:∀x∈T,x∈T'):bA T' H H1:=⟨a.1,fun k hk hn=>a.2 k hk fun hm=>hn (h k hm)⟩
theorem LK(dp:K.U->Bool):∀(cs:List (Option K.U))(l:List (AV K))(H:List (Ob K)),∃N,(thaw dp H cs l).2=H++N
 |[],l,H=>⟨[],by simp[thaw]⟩
 |some c::cs,[],H=>⟨[],by simp[thaw]⟩
 |none::cs,[],H=>⟨[],by simp[thaw]⟩
 |oc::cs,v::r,H=>by
  have keep:thaw dp H (oc::cs) (v::r)=(v::(thaw dp H cs r).1,(thaw dp H cs r).2)->∃N,(thaw dp H (oc::cs) (v::r)).2=H++N:=fun e=>by
   rw[e];exact LK dp cs r H
  cases oc with
  |none=>exact keep (by cases v<;>rfl)
  |some c=>
   cases v with
   |cD=>
    have e:thaw dp H (some c::cs) (.cD::r)=(.sl H.length::(thaw dp (H++[mw (dp c) c]) cs r).1,(thaw dp (H++[mw (dp c) c]) cs r).2):=rfl;rw[e];obtain⟨N,hN⟩:=LK dp cs r (H++[mw (dp c) c]);exact⟨mw (dp c) c::N,by simp only;rw[hN];simp⟩
   |_=>exact keep rfl
theorem LL(T:List Nat)(dp:K.U->Bool)(cs:List (Option K.U))(l:List (AV K))(H:List (Ob K)):bA T H (thaw dp H cs l).2:=by
 obtain⟨N,hN⟩:=LK dp cs l H;rw[hN];exact bA.app _ _ _
theorem alM{T:List Nat}{h:Nat}(hT:h∈T)(H:List (Ob K)):bA T H (vh H h):=by
 unfold vh;split
 ·exact bA.set _ hT
 ·exact bA.set _ hT
 ·exact bA.refl _ _
theorem FO{T:List Nat}:∀(l:List Nat)(H:List (Ob K)),(∀x∈l,x∈T)->bA T H (iD H l)
 |[],H,_=>bA.refl _ _
 |h::r,H,hT=>(alM (hT h (by simp)) H).trans (FO r _ fun x hx=>hT x (by simp[hx]))
def nr(ev:Operand->AV K)(op:Op):List Nat:=(match op with
    |.store _ p _=>hands (ev p)
    |.call {callee:=.builtin .append,args, ..}=>(match args.toList with
      |s::x::_=>hands (ev s)++hands (ev x)
      |[s]=>hands (ev s)
      |[]=>[])
    |.call {callee:=.builtin .clear,args, ..}=>(match args.toList with
      |s::_=>hands (ev s)
      |[]=>[])
    |.call {callee:=.builtin .copy,args, ..}=>(match args.toList with
      |s::_=>hands (ev s)
      |[]=>[])
    |_=>[])
theorem alN{cx:Cx K}{sT:TypeId}{s x v:AV K}{c:Bool}{t:List Nat}(h:AW cx H sT s x=some (v,H',c,t)):bA (hands s) H H':=by
 unfold AW at h;split at h
 ·split at h
  ·split at h
   ·split at h
    ·split at h
     ·simp only[ar,aE]at h;rw[<-h.2.1];exact(bA.set _ (by simp[hands])).trans (bA.app _ _ _)
     ·cases h
    ·cases h
   ·cases h
  ·cases h
 ·cases h
theorem alO{cx:Cx K}{sT:TypeId}{s x v:AV K}{c:Bool}{t:List Nat}(h:FB cx H sT s x=some (v,H',c,t)):bA (hands s) H H':=by
 unfold FB at h;split at h
 ·cases h
 ·split at h
  ·cases h
  ·split at h
   ·split at h
    ·cases h
    ·split at h
     ·simp only[ar,aE]at h;rw[<-h.2.1];exact bA.app _ _ _
     ·split at h
      ·split at h
       ·cases h
       ·split at h
        ·simp only[ar,aE]at h;rw[<-h.2.1];exact(bA.set _ (by simp[hands])).trans (bA.app _ _ _)
        ·cases h
      ·split at h
       ·simp only[ar,aE]at h;rw[<-h.2.1];exact(bA.set _ (by simp[hands])).trans (bA.app _ _ _)
       ·cases h
     ·cases h
   ·cases h
theorem YW{cx:Cx K}{ev:Operand->AV K}{op:Op}{v:AV K}{c:Bool}{t:List Nat}(h:vj cx ev H op=some (v,H',c,t)):bA (nr ev op) H H':=by
 unfold vj at h;split at h
 ·split at h
  ·dsimp only at h;split at h
   ·cases h
   ·simp only[ar,aE]at h;rw[<-h.2.1];exact(LL _ _ _ _ _).trans (bA.app _ _ _)
  ·cases h
 ·split at h
  ·split at h
   ·dsimp only at h;split at h
    ·cases h
    ·simp only[ar,aE]at h;rw[<-h.2.1];exact(LL _ _ _ _ _).trans (bA.app _ _ _)
   ·cases h
  ·cases h
 ·split at h
  ·split at h
   ·simp only[dR,aE]at h;obtain⟨cs,-,-,rfl,-⟩:=h;exact bA.refl _ _
   ·cases h
  ·cases h
 ·split at h
  ·split at h
   ·split at h
    ·rename_i hh off hp;split at h
     ·split at h
      ·dsimp only at h;split at h
       ·cases h
       ·simp only[ar,aE]at h;rw[<-h.2.1];refine(LL _ _ _ _ _).trans (bA.set _ ?_);simp only[nr,hp,hands,uU]
      ·cases h
     ·cases h
    ·rename_i hh st i off hp;split at h
     ·split at h
      ·split at h
       ·simp only[ar,aE]at h;rw[<-h.2.1];refine bA.set _ ?_;simp only[nr,hp,hands,uU]
       ·cases h
      ·cases h
     ·cases h
    ·cases h
   ·cases h
  ·cases h
 ·split at h
  ·cases h
  ·split at h
   ·split at h
    ·split at h
     ·simp only[ar,aE]at h;rw[<-h.2.1];exact bA.app _ _ _
     ·cases h
    ·cases h
   ·cases h
 ·split at h
  ·cases h
  ·split at h
   ·split at h
    ·split at h
     ·simp only[ar,aE]at h;rw[<-h.2.1];exact bA.app _ _ _
     ·cases h
    ·cases h
   ·cases h
 ·split at h
  ·split at h
   ·split at h
    ·split at h
     ·simp only[ar,aE]at h;rw[<-h.2.1];exact bA.app _ _ _
     ·cases h
    ·cases h
   ·cases h
  ·cases h
 ·split at h
  ·rename_i s x sT xT ha ht;split at h
   ·cases h
   split at h
   ·refine(alN h).more fun y hy=>?_
    simp only[nr,ha];exact dK.2 (.inl hy)
   ·refine(alO h).more fun y hy=>?_
    simp only[nr,ha];exact dK.2 (.inl hy)
  ·cases h
 ·split at h
  ·rename_i x T ha ht;split at h
   ·rename_i h' st lo hi e hx he;split at h
    ·split at h
     ·split at h
      ·simp only[ar,aE]at h;rw[<-h.2.1];refine bA.set _ ?_;simp only[nr,ha,hx,hands,uU]
      ·cases h
     ·cases h
    ·cases h
   ·cases h
  ·cases h
 ·split at h
  ·rename_i x y T T2 ha ht;split at h
   ·rename_i h' st lo hi s e hx hy he;split at h
    ·split at h
     ·split at h
      ·simp only[ar,aE]at h;rw[<-h.2.1];refine bA.set _ ?_;simp only[nr,ha,hx,hands,uU]
      ·cases h
     ·cases h
    ·cases h
   ·cases h
  ·cases h
 ·cases h
mutual
theorem lS:∀(v:AV K){y:Nat},y∈hands (dD H v)->y∈hands v
 |.sl k,y,h=>by
   simp only[dD]at h;split at h
   ·simp[hands]at h
   ·exact h
 |.vw k a b c,y,h=>by
   simp only[dD]at h;split at h
   ·split at h
    ·simp[hands]at h
    ·exact h
   ·exact h
 |.agg l,y,h=>by simp only[dD,hands]at h⊢;exact LM l h
 |.aX l,y,h=>by simp only[dD,hands]at h⊢;exact LM l h
 |.any,y,h|.int _ _,y,h|.bool _,y,h|.str _,y,h|.da,y,h|.cD,y,h|.fn _ _,y,h|.ptr _ _,y,h|.ep _ _ _ _,y,h|.an _ _,y,h|.rp _ _ _,y,h|.np _,y,h|.opt _ _ _,y,h=>by simpa only[dD]using h
theorem LM:∀(l:List (AV K)){y:Nat},y∈bu (oY H l)->y∈bu l
 |[],y,h=>by simpa [oY]using h
 |v::r,y,h=>by
  simp only[oY,bu,dK]at h⊢;exact h.imp (lS v) (LM r)
end
theorem YX{ev:Operand->AV K}{op:Op}{y:Nat}(h:y∈nr (fun x=>dD H (ev x)) op):y∈nr ev op:=by
 unfold nr at h⊢;split at h
 ·exact lS _ h
 ·split at h
  ·rename_i hs;rcases dK.1 h with h|h
   ·exact dK.2 (.inl (lS _ h))
   ·exact dK.2 (.inr (lS _ h))
  ·exact lS _ h
  ·simp at h
 ·split at h
  ·exact lS _ h
  ·simp at h
 ·split at h
  ·exact lS _ h
  ·simp at h
 ·simp at h
theorem Bd{T:List Nat}:∀(l:List Nat)(H:List (Ob K)),(∀x∈l,x∈T)->bA T H (en H l)
 |[],H,_=>bA.refl _ _
 |h::r,H,hT=>(bA.set _ (hT h (by simp))).trans (Bd r _ fun x hx=>hT x (by simp[hx]))
theorem YY{c:K.U}{v:AV K}{l:List (K.El c)}{ks:List Nat}(h:qz H c v=some (l,ks)):∀x∈ks,x∈hands v:=fun x hx=>by
 unfold qz at h;split at h
 ·simp only[ar,aE]at h;obtain⟨rfl,rfl⟩:=h;cases hx
 ·split at h
  ·split at h
   ·simp only[ar,aE]at h;obtain⟨-,rfl⟩:=h;simpa [hands]using hx
   ·cases h
  ·cases h
 ·cases h
theorem YZ{ev:Operand->AV K}{x:Nat}:∀(l:List (Nat×Operand)),x∈bu (l.map fun p=>dD H (ev p.2))->x∈bu (l.map fun p=>ev p.2)
 |[],h=>h
 |y::r,h=>by
  simp only[fb,bu,dK]at h⊢;exact h.imp (lS _) (YZ r)
theorem Y0{v:AV K}{a b c d:Nat}(h:dD H v=.ep a b c d):v=.ep a b c d:=by
 cases v<;>simp[dD]at h⊢<;>first|exact h|(split at h<;>first|cases h|(split at h<;>cases h))
theorem alP{cx:Cx K}{ev:Operand->AV K}{op:Op}{v:AV K}{c:Bool}{t:List Nat}(h:yu cx (fun x=>dD H (ev x)) H op=some (v,H',c,t)):bA (jb ev op) H H':=by
 unfold yu at h;split at h
 ·split at h
  ·cases h
  ·split at h
   ·split at h
    ·split at h
     ·split at h
      ·simp only[ar,aE]at h;rw[<-h.2.1];exact bA.app _ _ _
      ·cases h
     ·cases h
    ·cases h
   ·cases h
 ·rename_i T len parts;split at h
  ·cases h
  ·split at h
   ·rename_i hty hl;split at h
    ·split at h
     ·split at h
      ·simp only[ar,aE]at h;rw[<-h.2.1];refine bA.trans (Bd _ _ fun x hx=>?_) (bA.app _ _ _);rw[(Fg _ _ _ hl).1]at hx;simp only[jb,kU,ma];exact YZ _ hx
      ·cases h
     ·cases h
    ·cases h
   ·cases h
 ·rename_i T p x;split at h
  ·rename_i h0 st i off n0 hp hn;split at h
   ·split at h
    ·split at h
     ·split at h
      ·simp only[ar,aE]at h;rw[<-h.2.1];have q1:=Y0 hp;have hmem:∀y∈h0::bu (dD H (ev x)).bo,y∈jb ev (.store T p x):=fun y hy=>by
        simp only[jb,kU,q1,dK];rcases dW.1 hy with rfl|hy
        ·exact .inr (by simp[hands])
        ·rw[KL]at hy;exact .inl (lS _ hy)
       exact(Bd _ _ hmem).trans (bA.set _ (hmem _ (by simp)))
      ·cases h
     ·cases h
    ·cases h
   ·split at h
    ·split at h
     ·split at h
      ·simp only[ar,aE]at h;rw[<-h.2.1];have q1:=Y0 hp;have hmem:∀y∈h0::bu (dD H (ev x)).bo,y∈jb ev (.store T p x):=fun y hy=>by
        simp only[jb,kU,q1,dK];rcases dW.1 hy with rfl|hy
        ·exact .inr (by simp[hands])
        ·rw[KL]at hy;exact .inl (lS _ hy)
       exact(Bd _ _ hmem).trans (bA.set _ (hmem _ (by simp)))
      ·cases h
     ·cases h
    ·cases h
   ·cases h
  ·cases h
 ·rename_i args argTypes;split at h
  ·rename_i s x sT xT hargs hat;split at h
   ·cases h
   ·split at h
    ·cases h
    ·split at h
     ·cases h
     ·split at h
      ·split at h
       ·rename_i l ks m ks' hl hm;split at h
        ·simp only[ar,aE]at h;rw[<-h.2.1];refine bA.trans (Bd _ _ fun y hy=>?_) (bA.app _ _ _);simp only[jb,kU,hargs,jB,dK];rcases dK.1 hy with hy|hy
         ·exact .inl (lS _ (YY hl y hy))
         ·exact .inr (lS _ (YY hm y hy))
        ·cases h
       ·cases h
      ·cases h
  ·cases h
 ·cases h
theorem alQ{cx:Cx K}{ev:Operand->AV K}{op:Op}{v:AV K}{c:Bool}{t:List Nat}(h:yw cx ev H op=some (v,H',c,t)):bA (jb ev op) H H':=by
 have e:jb ev op=kU ev op++nr ev op:=rfl;unfold yw at h;split at h
 ·rename_i r hd;simp only[ar]at h;subst h;exact alP hd
 split at h
 ·refine(YW h).more fun y hy=>?_
  rw[e,dK];exact .inr (YX hy)
 ·have hz:bA (jb ev op) H (iD H (kU ev op)):=FO _ _ fun x hx=>by rw[e,dK];exact .inl hx
  split at h
  ·simp only[ar,aE]at h;rw[<-h.2.1];exact hz
  ·refine hz.trans ((YW h).more fun y hy=>?_);rw[e,dK];exact .inr (YX hy)
theorem alR{cx:Cx K}{ev:Operand->AV K}{op:Op}{v:AV K}{c:Bool}{t:List Nat}(h:cutV cx ev H op=some (v,H',c,t)):bA (jb ev op) H H':=by
 unfold cutV at h;split at h
 ·split at h
  ·split at h
   ·rename_i hx hy he;split at h
    ·split at h
     ·simp only[ar,aE]at h;rw[<-h.2.1];refine bA.trans (bA.set _ ?_) (bA.app _ _ _);simp[jb,kU,hx]
     ·cases h
    ·split at h
     ·simp only[ar,aE]at h;rw[<-h.2.1];refine bA.trans (bA.set _ ?_) (bA.app _ _ _);simp[jb,kU,hx]
     ·cases h
    ·cases h
   ·cases h
  ·cases h
 ·split at h
  ·split at h
   ·rename_i hx hy he;split at h
    ·split at h
     ·simp only[ar,aE]at h;rw[<-h.2.1];refine bA.trans (bA.set _ ?_) (bA.app _ _ _);simp[jb,kU,hx]
     ·cases h
    ·split at h
     ·simp only[ar,aE]at h;rw[<-h.2.1];refine bA.trans (bA.set _ ?_) (bA.app _ _ _);simp[jb,kU,hx]
     ·cases h
    ·cases h
   ·cases h
  ·cases h
 ·cases h
theorem LN{cx:Cx K}{m:Mode}(hm:m=.ir\/m=.fresh){T:List Nat}{f:FuncId}{args:List (AV K)}{v:AV K}{c:Bool}{t:List Nat}(h:kR cx m H f args=some (v,H',c,t)):bA T H H':=by
 unfold kR at h;rcases hm with rfl|rfl
 ·simp only at h;split at h
  ·split at h
   ·split at h
    ·simp only[ar,aE]at h;rw[<-h.2.1];exact bA.app _ _ _
    ·cases h
   ·cases h
  ·cases h
 ·simp only at h;split at h
  ·split at h
   ·split at h
    ·split at h
     ·simp only[ar,aE]at h;rw[<-h.2.1];exact bA.app _ _ _
     ·cases h
    ·cases h
   ·cases h
  ·cases h
theorem Y1:∀(m:List Nat)(H os:List (Ob K)){T:List Nat},(∀x∈m,x∈T)->bA T H (i7 H m os)
 |[],H,os,T,_=>by cases os<;>exact bA.refl _ _
 |h::m,H,[],T,_=>bA.refl _ _
 |h::m,H,o::r,T,hm=>by
  simp only[i7];exact bA.trans (bA.set _ (hm h (by simp))) (Y1 m _ r fun x hx=>hm x (by simp[hx]))
theorem Y2{cx:Cx K}{T:List Nat}{f:FuncId}{args:List (AV K)}{v:AV K}{c:Bool}{t:List Nat}(h:kR cx .pass H f args=some (v,H',c,t))(hT:∀x∈reach H 64 (bu args) [],x∈T):bA T H H':=by
 unfold kR at h;simp only at h;split at h
 ·cases h
 ·split at h
  ·split at h
   ·split at h
    ·split at h
     ·simp only[ar,aE]at h;rw[<-h.2.1];exact bA.trans (Y1 _ _ _ hT) (bA.app _ _ _)
     ·cases h
    ·cases h
   ·cases h
  ·cases h
theorem alS{cx:Cx K}{ev:Operand->AV K}{t:TypeId}{p:Operand}{v:AV K}{c:Bool}{ts:List Nat}(h:yx cx ev H (.load t p)=some (v,H',c,ts)):bA (hands (ev p)) H H':=by
 unfold yx at h;simp only at h;split at h
 ·split at h
  ·rename_i hh st i off ag n hp hag hn;split at h
   ·split at h
    ·split at h
     ·simp only[ar,aE]at h;rw[<-h.2.1,hp];exact(bA.set _ (by simp[hands])).trans (bA.app _ _ _)
     ·cases h
    ·cases h
   ·cases h
  ·cases h
 ·cases h
theorem alT{cx:Cx K}{tm:List (AV K)}{T t:TypeId}{p:Operand}{v:AV K}{c:Bool}{ts:List Nat}(hn:iE cx (.load t p)=false)(h:kV false cx tm [] H T (.load t p)=some (v,H',c,ts)):
 bA (match vi cx (fun x=>dD H (c9 tm [] x)) H (.load t p)with
  |some _=>[]
  |none=>hands (c9 tm [] p)) H H':=by
 unfold kV at h;simp only at h;split at h
 ·rename_i v1 c1 hp;rw[hp];simp only[ar,aE]at h;rw[<-h.2.1];exact bA.refl _ _
 ·rename_i hp;rw[hp];simp only[j9,eN,hn]at h;split at h
  ·rename_i hov;simp only[ar]at h;rw[h]at hov;exact alS hov
  ·split at h
   ·rename_i hct;simp[cutV]at hct
   ·simp[yw,yu,kU,vj]at h
theorem alU{cx:Cx K}{tm:List (AV K)}{gs:List (Nat×Bool)}{T:TypeId}{op:Op}{v:AV K}{c:Bool}{t:List Nat}(he:sL cx op=true)(hnl:∀a b,op≠.load a b)(h:kV false cx tm gs H T op=some (v,H',c,t)):bA ((jb (c9 tm gs) op++Ld (c9 tm gs) op)++yE cx H (c9 tm gs) op) H H':=by
 unfold kV at h;split at h
 ·simp[sL]at he
 ·rename_i fo args _;cases fo with
  |func f=>
   have hf:(cx.mode f=.fresh\/(cx.mode f=.pass\/cx.mode f=.cX))/\(cx.opn=false\/cx.lz=true):=by simpa [sL]using he
   have LP:(cx.opn&& !cx.lz&& !false)=false:=by rcases hf.2 with e|e<;>simp[e]
   have e:c9 tm gs (.func f)=(.fn f []:AV K):=rfl;rw[e]at h;simp only[yz,LP,j9,eN,ma]at h
   replace hf:=hf.1
   rcases hf with hf|hf|hf
   rotate_left
   ·simp only[qu,hf,j9,eN]at h;refine Y2 h fun x hx=>dK.2 (.inr ?_)
    simp only[yE,hf];exact hx
   ·simp only[qu,hf,j9,eN,u9]at h;refine bA.trans (FO _ _ fun x hx=>dK.2 (.inr ?_)) (Y2 h fun x hx=>dK.2 (.inr ?_))
    ·simp only[yE,hf];exact dK.2 (.inl hx)
    ·simp only[yE,hf];exact dK.2 (.inr hx)
   simp only[qu,hf,j9,eN]at h;split at h
   ·rename_i hc;simp only[ar]at h;rw[h]at hc;exact LN (.inl rfl) hc
   ·split at h
    ·rename_i hc;simp only[ar]at h;rw[h]at hc;exact LN (.inr rfl) hc
    ·unfold u9 at h;refine bA.trans (FO _ _ fun x hx=>?_) (LN (.inl rfl) h);refine dK.2 (.inl (dK.2 (.inr ?_)));have key:∀l:List Operand,x∈bu (l.map fun y=>dD H (c9 tm gs y))->x∈bu (l.map (c9 tm gs)):=fun l=>by
      induction l with
      |nil=>exact fun h=>h
      |cons y r ih=>
       simp only[fb,bu,dK];exact fun h=>h.imp (lS _) ih
     exact key _ hx
  |_=>simp[sL]at he
 ·simp[sL]at he
 ·split at h
  ·simp only[ar,aE]at h;rw[<-h.2.1];exact bA.refl _ _
  ·rw[ak (by simp)]at h;split at h
   ·cases h
   ·split at h
    ·rename_i hov;exfalso;unfold yx at hov;split at hov
     ·exact hnl _ _ rfl
     ·cases hov
    split at h
    ·rename_i hct;simp only[ar]at h;rw[h]at hct;exact(alR hct).more fun x hx=>dK.2 (.inl (dK.2 (.inl hx)))
    ·exact(alQ h).more fun x hx=>dK.2 (.inl (dK.2 (.inl hx)))
theorem Y3:∀(l:List Nat)(h:Nat),(bitsOf l).testBit h=true↔h∈l
 |[],h=>by simp[bitsOf]
 |k::r,h=>by
  simp only[bitsOf,yA,iW,Y3 r,Nat.testBit_two_pow,bm,dW];exact⟨fun h=>h.imp Eq.symm id,fun h=>h.imp Eq.symm id⟩
theorem Y4{A:Nat}:∀(ws:List Nat)(i h:Nat),(yG A i ws).testBit h=true↔∃(k:Nat)(b:Nat),ws[k]?=some b/\A.testBit (i+k)=false/\b.testBit h=true
 |[],i,h=>by simp[yG]
 |b::r,i,h=>by
  simp only[yG,yA,iW,Y4 r];constructor
  ·rintro (h1|⟨k,b',h1,h2,h3⟩)
   ·split at h1
    ·simp at h1
    ·rename_i hA;exact⟨0,b,rfl,by simpa using hA,h1⟩
   ·exact⟨k+1,b',by simpa using h1,by rw[show i+(k+1)=i+1+k by omega];exact h2,h3⟩
  ·rintro ⟨k,b',h1,h2,h3⟩
   cases k with
   |zero=>simp at h1;subst h1;left;rw[ak (by simpa using h2)];exact h3
   |succ k=>exact .inr ⟨k,b',by simpa using h1,by rw[show i+1+k=i+(k+1) by omega];exact h2,h3⟩
theorem Y5{A:Nat}{T:List Nat}:∀(ms:List (Nat×Nat))(i:Nat),FC A T i ms=true->∀(k m n:Nat),ms[k]?=some (m,n)->A.testBit (i+k)=false->∀h∈T,h<n->m.testBit h=true
 |[],i,_,k,m,n,h,_=>by simp at h
 |(m0,n0)::r,i,hr,k,m,n,hk,hA=>by
  simp only[FC,aW,iW,fg,bm]at hr;cases k with
  |zero=>
   simp at hk;obtain⟨rfl,rfl⟩:=hk;intro h hT hn;rcases hr.1 with h1|h1
   ·rw[Nat.add_zero]at hA;rw[hA]at h1;cases h1
   ·rcases h1 h hT with h2|h2
    ·omega
    ·exact h2
  |succ k=>exact Y5 r (i+1) hr.2 k m n (by simpa using hk) (by rw[show i+1+k=i+(k+1) by omega];exact hA)
end Go.V
namespace Go.V
open Go
variable {K :cJ}{H H':List (Ob K)}
theorem Y6{cx:Cx K}{tm:List (AV K)}{T:TypeId}{op:Op}{v:AV K}{c:Bool}{t:List Nat}(he:sL cx op=true)(hq:nj cx op=false)(h:kV false cx tm [] H T op=some (v,H',c,t)):bA (o9 cx tm H op) H H':=by
 by_cases hl:∃a b,op=.load a b
 ·obtain⟨a,b,rfl⟩:=hl;have:o9 cx tm H (.load a b)=(match vi cx (fun x=>dD H (c9 tm [] x)) H (.load a b)with
   |some _=>[]
   |none=>hands (c9 tm [] b)):=by unfold o9;rw[hq];rfl
  rw[this];exact alT hq h
 ·have:o9 cx tm H op=(jb (c9 tm []) op++Ld (c9 tm []) op)++yE cx H (c9 tm []) op:=by
   unfold o9;rw[hq];simp only[j9,eN];split
   ·rename_i a b;exact absurd ⟨a,b,rfl⟩ hl
   ·rfl
  rw[this];exact alU he (fun a b e=>hl ⟨a,b,e⟩) h
theorem alV{cx:Cx K}{ops:List Oper}{tm:List (AV K)}{wr:List Nat}{o:Oper}{v:AV K}{c:Bool}(h:yF cx ops tm H wr o=some (v,H',c)):bA (o9 cx tm H o.op) H H':=by
 unfold yF at h;split at h
 ·rename_i hq;have:H'=H:=by
   unfold ij at h;split at h
   ·cases h
   ·split at h
    ·rename_i hy;split at h
     ·cases h
     ·simp only[ar,aE]at h;obtain⟨-,rfl,-⟩:=h;exact yJ hy
    ·cases h
   ·split at h
    ·split at h
     ·split at h
      ·split at h
       ·rename_i hy;split at h
        ·cases h
        ·simp only[ar,aE]at h;obtain⟨-,rfl,-⟩:=h;exact yJ hy
       ·cases h
      ·simp only[ar,aE]at h;exact h.2.1.symm
     ·cases h
    split at h
    ·cases h
    ·split at h
     ·split at h
      ·simp only[ar,aE]at h;exact h.2.1.symm
      ·cases h
     ·cases h
  subst this;exact bA.refl _ _
 ·rename_i hq;split at h
  ·rename_i he;have hq':nj cx o.op=false:=by simpa using hq
   unfold ij at h;split at h
   ·cases h
   ·split at h
    ·rename_i hy;split at h
     ·cases h
     ·simp only[ar,aE]at h;obtain⟨-,rfl,-⟩:=h;exact Y6 he hq' hy
    ·cases h
   ·split at h
    ·split at h
     ·split at h
      ·split at h
       ·rename_i hy;split at h
        ·cases h
        ·simp only[ar,aE]at h;obtain⟨-,rfl,-⟩:=h;exact Y6 he hq' hy
       ·cases h
      ·simp only[ar,aE]at h;rw[<-h.2.1];exact bA.refl _ _
     ·cases h
    split at h
    ·cases h
    ·split at h
     ·split at h
      ·simp only[ar,aE]at h;rw[<-h.2.1];exact bA.refl _ _
      ·cases h
     ·cases h
  ·cases h
structure km (K:cJ) where
 vals:Nat->AV K
 hin:Nat->List (Ob K)
 hout:Nat->List (Ob K)
 mask:Nat->Nat
 T:Nat->List Nat
def km.W(F:km K)(k h:Nat):Prop:=h∈F.T k\/((F.hin k).length<=h/\h<(F.hout k).length)
structure yM (cx:Cx K) (L:List Oper) (bs:List Nat) (bD:List (AV K)) (F:km K) (i:Nat) (o:Oper) (cF:List (AV K)) (dt:List Nat):Prop where
 slot:yF cx L (dN (eg bs i) L 0 cF) (ik (F.mask i) 0 (F.hin i)) dt o=some (F.vals i,F.hout i,true)
 up:o8 (F.hin i).length (dN (eg bs i) L 0 cF)=true
 FP:(ik (F.mask i) 0 (F.hin i)).all (Ob.upto (F.hin i).length)=true
 turns:bA (F.T i) (ik (F.mask i) 0 (F.hin i)) (F.hout i)
 len:cF.length=bD.length
 fin:∀(k:Nat) o' d,L[k]?=some o'->o'.dst=some d->k<i->cF[d]?=some (F.vals k)
 rest:∀t,(∀(k:Nat) o,k<i->L[k]?=some o->o.dst≠some t)->cF[t]?=bD[t]?
 dt:∀d∈dt,∃(k:Nat)(o':Oper),k<i/\L[k]?=some o'/\o'.dst=some d
structure fA (cx:Cx K) (L:List Oper) (bs:List Nat) (H0:List (Ob K)) (bD:List (AV K)) (F:km K) (n:Nat) (tm:List (AV K)) (H:List (Ob K)) (wr:List Nat) (ms:List (Nat×Nat)) (ws:List Nat):Prop where
 len:tm.length=bD.length
 uniq:∀(i j:Nat) o o' d,i<n->j<n->L[i]?=some o->L[j]?=some o'->o.dst=some d->o'.dst=some d->i=j
 inb:∀(i:Nat) o d,i<n->L[i]?=some o->o.dst=some d->d<bD.length
 fin:∀(i:Nat) o d,i<n->L[i]?=some o->o.dst=some d->tm[d]?=some (F.vals i)
 rest:∀t,(∀(k:Nat) o,k<n->L[k]?=some o->o.dst≠some t)->tm[t]?=bD[t]?
 mq:∀d,d∈wr↔∃(k:Nat)(o':Oper),k<n/\L[k]?=some o'/\o'.dst=some d
 slot:∀(i:Nat) o,i<n->L[i]?=some o->∃cF dt,yM cx L bs bD F i o cF dt
 h0:F.hin 0=H0
 hn:F.hin n=H
 hs:∀i,i<n->F.hin (i+1)=ki (F.mask i) 0 (F.hin i) (F.hout i)/\(F.hin i).length<=(F.hout i).length
 Be:ms.length=n
 Bf:ws.length=n
 ms:∀i,i<n->ms[i]?=some (F.mask i,(F.hin i).length)
 ws:∀i,i<n->∃b,ws[i]?=some b/\∀h,b.testBit h=true↔F.W i h
 masks:∀i,i<n->∀h,(∃k,k<i/\(bs.getD i 0).testBit k=false/\F.W k h)->(F.mask i).testBit h=true
 clear:∀k,k<n->∀h∈F.T k,(F.mask k).testBit h=false/\h<(F.hin k).length
 readers:∀k,k<n->∀i,i<k->(bs.getD k 0).testBit i=false->∀h∈F.T k,h<(F.hin i).length->(F.mask i).testBit h=true
theorem Ly{cx:Cx K}{L:List Oper}{bs:List Nat}:∀(l:List Oper)(i:Nat)(st st':St K)(wr wr':List Nat)(ms:List (Nat×Nat))(ws:List Nat),qE cx L bs l i st wr ms ws=some (st',wr')->st'.ok=true->st.ok=true
 |[],i,st,st',wr,wr',ms,ws,h,hok=>by simp only[qE,ar,aE]at h;rw[h.1];exact hok
 |o::r,i,st,st',wr,wr',ms,ws,h,hok=>by
  simp only[qE]at h;split at h
  ·split at h
   ·cases h
   ·split at h
    ·split at h
     ·rename_i st1 gZ hp;obtain⟨p1,p2,-⟩:=qG hp;have q1:=Ly r (i+1) st1 st' gZ wr' _ _ h hok;rw[p2]at q1;simp only[aW]at q1;exact q1.2
     ·cases h
    ·cases h
  ·cases h
theorem Y7{cx:Cx K}{L:List Oper}{bs:List Nat}{H0:List (Ob K)}{bD:List (AV K)}:∀(l:List Oper)(n:Nat)(st st':St K)(wr wr':List Nat)(ms:List (Nat×Nat))(ws:List Nat)(F:km K),qE cx L bs l n st wr ms ws=some (st',wr')->st'.ok=true->
 (∀j,l[j]?=L[n+j]?)->n+l.length=L.length->fA cx L bs H0 bD F n st.tm st.H wr ms ws->∃F' ms' ws',fA cx L bs H0 bD F' L.length st'.tm st'.H wr' ms' ws'
 |[],n,st,st',wr,wr',ms,ws,F,h,hok,hl,hn,hp=>by
   simp only[qE,ar,aE]at h;obtain⟨rfl,rfl⟩:=h;simp at hn;subst hn;exact⟨F,ms,ws,hp⟩
 |o::r,n,st,st',wr,wr',ms,ws,F,h,hok,hl,hn,hp=>by
  have hLn:L[n]?=some o:=by have:=hl 0;simpa using this.symm
  simp only[qE]at h;split at h
  ·rename_i hup;simp only[aW]at hup;split at h
   ·cases h
   ·rename_i v H1 c hsv;split at h
    ·rename_i hrd;simp only[aW,bm]at hrd;split at h
     ·rename_i st1 gZ hput;obtain⟨p1,p2,p3⟩:=qG hput;have hok1:=Ly r (n+1) st1 st' gZ wr' _ _ h hok;rw[p2]at hok1;simp only[aW]at hok1;obtain⟨rfl,-⟩:=hok1;have alW:=hp.hn
      let mk:=qD bs ws n (dN (eg bs n) L 0 st.tm) st.H.length o.op
      let TT:=o9 cx (dN (eg bs n) L 0 st.tm) (ik mk 0 st.H) o.op
      let F':km K:={vals:=fun i=>if i=n then v else F.vals i,hin:=fun i=>if i=n+1 then ki mk 0 st.H H1 else F.hin i,hout:=fun i=>if i=n then H1 else F.hout i,mask:=fun i=>if i=n then mk else F.mask i,T:=fun i=>if i=n then TT else F.T i}
      have ev:∀i,i<n->F'.vals i=F.vals i:=fun i hi=>by simp[F',show i≠n by omega]
      have eh:∀i,i<=n->F'.hin i=F.hin i:=fun i hi=>by simp[F',show i≠n+1 by omega]
      have eo:∀i,i<n->F'.hout i=F.hout i:=fun i hi=>by simp[F',show i≠n by omega]
      have em:∀i,i<n->F'.mask i=F.mask i:=fun i hi=>by simp[F',show i≠n by omega]
      have eT:∀i,i<n->F'.T i=F.T i:=fun i hi=>by simp[F',show i≠n by omega]
      have nv:F'.vals n=v:=by simp[F']
      have nh:F'.hin n=st.H:=by rw[eh n (bj _)];exact alW
      have Y8:F'.hin (n+1)=ki mk 0 st.H H1:=by simp[F']
      have no:F'.hout n=H1:=by simp[F']
      have nm:F'.mask n=mk:=by simp[F']
      have nT:F'.T n=TT:=by simp[F']
      have eW:∀i,i<n->∀h,F'.W i h↔F.W i h:=fun i hi h=>by unfold km.W;rw[eT i hi,eh i (by omega),eo i hi]
      have Lp:yM cx L bs bD F' n o st.tm wr:=
       {slot:=by rw[nv,no,nm,nh];exact hsv
        up:=by rw[nh];exact hup.1
        FP:=by rw[nm,nh];exact hup.2
        turns:=by rw[nT,nm,nh,no];exact alV hsv
        len:=hp.len
        fin:=fun k o' d h1 h2 h3=>by rw[ev k h3];exact hp.fin k o' d h3 h1 h2
        rest:=fun t ht=>hp.rest t fun k o' hk h1=>ht k o' hk h1
        dt:=fun d hd=>(hp.mq d).1 hd}
      have sR:∀(i:Nat) o1,i<n+1->L[i]?=some o1->∃cF dt,yM cx L bs bD F' i o1 cF dt:=fun i o1 hi ho1=>by
       by_cases hin:i=n
       ·subst hin;rw[hLn]at ho1;simp at ho1;subst ho1;exact⟨_,_,Lp⟩
       ·have hlt:i<n:=by omega
        obtain⟨cF,dt,a⟩:=hp.slot i o1 hlt ho1;exact⟨cF,dt,{slot:=by rw[ev i hlt,eo i hlt,em i hlt,eh i (by omega)];exact a.slot,up:=by rw[eh i (by omega)];exact a.up,FP:=by rw[em i hlt,eh i (by omega)];exact a.FP,turns:=by rw[eT i hlt,em i hlt,eh i (by omega),eo i hlt];exact a.turns,len:=a.len,fin:=fun k o' d h1 h2 h3=>by rw[ev k (by omega)];exact a.fin k o' d h1 h2 h3,rest:=a.rest,dt:=a.dt}⟩
      have hmk:∀h,(∃k,k<n/\(bs.getD n 0).testBit k=false/\F'.W k h)->mk.testBit h=true:=fun h=>by
       rintro ⟨k,hk,h2,h3⟩
       rw[show mk=yG (bs.getD n 0) 0 ws|||Yr (dN (eg bs n) L 0 st.tm) st.H.length o.op from rfl,yA,iW];refine .inl ?_;rw[Y4];obtain⟨b',g1,g2⟩:=hp.ws k hk;exact⟨k,b',g1,by simpa using h2,(g2 h).2 ((eW k hk h).1 h3)⟩
      have base:fA cx L bs H0 bD F' (n+1) st1.tm st1.H gZ (ms++[(mk,st.H.length)]) (ws++[bitsOf (TT++List.range' st.H.length (H1.length-st.H.length))]):=by
       have c1:F'.hin 0=H0:=by rw[eh 0 (by omega)];exact hp.h0
       have c2:F'.hin (n+1)=st1.H:=by rw[Y8,p1]
       have c3:∀i,i<n+1->F'.hin (i+1)=ki (F'.mask i) 0 (F'.hin i) (F'.hout i)/\(F'.hin i).length<=(F'.hout i).length:=fun i hi=>by
        by_cases hin:i=n
        ·subst hin;rw[Y8,nm,nh,no];exact⟨rfl,hrd.2⟩
        ·have hlt:i<n:=by omega
         rw[eh (i+1) (by omega),em i hlt,eh i (by omega),eo i hlt];exact hp.hs i hlt
       have c4:∀i,i<n+1->(ms++[(mk,st.H.length)])[i]?=some (F'.mask i,(F'.hin i).length):=fun i hi=>by
        by_cases hin:i=n
        ·subst hin;rw[nm,nh,bL (by rw[hp.Be];exact bj _),hp.Be];simp
        ·have hlt:i<n:=by omega
         rw[em i hlt,eh i (by omega),cI (by rw[hp.Be];exact hlt)];exact hp.ms i hlt
       have c5:∀i,i<n+1->∃b,(ws++[bitsOf (TT++List.range' st.H.length (H1.length-st.H.length))])[i]?=some b/\∀h,b.testBit h=true↔F'.W i h:=fun i hi=>by
        by_cases hin:i=n
        ·subst hin;refine⟨bitsOf (TT++List.range' st.H.length (H1.length-st.H.length)),by rw[bL (by rw[hp.Bf];exact bj _),hp.Bf];simp,fun h=>?_⟩;rw[Y3,dK];unfold km.W;rw[nT,nh,no,List.mem_range'];constructor
         ·rintro (h1|⟨j,h1,h2⟩)
          ·exact .inl h1
          ·exact .inr (by omega)
         ·rintro (h1|⟨h1,h2⟩)
          ·exact .inl h1
          ·exact .inr ⟨h-st.H.length,by omega,by omega⟩
        ·have hlt:i<n:=by omega
         obtain⟨b,g1,g2⟩:=hp.ws i hlt;exact⟨b,by rw[cI (by rw[hp.Bf];exact hlt)];exact g1,fun h=>(g2 h).trans (eW i hlt h).symm⟩
       have c6:∀i,i<n+1->∀h,(∃k,k<i/\(bs.getD i 0).testBit k=false/\F'.W k h)->(F'.mask i).testBit h=true:=fun i hi hh=>by
        by_cases hin:i=n
        ·subst hin;rw[nm];exact hmk hh
        ·have hlt:i<n:=by omega
         rw[em i hlt];exact fun⟨k,h1,h2,h3⟩=>hp.masks i hlt hh ⟨k,h1,h2,(eW k (by omega) hh).1 h3⟩
       have c7:∀k,k<n+1->∀i,i<k->(bs.getD k 0).testBit i=false->∀h∈F'.T k,h<(F'.hin i).length->(F'.mask i).testBit h=true:=fun k hk i hik hA hh hT hlt=>by
        rw[eh i (by omega)]at hlt;rw[em i (by omega)];by_cases hkn:k=n
        ·subst hkn;rw[nT]at hT;exact Y5 ms 0 hrd.1.1 i _ _ (hp.ms i hik) (by simpa using hA) hh hT hlt
        ·rw[eT k (by omega)]at hT;exact hp.readers k (by omega) i hik hA hh hT hlt
       have c8:∀k,k<n+1->∀h∈F'.T k,(F'.mask k).testBit h=false/\h<(F'.hin k).length:=fun k hk hh hT=>by
        by_cases hkn:k=n
        ·subst hkn;rw[nT]at hT;rw[nm,nh];have:=hrd.1.2;rw[fg]at this;have h2:=this hh hT;rw[aW,ib,bm]at h2;exact h2
        ·rw[eT k (by omega)]at hT;rw[em k (by omega),eh k (by omega)];exact hp.clear k (by omega) hh hT
       rcases p3 with⟨e1,e2,e3⟩|⟨d,e1,e2,e3,e4,e5⟩
       ·refine⟨by rw[e2];exact hp.len,fun i j o1 o2 d hi hj h1 h2 h3 h4=>?_,fun i o1 d hi h1 h2=>?_,fun i o1 d hi h1 h2=>?_,fun t ht=>by rw[e2];exact hp.rest t fun k o' hk=>ht k o' (by omega),fun d=>?_,sR,c1,c2,c3,by simp[hp.Be],by simp[hp.Bf],c4,c5,c6,c8,c7⟩
        ·have hin:i≠n:=fun e=>by subst e;rw[hLn]at h1;simp at h1;subst h1;rw[e1]at h3;cases h3
         have hjn:j≠n:=fun e=>by subst e;rw[hLn]at h2;simp at h2;subst h2;rw[e1]at h4;cases h4
         exact hp.uniq i j o1 o2 d (by omega) (by omega) h1 h2 h3 h4
        ·have hin:i≠n:=fun e=>by subst e;rw[hLn]at h1;simp at h1;subst h1;rw[e1]at h2;cases h2
         exact hp.inb i o1 d (by omega) h1 h2
        ·have hin:i≠n:=fun e=>by subst e;rw[hLn]at h1;simp at h1;subst h1;rw[e1]at h2;cases h2
         rw[e2,ev i (by omega)];exact hp.fin i o1 d (by omega) h1 h2
        ·rw[e3,hp.mq d];constructor
         ·rintro ⟨k,o',hk,h1,h2⟩;exact⟨k,o',by omega,h1,h2⟩
         ·rintro ⟨k,o',hk,h1,h2⟩
          have hkn:k≠n:=fun e=>by subst e;rw[hLn]at h1;simp at h1;subst h1;rw[e1]at h2;cases h2
          exact⟨k,o',by omega,h1,h2⟩
       ·have hnew:∀(k:Nat) o',k<n->L[k]?=some o'->o'.dst≠some d:=fun k o' hk h1 h2=>e2 ((hp.mq d).2 ⟨k,o',hk,h1,h2⟩)
        have hdn:∀{o1:Oper}{d1:Nat},L[n]?=some o1->o1.dst=some d1->d1=d:=fun{o1 d1} h1 h2=>by rw[hLn]at h1;simp at h1;subst h1;rw[e1]at h2;simpa using h2.symm
        refine⟨by rw[e4];simp[hp.len],fun i j o1 o2 d1 hi hj h1 h2 h3 h4=>?_,fun i o1 d1 hi h1 h2=>?_,fun i o1 d1 hi h1 h2=>?_,fun t ht=>?_,fun d1=>?_,sR,c1,c2,c3,by simp[hp.Be],by simp[hp.Bf],c4,c5,c6,c8,c7⟩
        ·by_cases hin:i=n<;>by_cases hjn:j=n
         ·omega
         ·subst hin;have:=hdn h1 h3;subst this;exact absurd h4 (hnew j o2 (by omega) h2)
         ·subst hjn;have:=hdn h2 h4;subst this;exact absurd h3 (hnew i o1 (by omega) h1)
         ·exact hp.uniq i j o1 o2 d1 (by omega) (by omega) h1 h2 h3 h4
        ·by_cases hin:i=n
         ·subst hin;have:=hdn h1 h2;subst this;rw[<-hp.len];exact e3
         ·exact hp.inb i o1 d1 (by omega) h1 h2
        ·rw[e4];by_cases hin:i=n
         ·subst hin;have:=hdn h1 h2;subst this;rw[gp,av rfl,av e3,nv]
         ·have hne:d1≠d:=fun e=>by subst e;exact hnew i o1 (by omega) h1 h2
          rw[gp,ak (oW hne),ev i (by omega)];exact hp.fin i o1 d1 (by omega) h1 h2
        ·have hne:d≠t:=fun e=>by subst e;exact ht n o (by omega) hLn e1
         rw[e4,gp,ak hne];exact hp.rest t fun k o' hk=>ht k o' (by omega)
        ·rw[e5,dW,hp.mq d1];constructor
         ·rintro (rfl|⟨k,o',hk,h1,h2⟩)
          ·exact⟨n,o,by omega,hLn,e1⟩
          ·exact⟨k,o',by omega,h1,h2⟩
         ·rintro ⟨k,o',hk,h1,h2⟩
          by_cases hkn:k=n
          ·subst hkn;exact .inl (hdn h1 h2)
          ·exact .inr ⟨k,o',by omega,h1,h2⟩
      exact Y7 r (n+1) st1 st' gZ wr' _ _ F' h hok (fun j=>by have:=hl (j+1);simp only[List.getElem?_cons_succ]at this;rw[this];congr 1;omega) (by simp at hn;omega) base
     ·cases h
    ·cases h
  ·cases h
theorem alv{cx:Cx K}{L:List Oper}{bs:List Nat}{st st':St K}{wr':List Nat}(h:qE cx L bs L 0 st [] [] []=some (st',wr'))(hok:st'.ok=true):
 ∃F ms ws,fA cx L bs st.H st.tm F L.length st'.tm st'.H wr' ms ws:=
 Y7 (bD:=st.tm) (H0:=st.H) L 0 st st' [] wr' [] [] {vals:=fun _=>.any,hin:=fun _=>st.H,hout:=fun _=>[],mask:=fun _=>0,T:=fun _=>[]} h hok (fun j=>by simp) (by simp)
  ⟨rfl,fun i j _ _ _ hi=>by omega,fun i _ _ hi=>by omega,fun i _ _ hi=>by omega,fun t _=>rfl,fun d=>by simp,fun i _ hi=>by omega,rfl,rfl,fun i hi=>by omega,rfl,rfl,fun i hi=>by omega,fun i hi=>by omega,fun i hi=>by omega,fun i hi=>by omega,fun i hi=>by omega⟩
end Go.V
namespace Go.V
open Go
variable {K :cJ}{ρ ρ':List Value}{S S':Nat->Prop}{w w':World}{H H':List (Ob K)}{D:ba K}
section
variable {cx :Cx K}{L:List Oper}{bs:List Nat}{H0:List (Ob K)}{bD ei:List (AV K)}{F:km K}{HF:List (Ob K)}{wr:List Nat}{ms:List (Nat×Nat)}{ws:List Nat}
theorem fA.sS(hp:fA cx L bs H0 bD F L.length ei HF wr ms ws){i:Nat}(hi:i<L.length):(F.hin (i+1)).length=(F.hout i).length:=by
 obtain⟨h1,h2⟩:=hp.hs i hi;rw[h1,FM _ _ _ h2]
theorem fA.mono(hp:fA cx L bs H0 bD F L.length ei HF wr ms ws):∀{i j:Nat},i<=j->j<=L.length->(F.hin i).length<=(F.hin j).length:=by
 intro i j hij hj
 induction j with
 |zero=>have:i=0:=by omega
        subst this;exact bj _
 |succ j ih=>
  rcases cQ i (j+1)with h|h
  ·have h1:=ih (by omega) (by omega);rw[hp.sS (show j<L.length by omega)];exact fD h1 (hp.hs j (by omega)).2
  ·have:i=j+1:=by omega
   subst this;exact bj _
theorem fA.alX(hp:fA cx L bs H0 bD F L.length ei HF wr ms ws){i h:Nat}(hi:i<L.length)(hn:¬F.W i h)(hh:h<(F.hin i).length):(F.hin (i+1))[h]?=(F.hin i)[h]?:=by
 obtain⟨h1,h2⟩:=hp.hs i hi;obtain⟨cF,dt,a⟩:=hp.slot i L[i] hi (bY hi);rw[h1,FN _ _ _ _ h2];by_cases hm:h<(F.hin i).length/\(F.mask i).testBit (0+h)=true
 ·rw[av hm]
 ·rw[ak hm];have hm':(F.mask i).testBit h=false:=by
   cases hb:(F.mask i).testBit h with
   |false=>rfl
   |true=>exact absurd ⟨hh,by rw[dz];exact hb⟩ hm
  have:=a.turns.2 h (by rw[Bc];exact hh) (fun hT=>hn (.inl hT));rw[this,Ba,dz,hm'];cases (F.hin i)[h]?<;>simp
theorem fA.stay(hp:fA cx L bs H0 bD F L.length ei HF wr ms ws){i h:Nat}:∀{j:Nat},i<=j->j<=L.length->(∀k,i<=k->k<j->¬F.W k h)->h<(F.hin i).length->(F.hin j)[h]?=(F.hin i)[h]?:=by
 intro j hij hj hn hh
 induction j with
 |zero=>have:i=0:=by omega
        subst this;rfl
 |succ j ih=>
  rcases cQ i (j+1)with h1|h1
  ·have h2:=ih (by omega) (by omega) fun k a b=>hn k a (by omega)
   rw[hp.alX (by omega) (hn j (by omega) (by omega)) (iy hh (hp.mono (by omega) (by omega))),h2]
  ·have:i=j+1:=by omega
   subst this;rfl
theorem fA.maker(hp:fA cx L bs H0 bD F L.length ei HF wr ms ws){j k h:Nat}(hj:j<L.length)(hk:k<L.length)(h1:(F.hin j).length<=h)(h2:h<(F.hout j).length)(h3:(F.hin k).length<=h)(h4:h<(F.hout k).length):j=k:=by
 rcases Nat.lt_trichotomy j k with h|h|h
 ·have:=hp.mono (show j+1<=k by omega) (by omega);rw[hp.sS hj]at this;omega
 ·exact h
 ·have:=hp.mono (show k+1<=j by omega) (by omega);rw[hp.sS hk]at this;omega
theorem fA.made(hp:fA cx L bs H0 bD F L.length ei HF wr ms ws){h:Nat}:∀{j:Nat},j<=L.length->h<(F.hin j).length->H0.length<=h->∃k,k<j/\(F.hin k).length<=h/\h<(F.hout k).length:=by
 intro j hj hh h0
 induction j with
 |zero=>rw[hp.h0]at hh;omega
 |succ j ih=>
  rw[hp.sS (show j<L.length by omega)]at hh;rcases cQ h (F.hin j).length with h1|h1
  ·obtain⟨k,a,b⟩:=ih (by omega) h1;exact⟨k,by omega,b⟩
  ·exact⟨j,by omega,h1,hh⟩
end
theorem Y9{p:Nat->Prop}{n:Nat}(hb:∀k,p k->k<n)(h:∃k,p k):∃k,p k/\∀k',p k'->k'<=k:=by
 induction n with
 |zero=>obtain⟨k,hk⟩:=h;exact absurd (hb k hk) (eB _)
 |succ n ih=>
  by_cases hn:p n
  ·exact⟨n,hn,fun k' hk'=>by have:=hb k' hk';omega⟩
  ·exact ih fun k hk=>by
    have:=hb k hk;rcases cQ k n with h1|h1
    ·exact h1
    ·have:k=n:=by omega
     subst this;exact absurd hk hn
structure jN (cx:Cx K) (L:List Oper) (bs:List Nat) (bD:List (AV K)) (F:km K) (H0 HF H:List (Ob K)) (ρ:List Value) (S:Nat->Prop) (listed:Array Bool) (a:Act) (w:World):Prop where
 heap:aH cx.D ρ S w H
 hlen:H.length=HF.length
 defers:a.defers=[]
 size:a.tmps.size=bD.length
 nk:listed.size=L.length
 base:∀(t:Nat) v x,(∀(k:Nat) o,L[k]?=some o->o.dst=some t->listed[k]?≠some true)->bD[t]?=some v->a.tmps[t]?=some x->Rep cx.D ρ S w v x
 done:∀(k:Nat) o d x,L[k]?=some o->listed[k]?=some true->o.dst=some d->a.tmps[d]?=some x->dM cx.D ρ S w a.tmps (F.vals k) x
 opts:∀(k g:Nat) b y,listed[k]?=some true->F.vals k=.opt g b y->∃(k':Nat)(o':Oper),L[k']?=some o'/\o'.dst=some g/\listed[k']?=some true
 closed:∀(k:Nat) o,L[k]?=some o->listed[k]?=some true->∀e∈o.after,listed[e.on]?=some true
 LQ:∀h,(∀k,listed[k]?=some true->¬F.W k h)->h<HF.length->(h<H0.length->H[h]?=H0[h]?)/\(H0.length<=h->H[h]?=some .dead)
 LR:∀h k,listed[k]?=some true->F.W k h->(∀k',listed[k']?=some true->F.W k' h->k'<=k)->H[h]?=(F.hin (k+1))[h]?
 Za:∀h,H0.length<=h->h<HF.length->(∀k,listed[k]?=some true->¬((F.hin k).length<=h/\h<(F.hout k).length))->ρ[h]?=some dummy
section
variable {cx :Cx K}{L:List Oper}{bs:List Nat}{H0:List (Ob K)}{bD ei:List (AV K)}{F:km K}{HF:List (Ob K)}{wr:List Nat}{ms:List (Nat×Nat)}{ws:List Nat}{listed:Array Bool}{a:Act}
theorem jN.sees(hp:fA cx L bs H0 bD F L.length ei HF wr ms ws)(hm:jN cx L bs bD F H0 HF H ρ S listed a w){j:Nat}(hj:j<L.length)(fV:listed[j]?=some false)
 (hA:∀k,(bs.getD j 0).testBit k=true->listed[k]?=some true) (hcl:∀i k,listed[i]?=some true->(bs.getD i 0).testBit k=true->listed[k]?=some true) {h:Nat} (hh:h<(F.hin j).length) (hun:(F.mask j).testBit h=false):H[h]?=(F.hin j)[h]?:=by
 have hlt:∀k,listed[k]?=some true->k<L.length:=fun k hk=>by have:=(iv.1 hk).1;rw[hm.nk]at this;exact this
 have hne:∀k,listed[k]?=some true->k≠j:=fun k hk e=>by subst e;rw[fV]at hk;cases hk
 have hbef:∀k,k<j->F.W k h->listed[k]?=some true:=fun k hk hw=>by
  cases hb:(bs.getD j 0).testBit k with
  |true=>exact hA k hb
  |false=>have:=hp.masks j hj h ⟨k,hk,hb,hw⟩;rw[hun]at this;cases this
 have haft:∀k,listed[k]?=some true->F.W k h->k<j:=fun k hk hw=>by
  rcases Nat.lt_trichotomy k j with h1|h1|h1
  ·exact h1
  ·exact absurd h1 (hne k hk)
  ·have mr:=hlt k hk;have hlen:=hp.mono (show j<=k by omega) (by omega);rcases hw with hT|⟨h2,-⟩
   ·cases hb:(bs.getD k 0).testBit j with
    |true=>have:=hcl k j hk hb;rw[fV]at this;cases this
    |false=>have:=hp.readers k mr j h1 hb h hT hh;rw[hun]at this;cases this
   ·omega
 by_cases hex:∃k,listed[k]?=some true/\F.W k h
 ·obtain⟨k,⟨hk1,hk2⟩,hk3⟩:=Y9 (p:=fun k=>listed[k]?=some true/\F.W k h) (n:=L.length) (fun k hk=>hlt k hk.1) hex;rw[hm.LR h k hk1 hk2 fun k' a b=>hk3 k' ⟨a,b⟩];have hkj:=haft k hk1 hk2;have hno:∀k',k+1<=k'->k'<j->¬F.W k' h:=fun k' h1 h2 hw=>by have:=hk3 k' ⟨hbef k' h2 hw,hw⟩;omega
  by_cases hl:h<(F.hin (k+1)).length
  ·exact(hp.stay (show k+1<=j by omega) (by omega) hno hl).symm
  ·
   exfalso;have:H0.length<=h:=by have:=hp.mono (show 0<=k+1 by omega) (show k+1<=L.length by omega);rw[hp.h0]at this;omega
   obtain⟨k',g1,g2,g3⟩:=hp.made (show j<=L.length by omega) hh this;by_cases hkk:k+1<=k'
   ·exact hno k' hkk g1 (.inr ⟨g2,g3⟩)
   ·have:=hp.mono (show k'+1<=k+1 by omega) (show k+1<=L.length by omega);rw[hp.sS (show k'<L.length by omega)]at this;omega
 ·have hno:∀k,listed[k]?=some true->¬F.W k h:=fun k a b=>hex ⟨k,a,b⟩
  have vx:∀k,0<=k->k<j->¬F.W k h:=fun k _ hk hw=>hno k (hbef k hk hw) hw
  have hHF:h<HF.length:=by have:=hp.mono (show j<=L.length by omega) (bj _);rw[hp.hn]at this;omega
  obtain⟨g1,g2⟩:=hm.LQ h hno hHF;by_cases h0:h<H0.length
  ·rw[g1 h0,hp.stay (cU j) (by omega) vx (by rw[hp.h0];exact h0),hp.h0]
  ·obtain⟨k',a1,a2,a3⟩:=hp.made (show j<=L.length by omega) hh (by omega);exact absurd (.inr ⟨a2,a3⟩) (vx k' (cU _) a1)
end
end Go.V
