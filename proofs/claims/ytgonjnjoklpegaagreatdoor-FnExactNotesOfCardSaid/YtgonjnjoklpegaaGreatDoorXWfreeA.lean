/-
  A REGION WHOSE ORDER IS LEFT OPEN, WITH OPERATIONS THAT MAKE AND TURN OBJECTS: each is read with no more than what comes ahead of it; what an operation makes gets the number that it has in the text's order; what one turns no other may lean on that is not bound to it by an edge.
-/
import Derived.Test.YtgonjnjoklpegaaGreatDoorXWdraw2
set_option linter.unusedVariables false
namespace Go.V
open Go
variable{K :cq}{ρ ρ':List Value}{S S':Nat->Prop}{w w':World}{H H':List (Ob K)}{D:aY K}
theorem wO{bits:Nat}:∀(l:List (Ob K))(i k:Nat),(fB bits i l)[k]?=(l[k]?).map fun o=>if bits.testBit (i+k)then .dead else o
 |[],i,k=>by simp[fB]
 |o::r,i,0=>by simp[fB]
 |o::r,i,k+1=>by
  simp only[fB,List.getElem?_cons_succ];rw[wO r (i+1) k,show i+1+k=i+(k+1) by omega]
theorem wP{bits:Nat}:∀(l:List (Ob K))(i:Nat),(fB bits i l).length=l.length
 |[],i=>rfl
 |o::r,i=>by simp only[fB,cV,wP r]
theorem zW{bits:Nat}:∀(l l':List (Ob K))(i:Nat),l.length<=l'.length->(iq bits i l l').length=l'.length
 |[],l',i,_=>by simp[iq]
 |o::r,[],i,h=>by simp at h
 |o::r,o'::r',i,h=>by
  simp only[iq,cV];rw[zW r r' (i+1) (by simpa using h)]
theorem zX{bits:Nat}:∀(l l':List (Ob K))(i k:Nat),l.length<=l'.length->(iq bits i l l')[k]?=if k<l.length/\bits.testBit (i+k)=true then l[k]? else l'[k]?
 |[],l',i,k,_=>by simp[iq]
 |o::r,[],i,k,h=>by simp at h
 |o::r,o'::r',i,0,h=>by
  simp only[iq,List.getElem?_cons_zero,cV,Nat.add_zero];by_cases hb:bits.testBit i=true<;>simp[hb]
 |o::r,o'::r',i,k+1,h=>by
  simp only[iq,List.getElem?_cons_succ,cV,Nat.add_lt_add_iff_right];rw[zX r r' (i+1) k (by simpa using h),show i+1+k=i+(k+1) by omega]
theorem rf{n:Nat}:∀{l:List (AV K)}{i:Nat}{v:AV K},lx n l=true->l[i]?=some v->v.upto n=true
 |[],i,v,_,h=>by simp at h
 |x::r,0,v,h,hv=>by simp at hv;subst hv;simp only[lx,bc]at h;exact h.1
 |x::r,i+1,v,h,hv=>by simp only[lx,bc]at h;exact rf h.2 (by simpa using hv)
theorem Rep.take(hD:bg D){n:Nat}{v:AV K}{x:Value}(h:Rep D ρ S w v x):v.upto n=true->Rep D (ρ.take n) S w v x:=by
 have tk:∀{k:Nat}{r:Value},k<n->ρ[k]?=some r->(ρ.take n)[k]?=some r:=fun hk hr=>by rw[cG,aC hk];exact hr
 induction h with
 |any v=>exact fun _=>.any v
 |int k n=>exact fun _=>.int k n
 |bool b=>exact fun _=>.bool b
 |str s=>exact fun _=>.str s
 |cL=>exact fun _=>.cL
 |ct=>exact fun _=>.ct
 |fn hl _ ih=>exact fun hu=>.fn hl fun i v x h1 h2=>ih i v x h1 h2 (rf (by simpa [AV.upto]using hu) h1)
 |iO=>exact fun _=>.iO
 |np hp=>exact fun hu=>.np (tk (by simpa [AV.upto]using hu) hp)
 |ptr hp=>exact fun hu=>.ptr (tk (by simpa [AV.upto]using hu) hp)
 |sl hp=>exact fun hu=>.sl (tk (by simpa [AV.upto]using hu) hp)
 |ep hp hi=>exact fun hu=>.ep (tk (by simpa [AV.upto]using hu) hp) hi
 |vw hp h1 h2 ha=>exact fun hu=>.vw (tk (by simpa [AV.upto]using hu) hp) h1 h2 ha
 |dL a cap=>exact fun _=>.dL a cap
 |ai val h1 h2 h3 h4 h5 ih=>exact fun _=>(Rep.ai val h1 h2 h3 h4 h5).closed hD rfl
 |rp vs h1 h2 h3 h4 ih=>exact fun _=>(Rep.rp vs h1 h2 h3 h4).closed hD rfl
 |agg hl _ ih=>exact fun hu=>.agg hl fun i v x h1 h2=>ih i v x h1 h2 (rf (by simpa [AV.upto]using hu) h1)
 |bG hl _ ih=>exact fun hu=>.bG hl fun i v x h1 h2=>ih i v x h1 h2 (rf (by simpa [AV.upto]using hu) h1)
theorem aU.afv(hD:bg D){n:Nat}{l:List (AV K)}{vs:List Value}(h:aU D ρ S w l vs)(hu:lx n l=true):aU D (ρ.take n) S w l vs:=
 ⟨h.1,fun i v x h1 h2=>(h.2 i v x h1 h2).take hD (rf hu h1)⟩
def dummy:Value:=.bool false
theorem Rep.mono'(hS:∀b,S b->S' b)(hw:∀b,S b->w'.heap[b]?=w.heap[b]?)(hρ:∀(h:Nat) r,ρ[h]?=some r->r≠dummy->ρ'[h]?=some r){v:AV K}{x:Value}
 (h:Rep D ρ S w v x):Rep D ρ' S' w' v x:=by
 induction h with
 |any v=>exact .any v
 |int k n=>exact .int k n
 |bool b=>exact .bool b
 |str s=>exact .str s
 |cL=>exact .cL
 |ct=>exact .ct
 |fn hl _ ih=>exact .fn hl ih
 |iO=>exact .iO
 |np hp=>exact .np (hρ _ _ hp (by simp[dummy]))
 |ptr hp=>exact .ptr (hρ _ _ hp (by simp[dummy]))
 |sl hp=>exact .sl (hρ _ _ hp (by simp[dummy]))
 |ep hp hi=>exact .ep (hρ _ _ hp (by simp[dummy])) hi
 |vw hp h1 h2 ha=>exact .vw (hρ _ _ hp (by simp[dummy])) h1 h2 ha
 |dL a cap=>exact .dL a cap
 |ai val h1 h2 h3 h4 _ ih=>exact .ai val (hS _ h1) h2 h3 (fun i hi=>(h4 i hi).keep (hw _ h1)) ih
 |rp vs h1 h2 h3 _ ih=>exact .rp vs (hS _ h1) h2 (h3.keep (hw _ h1)) ih
 |agg hl _ ih=>exact .agg hl ih
 |bG hl _ ih=>exact .bG hl ih
theorem aU.mono'(hS:∀b,S b->S' b)(hw:∀b,S b->w'.heap[b]?=w.heap[b]?)(hρ:∀(h:Nat) r,ρ[h]?=some r->r≠dummy->ρ'[h]?=some r){l:List (AV K)}{vs:List Value}
 (h:aU D ρ S w l vs):aU D ρ' S' w' l vs:=⟨h.1,fun i v x hv hx=>(h.2 i v x hv hx).mono' hS hw hρ⟩
theorem ek.take(hD:bg D){n:Nat}{o:Ob K}{r:Value}(h:ek D ρ S w o r)(hu:o.upto n=true):ek D (ρ.take n) S w o r:=by
 cases o with
 |dead=>trivial
 |fa c l=>exact Rep.closed hD h rfl
 |box cs=>
  obtain⟨b,vs,T,h1,h2,h3,h4⟩:=h;exact⟨b,vs,T,h1,h2,h3.afv hD hu,h4⟩
 |arr c l=>
  rcases h with h|⟨b,o,cap,vs,T,fr,h1,h2,h3,h4,h5,h6⟩
  ·exact .inl h
  ·exact .inr ⟨b,o,cap,vs,T,fr,h1,h2,h3,h4,h5,fun i x hx=>(h6 i x hx).closed hD (hD.closed _ _)⟩
 |tree c l=>exact h
 |opn c l i off cs=>exact jo.keep (fun j v u hv hr=>hr.take hD (rf hu hv)) (fun _ _=>rfl) h
theorem ek.mono'(hS:∀b,S b->S' b)(hw:∀b,S b->w'.heap[b]?=w.heap[b]?)(hρ:∀(h:Nat) r,ρ[h]?=some r->r≠dummy->ρ'[h]?=some r){o:Ob K}{r:Value}(h:ek D ρ S w o r)
 (hb:∀b,o.live=true->bC D w o r b->w'.heap[b]?=w.heap[b]?):ek D ρ' S' w' o r:=by
 cases o with
 |dead=>trivial
 |fa c l=>exact Rep.mono' hS hw hρ h
 |box cs=>
  obtain⟨b,vs,T,rfl,h2,h3,h4⟩:=h;exact⟨b,vs,T,rfl,by rw[hb b rfl rfl];exact h2,h3.mono' hS hw hρ,h4⟩
 |arr c l=>
  rcases h with h|⟨b,o,cap,vs,T,fr,rfl,h2,h3,h4,h5,h6⟩
  ·exact .inl h
  ·exact .inr ⟨b,o,cap,vs,T,fr,rfl,by rw[hb b rfl rfl];exact h2,h3,h4,h5,fun i x hx=>(h6 i x hx).mono' hS hw hρ⟩
 |tree c l=>exact Tree.mono h fun k hk=>hb k rfl hk
 |opn c l i off cs=>exact jo.keep (fun _ _ _ _ hr=>hr.mono' hS hw hρ) (fun k hk=>hb k rfl hk) h
structure View (n:Nat) (H Hv:List (Ob K)):Prop where
 len:Hv.length=n
 le:n<=H.length
 ob:∀(h:Nat) o,Hv[h]?=some o->o=.dead\/H[h]?=some o
 up:∀(h:Nat) o,Hv[h]?=some o->o.upto n=true
theorem View.lt{n:Nat}{H Hv:List (Ob K)}(v:View n H Hv){h:Nat}{o:Ob K}(ho:Hv[h]?=some o):h<n:=by
 have:=(bk.1 ho).1;rw[v.len]at this;exact this
theorem View.live{n:Nat}{H Hv:List (Ob K)}(v:View n H Hv){h:Nat}{o:Ob K}(ho:Hv[h]?=some o)(hl:o.live=true):H[h]?=some o:=by
 rcases v.ob h o ho with rfl|h
 ·cases hl
 ·exact h
theorem View.own{n:Nat}{H Hv:List (Ob K)}(v:View n H Hv){b:Nat}(h:Own D w (ρ.take n) Hv b):Own D w ρ H b:=by
 obtain⟨h,o,r,h1,h2,h3,h4⟩:=h;rw[cG,aC (v.lt h1)]at h3;exact⟨h,o,r,v.live h1 h2,h2,h3,h4⟩
theorem aL.view(hD:bg D){n:Nat}{H Hv:List (Ob K)}(hs:aL D ρ S w H)(v:View n H Hv):aL D (ρ.take n) S w Hv:={
 len:=by rw[iw,hs.len,v.len];have:=v.le;omega
 ob:=fun h o r ho hr=>by
  rw[cG,aC (v.lt ho)]at hr;rcases v.ob h o ho with rfl|h1
  ·trivial
  ·exact(hs.ob h o r h1 hr).take hD (v.up h o ho)
 dh:=fun h h' o o' r r' b h1 h2 h3 h4 h5 h6 h7 h8=>by
  rw[cG,aC (v.lt h1)]at h3;rw[cG,aC (v.lt h5)]at h7;exact hs.dh h h' o o' r r' b (v.live h1 h2) h2 h3 h4 (v.live h5 h6) h6 h7 h8
 lt:=fun b hb=>hs.lt b (v.own hb)
 slt:=hs.slt
 base:=hs.base}
structure Joined (n m:Nat) (H Hv H1 Hf:List (Ob K)):Prop where
 le:n<=m
 len1:H1.length=m
 len:Hf.length=H.length
 RN:m<=H.length
 ob:∀(h:Nat) o,Hf[h]?=some o->(h<m/\H1[h]?=some o)\/(H[h]?=some o/\((h<n/\Hv[h]?=some .dead)\/m<=h))
theorem RO{n m:Nat}{ρ ρ1:List Value}(hl:ρ1.length=m)(hm:m<=ρ.length)(k:Nat):(ρ1++ρ.drop m)[k]?=if k<m then ρ1[k]? else ρ[k]?:=by
 by_cases h:k<m
 ·rw[aC h,cn (by omega)]
 ·rw[ax h,cB (by omega),eu];congr 1;omega
theorem aL.join{n m n0:Nat}{H Hv H1 Hf:List (Ob K)}{ρ1:List Value}{S1:Nat->Prop}{w1:World}(hs:aL D ρ S w H)(v:View n H Hv)(hs1:aL D ρ1 S1 w1 H1)(st:Step D n (ρ.take n) S Hv w ρ1 S1 H1 w1)(j:Joined n m H Hv H1 Hf)
 (hd:∀h,n<=h->h<m->ρ[h]?=some dummy) (hn0:n0<=n):aL D (ρ1++ρ.drop m) S1 w1 Hf/\Step D n0 ρ S H w (ρ1++ρ.drop m) S1 Hf w1/\∀(h:Nat) r,ρ[h]?=some r->r≠dummy->(ρ1++ρ.drop m)[h]?=some r:=by
 have hl1:ρ1.length=m:=by rw[hs1.len,j.len1]
 have afw:m<=ρ.length:=by rw[hs.len];exact j.RN
 have hρ:∀k,(ρ1++ρ.drop m)[k]?=if k<m then ρ1[k]? else ρ[k]?:=RO (n:=n) hl1 afw
 have hpre:∀h,h<n->ρ1[h]?=ρ[h]?:=fun h hh=>by rw[st.pre h hh,cG,aC hh]
 have hmono:∀(h:Nat) r,ρ[h]?=some r->r≠dummy->(ρ1++ρ.drop m)[h]?=some r:=fun h r hr hne=>by
  rw[hρ];by_cases h1:h<m
  ·rw[aC h1];by_cases h2:h<n
   ·rw[hpre h h2];exact hr
   ·rw[hd h (by omega) h1]at hr;exact absurd (eQ hr).symm hne
  ·rw[ax h1];exact hr
 have hun:∀{h:Nat}{o:Ob K}{r:Value}{b:Nat},H[h]?=some o->o.live=true->ρ[h]?=some r->bC D w o r b->((h<n/\Hv[h]?=some .dead)\/m<=h)->¬Own D w (ρ.take n) Hv b:=fun{h o r b} h1 h2 h3 h4 h5 ho=>by
  obtain⟨h',o',r',g1,g2,g3,g4⟩:=ho;have g3':ρ[h']?=some r':=by rw[cG,aC (v.lt g1)]at g3;exact g3
  have e:=hs.dh h h' o o' r r' b h1 h2 h3 h4 (v.live g1 g2) g2 g3' g4;subst e;rcases h5 with⟨-,h5⟩|h5
  ·rw[g1]at h5;simp at h5;subst h5;cases g2
  ·have:=v.lt g1;have:=j.le;omega
 have hblk:∀{h:Nat}{o:Ob K}{r:Value}{b:Nat},H[h]?=some o->o.live=true->ρ[h]?=some r->bC D w o r b->b<w.heap.size/\¬S b:=fun{h o r b} h1 h2 h3 h4=>hs.lt b ⟨h,o,r,h1,h2,h3,h4⟩
 have hkp:∀{h:Nat}{o:Ob K}{r:Value},H[h]?=some o->o.live=true->ρ[h]?=some r->((h<n/\Hv[h]?=some .dead)\/m<=h)->∀b,bC D w o r b->w1.heap[b]?=w.heap[b]?:=fun{h o r} h1 h2 h3 h5 b h4=>st.old b (hblk h1 h2 h3 h4).1 (hun h1 h2 h3 h4 h5)
 have hrr:∀{h:Nat}{o:Ob K}{r:Value},H[h]?=some o->((h<n/\Hv[h]?=some .dead)\/m<=h)->(ρ1++ρ.drop m)[h]?=some r->ρ[h]?=some r:=fun{h o r} _ h5 hr=>by
  rw[hρ]at hr;rcases h5 with⟨h5,-⟩|h5
  ·rw[aC (by have:=j.le;omega),hpre h h5]at hr;exact hr
  ·rw[ax (by omega)]at hr;exact hr
 have hown:∀b,Own D w1 (ρ1++ρ.drop m) Hf b->Own D w1 ρ1 H1 b\/∃(h:Nat)(o:Ob K)(r:Value),H[h]?=some o/\o.live=true/\ρ[h]?=some r/\bC D w o r b/\((h<n/\Hv[h]?=some .dead)\/m<=h):=fun b hb=>by
  obtain⟨h,o,r,g1,g2,g3,g4⟩:=hb;rcases j.ob h o g1 with⟨k1,k2⟩|⟨k1,k2⟩
  ·rw[hρ,aC k1]at g3;exact .inl ⟨h,o,r,k2,g2,g3,g4⟩
  ·exact .inr ⟨h,o,r,k1,g2,hrr k1 k2 g3,g4.old (hkp k1 g2 (hrr k1 k2 g3) k2),k2⟩
 have hnew:∀b,Own D w1 ρ1 H1 b->Own D w (ρ.take n) Hv b\/w.heap.size<=b:=st.own;refine⟨⟨?_,?_,?_,?_,hs1.slt,hs1.base⟩,⟨st.os,st.tape,st.output,st.size,fun b hb ho=>st.old b hb fun h=>ho (v.own h),fun b hb=>?_,st.s1,fun b hb=>?_,fun h hh=>?_⟩,hmono⟩
 ·rw[fm,List.length_drop,hl1,hs.len,j.len];have:=j.RN;omega
 ·intro h o r g1 g2;rcases j.ob h o g1 with⟨k1,k2⟩|⟨k1,k2⟩
  ·rw[hρ,aC k1]at g2;refine(hs1.ob h o r k2 g2).mono' (fun _ h=>h) (fun _ _=>rfl) (fun h' r' hr' _=>?_) (fun _ _ _=>rfl);have:h'<m:=by have:=(bk.1 hr').1;omega
   rw[hρ,aC this];exact hr'
  ·have g2':=hrr k1 k2 g2;exact(hs.ob h o r k1 g2').mono' st.s1 (fun b hb=>st.old b (hs.slt b hb) fun ho=>(hs.lt b (v.own ho)).2 hb) hmono fun b hl hbk=>st.old b (hblk k1 hl g2' hbk).1 (hun k1 hl g2' hbk k2)
 ·intro h h' o o' r r' b g1 g2 g3 g4 g5 g6 g7 g8;rcases j.ob h o g1 with⟨k1,k2⟩|⟨k1,k2⟩<;>rcases j.ob h' o' g5 with⟨l1,l2⟩|⟨l1,l2⟩
  ·rw[hρ,aC k1]at g3;rw[hρ,aC l1]at g7;exact hs1.dh h h' o o' r r' b k2 g2 g3 g4 l2 g6 g7 g8
  ·rw[hρ,aC k1]at g3;have F5:=hrr l1 l2 g7;have g8:=g8.old (hkp l1 g6 F5 l2);rcases hnew b ⟨h,o,r,k2,g2,g3,g4⟩with ho|ho
   ·exact absurd ho (hun l1 g6 F5 g8 l2)
   ·have:=(hblk l1 g6 F5 g8).1;omega
  ·rw[hρ,aC l1]at g7;have g3':=hrr k1 k2 g3;have g4:=g4.old (hkp k1 g2 g3' k2);rcases hnew b ⟨h',o',r',l2,g6,g7,g8⟩with ho|ho
   ·exact absurd ho (hun k1 g2 g3' g4 k2)
   ·have:=(hblk k1 g2 g3' g4).1;omega
  ·exact hs.dh h h' o o' r r' b k1 g2 (hrr k1 k2 g3) (g4.old (hkp k1 g2 (hrr k1 k2 g3) k2)) l1 g6 (hrr l1 l2 g7) (g8.old (hkp l1 g6 (hrr l1 l2 g7) l2))
 ·intro b hb;rcases hown b hb with ho|⟨h,o,r,k1,k2,k3,k4,k5⟩
  ·exact hs1.lt b ho
  ·obtain⟨a1,a2⟩:=hblk k1 k2 k3 k4;refine⟨iZ a1 st.size,fun hS=>?_⟩;rcases st.s2 b hS with h1|h1|h1
   ·exact a2 h1
   ·exact hun k1 k2 k3 k4 k5 h1
   ·omega
 ·rcases hown b hb with ho|⟨h,o,r,k1,k2,k3,k4,-⟩
  ·rcases hnew b ho with h1|h1
   ·exact .inl (v.own h1)
   ·exact .inr h1
  ·exact .inl ⟨h,o,r,k1,k2,k3,k4⟩
 ·rcases st.s2 b hb with h1|h1|h1
  ·exact .inl h1
  ·exact .inr (.inl (v.own h1))
  ·exact .inr (.inr h1)
 ·rw[hρ,aC (by have:=j.le;omega),hpre h (by omega)]
end Go.V
namespace Go.V
open Go
variable{K :cq}{H H':List (Ob K)}
def bn(T:List Nat)(H H':List (Ob K)):Prop:=H.length<=H'.length/\∀h,h<H.length->h∉T->H'[h]?=H[h]?
theorem bn.refl(T:List Nat)(H:List (Ob K)):bn T H H:=⟨bu _,fun _ _ _=>rfl⟩
theorem bn.app(T:List Nat)(H N:List (Ob K)):bn T H (H++N):=⟨by simp,fun h hh _=>cn hh⟩
theorem bn.trans{T:List Nat}{H H1 H2:List (Ob K)}(a:bn T H H1)(b:bn T H1 H2):bn T H H2:=
 ⟨eU a.1 b.1,fun h hh hn=>(b.2 h (iZ hh a.1) hn).trans (a.2 h hh hn)⟩
theorem bn.set{T:List Nat}{H:List (Ob K)}{h:Nat}(o:Ob K)(hT:h∈T):bn T H (H.set h o):=
 ⟨by simp,fun k _ hn=>List.getElem?_set_ne (fun e=>hn (by rw[<-e];exact hT))⟩
theorem bn.more{T T':List Nat}{H H1:List (Ob K)}(a:bn T H H1)(h:∀x∈T,x∈T'):bn T' H H1:=⟨a.1,fun k hk hn=>a.2 k hk fun hm=>hn (h k hm)⟩
theorem F6(dp:K.U->Bool):∀(cs:List (Option K.U))(l:List (AV K))(H:List (Ob K)),∃N,(thaw dp H cs l).2=H++N
 |[],l,H=>⟨[],by simp[thaw]⟩
 |some c::cs,[],H=>⟨[],by simp[thaw]⟩
 |none::cs,[],H=>⟨[],by simp[thaw]⟩
 |oc::cs,v::r,H=>by
  have keep:thaw dp H (oc::cs) (v::r)=(v::(thaw dp H cs r).1,(thaw dp H cs r).2)->∃N,(thaw dp H (oc::cs) (v::r)).2=H++N:=fun e=>by
   rw[e];exact F6 dp cs r H
  cases oc with
  |none=>exact keep (by cases v<;>rfl)
  |some c=>
   cases v with
   |ct=>
    have e:thaw dp H (some c::cs) (.ct::r)=(.sl H.length::(thaw dp (H++[jK (dp c) c]) cs r).1,(thaw dp (H++[jK (dp c) c]) cs r).2):=rfl;rw[e];obtain⟨N,hN⟩:=F6 dp cs r (H++[jK (dp c) c]);exact⟨jK (dp c) c::N,by simp only;rw[hN];simp⟩
   |_=>exact keep rfl
theorem F7(T:List Nat)(dp:K.U->Bool)(cs:List (Option K.U))(l:List (AV K))(H:List (Ob K)):bn T H (thaw dp H cs l).2:=by
 obtain⟨N,hN⟩:=F6 dp cs l H;rw[hN];exact bn.app _ _ _
theorem afx{T:List Nat}{h:Nat}(hT:h∈T)(H:List (Ob K)):bn T H (qO H h):=by
 unfold qO;split
 ·exact bn.set _ hT
 ·exact bn.set _ hT
 ·exact bn.refl _ _
theorem zY{T:List Nat}:∀(l:List Nat)(H:List (Ob K)),(∀x∈l,x∈T)->bn T H (fM H l)
 |[],H,_=>bn.refl _ _
 |h::r,H,hT=>(afx (hT h (by simp)) H).trans (zY r _ fun x hx=>hT x (by simp[hx]))
def lC(ev:Operand->AV K)(op:Op):List Nat:=(match op with
    |.store _ p _=>hands (ev p)
    |.call {callee:=.builtin .append,args, ..}=>(match args.toList with
      |s::x::_=>hands (ev s)++hands (ev x)
      |[s]=>hands (ev s)
      |[]=>[])
    |.call {callee:=.builtin .clear,args, ..}=>(match args.toList with
      |s::_=>hands (ev s)
      |[]=>[])
    |.call {callee:=.builtin .copy,args, ..}=>(match args.toList with
      |s::_=>hands (ev s)
      |[]=>[])
    |_=>[])
theorem afy{cx:Cx K}{sT:TypeId}{s x v:AV K}{c:Bool}{t:List Nat}(h:zP cx H sT s x=some (v,H',c,t)):bn (hands s) H H':=by
 unfold zP at h;split at h
 ·cases h
 ·split at h
  ·cases h
  ·split at h
   ·split at h
    ·cases h
    ·split at h
     ·simp only[av,aJ]at h;rw[<-h.2.1];exact bn.app _ _ _
     ·split at h
      ·split at h
       ·cases h
       ·split at h
        ·simp only[av,aJ]at h;rw[<-h.2.1];exact(bn.set _ (by simp[hands])).trans (bn.app _ _ _)
        ·cases h
      ·split at h
       ·simp only[av,aJ]at h;rw[<-h.2.1];exact(bn.set _ (by simp[hands])).trans (bn.app _ _ _)
       ·cases h
     ·cases h
   ·cases h
theorem RP{cx:Cx K}{ev:Operand->AV K}{op:Op}{v:AV K}{c:Bool}{t:List Nat}(h:qQ cx ev H op=some (v,H',c,t)):bn (lC ev op) H H':=by
 unfold qQ at h;split at h
 ·split at h
  ·dsimp only at h;split at h
   ·cases h
   ·simp only[av,aJ]at h;rw[<-h.2.1];exact(F7 _ _ _ _ _).trans (bn.app _ _ _)
  ·cases h
 ·split at h
  ·split at h
   ·dsimp only at h;split at h
    ·cases h
    ·simp only[av,aJ]at h;rw[<-h.2.1];exact(F7 _ _ _ _ _).trans (bn.app _ _ _)
   ·cases h
  ·cases h
 ·split at h
  ·split at h
   ·simp only[dH,aJ]at h;obtain⟨cs,-,-,rfl,-⟩:=h;exact bn.refl _ _
   ·cases h
  ·cases h
 ·split at h
  ·split at h
   ·split at h
    ·rename_i hh off hp;split at h
     ·split at h
      ·dsimp only at h;split at h
       ·cases h
       ·simp only[av,aJ]at h;rw[<-h.2.1];refine(F7 _ _ _ _ _).trans (bn.set _ ?_);simp only[lC,hp,hands,qs]
      ·cases h
     ·cases h
    ·rename_i hh st i off hp;split at h
     ·split at h
      ·split at h
       ·simp only[av,aJ]at h;rw[<-h.2.1];refine bn.set _ ?_;simp only[lC,hp,hands,qs]
       ·cases h
      ·cases h
     ·cases h
    ·cases h
   ·cases h
  ·cases h
 ·split at h
  ·cases h
  ·split at h
   ·split at h
    ·split at h
     ·simp only[av,aJ]at h;rw[<-h.2.1];exact bn.app _ _ _
     ·cases h
    ·cases h
   ·cases h
 ·split at h
  ·cases h
  ·split at h
   ·split at h
    ·split at h
     ·simp only[av,aJ]at h;rw[<-h.2.1];exact bn.app _ _ _
     ·cases h
    ·cases h
   ·cases h
 ·split at h
  ·split at h
   ·split at h
    ·split at h
     ·simp only[av,aJ]at h;rw[<-h.2.1];exact bn.app _ _ _
     ·cases h
    ·cases h
   ·cases h
  ·cases h
 ·split at h
  ·rename_i s x sT xT ha ht;split at h
   ·cases h
   ·refine(afy h).more fun y hy=>?_
    simp only[lC,ha];exact du.2 (.inl hy)
  ·cases h
 ·split at h
  ·rename_i x T ha ht;split at h
   ·rename_i h' st lo hi e hx he;split at h
    ·split at h
     ·split at h
      ·simp only[av,aJ]at h;rw[<-h.2.1];refine bn.set _ ?_;simp only[lC,ha,hx,hands,qs]
      ·cases h
     ·cases h
    ·cases h
   ·cases h
  ·cases h
 ·split at h
  ·rename_i x y T T2 ha ht;split at h
   ·rename_i h' st lo hi s e hx hy he;split at h
    ·split at h
     ·split at h
      ·simp only[av,aJ]at h;rw[<-h.2.1];refine bn.set _ ?_;simp only[lC,ha,hx,hands,qs]
      ·cases h
     ·cases h
    ·cases h
   ·cases h
  ·cases h
 ·cases h
mutual
theorem jt:∀(v:AV K){y:Nat},y∈hands (di H v)->y∈hands v
 |.sl k,y,h=>by
   simp only[di]at h;split at h
   ·simp[hands]at h
   ·exact h
 |.agg l,y,h=>by simp only[di,hands]at h⊢;exact F8 l h
 |.bG l,y,h=>by simp only[di,hands]at h⊢;exact F8 l h
 |.any,y,h|.int _ _,y,h|.bool _,y,h|.str _,y,h|.cL,y,h|.ct,y,h|.fn _ _,y,h|.ptr _ _,y,h|.ep _ _ _ _,y,h|.ai _ _,y,h|.rp _ _ _,y,h|.np _,y,h|.vw _ _ _ _,y,h|.opt _ _ _,y,h=>by simpa only[di]using h
theorem F8:∀(l:List (AV K)){y:Nat},y∈bh (lv H l)->y∈bh l
 |[],y,h=>by simpa [lv]using h
 |v::r,y,h=>by
  simp only[lv,bh,du]at h⊢;exact h.imp (jt v) (F8 r)
end
theorem RQ{ev:Operand->AV K}{op:Op}{y:Nat}(h:y∈lC (fun x=>di H (ev x)) op):y∈lC ev op:=by
 unfold lC at h⊢;split at h
 ·exact jt _ h
 ·split at h
  ·rename_i hs;rcases du.1 h with h|h
   ·exact du.2 (.inl (jt _ h))
   ·exact du.2 (.inr (jt _ h))
  ·exact jt _ h
  ·simp at h
 ·split at h
  ·exact jt _ h
  ·simp at h
 ·split at h
  ·exact jt _ h
  ·simp at h
 ·simp at h
theorem wQ{T:List Nat}:∀(l:List Nat)(H:List (Ob K)),(∀x∈l,x∈T)->bn T H (dK H l)
 |[],H,_=>bn.refl _ _
 |h::r,H,hT=>(bn.set _ (hT h (by simp))).trans (wQ r _ fun x hx=>hT x (by simp[hx]))
theorem RR{c:K.U}{v:AV K}{l:List (K.El c)}{ks:List Nat}(h:mA H c v=some (l,ks)):∀x∈ks,x∈hands v:=fun x hx=>by
 unfold mA at h;split at h
 ·simp only[av,aJ]at h;obtain⟨rfl,rfl⟩:=h;cases hx
 ·split at h
  ·split at h
   ·simp only[av,aJ]at h;obtain⟨-,rfl⟩:=h;simpa [hands]using hx
   ·cases h
  ·cases h
 ·cases h
theorem RS{ev:Operand->AV K}{x:Nat}:∀(l:List (Nat×Operand)),x∈bh (l.map fun p=>di H (ev p.2))->x∈bh (l.map fun p=>ev p.2)
 |[],h=>h
 |y::r,h=>by
  simp only[fF,bh,du]at h⊢;exact h.imp (jt _) (RS r)
theorem RU{v:AV K}{a b c d:Nat}(h:di H v=.ep a b c d):v=.ep a b c d:=by
 cases v<;>simp[di]at h⊢<;>first|exact h|(split at h<;>cases h)
theorem afz{cx:Cx K}{ev:Operand->AV K}{op:Op}{v:AV K}{c:Bool}{t:List Nat}(h:uH cx (fun x=>di H (ev x)) H op=some (v,H',c,t)):bn (ga ev op) H H':=by
 unfold uH at h;split at h
 ·split at h
  ·cases h
  ·split at h
   ·split at h
    ·split at h
     ·split at h
      ·simp only[av,aJ]at h;rw[<-h.2.1];exact bn.app _ _ _
      ·cases h
     ·cases h
    ·cases h
   ·cases h
 ·rename_i T len parts;split at h
  ·cases h
  ·split at h
   ·rename_i hty hl;split at h
    ·split at h
     ·split at h
      ·simp only[av,aJ]at h;rw[<-h.2.1];refine bn.trans (wQ _ _ fun x hx=>?_) (bn.app _ _ _);rw[(zD _ _ _ hl).1]at hx;simp only[ga,iQ,oQ];exact RS _ hx
      ·cases h
     ·cases h
    ·cases h
   ·cases h
 ·rename_i T p x;split at h
  ·rename_i h0 st i off n0 hp hn;split at h
   ·split at h
    ·split at h
     ·split at h
      ·simp only[av,aJ]at h;rw[<-h.2.1];have q1:=RU hp;have hmem:∀y∈h0::bh (di H (ev x)).bf,y∈ga ev (.store T p x):=fun y hy=>by
        simp only[ga,iQ,q1,du];rcases eJ.1 hy with rfl|hy
        ·exact .inr (by simp[hands])
        ·rw[EY]at hy;exact .inl (jt _ hy)
       exact(wQ _ _ hmem).trans (bn.set _ (hmem _ (by simp)))
      ·cases h
     ·cases h
    ·cases h
   ·split at h
    ·split at h
     ·split at h
      ·simp only[av,aJ]at h;rw[<-h.2.1];have q1:=RU hp;have hmem:∀y∈h0::bh (di H (ev x)).bf,y∈ga ev (.store T p x):=fun y hy=>by
        simp only[ga,iQ,q1,du];rcases eJ.1 hy with rfl|hy
        ·exact .inr (by simp[hands])
        ·rw[EY]at hy;exact .inl (jt _ hy)
       exact(wQ _ _ hmem).trans (bn.set _ (hmem _ (by simp)))
      ·cases h
     ·cases h
    ·cases h
   ·cases h
  ·cases h
 ·rename_i args argTypes;split at h
  ·rename_i s x sT xT hargs hat;split at h
   ·cases h
   ·split at h
    ·cases h
    ·split at h
     ·cases h
     ·split at h
      ·split at h
       ·rename_i l ks m ks' hl hm;split at h
        ·simp only[av,aJ]at h;rw[<-h.2.1];refine bn.trans (wQ _ _ fun y hy=>?_) (bn.app _ _ _);simp only[ga,iQ,hargs,lG,du];rcases du.1 hy with hy|hy
         ·exact .inl (jt _ (RR hl y hy))
         ·exact .inr (jt _ (RR hm y hy))
        ·cases h
       ·cases h
      ·cases h
  ·cases h
 ·cases h
theorem afA{cx:Cx K}{ev:Operand->AV K}{op:Op}{v:AV K}{c:Bool}{t:List Nat}(h:uI cx ev H op=some (v,H',c,t)):bn (ga ev op) H H':=by
 have e:ga ev op=iQ ev op++lC ev op:=rfl;unfold uI at h;split at h
 ·rename_i r hd;simp only[av]at h;subst h;exact afz hd
 split at h
 ·refine(RP h).more fun y hy=>?_
  rw[e,du];exact .inr (RQ hy)
 ·have hz:bn (ga ev op) H (fM H (iQ ev op)):=zY _ _ fun x hx=>by rw[e,du];exact .inl hx
  split at h
  ·simp only[av,aJ]at h;rw[<-h.2.1];exact hz
  ·refine hz.trans ((RP h).more fun y hy=>?_);rw[e,du];exact .inr (RQ hy)
theorem afB{cx:Cx K}{ev:Operand->AV K}{op:Op}{v:AV K}{c:Bool}{t:List Nat}(h:cutV cx ev H op=some (v,H',c,t)):bn (ga ev op) H H':=by
 unfold cutV at h;split at h
 ·split at h
  ·split at h
   ·rename_i hx hy he;split at h
    ·split at h
     ·simp only[av,aJ]at h;rw[<-h.2.1];refine bn.trans (bn.set _ ?_) (bn.app _ _ _);simp[ga,iQ,hx]
     ·cases h
    ·split at h
     ·simp only[av,aJ]at h;rw[<-h.2.1];refine bn.trans (bn.set _ ?_) (bn.app _ _ _);simp[ga,iQ,hx]
     ·cases h
    ·cases h
   ·cases h
  ·cases h
 ·split at h
  ·split at h
   ·rename_i hx hy he;split at h
    ·split at h
     ·simp only[av,aJ]at h;rw[<-h.2.1];refine bn.trans (bn.set _ ?_) (bn.app _ _ _);simp[ga,iQ,hx]
     ·cases h
    ·split at h
     ·simp only[av,aJ]at h;rw[<-h.2.1];refine bn.trans (bn.set _ ?_) (bn.app _ _ _);simp[ga,iQ,hx]
     ·cases h
    ·cases h
   ·cases h
  ·cases h
 ·cases h
theorem F9{cx:Cx K}{m:Mode}(hm:m=.fX\/m=.fresh){T:List Nat}{f:FuncId}{args:List (AV K)}{v:AV K}{c:Bool}{t:List Nat}(h:iN cx m H f args=some (v,H',c,t)):bn T H H':=by
 unfold iN at h;rcases hm with rfl|rfl
 ·simp only at h;split at h
  ·split at h
   ·split at h
    ·simp only[av,aJ]at h;rw[<-h.2.1];exact bn.app _ _ _
    ·cases h
   ·cases h
  ·cases h
 ·simp only at h;split at h
  ·split at h
   ·split at h
    ·split at h
     ·simp only[av,aJ]at h;rw[<-h.2.1];exact bn.app _ _ _
     ·cases h
    ·cases h
   ·cases h
  ·cases h
theorem RV:∀(m:List Nat)(H os:List (Ob K)){T:List Nat},(∀x∈m,x∈T)->bn T H (fW H m os)
 |[],H,os,T,_=>by cases os<;>exact bn.refl _ _
 |h::m,H,[],T,_=>bn.refl _ _
 |h::m,H,o::r,T,hm=>by
  simp only[fW];exact bn.trans (bn.set _ (hm h (by simp))) (RV m _ r fun x hx=>hm x (by simp[hx]))
theorem RX{cx:Cx K}{T:List Nat}{f:FuncId}{args:List (AV K)}{v:AV K}{c:Bool}{t:List Nat}(h:iN cx .pass H f args=some (v,H',c,t))(hT:∀x∈reach H 64 (bh args) [],x∈T):bn T H H':=by
 unfold iN at h;simp only at h;split at h
 ·cases h
 ·split at h
  ·split at h
   ·split at h
    ·split at h
     ·simp only[av,aJ]at h;rw[<-h.2.1];exact bn.trans (RV _ _ _ hT) (bn.app _ _ _)
     ·cases h
    ·cases h
   ·cases h
  ·cases h
theorem afC{cx:Cx K}{ev:Operand->AV K}{t:TypeId}{p:Operand}{v:AV K}{c:Bool}{ts:List Nat}(h:uJ cx ev H (.load t p)=some (v,H',c,ts)):bn (hands (ev p)) H H':=by
 unfold uJ at h;simp only at h;split at h
 ·split at h
  ·rename_i hh st i off ag n hp hag hn;split at h
   ·split at h
    ·split at h
     ·simp only[av,aJ]at h;rw[<-h.2.1,hp];exact(bn.set _ (by simp[hands])).trans (bn.app _ _ _)
     ·cases h
    ·cases h
   ·cases h
  ·cases h
 ·cases h
theorem afD{cx:Cx K}{tm:List (AV K)}{T t:TypeId}{p:Operand}{v:AV K}{c:Bool}{ts:List Nat}(hn:fN cx (.load t p)=false)(h:iR false cx tm [] H T (.load t p)=some (v,H',c,ts)):
 bn (match qP cx (fun x=>di H (cK tm [] x)) H (.load t p)with
  |some _=>[]
  |none=>hands (cK tm [] p)) H H':=by
 unfold iR at h;simp only at h;split at h
 ·rename_i v1 c1 hp;rw[hp];simp only[av,aJ]at h;rw[<-h.2.1];exact bn.refl _ _
 ·rename_i hp;rw[hp];simp only[gi,dN,hn]at h;split at h
  ·rename_i hov;simp only[av]at h;rw[h]at hov;exact afC hov
  ·split at h
   ·rename_i hct;simp[cutV]at hct
   ·simp[uI,uH,iQ,qQ]at h
theorem afE{cx:Cx K}{tm:List (AV K)}{gs:List (Nat×Bool)}{T:TypeId}{op:Op}{v:AV K}{c:Bool}{t:List Nat}(he:ov cx op=true)(hnl:∀a b,op≠.load a b)(h:iR false cx tm gs H T op=some (v,H',c,t)):bn ((ga (cK tm gs) op++FA (cK tm gs) op)++uQ cx H (cK tm gs) op) H H':=by
 unfold iR at h;split at h
 ·simp[ov]at he
 ·rename_i fo args _;cases fo with
  |func f=>
   have hf:(cx.mode f=.fresh\/(cx.mode f=.pass\/cx.mode f=.qc))/\(cx.opn=false\/cx.lz=true):=by simpa [ov]using he
   have Ge:(cx.opn&& !cx.lz&& !false)=false:=by rcases hf.2 with e|e<;>simp[e]
   have e:cK tm gs (.func f)=(.fn f []:AV K):=rfl;rw[e]at h;simp only[uL,Ge,gi,dN,oQ]at h
   replace hf:=hf.1
   rcases hf with hf|hf|hf
   rotate_left
   ·simp only[mo,hf,gi,dN]at h;refine RX h fun x hx=>du.2 (.inr ?_)
    simp only[uQ,hf];exact hx
   ·simp only[mo,hf,gi,dN,qE]at h;refine bn.trans (zY _ _ fun x hx=>du.2 (.inr ?_)) (RX h fun x hx=>du.2 (.inr ?_))
    ·simp only[uQ,hf];exact du.2 (.inl hx)
    ·simp only[uQ,hf];exact du.2 (.inr hx)
   simp only[mo,hf,gi,dN]at h;split at h
   ·rename_i hc;simp only[av]at h;rw[h]at hc;exact F9 (.inl rfl) hc
   ·split at h
    ·rename_i hc;simp only[av]at h;rw[h]at hc;exact F9 (.inr rfl) hc
    ·unfold qE at h;refine bn.trans (zY _ _ fun x hx=>?_) (F9 (.inl rfl) h);refine du.2 (.inl (du.2 (.inr ?_)));have key:∀l:List Operand,x∈bh (l.map fun y=>di H (cK tm gs y))->x∈bh (l.map (cK tm gs)):=fun l=>by
      induction l with
      |nil=>exact fun h=>h
      |cons y r ih=>
       simp only[fF,bh,du];exact fun h=>h.imp (jt _) ih
     exact key _ hx
  |_=>simp[ov]at he
 ·simp[ov]at he
 ·split at h
  ·simp only[av,aJ]at h;rw[<-h.2.1];exact bn.refl _ _
  ·rw[ax (by simp)]at h;split at h
   ·cases h
   ·split at h
    ·rename_i hov;exfalso;unfold uJ at hov;split at hov
     ·exact hnl _ _ rfl
     ·cases hov
    split at h
    ·rename_i hct;simp only[av]at h;rw[h]at hct;exact(afB hct).more fun x hx=>du.2 (.inl (du.2 (.inl hx)))
    ·exact(afA h).more fun x hx=>du.2 (.inl (du.2 (.inl hx)))
theorem RY:∀(l:List Nat)(h:Nat),(bitsOf l).testBit h=true↔h∈l
 |[],h=>by simp[bitsOf]
 |k::r,h=>by
  simp only[bitsOf,uM,fU,RY r,Nat.testBit_two_pow,bP,eJ];exact⟨fun h=>h.imp Eq.symm id,fun h=>h.imp Eq.symm id⟩
theorem RZ{A:Nat}:∀(ws:List Nat)(i h:Nat),(uS A i ws).testBit h=true↔∃(k:Nat)(b:Nat),ws[k]?=some b/\A.testBit (i+k)=false/\b.testBit h=true
 |[],i,h=>by simp[uS]
 |b::r,i,h=>by
  simp only[uS,uM,fU,RZ r];constructor
  ·rintro (h1|⟨k,b',h1,h2,h3⟩)
   ·split at h1
    ·simp at h1
    ·rename_i hA;exact⟨0,b,rfl,by simpa using hA,h1⟩
   ·exact⟨k+1,b',by simpa using h1,by rw[show i+(k+1)=i+1+k by omega];exact h2,h3⟩
  ·rintro ⟨k,b',h1,h2,h3⟩
   cases k with
   |zero=>simp at h1;subst h1;left;rw[ax (by simpa using h2)];exact h3
   |succ k=>exact .inr ⟨k,b',by simpa using h1,by rw[show i+1+k=i+(k+1) by omega];exact h2,h3⟩
theorem R7{A:Nat}{T:List Nat}:∀(ms:List (Nat×Nat))(i:Nat),zQ A T i ms=true->∀(k m n:Nat),ms[k]?=some (m,n)->A.testBit (i+k)=false->∀h∈T,h<n->m.testBit h=true
 |[],i,_,k,m,n,h,_=>by simp at h
 |(m0,n0)::r,i,hr,k,m,n,hk,hA=>by
  simp only[zQ,bc,fU,dW,bP]at hr;cases k with
  |zero=>
   simp at hk;obtain⟨rfl,rfl⟩:=hk;intro h hT hn;rcases hr.1 with h1|h1
   ·rw[Nat.add_zero]at hA;rw[hA]at h1;cases h1
   ·rcases h1 h hT with h2|h2
    ·omega
    ·exact h2
  |succ k=>exact R7 r (i+1) hr.2 k m n (by simpa using hk) (by rw[show i+1+k=i+(k+1) by omega];exact hA)
end Go.V
namespace Go.V
open Go
variable{K :cq}{H H':List (Ob K)}
theorem R9{cx:Cx K}{tm:List (AV K)}{T:TypeId}{op:Op}{v:AV K}{c:Bool}{t:List Nat}(he:ov cx op=true)(hq:ke cx op=false)(h:iR false cx tm [] H T op=some (v,H',c,t)):bn (ly cx tm H op) H H':=by
 by_cases hl:∃a b,op=.load a b
 ·obtain⟨a,b,rfl⟩:=hl;have:ly cx tm H (.load a b)=(match qP cx (fun x=>di H (cK tm [] x)) H (.load a b)with
   |some _=>[]
   |none=>hands (cK tm [] b)):=by unfold ly;rw[hq];rfl
  rw[this];exact afD hq h
 ·have:ly cx tm H op=(ga (cK tm []) op++FA (cK tm []) op)++uQ cx H (cK tm []) op:=by
   unfold ly;rw[hq];simp only[gi,dN];split
   ·rename_i a b;exact absurd ⟨a,b,rfl⟩ hl
   ·rfl
  rw[this];exact afE he (fun a b e=>hl ⟨a,b,e⟩) h
theorem afF{cx:Cx K}{ops:List Oper}{tm:List (AV K)}{wr:List Nat}{o:Oper}{v:AV K}{c:Bool}(h:uR cx ops tm H wr o=some (v,H',c)):bn (ly cx tm H o.op) H H':=by
 unfold uR at h;split at h
 ·rename_i hq;have:H'=H:=by
   unfold fA at h;split at h
   ·cases h
   ·split at h
    ·rename_i hy;split at h
     ·cases h
     ·simp only[av,aJ]at h;obtain⟨-,rfl,-⟩:=h;exact uV hy
    ·cases h
   ·split at h
    ·split at h
     ·split at h
      ·split at h
       ·rename_i hy;split at h
        ·cases h
        ·simp only[av,aJ]at h;obtain⟨-,rfl,-⟩:=h;exact uV hy
       ·cases h
      ·simp only[av,aJ]at h;exact h.2.1.symm
     ·cases h
    split at h
    ·cases h
    ·split at h
     ·split at h
      ·simp only[av,aJ]at h;exact h.2.1.symm
      ·cases h
     ·cases h
  subst this;exact bn.refl _ _
 ·rename_i hq;split at h
  ·rename_i he;have hq':ke cx o.op=false:=by simpa using hq
   unfold fA at h;split at h
   ·cases h
   ·split at h
    ·rename_i hy;split at h
     ·cases h
     ·simp only[av,aJ]at h;obtain⟨-,rfl,-⟩:=h;exact R9 he hq' hy
    ·cases h
   ·split at h
    ·split at h
     ·split at h
      ·split at h
       ·rename_i hy;split at h
        ·cases h
        ·simp only[av,aJ]at h;obtain⟨-,rfl,-⟩:=h;exact R9 he hq' hy
       ·cases h
      ·simp only[av,aJ]at h;rw[<-h.2.1];exact bn.refl _ _
     ·cases h
    split at h
    ·cases h
    ·split at h
     ·split at h
      ·simp only[av,aJ]at h;rw[<-h.2.1];exact bn.refl _ _
      ·cases h
     ·cases h
  ·cases h
structure iu (K:cq) where
 vals:Nat->AV K
 hin:Nat->List (Ob K)
 hout:Nat->List (Ob K)
 mask:Nat->Nat
 T:Nat->List Nat
def iu.W(F:iu K)(k h:Nat):Prop:=h∈F.T k\/((F.hin k).length<=h/\h<(F.hout k).length)
structure uY (cx:Cx K) (L:List Oper) (bs:List Nat) (bm:List (AV K)) (F:iu K) (i:Nat) (o:Oper) (cm:List (AV K)) (cU:List Nat):Prop where
 slot:uR cx L (dm (dE bs i) L 0 cm) (fB (F.mask i) 0 (F.hin i)) cU o=some (F.vals i,F.hout i,true)
 up:lx (F.hin i).length (dm (dE bs i) L 0 cm)=true
 zZ:(fB (F.mask i) 0 (F.hin i)).all (Ob.upto (F.hin i).length)=true
 turns:bn (F.T i) (fB (F.mask i) 0 (F.hin i)) (F.hout i)
 len:cm.length=bm.length
 fin:∀(k:Nat) o' d,L[k]?=some o'->o'.dst=some d->k<i->cm[d]?=some (F.vals k)
 rest:∀t,(∀(k:Nat) o,k<i->L[k]?=some o->o.dst≠some t)->cm[t]?=bm[t]?
 cU:∀d∈cU,∃(k:Nat)(o':Oper),k<i/\L[k]?=some o'/\o'.dst=some d
structure eH (cx:Cx K) (L:List Oper) (bs:List Nat) (H0:List (Ob K)) (bm:List (AV K)) (F:iu K) (n:Nat) (tm:List (AV K)) (H:List (Ob K)) (wr:List Nat) (ms:List (Nat×Nat)) (ws:List Nat):Prop where
 len:tm.length=bm.length
 uniq:∀(i j:Nat) o o' d,i<n->j<n->L[i]?=some o->L[j]?=some o'->o.dst=some d->o'.dst=some d->i=j
 inb:∀(i:Nat) o d,i<n->L[i]?=some o->o.dst=some d->d<bm.length
 fin:∀(i:Nat) o d,i<n->L[i]?=some o->o.dst=some d->tm[d]?=some (F.vals i)
 rest:∀t,(∀(k:Nat) o,k<n->L[k]?=some o->o.dst≠some t)->tm[t]?=bm[t]?
 jI:∀d,d∈wr↔∃(k:Nat)(o':Oper),k<n/\L[k]?=some o'/\o'.dst=some d
 slot:∀(i:Nat) o,i<n->L[i]?=some o->∃cm cU,uY cx L bs bm F i o cm cU
 h0:F.hin 0=H0
 hn:F.hin n=H
 hs:∀i,i<n->F.hin (i+1)=iq (F.mask i) 0 (F.hin i) (F.hout i)/\(F.hin i).length<=(F.hout i).length
 wR:ms.length=n
 wS:ws.length=n
 ms:∀i,i<n->ms[i]?=some (F.mask i,(F.hin i).length)
 ws:∀i,i<n->∃b,ws[i]?=some b/\∀h,b.testBit h=true↔F.W i h
 masks:∀i,i<n->∀h,(∃k,k<i/\(bs.getD i 0).testBit k=false/\F.W k h)->(F.mask i).testBit h=true
 clear:∀k,k<n->∀h∈F.T k,(F.mask k).testBit h=false/\h<(F.hin k).length
 readers:∀k,k<n->∀i,i<k->(bs.getD k 0).testBit i=false->∀h∈F.T k,h<(F.hin i).length->(F.mask i).testBit h=true
theorem FU{cx:Cx K}{L:List Oper}{bs:List Nat}:∀(l:List Oper)(i:Nat)(st st':St K)(wr wr':List Nat)(ms:List (Nat×Nat))(ws:List Nat),mF cx L bs l i st wr ms ws=some (st',wr')->st'.ok=true->st.ok=true
 |[],i,st,st',wr,wr',ms,ws,h,hok=>by simp only[mF,av,aJ]at h;rw[h.1];exact hok
 |o::r,i,st,st',wr,wr',ms,ws,h,hok=>by
  simp only[mF]at h;split at h
  ·split at h
   ·cases h
   ·split at h
    ·split at h
     ·rename_i st1 fl hp;obtain⟨p1,p2,-⟩:=mH hp;have q1:=FU r (i+1) st1 st' fl wr' _ _ h hok;rw[p2]at q1;simp only[bc]at q1;exact q1.2
     ·cases h
    ·cases h
  ·cases h
theorem Si{cx:Cx K}{L:List Oper}{bs:List Nat}{H0:List (Ob K)}{bm:List (AV K)}:∀(l:List Oper)(n:Nat)(st st':St K)(wr wr':List Nat)(ms:List (Nat×Nat))(ws:List Nat)(F:iu K),mF cx L bs l n st wr ms ws=some (st',wr')->st'.ok=true->
 (∀j,l[j]?=L[n+j]?)->n+l.length=L.length->eH cx L bs H0 bm F n st.tm st.H wr ms ws->∃F' ms' ws',eH cx L bs H0 bm F' L.length st'.tm st'.H wr' ms' ws'
 |[],n,st,st',wr,wr',ms,ws,F,h,hok,hl,hn,hp=>by
   simp only[mF,av,aJ]at h;obtain⟨rfl,rfl⟩:=h;simp at hn;subst hn;exact⟨F,ms,ws,hp⟩
 |o::r,n,st,st',wr,wr',ms,ws,F,h,hok,hl,hn,hp=>by
  have hLn:L[n]?=some o:=by have:=hl 0;simpa using this.symm
  simp only[mF]at h;split at h
  ·rename_i hup;simp only[bc]at hup;split at h
   ·cases h
   ·rename_i v H1 c hsv;split at h
    ·rename_i hrd;simp only[bc,bP]at hrd;split at h
     ·rename_i st1 fl hput;obtain⟨p1,p2,p3⟩:=mH hput;have hok1:=FU r (n+1) st1 st' fl wr' _ _ h hok;rw[p2]at hok1;simp only[bc]at hok1;obtain⟨rfl,-⟩:=hok1;have afG:=hp.hn
      let mk:=mE bs ws n (dm (dE bs n) L 0 st.tm) st.H.length o.op
      let TT:=ly cx (dm (dE bs n) L 0 st.tm) (fB mk 0 st.H) o.op
      let F':iu K:={vals:=fun i=>if i=n then v else F.vals i,hin:=fun i=>if i=n+1 then iq mk 0 st.H H1 else F.hin i,hout:=fun i=>if i=n then H1 else F.hout i,mask:=fun i=>if i=n then mk else F.mask i,T:=fun i=>if i=n then TT else F.T i}
      have ev:∀i,i<n->F'.vals i=F.vals i:=fun i hi=>by simp[F',show i≠n by omega]
      have eh:∀i,i<=n->F'.hin i=F.hin i:=fun i hi=>by simp[F',show i≠n+1 by omega]
      have eo:∀i,i<n->F'.hout i=F.hout i:=fun i hi=>by simp[F',show i≠n by omega]
      have em:∀i,i<n->F'.mask i=F.mask i:=fun i hi=>by simp[F',show i≠n by omega]
      have eT:∀i,i<n->F'.T i=F.T i:=fun i hi=>by simp[F',show i≠n by omega]
      have nv:F'.vals n=v:=by simp[F']
      have nh:F'.hin n=st.H:=by rw[eh n (bu _)];exact afG
      have Sj:F'.hin (n+1)=iq mk 0 st.H H1:=by simp[F']
      have no:F'.hout n=H1:=by simp[F']
      have nm:F'.mask n=mk:=by simp[F']
      have nT:F'.T n=TT:=by simp[F']
      have eW:∀i,i<n->∀h,F'.W i h↔F.W i h:=fun i hi h=>by unfold iu.W;rw[eT i hi,eh i (by omega),eo i hi]
      have FM:uY cx L bs bm F' n o st.tm wr:=
       {slot:=by rw[nv,no,nm,nh];exact hsv
        up:=by rw[nh];exact hup.1
        zZ:=by rw[nm,nh];exact hup.2
        turns:=by rw[nT,nm,nh,no];exact afF hsv
        len:=hp.len
        fin:=fun k o' d h1 h2 h3=>by rw[ev k h3];exact hp.fin k o' d h3 h1 h2
        rest:=fun t ht=>hp.rest t fun k o' hk h1=>ht k o' hk h1
        cU:=fun d hd=>(hp.jI d).1 hd}
      have oD:∀(i:Nat) o1,i<n+1->L[i]?=some o1->∃cm cU,uY cx L bs bm F' i o1 cm cU:=fun i o1 hi ho1=>by
       by_cases hin:i=n
       ·subst hin;rw[hLn]at ho1;simp at ho1;subst ho1;exact⟨_,_,FM⟩
       ·have hlt:i<n:=by omega
        obtain⟨cm,cU,a⟩:=hp.slot i o1 hlt ho1;exact⟨cm,cU,{slot:=by rw[ev i hlt,eo i hlt,em i hlt,eh i (by omega)];exact a.slot,up:=by rw[eh i (by omega)];exact a.up,zZ:=by rw[em i hlt,eh i (by omega)];exact a.zZ,turns:=by rw[eT i hlt,em i hlt,eh i (by omega),eo i hlt];exact a.turns,len:=a.len,fin:=fun k o' d h1 h2 h3=>by rw[ev k (by omega)];exact a.fin k o' d h1 h2 h3,rest:=a.rest,cU:=a.cU}⟩
      have hmk:∀h,(∃k,k<n/\(bs.getD n 0).testBit k=false/\F'.W k h)->mk.testBit h=true:=fun h=>by
       rintro ⟨k,hk,h2,h3⟩
       rw[show mk=uS (bs.getD n 0) 0 ws|||Q9 (dm (dE bs n) L 0 st.tm) st.H.length o.op from rfl,uM,fU];refine .inl ?_;rw[RZ];obtain⟨b',g1,g2⟩:=hp.ws k hk;exact⟨k,b',g1,by simpa using h2,(g2 h).2 ((eW k hk h).1 h3)⟩
      have base:eH cx L bs H0 bm F' (n+1) st1.tm st1.H fl (ms++[(mk,st.H.length)]) (ws++[bitsOf (TT++List.range' st.H.length (H1.length-st.H.length))]):=by
       have c1:F'.hin 0=H0:=by rw[eh 0 (by omega)];exact hp.h0
       have c2:F'.hin (n+1)=st1.H:=by rw[Sj,p1]
       have c3:∀i,i<n+1->F'.hin (i+1)=iq (F'.mask i) 0 (F'.hin i) (F'.hout i)/\(F'.hin i).length<=(F'.hout i).length:=fun i hi=>by
        by_cases hin:i=n
        ·subst hin;rw[Sj,nm,nh,no];exact⟨rfl,hrd.2⟩
        ·have hlt:i<n:=by omega
         rw[eh (i+1) (by omega),em i hlt,eh i (by omega),eo i hlt];exact hp.hs i hlt
       have c4:∀i,i<n+1->(ms++[(mk,st.H.length)])[i]?=some (F'.mask i,(F'.hin i).length):=fun i hi=>by
        by_cases hin:i=n
        ·subst hin;rw[nm,nh,cB (by rw[hp.wR];exact bu _),hp.wR];simp
        ·have hlt:i<n:=by omega
         rw[em i hlt,eh i (by omega),cn (by rw[hp.wR];exact hlt)];exact hp.ms i hlt
       have c5:∀i,i<n+1->∃b,(ws++[bitsOf (TT++List.range' st.H.length (H1.length-st.H.length))])[i]?=some b/\∀h,b.testBit h=true↔F'.W i h:=fun i hi=>by
        by_cases hin:i=n
        ·subst hin;refine⟨bitsOf (TT++List.range' st.H.length (H1.length-st.H.length)),by rw[cB (by rw[hp.wS];exact bu _),hp.wS];simp,fun h=>?_⟩;rw[RY,du];unfold iu.W;rw[nT,nh,no,List.mem_range'];constructor
         ·rintro (h1|⟨j,h1,h2⟩)
          ·exact .inl h1
          ·exact .inr (by omega)
         ·rintro (h1|⟨h1,h2⟩)
          ·exact .inl h1
          ·exact .inr ⟨h-st.H.length,by omega,by omega⟩
        ·have hlt:i<n:=by omega
         obtain⟨b,g1,g2⟩:=hp.ws i hlt;exact⟨b,by rw[cn (by rw[hp.wS];exact hlt)];exact g1,fun h=>(g2 h).trans (eW i hlt h).symm⟩
       have c6:∀i,i<n+1->∀h,(∃k,k<i/\(bs.getD i 0).testBit k=false/\F'.W k h)->(F'.mask i).testBit h=true:=fun i hi hh=>by
        by_cases hin:i=n
        ·subst hin;rw[nm];exact hmk hh
        ·have hlt:i<n:=by omega
         rw[em i hlt];exact fun⟨k,h1,h2,h3⟩=>hp.masks i hlt hh ⟨k,h1,h2,(eW k (by omega) hh).1 h3⟩
       have c7:∀k,k<n+1->∀i,i<k->(bs.getD k 0).testBit i=false->∀h∈F'.T k,h<(F'.hin i).length->(F'.mask i).testBit h=true:=fun k hk i hik hA hh hT hlt=>by
        rw[eh i (by omega)]at hlt;rw[em i (by omega)];by_cases hkn:k=n
        ·subst hkn;rw[nT]at hT;exact R7 ms 0 hrd.1.1 i _ _ (hp.ms i hik) (by simpa using hA) hh hT hlt
        ·rw[eT k (by omega)]at hT;exact hp.readers k (by omega) i hik hA hh hT hlt
       have c8:∀k,k<n+1->∀h∈F'.T k,(F'.mask k).testBit h=false/\h<(F'.hin k).length:=fun k hk hh hT=>by
        by_cases hkn:k=n
        ·subst hkn;rw[nT]at hT;rw[nm,nh];have:=hrd.1.2;rw[dW]at this;have h2:=this hh hT;rw[bc,eZ,bP]at h2;exact h2
        ·rw[eT k (by omega)]at hT;rw[em k (by omega),eh k (by omega)];exact hp.clear k (by omega) hh hT
       rcases p3 with⟨e1,e2,e3⟩|⟨d,e1,e2,e3,e4,e5⟩
       ·refine⟨by rw[e2];exact hp.len,fun i j o1 o2 d hi hj h1 h2 h3 h4=>?_,fun i o1 d hi h1 h2=>?_,fun i o1 d hi h1 h2=>?_,fun t ht=>by rw[e2];exact hp.rest t fun k o' hk=>ht k o' (by omega),fun d=>?_,oD,c1,c2,c3,by simp[hp.wR],by simp[hp.wS],c4,c5,c6,c8,c7⟩
        ·have hin:i≠n:=fun e=>by subst e;rw[hLn]at h1;simp at h1;subst h1;rw[e1]at h3;cases h3
         have hjn:j≠n:=fun e=>by subst e;rw[hLn]at h2;simp at h2;subst h2;rw[e1]at h4;cases h4
         exact hp.uniq i j o1 o2 d (by omega) (by omega) h1 h2 h3 h4
        ·have hin:i≠n:=fun e=>by subst e;rw[hLn]at h1;simp at h1;subst h1;rw[e1]at h2;cases h2
         exact hp.inb i o1 d (by omega) h1 h2
        ·have hin:i≠n:=fun e=>by subst e;rw[hLn]at h1;simp at h1;subst h1;rw[e1]at h2;cases h2
         rw[e2,ev i (by omega)];exact hp.fin i o1 d (by omega) h1 h2
        ·rw[e3,hp.jI d];constructor
         ·rintro ⟨k,o',hk,h1,h2⟩;exact⟨k,o',by omega,h1,h2⟩
         ·rintro ⟨k,o',hk,h1,h2⟩
          have hkn:k≠n:=fun e=>by subst e;rw[hLn]at h1;simp at h1;subst h1;rw[e1]at h2;cases h2
          exact⟨k,o',by omega,h1,h2⟩
       ·have hnew:∀(k:Nat) o',k<n->L[k]?=some o'->o'.dst≠some d:=fun k o' hk h1 h2=>e2 ((hp.jI d).2 ⟨k,o',hk,h1,h2⟩)
        have hdn:∀{o1:Oper}{d1:Nat},L[n]?=some o1->o1.dst=some d1->d1=d:=fun{o1 d1} h1 h2=>by rw[hLn]at h1;simp at h1;subst h1;rw[e1]at h2;simpa using h2.symm
        refine⟨by rw[e4];simp[hp.len],fun i j o1 o2 d1 hi hj h1 h2 h3 h4=>?_,fun i o1 d1 hi h1 h2=>?_,fun i o1 d1 hi h1 h2=>?_,fun t ht=>?_,fun d1=>?_,oD,c1,c2,c3,by simp[hp.wR],by simp[hp.wS],c4,c5,c6,c8,c7⟩
        ·by_cases hin:i=n<;>by_cases hjn:j=n
         ·omega
         ·subst hin;have:=hdn h1 h3;subst this;exact absurd h4 (hnew j o2 (by omega) h2)
         ·subst hjn;have:=hdn h2 h4;subst this;exact absurd h3 (hnew i o1 (by omega) h1)
         ·exact hp.uniq i j o1 o2 d1 (by omega) (by omega) h1 h2 h3 h4
        ·by_cases hin:i=n
         ·subst hin;have:=hdn h1 h2;subst this;rw[<-hp.len];exact e3
         ·exact hp.inb i o1 d1 (by omega) h1 h2
        ·rw[e4];by_cases hin:i=n
         ·subst hin;have:=hdn h1 h2;subst this;rw[eE,aC rfl,aC e3,nv]
         ·have hne:d1≠d:=fun e=>by subst e;exact hnew i o1 (by omega) h1 h2
          rw[eE,ax (lu hne),ev i (by omega)];exact hp.fin i o1 d1 (by omega) h1 h2
        ·have hne:d≠t:=fun e=>by subst e;exact ht n o (by omega) hLn e1
         rw[e4,eE,ax hne];exact hp.rest t fun k o' hk=>ht k o' (by omega)
        ·rw[e5,eJ,hp.jI d1];constructor
         ·rintro (rfl|⟨k,o',hk,h1,h2⟩)
          ·exact⟨n,o,by omega,hLn,e1⟩
          ·exact⟨k,o',by omega,h1,h2⟩
         ·rintro ⟨k,o',hk,h1,h2⟩
          by_cases hkn:k=n
          ·subst hkn;exact .inl (hdn h1 h2)
          ·exact .inr ⟨k,o',by omega,h1,h2⟩
      exact Si r (n+1) st1 st' fl wr' _ _ F' h hok (fun j=>by have:=hl (j+1);simp only[List.getElem?_cons_succ]at this;rw[this];congr 1;omega) (by simp at hn;omega) base
     ·cases h
    ·cases h
  ·cases h
theorem afi{cx:Cx K}{L:List Oper}{bs:List Nat}{st st':St K}{wr':List Nat}(h:mF cx L bs L 0 st [] [] []=some (st',wr'))(hok:st'.ok=true):
 ∃F ms ws,eH cx L bs st.H st.tm F L.length st'.tm st'.H wr' ms ws:=
 Si (bm:=st.tm) (H0:=st.H) L 0 st st' [] wr' [] [] {vals:=fun _=>.any,hin:=fun _=>st.H,hout:=fun _=>[],mask:=fun _=>0,T:=fun _=>[]} h hok (fun j=>by simp) (by simp)
  ⟨rfl,fun i j _ _ _ hi=>by omega,fun i _ _ hi=>by omega,fun i _ _ hi=>by omega,fun t _=>rfl,fun d=>by simp,fun i _ hi=>by omega,rfl,rfl,fun i hi=>by omega,rfl,rfl,fun i hi=>by omega,fun i hi=>by omega,fun i hi=>by omega,fun i hi=>by omega,fun i hi=>by omega⟩
end Go.V
namespace Go.V
open Go
variable{K :cq}{ρ ρ':List Value}{S S':Nat->Prop}{w w':World}{H H':List (Ob K)}{D:aY K}
section
variable{cx :Cx K}{L:List Oper}{bs:List Nat}{H0:List (Ob K)}{bm dF:List (AV K)}{F:iu K}{HF:List (Ob K)}{wr:List Nat}{ms:List (Nat×Nat)}{ws:List Nat}
theorem eH.oG(hp:eH cx L bs H0 bm F L.length dF HF wr ms ws){i:Nat}(hi:i<L.length):(F.hin (i+1)).length=(F.hout i).length:=by
 obtain⟨h1,h2⟩:=hp.hs i hi;rw[h1,zW _ _ _ h2]
theorem eH.mono(hp:eH cx L bs H0 bm F L.length dF HF wr ms ws):∀{i j:Nat},i<=j->j<=L.length->(F.hin i).length<=(F.hin j).length:=by
 intro i j hij hj
 induction j with
 |zero=>have:i=0:=by omega
        subst this;exact bu _
 |succ j ih=>
  rcases cM i (j+1)with h|h
  ·have h1:=ih (by omega) (by omega);rw[hp.oG (show j<L.length by omega)];exact eU h1 (hp.hs j (by omega)).2
  ·have:i=j+1:=by omega
   subst this;exact bu _
theorem eH.afH(hp:eH cx L bs H0 bm F L.length dF HF wr ms ws){i h:Nat}(hi:i<L.length)(hn:¬F.W i h)(hh:h<(F.hin i).length):(F.hin (i+1))[h]?=(F.hin i)[h]?:=by
 obtain⟨h1,h2⟩:=hp.hs i hi;obtain⟨cm,cU,a⟩:=hp.slot i L[i] hi (bL hi);rw[h1,zX _ _ _ _ h2];by_cases hm:h<(F.hin i).length/\(F.mask i).testBit (0+h)=true
 ·rw[aC hm]
 ·rw[ax hm];have hm':(F.mask i).testBit h=false:=by
   cases hb:(F.mask i).testBit h with
   |false=>rfl
   |true=>exact absurd ⟨hh,by rw[dB];exact hb⟩ hm
  have:=a.turns.2 h (by rw[wP];exact hh) (fun hT=>hn (.inl hT));rw[this,wO,dB,hm'];cases (F.hin i)[h]?<;>simp
theorem eH.stay(hp:eH cx L bs H0 bm F L.length dF HF wr ms ws){i h:Nat}:∀{j:Nat},i<=j->j<=L.length->(∀k,i<=k->k<j->¬F.W k h)->h<(F.hin i).length->(F.hin j)[h]?=(F.hin i)[h]?:=by
 intro j hij hj hn hh
 induction j with
 |zero=>have:i=0:=by omega
        subst this;rfl
 |succ j ih=>
  rcases cM i (j+1)with h1|h1
  ·have h2:=ih (by omega) (by omega) fun k a b=>hn k a (by omega)
   rw[hp.afH (by omega) (hn j (by omega) (by omega)) (iZ hh (hp.mono (by omega) (by omega))),h2]
  ·have:i=j+1:=by omega
   subst this;rfl
theorem eH.maker(hp:eH cx L bs H0 bm F L.length dF HF wr ms ws){j k h:Nat}(hj:j<L.length)(hk:k<L.length)(h1:(F.hin j).length<=h)(h2:h<(F.hout j).length)(h3:(F.hin k).length<=h)(h4:h<(F.hout k).length):j=k:=by
 rcases Nat.lt_trichotomy j k with h|h|h
 ·have:=hp.mono (show j+1<=k by omega) (by omega);rw[hp.oG hj]at this;omega
 ·exact h
 ·have:=hp.mono (show k+1<=j by omega) (by omega);rw[hp.oG hk]at this;omega
theorem eH.made(hp:eH cx L bs H0 bm F L.length dF HF wr ms ws){h:Nat}:∀{j:Nat},j<=L.length->h<(F.hin j).length->H0.length<=h->∃k,k<j/\(F.hin k).length<=h/\h<(F.hout k).length:=by
 intro j hj hh h0
 induction j with
 |zero=>rw[hp.h0]at hh;omega
 |succ j ih=>
  rw[hp.oG (show j<L.length by omega)]at hh;rcases cM h (F.hin j).length with h1|h1
  ·obtain⟨k,a,b⟩:=ih (by omega) h1;exact⟨k,by omega,b⟩
  ·exact⟨j,by omega,h1,hh⟩
end
theorem Sl{p:Nat->Prop}{n:Nat}(hb:∀k,p k->k<n)(h:∃k,p k):∃k,p k/\∀k',p k'->k'<=k:=by
 induction n with
 |zero=>obtain⟨k,hk⟩:=h;exact absurd (hb k hk) (i4 _)
 |succ n ih=>
  by_cases hn:p n
  ·exact⟨n,hn,fun k' hk'=>by have:=hb k' hk';omega⟩
  ·exact ih fun k hk=>by
    have:=hb k hk;rcases cM k n with h1|h1
    ·exact h1
    ·have:k=n:=by omega
     subst this;exact absurd hk hn
structure gX (cx:Cx K) (L:List Oper) (bs:List Nat) (bm:List (AV K)) (F:iu K) (H0 HF H:List (Ob K)) (ρ:List Value) (S:Nat->Prop) (listed:Array Bool) (a:Act) (w:World):Prop where
 heap:aL cx.D ρ S w H
 hlen:H.length=HF.length
 defers:a.defers=[]
 size:a.tmps.size=bm.length
 kf:listed.size=L.length
 base:∀(t:Nat) v x,(∀(k:Nat) o,L[k]?=some o->o.dst=some t->listed[k]?≠some true)->bm[t]?=some v->a.tmps[t]?=some x->Rep cx.D ρ S w v x
 done:∀(k:Nat) o d x,L[k]?=some o->listed[k]?=some true->o.dst=some d->a.tmps[d]?=some x->dk cx.D ρ S w a.tmps (F.vals k) x
 opts:∀(k g:Nat) b y,listed[k]?=some true->F.vals k=.opt g b y->∃(k':Nat)(o':Oper),L[k']?=some o'/\o'.dst=some g/\listed[k']?=some true
 closed:∀(k:Nat) o,L[k]?=some o->listed[k]?=some true->∀e∈o.after,listed[e.on]?=some true
 Gf:∀h,(∀k,listed[k]?=some true->¬F.W k h)->h<HF.length->(h<H0.length->H[h]?=H0[h]?)/\(H0.length<=h->H[h]?=some .dead)
 Gg:∀h k,listed[k]?=some true->F.W k h->(∀k',listed[k']?=some true->F.W k' h->k'<=k)->H[h]?=(F.hin (k+1))[h]?
 Sm:∀h,H0.length<=h->h<HF.length->(∀k,listed[k]?=some true->¬((F.hin k).length<=h/\h<(F.hout k).length))->ρ[h]?=some dummy
section
variable{cx :Cx K}{L:List Oper}{bs:List Nat}{H0:List (Ob K)}{bm dF:List (AV K)}{F:iu K}{HF:List (Ob K)}{wr:List Nat}{ms:List (Nat×Nat)}{ws:List Nat}{listed:Array Bool}{a:Act}
theorem gX.sees(hp:eH cx L bs H0 bm F L.length dF HF wr ms ws)(hm:gX cx L bs bm F H0 HF H ρ S listed a w){j:Nat}(hj:j<L.length)(eP:listed[j]?=some false)
 (hA:∀k,(bs.getD j 0).testBit k=true->listed[k]?=some true) (hcl:∀i k,listed[i]?=some true->(bs.getD i 0).testBit k=true->listed[k]?=some true) {h:Nat} (hh:h<(F.hin j).length) (hun:(F.mask j).testBit h=false):H[h]?=(F.hin j)[h]?:=by
 have hlt:∀k,listed[k]?=some true->k<L.length:=fun k hk=>by have:=(gB.1 hk).1;rw[hm.kf]at this;exact this
 have hne:∀k,listed[k]?=some true->k≠j:=fun k hk e=>by subst e;rw[eP]at hk;cases hk
 have hbef:∀k,k<j->F.W k h->listed[k]?=some true:=fun k hk hw=>by
  cases hb:(bs.getD j 0).testBit k with
  |true=>exact hA k hb
  |false=>have:=hp.masks j hj h ⟨k,hk,hb,hw⟩;rw[hun]at this;cases this
 have haft:∀k,listed[k]?=some true->F.W k h->k<j:=fun k hk hw=>by
  rcases Nat.lt_trichotomy k j with h1|h1|h1
  ·exact h1
  ·exact absurd h1 (hne k hk)
  ·have jJ:=hlt k hk;have hlen:=hp.mono (show j<=k by omega) (by omega);rcases hw with hT|⟨h2,-⟩
   ·cases hb:(bs.getD k 0).testBit j with
    |true=>have:=hcl k j hk hb;rw[eP]at this;cases this
    |false=>have:=hp.readers k jJ j h1 hb h hT hh;rw[hun]at this;cases this
   ·omega
 by_cases hex:∃k,listed[k]?=some true/\F.W k h
 ·obtain⟨k,⟨hk1,hk2⟩,hk3⟩:=Sl (p:=fun k=>listed[k]?=some true/\F.W k h) (n:=L.length) (fun k hk=>hlt k hk.1) hex;rw[hm.Gg h k hk1 hk2 fun k' a b=>hk3 k' ⟨a,b⟩];have hkj:=haft k hk1 hk2;have hno:∀k',k+1<=k'->k'<j->¬F.W k' h:=fun k' h1 h2 hw=>by have:=hk3 k' ⟨hbef k' h2 hw,hw⟩;omega
  by_cases hl:h<(F.hin (k+1)).length
  ·exact(hp.stay (show k+1<=j by omega) (by omega) hno hl).symm
  ·
   exfalso;have:H0.length<=h:=by have:=hp.mono (show 0<=k+1 by omega) (show k+1<=L.length by omega);rw[hp.h0]at this;omega
   obtain⟨k',g1,g2,g3⟩:=hp.made (show j<=L.length by omega) hh this;by_cases hkk:k+1<=k'
   ·exact hno k' hkk g1 (.inr ⟨g2,g3⟩)
   ·have:=hp.mono (show k'+1<=k+1 by omega) (show k+1<=L.length by omega);rw[hp.oG (show k'<L.length by omega)]at this;omega
 ·have hno:∀k,listed[k]?=some true->¬F.W k h:=fun k a b=>hex ⟨k,a,b⟩
  have rh:∀k,0<=k->k<j->¬F.W k h:=fun k _ hk hw=>hno k (hbef k hk hw) hw
  have hHF:h<HF.length:=by have:=hp.mono (show j<=L.length by omega) (bu _);rw[hp.hn]at this;omega
  obtain⟨g1,g2⟩:=hm.Gf h hno hHF;by_cases h0:h<H0.length
  ·rw[g1 h0,hp.stay (ew j) (by omega) rh (by rw[hp.h0];exact h0),hp.h0]
  ·obtain⟨k',a1,a2,a3⟩:=hp.made (show j<=L.length by omega) hh (by omega);exact absurd (.inr ⟨a2,a3⟩) (rh k' (ew _) a1)
end
end Go.V
