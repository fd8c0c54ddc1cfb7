/-
  A REGION WHOSE ORDER IS LEFT OPEN, WITH OPERATIONS THAT MAKE AND TURN OBJECTS: each is read with no more than what comes ahead of it; what an operation makes gets the number that it has in the text's order; what one turns no other may lean on that is not bound to it by an edge.
-/
import Derived.Test.YtghkckfhaljjjaaGreatDoorXWdrawA
set_option linter.unusedVariables false
namespace Go.V
open Go
variable {K :dh}{ρ ρ':List Value}{S S':Nat->Prop}{w w':World}{H H':List (Ob K)}{D:bH K}
theorem zg{bits:Nat}:∀(l:List (Ob K))(i k:Nat),(iN bits i l)[k]?=(l[k]?).map fun o=>if bits.testBit (i+k)then .dead else o
 |[],i,k=>by simp[iN]
 |o::r,i,0=>by simp[iN]
 |o::r,i,k+1=>by
  simp only[iN,List.getElem?_cons_succ];rw[zg r (i+1) k,show i+1+k=i+(k+1) by omega]
theorem zh{bits:Nat}:∀(l:List (Ob K))(i:Nat),(iN bits i l).length=l.length
 |[],i=>rfl
 |o::r,i=>by simp only[iN,ak,zh r]
theorem DU{bits:Nat}:∀(l l':List (Ob K))(i:Nat),l.length<=l'.length->(kF bits i l l').length=l'.length
 |[],l',i,_=>by simp[kF]
 |o::r,[],i,h=>by simp at h
 |o::r,o'::r',i,h=>by
  simp only[kF,ak];rw[DU r r' (i+1) (by simpa using h)]
theorem DV{bits:Nat}:∀(l l':List (Ob K))(i k:Nat),l.length<=l'.length->(kF bits i l l')[k]?=if k<l.length/\bits.testBit (i+k)=true then l[k]? else l'[k]?
 |[],l',i,k,_=>by simp[kF]
 |o::r,[],i,k,h=>by simp at h
 |o::r,o'::r',i,0,h=>by
  simp only[kF,List.getElem?_cons_zero,ak,Nat.add_zero];by_cases hb:bits.testBit i=true<;>simp[hb]
 |o::r,o'::r',i,k+1,h=>by
  simp only[kF,List.getElem?_cons_succ,ak,Nat.add_lt_add_iff_right];rw[DV r r' (i+1) k (by simpa using h),show i+1+k=i+(k+1) by omega]
theorem uB{n:Nat}:∀{l:List (AV K)}{i:Nat}{v:AV K},ov n l=true->l[i]?=some v->v.upto n=true
 |[],i,v,_,h=>by simp at h
 |x::r,0,v,h,hv=>by simp at hv;subst hv;simp only[ov,cG]at h;exact h.1
 |x::r,i+1,v,h,hv=>by simp only[ov,cG]at h;exact uB h.2 (by simpa using hv)
theorem Rep.take(hD:bR D){n:Nat}{v:AV K}{x:Value}(h:Rep D ρ S w v x):v.upto n=true->Rep D (ρ.take n) S w v x:=by
 have tk:∀{k:Nat}{r:Value},k<n->ρ[k]?=some r->(ρ.take n)[k]?=some r:=fun hk hr=>by rw[fa,aY hk];exact hr
 induction h with
 |any v=>exact fun _=>.any v
 |int k n=>exact fun _=>.int k n
 |bool b=>exact fun _=>.bool b
 |str s=>exact fun _=>.str s
 |dx=>exact fun _=>.dx
 |dn=>exact fun _=>.dn
 |fn hl _ ih=>exact fun hu=>.fn hl fun i v x h1 h2=>ih i v x h1 h2 (uB (by simpa [AV.upto]using hu) h1)
 |kz=>exact fun _=>.kz
 |np hp=>exact fun hu=>.np (tk (by simpa [AV.upto]using hu) hp)
 |ptr hp=>exact fun hu=>.ptr (tk (by simpa [AV.upto]using hu) hp)
 |sl hp=>exact fun hu=>.sl (tk (by simpa [AV.upto]using hu) hp)
 |ep hp hi=>exact fun hu=>.ep (tk (by simpa [AV.upto]using hu) hp) hi
 |vw hp h1 h2 ha=>exact fun hu=>.vw (tk (by simpa [AV.upto]using hu) hp) h1 h2 ha
 |fc a cap=>exact fun _=>.fc a cap
 |an val h1 h2 h3 h4 h5 ih=>exact fun _=>(Rep.an val h1 h2 h3 h4 h5).closed hD rfl
 |rp vs h1 h2 h3 h4 ih=>exact fun _=>(Rep.rp vs h1 h2 h3 h4).closed hD rfl
 |agg hl _ ih=>exact fun hu=>.agg hl fun i v x h1 h2=>ih i v x h1 h2 (uB (by simpa [AV.upto]using hu) h1)
 |bC hl _ ih=>exact fun hu=>.bC hl fun i v x h1 h2=>ih i v x h1 h2 (uB (by simpa [AV.upto]using hu) h1)
theorem bh.aeQ(hD:bR D){n:Nat}{l:List (AV K)}{vs:List Value}(h:bh D ρ S w l vs)(hu:ov n l=true):bh D (ρ.take n) S w l vs:=
 ⟨h.1,fun i v x h1 h2=>(h.2 i v x h1 h2).take hD (uB hu h1)⟩
def dummy:Value:=.bool false
theorem Rep.mono'(hS:∀b,S b->S' b)(hw:∀b,S b->w'.heap[b]?=w.heap[b]?)(hρ:∀(h:Nat) r,ρ[h]?=some r->r≠dummy->ρ'[h]?=some r){v:AV K}{x:Value}
 (h:Rep D ρ S w v x):Rep D ρ' S' w' v x:=by
 induction h with
 |any v=>exact .any v
 |int k n=>exact .int k n
 |bool b=>exact .bool b
 |str s=>exact .str s
 |dx=>exact .dx
 |dn=>exact .dn
 |fn hl _ ih=>exact .fn hl ih
 |kz=>exact .kz
 |np hp=>exact .np (hρ _ _ hp (by simp[dummy]))
 |ptr hp=>exact .ptr (hρ _ _ hp (by simp[dummy]))
 |sl hp=>exact .sl (hρ _ _ hp (by simp[dummy]))
 |ep hp hi=>exact .ep (hρ _ _ hp (by simp[dummy])) hi
 |vw hp h1 h2 ha=>exact .vw (hρ _ _ hp (by simp[dummy])) h1 h2 ha
 |fc a cap=>exact .fc a cap
 |an val h1 h2 h3 h4 _ ih=>exact .an val (hS _ h1) h2 h3 (fun i hi=>(h4 i hi).keep (hw _ h1)) ih
 |rp vs h1 h2 h3 _ ih=>exact .rp vs (hS _ h1) h2 (h3.keep (hw _ h1)) ih
 |agg hl _ ih=>exact .agg hl ih
 |bC hl _ ih=>exact .bC hl ih
theorem bh.mono'(hS:∀b,S b->S' b)(hw:∀b,S b->w'.heap[b]?=w.heap[b]?)(hρ:∀(h:Nat) r,ρ[h]?=some r->r≠dummy->ρ'[h]?=some r){l:List (AV K)}{vs:List Value}
 (h:bh D ρ S w l vs):bh D ρ' S' w' l vs:=⟨h.1,fun i v x hv hx=>(h.2 i v x hv hx).mono' hS hw hρ⟩
theorem gJ.take(hD:bR D){n:Nat}{o:Ob K}{r:Value}(h:gJ D ρ S w o r)(hu:o.upto n=true):gJ D (ρ.take n) S w o r:=by
 cases o with
 |dead=>trivial
 |gK c l=>exact Rep.closed hD h rfl
 |box cs=>
  obtain⟨b,vs,T,h1,h2,h3,h4⟩:=h;exact⟨b,vs,T,h1,h2,h3.aeQ hD hu,h4⟩
 |arr c l=>
  rcases h with h|⟨b,o,cap,vs,T,fr,h1,h2,h3,h4,h5,h6⟩
  ·exact .inl h
  ·exact .inr ⟨b,o,cap,vs,T,fr,h1,h2,h3,h4,h5,fun i x hx=>(h6 i x hx).closed hD (hD.closed _ _)⟩
 |tree c l=>exact h
 |opn c l i off cs=>exact oz.keep (fun j v u hv hr=>hr.take hD (uB hu hv)) (fun _ _=>rfl) h
theorem gJ.mono'(hS:∀b,S b->S' b)(hw:∀b,S b->w'.heap[b]?=w.heap[b]?)(hρ:∀(h:Nat) r,ρ[h]?=some r->r≠dummy->ρ'[h]?=some r){o:Ob K}{r:Value}(h:gJ D ρ S w o r)
 (hb:∀b,o.live=true->cJ D w o r b->w'.heap[b]?=w.heap[b]?):gJ D ρ' S' w' o r:=by
 cases o with
 |dead=>trivial
 |gK c l=>exact Rep.mono' hS hw hρ h
 |box cs=>
  obtain⟨b,vs,T,rfl,h2,h3,h4⟩:=h;exact⟨b,vs,T,rfl,by rw[hb b rfl rfl];exact h2,h3.mono' hS hw hρ,h4⟩
 |arr c l=>
  rcases h with h|⟨b,o,cap,vs,T,fr,rfl,h2,h3,h4,h5,h6⟩
  ·exact .inl h
  ·exact .inr ⟨b,o,cap,vs,T,fr,rfl,by rw[hb b rfl rfl];exact h2,h3,h4,h5,fun i x hx=>(h6 i x hx).mono' hS hw hρ⟩
 |tree c l=>exact Tree.mono h fun k hk=>hb k rfl hk
 |opn c l i off cs=>exact oz.keep (fun _ _ _ _ hr=>hr.mono' hS hw hρ) (fun k hk=>hb k rfl hk) h
structure View (n:Nat) (H Hv:List (Ob K)):Prop where
 len:Hv.length=n
 le:n<=H.length
 ob:∀(h:Nat) o,Hv[h]?=some o->o=.dead\/H[h]?=some o
 up:∀(h:Nat) o,Hv[h]?=some o->o.upto n=true
theorem View.lt{n:Nat}{H Hv:List (Ob K)}(v:View n H Hv){h:Nat}{o:Ob K}(ho:Hv[h]?=some o):h<n:=by
 have:=(bD.1 ho).1;rw[v.len]at this;exact this
theorem View.live{n:Nat}{H Hv:List (Ob K)}(v:View n H Hv){h:Nat}{o:Ob K}(ho:Hv[h]?=some o)(hl:o.live=true):H[h]?=some o:=by
 rcases v.ob h o ho with rfl|h
 ·cases hl
 ·exact h
theorem View.own{n:Nat}{H Hv:List (Ob K)}(v:View n H Hv){b:Nat}(h:Own D w (ρ.take n) Hv b):Own D w ρ H b:=by
 obtain⟨h,o,r,h1,h2,h3,h4⟩:=h;rw[fa,aY (v.lt h1)]at h3;exact⟨h,o,r,v.live h1 h2,h2,h3,h4⟩
theorem aS.view(hD:bR D){n:Nat}{H Hv:List (Ob K)}(hs:aS D ρ S w H)(v:View n H Hv):aS D (ρ.take n) S w Hv:={
 len:=by rw[om,hs.len,v.len];have:=v.le;omega
 ob:=fun h o r ho hr=>by
  rw[fa,aY (v.lt ho)]at hr;rcases v.ob h o ho with rfl|h1
  ·trivial
  ·exact(hs.ob h o r h1 hr).take hD (v.up h o ho)
 eV:=fun h h' o o' r r' b h1 h2 h3 h4 h5 h6 h7 h8=>by
  rw[fa,aY (v.lt h1)]at h3;rw[fa,aY (v.lt h5)]at h7;exact hs.eV h h' o o' r r' b (v.live h1 h2) h2 h3 h4 (v.live h5 h6) h6 h7 h8
 lt:=fun b hb=>hs.lt b (v.own hb)
 slt:=hs.slt
 base:=hs.base}
structure Joined (n m:Nat) (H Hv H1 Hf:List (Ob K)):Prop where
 le:n<=m
 len1:H1.length=m
 len:Hf.length=H.length
 PC:m<=H.length
 ob:∀(h:Nat) o,Hf[h]?=some o->(h<m/\H1[h]?=some o)\/(H[h]?=some o/\((h<n/\Hv[h]?=some .dead)\/m<=h))
theorem PD{n m:Nat}{ρ ρ1:List Value}(hl:ρ1.length=m)(hm:m<=ρ.length)(k:Nat):(ρ1++ρ.drop m)[k]?=if k<m then ρ1[k]? else ρ[k]?:=by
 by_cases h:k<m
 ·rw[aY h,b9 (by omega)]
 ·rw[aT h,eR (by omega),iY];congr 1;omega
theorem aS.join{n m n0:Nat}{H Hv H1 Hf:List (Ob K)}{ρ1:List Value}{S1:Nat->Prop}{w1:World}(hs:aS D ρ S w H)(v:View n H Hv)(hs1:aS D ρ1 S1 w1 H1)(st:Step D n (ρ.take n) S Hv w ρ1 S1 H1 w1)(j:Joined n m H Hv H1 Hf)
 (hd:∀h,n<=h->h<m->ρ[h]?=some dummy) (hn0:n0<=n):aS D (ρ1++ρ.drop m) S1 w1 Hf/\Step D n0 ρ S H w (ρ1++ρ.drop m) S1 Hf w1/\∀(h:Nat) r,ρ[h]?=some r->r≠dummy->(ρ1++ρ.drop m)[h]?=some r:=by
 have hl1:ρ1.length=m:=by rw[hs1.len,j.len1]
 have aeR:m<=ρ.length:=by rw[hs.len];exact j.PC
 have hρ:∀k,(ρ1++ρ.drop m)[k]?=if k<m then ρ1[k]? else ρ[k]?:=PD (n:=n) hl1 aeR
 have hpre:∀h,h<n->ρ1[h]?=ρ[h]?:=fun h hh=>by rw[st.pre h hh,fa,aY hh]
 have hmono:∀(h:Nat) r,ρ[h]?=some r->r≠dummy->(ρ1++ρ.drop m)[h]?=some r:=fun h r hr hne=>by
  rw[hρ];by_cases h1:h<m
  ·rw[aY h1];by_cases h2:h<n
   ·rw[hpre h h2];exact hr
   ·rw[hd h (by omega) h1]at hr;exact absurd (fA hr).symm hne
  ·rw[aT h1];exact hr
 have hun:∀{h:Nat}{o:Ob K}{r:Value}{b:Nat},H[h]?=some o->o.live=true->ρ[h]?=some r->cJ D w o r b->((h<n/\Hv[h]?=some .dead)\/m<=h)->¬Own D w (ρ.take n) Hv b:=fun{h o r b} h1 h2 h3 h4 h5 ho=>by
  obtain⟨h',o',r',g1,g2,g3,g4⟩:=ho;have g3':ρ[h']?=some r':=by rw[fa,aY (v.lt g1)]at g3;exact g3
  have e:=hs.eV h h' o o' r r' b h1 h2 h3 h4 (v.live g1 g2) g2 g3' g4;subst e;rcases h5 with⟨-,h5⟩|h5
  ·rw[g1]at h5;simp at h5;subst h5;cases g2
  ·have:=v.lt g1;have:=j.le;omega
 have hblk:∀{h:Nat}{o:Ob K}{r:Value}{b:Nat},H[h]?=some o->o.live=true->ρ[h]?=some r->cJ D w o r b->b<w.heap.size/\¬S b:=fun{h o r b} h1 h2 h3 h4=>hs.lt b ⟨h,o,r,h1,h2,h3,h4⟩
 have hkp:∀{h:Nat}{o:Ob K}{r:Value},H[h]?=some o->o.live=true->ρ[h]?=some r->((h<n/\Hv[h]?=some .dead)\/m<=h)->∀b,cJ D w o r b->w1.heap[b]?=w.heap[b]?:=fun{h o r} h1 h2 h3 h5 b h4=>st.old b (hblk h1 h2 h3 h4).1 (hun h1 h2 h3 h4 h5)
 have hrr:∀{h:Nat}{o:Ob K}{r:Value},H[h]?=some o->((h<n/\Hv[h]?=some .dead)\/m<=h)->(ρ1++ρ.drop m)[h]?=some r->ρ[h]?=some r:=fun{h o r} _ h5 hr=>by
  rw[hρ]at hr;rcases h5 with⟨h5,-⟩|h5
  ·rw[aY (by have:=j.le;omega),hpre h h5]at hr;exact hr
  ·rw[aT (by omega)]at hr;exact hr
 have hown:∀b,Own D w1 (ρ1++ρ.drop m) Hf b->Own D w1 ρ1 H1 b\/∃(h:Nat)(o:Ob K)(r:Value),H[h]?=some o/\o.live=true/\ρ[h]?=some r/\cJ D w o r b/\((h<n/\Hv[h]?=some .dead)\/m<=h):=fun b hb=>by
  obtain⟨h,o,r,g1,g2,g3,g4⟩:=hb;rcases j.ob h o g1 with⟨k1,k2⟩|⟨k1,k2⟩
  ·rw[hρ,aY k1]at g3;exact .inl ⟨h,o,r,k2,g2,g3,g4⟩
  ·exact .inr ⟨h,o,r,k1,g2,hrr k1 k2 g3,g4.old (hkp k1 g2 (hrr k1 k2 g3) k2),k2⟩
 have hnew:∀b,Own D w1 ρ1 H1 b->Own D w (ρ.take n) Hv b\/w.heap.size<=b:=st.own;refine⟨⟨?_,?_,?_,?_,hs1.slt,hs1.base⟩,⟨st.os,st.tape,st.output,st.size,fun b hb ho=>st.old b hb fun h=>ho (v.own h),fun b hb=>?_,st.s1,fun b hb=>?_,fun h hh=>?_⟩,hmono⟩
 ·rw[aN,List.length_drop,hl1,hs.len,j.len];have:=j.PC;omega
 ·intro h o r g1 g2;rcases j.ob h o g1 with⟨k1,k2⟩|⟨k1,k2⟩
  ·rw[hρ,aY k1]at g2;refine(hs1.ob h o r k2 g2).mono' (fun _ h=>h) (fun _ _=>rfl) (fun h' r' hr' _=>?_) (fun _ _ _=>rfl);have:h'<m:=by have:=(bD.1 hr').1;omega
   rw[hρ,aY this];exact hr'
  ·have g2':=hrr k1 k2 g2;exact(hs.ob h o r k1 g2').mono' st.s1 (fun b hb=>st.old b (hs.slt b hb) fun ho=>(hs.lt b (v.own ho)).2 hb) hmono fun b hl hbk=>st.old b (hblk k1 hl g2' hbk).1 (hun k1 hl g2' hbk k2)
 ·intro h h' o o' r r' b g1 g2 g3 g4 g5 g6 g7 g8;rcases j.ob h o g1 with⟨k1,k2⟩|⟨k1,k2⟩<;>rcases j.ob h' o' g5 with⟨l1,l2⟩|⟨l1,l2⟩
  ·rw[hρ,aY k1]at g3;rw[hρ,aY l1]at g7;exact hs1.eV h h' o o' r r' b k2 g2 g3 g4 l2 g6 g7 g8
  ·rw[hρ,aY k1]at g3;have JL:=hrr l1 l2 g7;have g8:=g8.old (hkp l1 g6 JL l2);rcases hnew b ⟨h,o,r,k2,g2,g3,g4⟩with ho|ho
   ·exact absurd ho (hun l1 g6 JL g8 l2)
   ·have:=(hblk l1 g6 JL g8).1;omega
  ·rw[hρ,aY l1]at g7;have g3':=hrr k1 k2 g3;have g4:=g4.old (hkp k1 g2 g3' k2);rcases hnew b ⟨h',o',r',l2,g6,g7,g8⟩with ho|ho
   ·exact absurd ho (hun k1 g2 g3' g4 k2)
   ·have:=(hblk k1 g2 g3' g4).1;omega
  ·exact hs.eV h h' o o' r r' b k1 g2 (hrr k1 k2 g3) (g4.old (hkp k1 g2 (hrr k1 k2 g3) k2)) l1 g6 (hrr l1 l2 g7) (g8.old (hkp l1 g6 (hrr l1 l2 g7) l2))
 ·intro b hb;rcases hown b hb with ho|⟨h,o,r,k1,k2,k3,k4,k5⟩
  ·exact hs1.lt b ho
  ·obtain⟨a1,a2⟩:=hblk k1 k2 k3 k4;refine⟨kY a1 st.size,fun hS=>?_⟩;rcases st.s2 b hS with h1|h1|h1
   ·exact a2 h1
   ·exact hun k1 k2 k3 k4 k5 h1
   ·omega
 ·rcases hown b hb with ho|⟨h,o,r,k1,k2,k3,k4,-⟩
  ·rcases hnew b ho with h1|h1
   ·exact .inl (v.own h1)
   ·exact .inr h1
  ·exact .inl ⟨h,o,r,k1,k2,k3,k4⟩
 ·rcases st.s2 b hb with h1|h1|h1
  ·exact .inl h1
  ·exact .inr (.inl (v.own h1))
  ·exact .inr (.inr h1)
 ·rw[hρ,aY (by have:=j.le;omega),hpre h (by omega)]
end Go.V
namespace Go.V
open Go
variable {K :dh}{H H':List (Ob K)}
def cC(T:List Nat)(H H':List (Ob K)):Prop:=H.length<=H'.length/\∀h,h<H.length->h∉T->H'[h]?=H[h]?
theorem cC.refl(T:List Nat)(H:List (Ob K)):cC T H H:=⟨fh _,fun _ _ _=>rfl⟩
theorem cC.app(T:List Nat)(H N:List (Ob K)):cC T H (H++N):=⟨by simp,fun h hh _=>b9 hh⟩
theorem cC.trans{T:List Nat}{H H1 H2:List (Ob K)}(a:cC T H H1)(b:cC T H1 H2):cC T H H2:=
 ⟨lU a.1 b.1,fun h hh hn=>(b.2 h (kY hh a.1) hn).trans (a.2 h hh hn)⟩
theorem cC.set{T:List Nat}{H:List (Ob K)}{h:Nat}(o:Ob K)(hT:h∈T):cC T H (H.set h o):=
 ⟨by simp,fun k _ hn=>List.getElem?_set_ne (fun e=>hn (by rw[<-e];exact hT))⟩
theorem cC.more{T T':List Nat}{H H1:List (Ob K)}(a:cC T H H1)(h:∀x∈T,x∈T'):cC T' H H1:=⟨a.1,fun k hk hn=>a.2 k hk fun hm=>hn (h k hm)⟩
theorem JM(dp:K.U->Bool):∀(cs:List (Option K.U))(l:List (AV K))(H:List (Ob K)),∃N,(thaw dp H cs l).2=H++N
 |[],l,H=>⟨[],by simp[thaw]⟩
 |some c::cs,[],H=>⟨[],by simp[thaw]⟩
 |none::cs,[],H=>⟨[],by simp[thaw]⟩
 |oc::cs,v::r,H=>by
  have keep:thaw dp H (oc::cs) (v::r)=(v::(thaw dp H cs r).1,(thaw dp H cs r).2)->∃N,(thaw dp H (oc::cs) (v::r)).2=H++N:=fun e=>by
   rw[e];exact JM dp cs r H
  cases oc with
  |none=>exact keep (by cases v<;>rfl)
  |some c=>
   cases v with
   |dn=>
    have e:thaw dp H (some c::cs) (.dn::r)=(.sl H.length::(thaw dp (H++[ns (dp c) c]) cs r).1,(thaw dp (H++[ns (dp c) c]) cs r).2):=rfl;rw[e];obtain⟨N,hN⟩:=JM dp cs r (H++[ns (dp c) c]);exact⟨ns (dp c) c::N,by simp only;rw[hN];simp⟩
   |_=>exact keep rfl
theorem JO(T:List Nat)(dp:K.U->Bool)(cs:List (Option K.U))(l:List (AV K))(H:List (Ob K)):cC T H (thaw dp H cs l).2:=by
 obtain⟨N,hN⟩:=JM dp cs l H;rw[hN];exact cC.app _ _ _
theorem aeS{T:List Nat}{h:Nat}(hT:h∈T)(H:List (Ob K)):cC T H (ug H h):=by
 unfold ug;split
 ·exact cC.set _ hT
 ·exact cC.set _ hT
 ·exact cC.refl _ _
theorem DW{T:List Nat}:∀(l:List Nat)(H:List (Ob K)),(∀x∈l,x∈T)->cC T H (iZ H l)
 |[],H,_=>cC.refl _ _
 |h::r,H,hT=>(aeS (hT h (by simp)) H).trans (DW r _ fun x hx=>hT x (by simp[hx]))
def qe(ev:Operand->AV K)(op:Op):List Nat:=(match op with
    |.store _ p _=>hands (ev p)
    |.call {callee:=.builtin .append,args, ..}=>(match args.toList with
      |s::x::_=>hands (ev s)++hands (ev x)
      |[s]=>hands (ev s)
      |[]=>[])
    |.call {callee:=.builtin .clear,args, ..}=>(match args.toList with
      |s::_=>hands (ev s)
      |[]=>[])
    |.call {callee:=.builtin .copy,args, ..}=>(match args.toList with
      |s::_=>hands (ev s)
      |[]=>[])
    |_=>[])
theorem aeT{cx:Cx K}{sT:TypeId}{s x v:AV K}{c:Bool}{t:List Nat}(h:yW cx H sT s x=some (v,H',c,t)):cC (hands s) H H':=by unfold yW at h;cases h
theorem aeU{cx:Cx K}{sT:TypeId}{s x v:AV K}{c:Bool}{t:List Nat}(h:DC cx H sT s x=some (v,H',c,t)):cC (hands s) H H':=by
 unfold DC at h;split at h
 ·cases h
 ·split at h
  ·cases h
  ·split at h
   ·split at h
    ·cases h
    ·split at h
     ·simp only[av,aZ]at h;rw[<-h.2.1];exact cC.app _ _ _
     ·split at h
      ·split at h
       ·cases h
       ·split at h
        ·simp only[av,aZ]at h;rw[<-h.2.1];exact(cC.set _ (by simp[hands])).trans (cC.app _ _ _)
        ·cases h
      ·split at h
       ·simp only[av,aZ]at h;rw[<-h.2.1];exact(cC.set _ (by simp[hands])).trans (cC.app _ _ _)
       ·cases h
     ·cases h
   ·cases h
theorem PE{cx:Cx K}{ev:Operand->AV K}{op:Op}{v:AV K}{c:Bool}{t:List Nat}(h:ui cx ev H op=some (v,H',c,t)):cC (qe ev op) H H':=by
 unfold ui at h;split at h
 ·split at h
  ·dsimp only at h;split at h
   ·cases h
   ·simp only[av,aZ]at h;rw[<-h.2.1];exact(JO _ _ _ _ _).trans (cC.app _ _ _)
  ·cases h
 ·split at h
  ·split at h
   ·dsimp only at h;split at h
    ·cases h
    ·simp only[av,aZ]at h;rw[<-h.2.1];exact(JO _ _ _ _ _).trans (cC.app _ _ _)
   ·cases h
  ·split at h
   ·simp only[av,aZ]at h;rw[<-h.2.1];exact cC.app _ _ _
   ·cases h
 ·split at h
  ·split at h
   ·simp only[dy,aZ]at h;obtain⟨cs,-,-,rfl,-⟩:=h;exact cC.refl _ _
   ·cases h
  ·cases h
 ·split at h
  ·split at h
   ·split at h
    ·rename_i hh off hp;split at h
     ·split at h
      ·dsimp only at h;split at h
       ·cases h
       ·simp only[av,aZ]at h;rw[<-h.2.1];refine(JO _ _ _ _ _).trans (cC.set _ ?_);simp only[qe,hp,hands,fJ]
      ·cases h
     ·cases h
    ·rename_i hh st i off hp;split at h
     ·split at h
      ·split at h
       ·simp only[av,aZ]at h;rw[<-h.2.1];refine cC.set _ ?_;simp only[qe,hp,hands,fJ]
       ·cases h
      ·cases h
     ·cases h
    ·cases h
   ·cases h
  ·cases h
 ·split at h
  ·cases h
  ·split at h
   ·split at h
    ·split at h
     ·simp only[av,aZ]at h;rw[<-h.2.1];exact cC.app _ _ _
     ·cases h
    ·cases h
   ·cases h
 ·split at h
  ·cases h
  ·split at h
   ·split at h
    ·split at h
     ·simp only[av,aZ]at h;rw[<-h.2.1];exact cC.app _ _ _
     ·cases h
    ·cases h
   ·cases h
 ·split at h
  ·split at h
   ·split at h
    ·split at h
     ·simp only[av,aZ]at h;rw[<-h.2.1];exact cC.app _ _ _
     ·cases h
    ·cases h
   ·cases h
  ·cases h
 ·split at h
  ·rename_i s x sT xT ha ht;split at h
   ·cases h
   split at h
   ·refine(aeT h).more fun y hy=>?_
    simp only[qe,ha];exact dO.2 (.inl hy)
   ·refine(aeU h).more fun y hy=>?_
    simp only[qe,ha];exact dO.2 (.inl hy)
  ·cases h
 ·cases h
mutual
theorem mx:∀(v:AV K){y:Nat},y∈hands (eE H v)->y∈hands v
 |.sl k,y,h=>by
   simp only[eE]at h;split at h
   ·simp[hands]at h
   ·exact h
 |.vw k a b c,y,h=>by
   simp only[eE]at h;split at h
   ·split at h
    ·simp[hands]at h
    ·exact h
   ·exact h
 |.agg l,y,h=>by simp only[eE,hands]at h⊢;exact JP l h
 |.bC l,y,h=>by simp only[eE,hands]at h⊢;exact JP l h
 |.any,y,h|.int _ _,y,h|.bool _,y,h|.str _,y,h|.dx,y,h|.dn,y,h|.fn _ _,y,h|.ptr _ _,y,h|.ep _ _ _ _,y,h|.an _ _,y,h|.rp _ _ _,y,h|.np _,y,h|.opt _ _ _,y,h=>by simpa only[eE]using h
theorem JP:∀(l:List (AV K)){y:Nat},y∈cr (ou H l)->y∈cr l
 |[],y,h=>by simpa [ou]using h
 |v::r,y,h=>by
  simp only[ou,cr,dO]at h⊢;exact h.imp (mx v) (JP r)
end
theorem PG{ev:Operand->AV K}{op:Op}{y:Nat}(h:y∈qe (fun x=>eE H (ev x)) op):y∈qe ev op:=by
 unfold qe at h⊢;split at h
 ·exact mx _ h
 ·split at h
  ·rename_i hs;rcases dO.1 h with h|h
   ·exact dO.2 (.inl (mx _ h))
   ·exact dO.2 (.inr (mx _ h))
  ·exact mx _ h
  ·simp at h
 ·split at h
  ·exact mx _ h
  ·simp at h
 ·split at h
  ·exact mx _ h
  ·simp at h
 ·simp at h
theorem DX{T:List Nat}:∀(l:List Nat)(H:List (Ob K)),(∀x∈l,x∈T)->cC T H (gd H l)
 |[],H,_=>cC.refl _ _
 |h::r,H,hT=>(cC.set _ (hT h (by simp))).trans (DX r _ fun x hx=>hT x (by simp[hx]))
theorem PH{c:K.U}{v:AV K}{l:List (K.El c)}{ks:List Nat}(h:pS H c v=some (l,ks)):∀x∈ks,x∈hands v:=fun x hx=>by
 unfold pS at h;split at h
 ·simp only[av,aZ]at h;obtain⟨rfl,rfl⟩:=h;cases hx
 ·split at h
  ·split at h
   ·simp only[av,aZ]at h;obtain⟨-,rfl⟩:=h;simpa [hands]using hx
   ·cases h
  ·cases h
 ·cases h
theorem PI{ev:Operand->AV K}{x:Nat}:∀(l:List (Nat×Operand)),x∈cr (l.map fun p=>eE H (ev p.2))->x∈cr (l.map fun p=>ev p.2)
 |[],h=>h
 |y::r,h=>by
  simp only[eG,cr,dO]at h⊢;exact h.imp (mx _) (PI r)
theorem aeV{v:AV K}{a b c d:Nat}(h:eE H v=.ep a b c d):v=.ep a b c d:=by
 cases v<;>simp[eE]at h⊢<;>first|exact h|(split at h<;>first|cases h|(split at h<;>cases h))
theorem aeW{cx:Cx K}{ev:Operand->AV K}{op:Op}{v:AV K}{c:Bool}{t:List Nat}(h:wh cx (fun x=>eE H (ev x)) H op=some (v,H',c,t)):cC (mq ev op) H H':=by
 unfold wh at h;split at h
 ·split at h
  ·cases h
  ·split at h
   ·split at h
    ·split at h
     ·split at h
      ·simp only[av,aZ]at h;rw[<-h.2.1];exact cC.app _ _ _
      ·cases h
     ·cases h
    ·cases h
   ·cases h
 ·rename_i T len parts;split at h
  ·cases h
  ·split at h
   ·rename_i hty hl;split at h
    ·split at h
     ·split at h
      ·simp only[av,aZ]at h;rw[<-h.2.1];refine cC.trans (DX _ _ fun x hx=>?_) (cC.app _ _ _);rw[(Dk _ _ _ hl).1]at hx;simp only[mq,pT,ue];exact PI _ hx
      ·cases h
     ·cases h
    ·cases h
   ·cases h
 ·rename_i T p x;split at h
  ·rename_i h0 st i off n0 hp hn;split at h
   ·split at h
    ·split at h
     ·split at h
      ·simp only[av,aZ]at h;rw[<-h.2.1];have q1:=aeV hp;have hmem:∀y∈h0::cr (eE H (ev x)).cw,y∈mq ev (.store T p x):=fun y hy=>by
        simp only[mq,pT,q1,dO];rcases jm.1 hy with rfl|hy
        ·exact .inr (by simp[hands])
        ·rw[OB]at hy;exact .inl (mx _ hy)
       exact(DX _ _ hmem).trans (cC.set _ (hmem _ (by simp)))
      ·cases h
     ·cases h
    ·cases h
   ·cases h
  ·cases h
 ·rename_i args argTypes;split at h
  ·rename_i s x sT xT hargs hat;split at h
   ·cases h
   ·split at h
    ·cases h
    ·split at h
     ·cases h
     ·split at h
      ·split at h
       ·rename_i l ks m ks' hl hm;split at h
        ·simp only[av,aZ]at h;rw[<-h.2.1];refine cC.trans (DX _ _ fun y hy=>?_) (cC.app _ _ _);simp only[mq,pT,hargs,fB,dO];rcases dO.1 hy with hy|hy
         ·exact .inl (mx _ (PH hl y hy))
         ·exact .inr (mx _ (PH hm y hy))
        ·cases h
       ·cases h
      ·cases h
  ·cases h
 ·cases h
theorem aeX{cx:Cx K}{ev:Operand->AV K}{op:Op}{v:AV K}{c:Bool}{t:List Nat}(h:wi cx ev H op=some (v,H',c,t)):cC (mq ev op) H H':=by
 have e:mq ev op=pT ev op++qe ev op:=rfl;unfold wi at h;split at h
 ·rename_i r hd;simp only[av]at h;subst h;exact aeW hd
 split at h
 ·refine(PE h).more fun y hy=>?_
  rw[e,dO];exact .inr (PG hy)
 ·have hz:cC (mq ev op) H (iZ H (pT ev op)):=DW _ _ fun x hx=>by rw[e,dO];exact .inl hx
  split at h
  ·simp only[av,aZ]at h;rw[<-h.2.1];exact hz
  ·refine hz.trans ((PE h).more fun y hy=>?_);rw[e,dO];exact .inr (PG hy)
theorem aeY{cx:Cx K}{ev:Operand->AV K}{op:Op}{v:AV K}{c:Bool}{t:List Nat}(h:cutV cx ev H op=some (v,H',c,t)):cC (mq ev op) H H':=by unfold cutV at h;cases h
theorem JQ{cx:Cx K}{m:Mode}(hm:m=.jo\/m=.fresh){T:List Nat}{f:FuncId}{args:List (AV K)}{v:AV K}{c:Bool}{t:List Nat}(h:kX cx m H f args=some (v,H',c,t)):cC T H H':=by
 unfold kX at h;rcases hm with rfl|rfl
 ·simp only at h;split at h
  ·split at h
   ·split at h
    ·simp only[av,aZ]at h;rw[<-h.2.1];exact cC.app _ _ _
    ·cases h
   ·cases h
  ·cases h
 ·simp only at h;split at h
  ·split at h
   ·split at h
    ·split at h
     ·simp only[av,aZ]at h;rw[<-h.2.1];exact cC.app _ _ _
     ·cases h
    ·cases h
   ·cases h
  ·cases h
theorem PK:∀(m:List Nat)(H os:List (Ob K)){T:List Nat},(∀x∈m,x∈T)->cC T H (jl H m os)
 |[],H,os,T,_=>by cases os<;>exact cC.refl _ _
 |h::m,H,[],T,_=>cC.refl _ _
 |h::m,H,o::r,T,hm=>by
  simp only[jl];exact cC.trans (cC.set _ (hm h (by simp))) (PK m _ r fun x hx=>hm x (by simp[hx]))
theorem PL{cx:Cx K}{T:List Nat}{f:FuncId}{args:List (AV K)}{v:AV K}{c:Bool}{t:List Nat}(h:kX cx .pass H f args=some (v,H',c,t))(hT:∀x∈reach H 64 (cr args) [],x∈T):cC T H H':=by
 unfold kX at h;simp only at h;split at h
 ·cases h
 ·split at h
  ·split at h
   ·split at h
    ·split at h
     ·simp only[av,aZ]at h;rw[<-h.2.1];exact cC.trans (PK _ _ _ hT) (cC.app _ _ _)
     ·cases h
    ·cases h
   ·cases h
  ·cases h
theorem aeZ{cx:Cx K}{ev:Operand->AV K}{t:TypeId}{p:Operand}{v:AV K}{c:Bool}{ts:List Nat}(h:wj cx ev H (.load t p)=some (v,H',c,ts)):cC (hands (ev p)) H H':=by unfold wj at h;cases h
theorem ae0{cx:Cx K}{tm:List (AV K)}{T t:TypeId}{p:Operand}{v:AV K}{c:Bool}{ts:List Nat}(hn:ja cx (.load t p)=false)(h:lj false cx tm [] H T (.load t p)=some (v,H',c,ts)):
 cC (match uh cx (fun x=>eE H (dP tm [] x)) H (.load t p)with
  |some _=>[]
  |none=>hands (dP tm [] p)) H H':=by
 unfold lj at h;simp only at h;split at h
 ·rename_i v1 c1 hp;rw[hp];simp only[av,aZ]at h;rw[<-h.2.1];exact cC.refl _ _
 ·rename_i hp;rw[hp];simp only[oj,oq,hn]at h;split at h
  ·rename_i hov;simp only[av]at h;rw[h]at hov;exact aeZ hov
  ·split at h
   ·rename_i hct;simp[cutV]at hct
   ·simp[wi,wh,pT,ui]at h
theorem ae1{cx:Cx K}{tm:List (AV K)}{gs:List (Nat×Bool)}{T:TypeId}{op:Op}{v:AV K}{c:Bool}{t:List Nat}(he:rI cx op=true)(hnl:∀a b,op≠.load a b)(h:lj false cx tm gs H T op=some (v,H',c,t)):cC ((mq (dP tm gs) op++Jl (dP tm gs) op)++wz cx H (dP tm gs) op) H H':=by
 unfold lj at h;split at h
 ·simp[rI]at he
 ·rename_i fo args _;cases fo with
  |func f=>
   have hf:(cx.mode f=.fresh\/(cx.mode f=.pass\/cx.mode f=.bg))/\(cx.opn=false\/cx.lz=true):=by simpa [rI]using he
   have JR:(cx.opn&& !cx.lz&& !false)=false:=by rcases hf.2 with e|e<;>simp[e]
   have e:dP tm gs (.func f)=(.fn f []:AV K):=rfl;rw[e]at h;simp only[ae5,JR,oj,oq,ue]at h
   replace hf:=hf.1
   rcases hf with hf|hf|hf
   rotate_left
   ·simp only[pN,hf,oj,oq]at h;refine PL h fun x hx=>dO.2 (.inr ?_)
    simp only[wz,hf];exact hx
   ·simp only[pN,hf,oj,oq,tU]at h;refine cC.trans (DW _ _ fun x hx=>dO.2 (.inr ?_)) (PL h fun x hx=>dO.2 (.inr ?_))
    ·simp only[wz,hf];exact dO.2 (.inl hx)
    ·simp only[wz,hf];exact dO.2 (.inr hx)
   simp only[pN,hf,oj,oq]at h;split at h
   ·rename_i hc;simp only[av]at h;rw[h]at hc;exact JQ (.inl rfl) hc
   ·split at h
    ·rename_i hc;simp only[av]at h;rw[h]at hc;exact JQ (.inr rfl) hc
    ·unfold tU at h;refine cC.trans (DW _ _ fun x hx=>?_) (JQ (.inl rfl) h);refine dO.2 (.inl (dO.2 (.inr ?_)));have key:∀l:List Operand,x∈cr (l.map fun y=>eE H (dP tm gs y))->x∈cr (l.map (dP tm gs)):=fun l=>by
      induction l with
      |nil=>exact fun h=>h
      |cons y r ih=>
       simp only[eG,cr,dO];exact fun h=>h.imp (mx _) ih
     exact key _ hx
  |_=>simp[rI]at he
 ·simp[rI]at he
 ·split at h
  ·simp only[av,aZ]at h;rw[<-h.2.1];exact cC.refl _ _
  ·rw[aT (by simp)]at h;split at h
   ·cases h
   ·split at h
    ·rename_i hov;exfalso;unfold wj at hov;cases hov
    split at h
    ·rename_i hct;simp only[av]at h;rw[h]at hct;exact(aeY hct).more fun x hx=>dO.2 (.inl (dO.2 (.inl hx)))
    ·exact(aeX h).more fun x hx=>dO.2 (.inl (dO.2 (.inl hx)))
theorem PM:∀(l:List Nat)(h:Nat),(bitsOf l).testBit h=true↔h∈l
 |[],h=>by simp[bitsOf]
 |k::r,h=>by
  simp only[bitsOf,wq,ej,PM r,Nat.testBit_two_pow,bB,jm];exact⟨fun h=>h.imp Eq.symm id,fun h=>h.imp Eq.symm id⟩
theorem PN{A:Nat}:∀(ws:List Nat)(i h:Nat),(wB A i ws).testBit h=true↔∃(k:Nat)(b:Nat),ws[k]?=some b/\A.testBit (i+k)=false/\b.testBit h=true
 |[],i,h=>by simp[wB]
 |b::r,i,h=>by
  simp only[wB,wq,ej,PN r];constructor
  ·rintro (h1|⟨k,b',h1,h2,h3⟩)
   ·split at h1
    ·simp at h1
    ·rename_i hA;exact⟨0,b,rfl,by simpa using hA,h1⟩
   ·exact⟨k+1,b',by simpa using h1,by rw[show i+(k+1)=i+1+k by omega];exact h2,h3⟩
  ·rintro ⟨k,b',h1,h2,h3⟩
   cases k with
   |zero=>simp at h1;subst h1;left;rw[aT (by simpa using h2)];exact h3
   |succ k=>exact .inr ⟨k,b',by simpa using h1,by rw[show i+1+k=i+(k+1) by omega];exact h2,h3⟩
theorem PO{A:Nat}{T:List Nat}:∀(ms:List (Nat×Nat))(i:Nat),DD A T i ms=true->∀(k m n:Nat),ms[k]?=some (m,n)->A.testBit (i+k)=false->∀h∈T,h<n->m.testBit h=true
 |[],i,_,k,m,n,h,_=>by simp at h
 |(m0,n0)::r,i,hr,k,m,n,hk,hA=>by
  simp only[DD,cG,ej,fN,bB]at hr;cases k with
  |zero=>
   simp at hk;obtain⟨rfl,rfl⟩:=hk;intro h hT hn;rcases hr.1 with h1|h1
   ·rw[Nat.add_zero]at hA;rw[hA]at h1;cases h1
   ·rcases h1 h hT with h2|h2
    ·omega
    ·exact h2
  |succ k=>exact PO r (i+1) hr.2 k m n (by simpa using hk) (by rw[show i+1+k=i+(k+1) by omega];exact hA)
end Go.V
namespace Go.V
open Go
variable {K :dh}{H H':List (Ob K)}
theorem PQ{cx:Cx K}{tm:List (AV K)}{T:TypeId}{op:Op}{v:AV K}{c:Bool}{t:List Nat}(he:rI cx op=true)(hq:nq cx op=false)(h:lj false cx tm [] H T op=some (v,H',c,t)):cC (ow cx tm H op) H H':=by
 by_cases hl:∃a b,op=.load a b
 ·obtain⟨a,b,rfl⟩:=hl;have:ow cx tm H (.load a b)=(match uh cx (fun x=>eE H (dP tm [] x)) H (.load a b)with
   |some _=>[]
   |none=>hands (dP tm [] b)):=by unfold ow;rw[hq];rfl
  rw[this];exact ae0 hq h
 ·have:ow cx tm H op=(mq (dP tm []) op++Jl (dP tm []) op)++wz cx H (dP tm []) op:=by
   unfold ow;rw[hq];simp only[oj,oq];split
   ·rename_i a b;exact absurd ⟨a,b,rfl⟩ hl
   ·rfl
  rw[this];exact ae1 he (fun a b e=>hl ⟨a,b,e⟩) h
theorem ae2{cx:Cx K}{ops:List Oper}{tm:List (AV K)}{wr:List Nat}{o:Oper}{v:AV K}{c:Bool}(h:wA cx ops tm H wr o=some (v,H',c)):cC (ow cx tm H o.op) H H':=by
 unfold wA at h;split at h
 ·rename_i hq;have:H'=H:=by
   unfold iM at h;split at h
   ·cases h
   ·split at h
    ·rename_i hy;split at h
     ·cases h
     ·simp only[av,aZ]at h;obtain⟨-,rfl,-⟩:=h;exact wF hy
    ·cases h
   ·split at h
    ·split at h
     ·split at h
      ·split at h
       ·rename_i hy;split at h
        ·cases h
        ·simp only[av,aZ]at h;obtain⟨-,rfl,-⟩:=h;exact wF hy
       ·cases h
      ·simp only[av,aZ]at h;exact h.2.1.symm
     ·cases h
    split at h
    ·cases h
    ·split at h
     ·split at h
      ·simp only[av,aZ]at h;exact h.2.1.symm
      ·cases h
     ·cases h
  subst this;exact cC.refl _ _
 ·rename_i hq;split at h
  ·rename_i he;have hq':nq cx o.op=false:=by simpa using hq
   unfold iM at h;split at h
   ·cases h
   ·split at h
    ·rename_i hy;split at h
     ·cases h
     ·simp only[av,aZ]at h;obtain⟨-,rfl,-⟩:=h;exact PQ he hq' hy
    ·cases h
   ·split at h
    ·split at h
     ·split at h
      ·split at h
       ·rename_i hy;split at h
        ·cases h
        ·simp only[av,aZ]at h;obtain⟨-,rfl,-⟩:=h;exact PQ he hq' hy
       ·cases h
      ·simp only[av,aZ]at h;rw[<-h.2.1];exact cC.refl _ _
     ·cases h
    split at h
    ·cases h
    ·split at h
     ·split at h
      ·simp only[av,aZ]at h;rw[<-h.2.1];exact cC.refl _ _
      ·cases h
     ·cases h
  ·cases h
structure kH (K:dh) where
 vals:Nat->AV K
 hin:Nat->List (Ob K)
 hout:Nat->List (Ob K)
 mask:Nat->Nat
 T:Nat->List Nat
def kH.W(F:kH K)(k h:Nat):Prop:=h∈F.T k\/((F.hin k).length<=h/\h<(F.hout k).length)
structure wJ (cx:Cx K) (L:List Oper) (bs:List Nat) (bY:List (AV K)) (F:kH K) (i:Nat) (o:Oper) (di:List (AV K)) (dU:List Nat):Prop where
 slot:wA cx L (eO (fe bs i) L 0 di) (iN (F.mask i) 0 (F.hin i)) dU o=some (F.vals i,F.hout i,true)
 up:ov (F.hin i).length (eO (fe bs i) L 0 di)=true
 DY:(iN (F.mask i) 0 (F.hin i)).all (Ob.upto (F.hin i).length)=true
 turns:cC (F.T i) (iN (F.mask i) 0 (F.hin i)) (F.hout i)
 len:di.length=bY.length
 fin:∀(k:Nat) o' d,L[k]?=some o'->o'.dst=some d->k<i->di[d]?=some (F.vals k)
 rest:∀t,(∀(k:Nat) o,k<i->L[k]?=some o->o.dst≠some t)->di[t]?=bY[t]?
 dU:∀d∈dU,∃(k:Nat)(o':Oper),k<i/\L[k]?=some o'/\o'.dst=some d
structure gw (cx:Cx K) (L:List Oper) (bs:List Nat) (H0:List (Ob K)) (bY:List (AV K)) (F:kH K) (n:Nat) (tm:List (AV K)) (H:List (Ob K)) (wr:List Nat) (ms:List (Nat×Nat)) (ws:List Nat):Prop where
 len:tm.length=bY.length
 uniq:∀(i j:Nat) o o' d,i<n->j<n->L[i]?=some o->L[j]?=some o'->o.dst=some d->o'.dst=some d->i=j
 inb:∀(i:Nat) o d,i<n->L[i]?=some o->o.dst=some d->d<bY.length
 fin:∀(i:Nat) o d,i<n->L[i]?=some o->o.dst=some d->tm[d]?=some (F.vals i)
 rest:∀t,(∀(k:Nat) o,k<n->L[k]?=some o->o.dst≠some t)->tm[t]?=bY[t]?
 mr:∀d,d∈wr↔∃(k:Nat)(o':Oper),k<n/\L[k]?=some o'/\o'.dst=some d
 slot:∀(i:Nat) o,i<n->L[i]?=some o->∃di dU,wJ cx L bs bY F i o di dU
 h0:F.hin 0=H0
 hn:F.hin n=H
 hs:∀i,i<n->F.hin (i+1)=kF (F.mask i) 0 (F.hin i) (F.hout i)/\(F.hin i).length<=(F.hout i).length
 zi:ms.length=n
 zj:ws.length=n
 ms:∀i,i<n->ms[i]?=some (F.mask i,(F.hin i).length)
 ws:∀i,i<n->∃b,ws[i]?=some b/\∀h,b.testBit h=true↔F.W i h
 masks:∀i,i<n->∀h,(∃k,k<i/\(bs.getD i 0).testBit k=false/\F.W k h)->(F.mask i).testBit h=true
 clear:∀k,k<n->∀h∈F.T k,(F.mask k).testBit h=false/\h<(F.hin k).length
 readers:∀k,k<n->∀i,i<k->(bs.getD k 0).testBit i=false->∀h∈F.T k,h<(F.hin i).length->(F.mask i).testBit h=true
theorem JC{cx:Cx K}{L:List Oper}{bs:List Nat}:∀(l:List Oper)(i:Nat)(st st':St K)(wr wr':List Nat)(ms:List (Nat×Nat))(ws:List Nat),qa cx L bs l i st wr ms ws=some (st',wr')->st'.ok=true->st.ok=true
 |[],i,st,st',wr,wr',ms,ws,h,hok=>by simp only[qa,av,aZ]at h;rw[h.1];exact hok
 |o::r,i,st,st',wr,wr',ms,ws,h,hok=>by
  simp only[qa]at h;split at h
  ·split at h
   ·cases h
   ·split at h
    ·split at h
     ·rename_i st1 iG hp;obtain⟨p1,p2,-⟩:=qc hp;have q1:=JC r (i+1) st1 st' iG wr' _ _ h hok;rw[p2]at q1;simp only[cG]at q1;exact q1.2
     ·cases h
    ·cases h
  ·cases h
theorem PS{cx:Cx K}{L:List Oper}{bs:List Nat}{H0:List (Ob K)}{bY:List (AV K)}:∀(l:List Oper)(n:Nat)(st st':St K)(wr wr':List Nat)(ms:List (Nat×Nat))(ws:List Nat)(F:kH K),qa cx L bs l n st wr ms ws=some (st',wr')->st'.ok=true->
 (∀j,l[j]?=L[n+j]?)->n+l.length=L.length->gw cx L bs H0 bY F n st.tm st.H wr ms ws->∃F' ms' ws',gw cx L bs H0 bY F' L.length st'.tm st'.H wr' ms' ws'
 |[],n,st,st',wr,wr',ms,ws,F,h,hok,hl,hn,hp=>by
   simp only[qa,av,aZ]at h;obtain⟨rfl,rfl⟩:=h;simp at hn;subst hn;exact⟨F,ms,ws,hp⟩
 |o::r,n,st,st',wr,wr',ms,ws,F,h,hok,hl,hn,hp=>by
  have hLn:L[n]?=some o:=by have:=hl 0;simpa using this.symm
  simp only[qa]at h;split at h
  ·rename_i hup;simp only[cG]at hup;split at h
   ·cases h
   ·rename_i v H1 c hsv;split at h
    ·rename_i hrd;simp only[cG,bB]at hrd;split at h
     ·rename_i st1 iG hput;obtain⟨p1,p2,p3⟩:=qc hput;have hok1:=JC r (n+1) st1 st' iG wr' _ _ h hok;rw[p2]at hok1;simp only[cG]at hok1;obtain⟨rfl,-⟩:=hok1;have ae3:=hp.hn
      let mk:=pZ bs ws n (eO (fe bs n) L 0 st.tm) st.H.length o.op
      let TT:=ow cx (eO (fe bs n) L 0 st.tm) (iN mk 0 st.H) o.op
      let F':kH K:={vals:=fun i=>if i=n then v else F.vals i,hin:=fun i=>if i=n+1 then kF mk 0 st.H H1 else F.hin i,hout:=fun i=>if i=n then H1 else F.hout i,mask:=fun i=>if i=n then mk else F.mask i,T:=fun i=>if i=n then TT else F.T i}
      have ev:∀i,i<n->F'.vals i=F.vals i:=fun i hi=>by simp[F',show i≠n by omega]
      have eh:∀i,i<=n->F'.hin i=F.hin i:=fun i hi=>by simp[F',show i≠n+1 by omega]
      have eo:∀i,i<n->F'.hout i=F.hout i:=fun i hi=>by simp[F',show i≠n by omega]
      have em:∀i,i<n->F'.mask i=F.mask i:=fun i hi=>by simp[F',show i≠n by omega]
      have eT:∀i,i<n->F'.T i=F.T i:=fun i hi=>by simp[F',show i≠n by omega]
      have nv:F'.vals n=v:=by simp[F']
      have nh:F'.hin n=st.H:=by rw[eh n (fh _)];exact ae3
      have PT:F'.hin (n+1)=kF mk 0 st.H H1:=by simp[F']
      have no:F'.hout n=H1:=by simp[F']
      have nm:F'.mask n=mk:=by simp[F']
      have nT:F'.T n=TT:=by simp[F']
      have eW:∀i,i<n->∀h,F'.W i h↔F.W i h:=fun i hi h=>by unfold kH.W;rw[eT i hi,eh i (by omega),eo i hi]
      have Ju:wJ cx L bs bY F' n o st.tm wr:=
       {slot:=by rw[nv,no,nm,nh];exact hsv
        up:=by rw[nh];exact hup.1
        DY:=by rw[nm,nh];exact hup.2
        turns:=by rw[nT,nm,nh,no];exact ae2 hsv
        len:=hp.len
        fin:=fun k o' d h1 h2 h3=>by rw[ev k h3];exact hp.fin k o' d h3 h1 h2
        rest:=fun t ht=>hp.rest t fun k o' hk h1=>ht k o' hk h1
        dU:=fun d hd=>(hp.mr d).1 hd}
      have rO:∀(i:Nat) o1,i<n+1->L[i]?=some o1->∃di dU,wJ cx L bs bY F' i o1 di dU:=fun i o1 hi ho1=>by
       by_cases hin:i=n
       ·subst hin;rw[hLn]at ho1;simp at ho1;subst ho1;exact⟨_,_,Ju⟩
       ·have hlt:i<n:=by omega
        obtain⟨di,dU,a⟩:=hp.slot i o1 hlt ho1;exact⟨di,dU,{slot:=by rw[ev i hlt,eo i hlt,em i hlt,eh i (by omega)];exact a.slot,up:=by rw[eh i (by omega)];exact a.up,DY:=by rw[em i hlt,eh i (by omega)];exact a.DY,turns:=by rw[eT i hlt,em i hlt,eh i (by omega),eo i hlt];exact a.turns,len:=a.len,fin:=fun k o' d h1 h2 h3=>by rw[ev k (by omega)];exact a.fin k o' d h1 h2 h3,rest:=a.rest,dU:=a.dU}⟩
      have hmk:∀h,(∃k,k<n/\(bs.getD n 0).testBit k=false/\F'.W k h)->mk.testBit h=true:=fun h=>by
       rintro ⟨k,hk,h2,h3⟩
       rw[show mk=wB (bs.getD n 0) 0 ws|||OU (eO (fe bs n) L 0 st.tm) st.H.length o.op from rfl,wq,ej];refine .inl ?_;rw[PN];obtain⟨b',g1,g2⟩:=hp.ws k hk;exact⟨k,b',g1,by simpa using h2,(g2 h).2 ((eW k hk h).1 h3)⟩
      have base:gw cx L bs H0 bY F' (n+1) st1.tm st1.H iG (ms++[(mk,st.H.length)]) (ws++[bitsOf (TT++List.range' st.H.length (H1.length-st.H.length))]):=by
       have c1:F'.hin 0=H0:=by rw[eh 0 (by omega)];exact hp.h0
       have c2:F'.hin (n+1)=st1.H:=by rw[PT,p1]
       have c3:∀i,i<n+1->F'.hin (i+1)=kF (F'.mask i) 0 (F'.hin i) (F'.hout i)/\(F'.hin i).length<=(F'.hout i).length:=fun i hi=>by
        by_cases hin:i=n
        ·subst hin;rw[PT,nm,nh,no];exact⟨rfl,hrd.2⟩
        ·have hlt:i<n:=by omega
         rw[eh (i+1) (by omega),em i hlt,eh i (by omega),eo i hlt];exact hp.hs i hlt
       have c4:∀i,i<n+1->(ms++[(mk,st.H.length)])[i]?=some (F'.mask i,(F'.hin i).length):=fun i hi=>by
        by_cases hin:i=n
        ·subst hin;rw[nm,nh,eR (by rw[hp.zi];exact fh _),hp.zi];simp
        ·have hlt:i<n:=by omega
         rw[em i hlt,eh i (by omega),b9 (by rw[hp.zi];exact hlt)];exact hp.ms i hlt
       have c5:∀i,i<n+1->∃b,(ws++[bitsOf (TT++List.range' st.H.length (H1.length-st.H.length))])[i]?=some b/\∀h,b.testBit h=true↔F'.W i h:=fun i hi=>by
        by_cases hin:i=n
        ·subst hin;refine⟨bitsOf (TT++List.range' st.H.length (H1.length-st.H.length)),by rw[eR (by rw[hp.zj];exact fh _),hp.zj];simp,fun h=>?_⟩;rw[PM,dO];unfold kH.W;rw[nT,nh,no,List.mem_range'];constructor
         ·rintro (h1|⟨j,h1,h2⟩)
          ·exact .inl h1
          ·exact .inr (by omega)
         ·rintro (h1|⟨h1,h2⟩)
          ·exact .inl h1
          ·exact .inr ⟨h-st.H.length,by omega,by omega⟩
        ·have hlt:i<n:=by omega
         obtain⟨b,g1,g2⟩:=hp.ws i hlt;exact⟨b,by rw[b9 (by rw[hp.zj];exact hlt)];exact g1,fun h=>(g2 h).trans (eW i hlt h).symm⟩
       have c6:∀i,i<n+1->∀h,(∃k,k<i/\(bs.getD i 0).testBit k=false/\F'.W k h)->(F'.mask i).testBit h=true:=fun i hi hh=>by
        by_cases hin:i=n
        ·subst hin;rw[nm];exact hmk hh
        ·have hlt:i<n:=by omega
         rw[em i hlt];exact fun⟨k,h1,h2,h3⟩=>hp.masks i hlt hh ⟨k,h1,h2,(eW k (by omega) hh).1 h3⟩
       have c7:∀k,k<n+1->∀i,i<k->(bs.getD k 0).testBit i=false->∀h∈F'.T k,h<(F'.hin i).length->(F'.mask i).testBit h=true:=fun k hk i hik hA hh hT hlt=>by
        rw[eh i (by omega)]at hlt;rw[em i (by omega)];by_cases hkn:k=n
        ·subst hkn;rw[nT]at hT;exact PO ms 0 hrd.1.1 i _ _ (hp.ms i hik) (by simpa using hA) hh hT hlt
        ·rw[eT k (by omega)]at hT;exact hp.readers k (by omega) i hik hA hh hT hlt
       have c8:∀k,k<n+1->∀h∈F'.T k,(F'.mask k).testBit h=false/\h<(F'.hin k).length:=fun k hk hh hT=>by
        by_cases hkn:k=n
        ·subst hkn;rw[nT]at hT;rw[nm,nh];have:=hrd.1.2;rw[fN]at this;have h2:=this hh hT;rw[cG,fk,bB]at h2;exact h2
        ·rw[eT k (by omega)]at hT;rw[em k (by omega),eh k (by omega)];exact hp.clear k (by omega) hh hT
       rcases p3 with⟨e1,e2,e3⟩|⟨d,e1,e2,e3,e4,e5⟩
       ·refine⟨by rw[e2];exact hp.len,fun i j o1 o2 d hi hj h1 h2 h3 h4=>?_,fun i o1 d hi h1 h2=>?_,fun i o1 d hi h1 h2=>?_,fun t ht=>by rw[e2];exact hp.rest t fun k o' hk=>ht k o' (by omega),fun d=>?_,rO,c1,c2,c3,by simp[hp.zi],by simp[hp.zj],c4,c5,c6,c8,c7⟩
        ·have hin:i≠n:=fun e=>by subst e;rw[hLn]at h1;simp at h1;subst h1;rw[e1]at h3;cases h3
         have hjn:j≠n:=fun e=>by subst e;rw[hLn]at h2;simp at h2;subst h2;rw[e1]at h4;cases h4
         exact hp.uniq i j o1 o2 d (by omega) (by omega) h1 h2 h3 h4
        ·have hin:i≠n:=fun e=>by subst e;rw[hLn]at h1;simp at h1;subst h1;rw[e1]at h2;cases h2
         exact hp.inb i o1 d (by omega) h1 h2
        ·have hin:i≠n:=fun e=>by subst e;rw[hLn]at h1;simp at h1;subst h1;rw[e1]at h2;cases h2
         rw[e2,ev i (by omega)];exact hp.fin i o1 d (by omega) h1 h2
        ·rw[e3,hp.mr d];constructor
         ·rintro ⟨k,o',hk,h1,h2⟩;exact⟨k,o',by omega,h1,h2⟩
         ·rintro ⟨k,o',hk,h1,h2⟩
          have hkn:k≠n:=fun e=>by subst e;rw[hLn]at h1;simp at h1;subst h1;rw[e1]at h2;cases h2
          exact⟨k,o',by omega,h1,h2⟩
       ·have hnew:∀(k:Nat) o',k<n->L[k]?=some o'->o'.dst≠some d:=fun k o' hk h1 h2=>e2 ((hp.mr d).2 ⟨k,o',hk,h1,h2⟩)
        have hdn:∀{o1:Oper}{d1:Nat},L[n]?=some o1->o1.dst=some d1->d1=d:=fun{o1 d1} h1 h2=>by rw[hLn]at h1;simp at h1;subst h1;rw[e1]at h2;simpa using h2.symm
        refine⟨by rw[e4];simp[hp.len],fun i j o1 o2 d1 hi hj h1 h2 h3 h4=>?_,fun i o1 d1 hi h1 h2=>?_,fun i o1 d1 hi h1 h2=>?_,fun t ht=>?_,fun d1=>?_,rO,c1,c2,c3,by simp[hp.zi],by simp[hp.zj],c4,c5,c6,c8,c7⟩
        ·by_cases hin:i=n<;>by_cases hjn:j=n
         ·omega
         ·subst hin;have:=hdn h1 h3;subst this;exact absurd h4 (hnew j o2 (by omega) h2)
         ·subst hjn;have:=hdn h2 h4;subst this;exact absurd h3 (hnew i o1 (by omega) h1)
         ·exact hp.uniq i j o1 o2 d1 (by omega) (by omega) h1 h2 h3 h4
        ·by_cases hin:i=n
         ·subst hin;have:=hdn h1 h2;subst this;rw[<-hp.len];exact e3
         ·exact hp.inb i o1 d1 (by omega) h1 h2
        ·rw[e4];by_cases hin:i=n
         ·subst hin;have:=hdn h1 h2;subst this;rw[kC,aY rfl,aY e3,nv]
         ·have hne:d1≠d:=fun e=>by subst e;exact hnew i o1 (by omega) h1 h2
          rw[kC,aT (ot hne),ev i (by omega)];exact hp.fin i o1 d1 (by omega) h1 h2
        ·have hne:d≠t:=fun e=>by subst e;exact ht n o (by omega) hLn e1
         rw[e4,kC,aT hne];exact hp.rest t fun k o' hk=>ht k o' (by omega)
        ·rw[e5,jm,hp.mr d1];constructor
         ·rintro (rfl|⟨k,o',hk,h1,h2⟩)
          ·exact⟨n,o,by omega,hLn,e1⟩
          ·exact⟨k,o',by omega,h1,h2⟩
         ·rintro ⟨k,o',hk,h1,h2⟩
          by_cases hkn:k=n
          ·subst hkn;exact .inl (hdn h1 h2)
          ·exact .inr ⟨k,o',by omega,h1,h2⟩
      exact PS r (n+1) st1 st' iG wr' _ _ F' h hok (fun j=>by have:=hl (j+1);simp only[List.getElem?_cons_succ]at this;rw[this];congr 1;omega) (by simp at hn;omega) base
     ·cases h
    ·cases h
  ·cases h
theorem aeD{cx:Cx K}{L:List Oper}{bs:List Nat}{st st':St K}{wr':List Nat}(h:qa cx L bs L 0 st [] [] []=some (st',wr'))(hok:st'.ok=true):
 ∃F ms ws,gw cx L bs st.H st.tm F L.length st'.tm st'.H wr' ms ws:=
 PS (bY:=st.tm) (H0:=st.H) L 0 st st' [] wr' [] [] {vals:=fun _=>.any,hin:=fun _=>st.H,hout:=fun _=>[],mask:=fun _=>0,T:=fun _=>[]} h hok (fun j=>by simp) (by simp)
  ⟨rfl,fun i j _ _ _ hi=>by omega,fun i _ _ hi=>by omega,fun i _ _ hi=>by omega,fun t _=>rfl,fun d=>by simp,fun i _ hi=>by omega,rfl,rfl,fun i hi=>by omega,rfl,rfl,fun i hi=>by omega,fun i hi=>by omega,fun i hi=>by omega,fun i hi=>by omega,fun i hi=>by omega⟩
end Go.V
namespace Go.V
open Go
variable {K :dh}{ρ ρ':List Value}{S S':Nat->Prop}{w w':World}{H H':List (Ob K)}{D:bH K}
section
variable {cx :Cx K}{L:List Oper}{bs:List Nat}{H0:List (Ob K)}{bY ff:List (AV K)}{F:kH K}{HF:List (Ob K)}{wr:List Nat}{ms:List (Nat×Nat)}{ws:List Nat}
theorem gw.rP(hp:gw cx L bs H0 bY F L.length ff HF wr ms ws){i:Nat}(hi:i<L.length):(F.hin (i+1)).length=(F.hout i).length:=by
 obtain⟨h1,h2⟩:=hp.hs i hi;rw[h1,DU _ _ _ h2]
theorem gw.mono(hp:gw cx L bs H0 bY F L.length ff HF wr ms ws):∀{i j:Nat},i<=j->j<=L.length->(F.hin i).length<=(F.hin j).length:=by
 intro i j hij hj
 induction j with
 |zero=>have:i=0:=by omega
        subst this;exact fh _
 |succ j ih=>
  rcases cP i (j+1)with h|h
  ·have h1:=ih (by omega) (by omega);rw[hp.rP (show j<L.length by omega)];exact lU h1 (hp.hs j (by omega)).2
  ·have:i=j+1:=by omega
   subst this;exact fh _
theorem gw.ae4(hp:gw cx L bs H0 bY F L.length ff HF wr ms ws){i h:Nat}(hi:i<L.length)(hn:¬F.W i h)(hh:h<(F.hin i).length):(F.hin (i+1))[h]?=(F.hin i)[h]?:=by
 obtain⟨h1,h2⟩:=hp.hs i hi;obtain⟨di,dU,a⟩:=hp.slot i L[i] hi (cH hi);rw[h1,DV _ _ _ _ h2];by_cases hm:h<(F.hin i).length/\(F.mask i).testBit (0+h)=true
 ·rw[aY hm]
 ·rw[aT hm];have hm':(F.mask i).testBit h=false:=by
   cases hb:(F.mask i).testBit h with
   |false=>rfl
   |true=>exact absurd ⟨hh,by rw[jq];exact hb⟩ hm
  have:=a.turns.2 h (by rw[zh];exact hh) (fun hT=>hn (.inl hT));rw[this,zg,jq,hm'];cases (F.hin i)[h]?<;>simp
theorem gw.stay(hp:gw cx L bs H0 bY F L.length ff HF wr ms ws){i h:Nat}:∀{j:Nat},i<=j->j<=L.length->(∀k,i<=k->k<j->¬F.W k h)->h<(F.hin i).length->(F.hin j)[h]?=(F.hin i)[h]?:=by
 intro j hij hj hn hh
 induction j with
 |zero=>have:i=0:=by omega
        subst this;rfl
 |succ j ih=>
  rcases cP i (j+1)with h1|h1
  ·have h2:=ih (by omega) (by omega) fun k a b=>hn k a (by omega)
   rw[hp.ae4 (by omega) (hn j (by omega) (by omega)) (kY hh (hp.mono (by omega) (by omega))),h2]
  ·have:i=j+1:=by omega
   subst this;rfl
theorem gw.maker(hp:gw cx L bs H0 bY F L.length ff HF wr ms ws){j k h:Nat}(hj:j<L.length)(hk:k<L.length)(h1:(F.hin j).length<=h)(h2:h<(F.hout j).length)(h3:(F.hin k).length<=h)(h4:h<(F.hout k).length):j=k:=by
 rcases Nat.lt_trichotomy j k with h|h|h
 ·have:=hp.mono (show j+1<=k by omega) (by omega);rw[hp.rP hj]at this;omega
 ·exact h
 ·have:=hp.mono (show k+1<=j by omega) (by omega);rw[hp.rP hk]at this;omega
theorem gw.made(hp:gw cx L bs H0 bY F L.length ff HF wr ms ws){h:Nat}:∀{j:Nat},j<=L.length->h<(F.hin j).length->H0.length<=h->∃k,k<j/\(F.hin k).length<=h/\h<(F.hout k).length:=by
 intro j hj hh h0
 induction j with
 |zero=>rw[hp.h0]at hh;omega
 |succ j ih=>
  rw[hp.rP (show j<L.length by omega)]at hh;rcases cP h (F.hin j).length with h1|h1
  ·obtain⟨k,a,b⟩:=ih (by omega) h1;exact⟨k,by omega,b⟩
  ·exact⟨j,by omega,h1,hh⟩
end
theorem PU{p:Nat->Prop}{n:Nat}(hb:∀k,p k->k<n)(h:∃k,p k):∃k,p k/\∀k',p k'->k'<=k:=by
 induction n with
 |zero=>obtain⟨k,hk⟩:=h;exact absurd (hb k hk) (Dw _)
 |succ n ih=>
  by_cases hn:p n
  ·exact⟨n,hn,fun k' hk'=>by have:=hb k' hk';omega⟩
  ·exact ih fun k hk=>by
    have:=hb k hk;rcases cP k n with h1|h1
    ·exact h1
    ·have:k=n:=by omega
     subst this;exact absurd hk hn
structure jW (cx:Cx K) (L:List Oper) (bs:List Nat) (bY:List (AV K)) (F:kH K) (H0 HF H:List (Ob K)) (ρ:List Value) (S:Nat->Prop) (listed:Array Bool) (a:Act) (w:World):Prop where
 heap:aS cx.D ρ S w H
 hlen:H.length=HF.length
 defers:a.defers=[]
 size:a.tmps.size=bY.length
 nr:listed.size=L.length
 base:∀(t:Nat) v x,(∀(k:Nat) o,L[k]?=some o->o.dst=some t->listed[k]?≠some true)->bY[t]?=some v->a.tmps[t]?=some x->Rep cx.D ρ S w v x
 done:∀(k:Nat) o d x,L[k]?=some o->listed[k]?=some true->o.dst=some d->a.tmps[d]?=some x->eM cx.D ρ S w a.tmps (F.vals k) x
 opts:∀(k g:Nat) b y,listed[k]?=some true->F.vals k=.opt g b y->∃(k':Nat)(o':Oper),L[k']?=some o'/\o'.dst=some g/\listed[k']?=some true
 closed:∀(k:Nat) o,L[k]?=some o->listed[k]?=some true->∀e∈o.after,listed[e.on]?=some true
 JS:∀h,(∀k,listed[k]?=some true->¬F.W k h)->h<HF.length->(h<H0.length->H[h]?=H0[h]?)/\(H0.length<=h->H[h]?=some .dead)
 JU:∀h k,listed[k]?=some true->F.W k h->(∀k',listed[k']?=some true->F.W k' h->k'<=k)->H[h]?=(F.hin (k+1))[h]?
 PV:∀h,H0.length<=h->h<HF.length->(∀k,listed[k]?=some true->¬((F.hin k).length<=h/\h<(F.hout k).length))->ρ[h]?=some dummy
section
variable {cx :Cx K}{L:List Oper}{bs:List Nat}{H0:List (Ob K)}{bY ff:List (AV K)}{F:kH K}{HF:List (Ob K)}{wr:List Nat}{ms:List (Nat×Nat)}{ws:List Nat}{listed:Array Bool}{a:Act}
theorem jW.sees(hp:gw cx L bs H0 bY F L.length ff HF wr ms ws)(hm:jW cx L bs bY F H0 HF H ρ S listed a w){j:Nat}(hj:j<L.length)(ib:listed[j]?=some false)
 (hA:∀k,(bs.getD j 0).testBit k=true->listed[k]?=some true) (hcl:∀i k,listed[i]?=some true->(bs.getD i 0).testBit k=true->listed[k]?=some true) {h:Nat} (hh:h<(F.hin j).length) (hun:(F.mask j).testBit h=false):H[h]?=(F.hin j)[h]?:=by
 have hlt:∀k,listed[k]?=some true->k<L.length:=fun k hk=>by have:=(kE.1 hk).1;rw[hm.nr]at this;exact this
 have hne:∀k,listed[k]?=some true->k≠j:=fun k hk e=>by subst e;rw[ib]at hk;cases hk
 have hbef:∀k,k<j->F.W k h->listed[k]?=some true:=fun k hk hw=>by
  cases hb:(bs.getD j 0).testBit k with
  |true=>exact hA k hb
  |false=>have:=hp.masks j hj h ⟨k,hk,hb,hw⟩;rw[hun]at this;cases this
 have haft:∀k,listed[k]?=some true->F.W k h->k<j:=fun k hk hw=>by
  rcases Nat.lt_trichotomy k j with h1|h1|h1
  ·exact h1
  ·exact absurd h1 (hne k hk)
  ·have mw:=hlt k hk;have hlen:=hp.mono (show j<=k by omega) (by omega);rcases hw with hT|⟨h2,-⟩
   ·cases hb:(bs.getD k 0).testBit j with
    |true=>have:=hcl k j hk hb;rw[ib]at this;cases this
    |false=>have:=hp.readers k mw j h1 hb h hT hh;rw[hun]at this;cases this
   ·omega
 by_cases hex:∃k,listed[k]?=some true/\F.W k h
 ·obtain⟨k,⟨hk1,hk2⟩,hk3⟩:=PU (p:=fun k=>listed[k]?=some true/\F.W k h) (n:=L.length) (fun k hk=>hlt k hk.1) hex;rw[hm.JU h k hk1 hk2 fun k' a b=>hk3 k' ⟨a,b⟩];have hkj:=haft k hk1 hk2;have hno:∀k',k+1<=k'->k'<j->¬F.W k' h:=fun k' h1 h2 hw=>by have:=hk3 k' ⟨hbef k' h2 hw,hw⟩;omega
  by_cases hl:h<(F.hin (k+1)).length
  ·exact(hp.stay (show k+1<=j by omega) (by omega) hno hl).symm
  ·
   exfalso;have:H0.length<=h:=by have:=hp.mono (show 0<=k+1 by omega) (show k+1<=L.length by omega);rw[hp.h0]at this;omega
   obtain⟨k',g1,g2,g3⟩:=hp.made (show j<=L.length by omega) hh this;by_cases hkk:k+1<=k'
   ·exact hno k' hkk g1 (.inr ⟨g2,g3⟩)
   ·have:=hp.mono (show k'+1<=k+1 by omega) (show k+1<=L.length by omega);rw[hp.rP (show k'<L.length by omega)]at this;omega
 ·have hno:∀k,listed[k]?=some true->¬F.W k h:=fun k a b=>hex ⟨k,a,b⟩
  have uC:∀k,0<=k->k<j->¬F.W k h:=fun k _ hk hw=>hno k (hbef k hk hw) hw
  have hHF:h<HF.length:=by have:=hp.mono (show j<=L.length by omega) (fh _);rw[hp.hn]at this;omega
  obtain⟨g1,g2⟩:=hm.JS h hno hHF;by_cases h0:h<H0.length
  ·rw[g1 h0,hp.stay (dN j) (by omega) uC (by rw[hp.h0];exact h0),hp.h0]
  ·obtain⟨k',a1,a2,a3⟩:=hp.made (show j<=L.length by omega) hh (by omega);exact absurd (.inr ⟨a2,a3⟩) (uC k' (dN _) a1)
end
end Go.V
