/-
  NEW NUMBERS FOR THE OBJECTS.
-/
import Derived.Test.YtiacpoahkccfaaaGreatDoorXWexecA
set_option linter.unusedVariables false
namespace Go.V
open Go
variable {K :dh}{ρ ρ':List Value}{S S':Nat->Prop}{w w':World}{H H':List (Ob K)}
theorem P3{α β:Type}{f:α->Option β}:∀(l:List α)(l':List β),uO f l=some l'->l'.length=l.length/\∀(i:Nat) y,l'[i]?=some y->∃x,l[i]?=some x/\f x=some y
 |[],l',h=>by simp[uO]at h;subst h;simp
 |x::l,l',h=>by
  simp only[uO]at h;split at h
  ·rename_i y m h1 h2;simp only[ay]at h;subst h;obtain⟨g1,g2⟩:=P3 l m h2;refine⟨by simp[g1],fun i z hi=>?_⟩;cases i with
   |zero=>simp at hi;subst hi;exact⟨x,rfl,h1⟩
   |succ i=>simp at hi;obtain⟨v,q1,q2⟩:=g2 i z hi;exact⟨v,by simpa using q1,q2⟩
  ·cases h
theorem JZ{n0 n:Nat}:∀(src:List (Option Nat))(k:Nat),rV n0 n k src=true->
 (∀i:Nat,src[i]?=some none->k+i<n0)/\(∀(i h:Nat),src[i]?=some (some h)->h<n/\(k+i<n0->h=k+i))/\∀(i j h:Nat),src[i]?=some (some h)->src[j]?=some (some h)->i=j
 |[],k,h=>⟨fun i hi=>by simp at hi,fun i h hi=>by simp at hi,fun i j h hi=>by simp at hi⟩
 |none::r,k,h=>by
  simp only[rV,cC,cz]at h;obtain⟨a,b,c⟩:=JZ r (k+1) h.2;refine⟨fun i hi=>?_,fun i g hi=>?_,fun i j g hi hj=>?_⟩
  ·cases i with
   |zero=>exact h.1
   |succ i=>have:=a i (by simpa using hi);omega
  ·cases i with
   |zero=>simp at hi
   |succ i=>have:=b i g (by simpa using hi);exact⟨this.1,fun hh=>by have:=this.2 (by omega);omega⟩
  ·cases i with
   |zero=>simp at hi
   |succ i=>
    cases j with
    |zero=>simp at hj
    |succ j=>rw[c i j g (by simpa using hi) (by simpa using hj)]
 |some g0::r,k,h=>by
  simp only[rV,cC,fG,cz,fE,qc,dR]at h;obtain⟨h1,h2,h3,h4⟩:=h;obtain⟨a,b,c⟩:=JZ r (k+1) h4;refine⟨fun i hi=>?_,fun i g hi=>?_,fun i j g hi hj=>?_⟩
  ·cases i with
   |zero=>simp at hi
   |succ i=>have:=a i (by simpa using hi);omega
  ·cases i with
   |zero=>simp at hi;subst hi;exact⟨h1,fun hh=>by omega⟩
   |succ i=>have:=b i g (by simpa using hi);exact⟨this.1,fun hh=>by have:=this.2 (by omega);omega⟩
  ·cases i with
   |zero=>
    simp at hi;subst hi;cases j with
    |zero=>rfl
    |succ j=>exact absurd (fZ (by simpa using hj)) h3
   |succ i=>
    cases j with
    |zero=>simp at hj;subst hj;exact absurd (fZ (by simpa using hi)) h3
    |succ j=>rw[c i j g (by simpa using hi) (by simpa using hj)]
theorem aeL{src:List (Option Nat)}{h i:Nat}(hi:rU src h=some i):src[i]?=some (some h):=by
 unfold rU at hi;rw[List.idxOf?_eq_some_iff]at hi;obtain⟨hlt,he,-⟩:=hi;rw[bB hlt];simpa using he
def kb(ρ:List Value):Nat->List (Option Nat)->List Value
 |_,[]=>[]
 |i,none::r=>ρ.getD i undef::kb ρ (i+1) r
 |i,some h::r=>ρ.getD h undef::kb ρ (i+1) r
theorem Ec{ρ:List Value}:∀(src:List (Option Nat))(k i:Nat)(x:Option Nat),src[i]?=some x->(kb ρ k src)[i]?=some (ρ.getD (x.getD (k+i)) undef)
 |[],k,i,x,h=>by simp at h
 |none::r,k,0,x,h=>by simp at h;subst h;simp[kb]
 |some h0::r,k,0,x,h=>by simp at h;subst h;simp[kb]
 |none::r,k,i+1,x,h=>by
  simp only[kb,List.getElem?_cons_succ];rw[Ec r (k+1) i x (by simpa using h),ql,DD 1 i]
 |some h0::r,k,i+1,x,h=>by
  simp only[kb,List.getElem?_cons_succ];rw[Ec r (k+1) i x (by simpa using h),ql,DD 1 i]
theorem J0{ρ:List Value}:∀(src:List (Option Nat))(k:Nat),(kb ρ k src).length=src.length
 |[],k=>rfl
 |none::r,k=>by simp[kb,J0 r]
 |some h0::r,k=>by simp[kb,J0 r]
theorem PN{D:bF K}(hD:bQ D)(hs:aT D ρ S w H){n0:Nat}(hn:n0<=H.length){src:List (Option Nat)}(hk:rV n0 H.length 0 src=true)(hl:n0<=src.length)(hm:uO (uP src H) src=some H'):
 aT D (kb ρ 0 src) S w H'/\Step D n0 ρ S H w (kb ρ 0 src) S H' w/\Ren (rU src) ρ (kb ρ 0 src)/\n0<=H'.length:=by
 obtain⟨k1,k2,k3⟩:=JZ src 0 hk;obtain⟨m1,m2⟩:=P3 _ _ hm;have hlen:=hs.len;have J1:∀{h:Nat},h<H.length->some (ρ.getD h undef)=ρ[h]?:=fun{h} hh=>by
  rw[fh,bB (show h<ρ.length by omega)];rfl
 have hsub:∀(i h:Nat),src[i]?=some (some h)->(kb ρ 0 src)[i]?=ρ[h]?:=fun i h hi=>by
  rw[Ec src 0 i _ hi];exact J1 (k2 i h hi).1
 have pW:Ren (rU src) ρ (kb ρ 0 src):=fun i j r hij hr=>by rw[hsub j i (aeL hij)];exact hr
 have hsrc:∀{i:Nat}{o:Ob K},H'[i]?=some o->o.live=true->∃h o0,src[i]?=some (some h)/\H[h]?=some o0/\kB (rU src) o0=some o:=fun{i o} ho hlive=>by
  obtain⟨x,q1,q2⟩:=m2 i o ho;cases x with
  |none=>simp only[uP,ay]at q2;subst q2;simp[Ob.live]at hlive
  |some h=>
   simp only[uP]at q2;split at q2
   ·rename_i o0 ho0;exact⟨h,o0,q1,ho0,q2⟩
   ·cases q2
 have hown:∀b,Own D w (kb ρ 0 src) H' b->Own D w ρ H b:=fun b ⟨i,o,r,h1,h2,h3,h4⟩=>by
  obtain⟨h,o0,e1,e2,e3⟩:=hsrc h1 h2;rw[hsub i h e1]at h3;exact⟨h,o0,r,e2,by rw[<-mq e3];exact h2,h3,(ni e3).1 h4⟩
 refine⟨⟨by rw[J0,m1],fun i o r h1 h2=>?_,fun i j o o' r r' b h1 h2 h3 h4 g1 g2 g3 g4=>?_,fun b hb=>hs.lt b (hown b hb),hs.slt,hs.base⟩,⟨rfl,rfl,rfl,cw _,fun _ _ _=>rfl,fun b hb=>.inl (hown b hb),fun _ h=>h,fun _ h=>.inl h,fun i hi=>?_⟩,pW,by rw[m1];exact hl⟩
 ·obtain⟨x,q1,q2⟩:=m2 i o h1;cases x with
  |none=>simp only[uP,ay]at q2;subst q2;trivial
  |some h=>
   simp only[uP]at q2;split at q2
   ·rename_i o0 ho0;rw[hsub i h q1]at h2;exact Il hD pW q2 (hs.ob h o0 r ho0 h2)
   ·cases q2
 ·obtain⟨h,o0,e1,e2,e3⟩:=hsrc h1 h2;obtain⟨h',It,c1,c2,c3⟩:=hsrc g1 g2;rw[hsub i h e1]at h3;rw[hsub j h' c1]at g3;have:=hs.eM h h' o0 It r r' b e2 (by rw[<-mq e3];exact h2) h3 ((ni e3).1 h4) c2 (by rw[<-mq c3];exact g2) g3 ((ni c3).1 g4);subst this;exact k3 i j h e1 c1
 ·have hi':i<src.length:=by omega
  have hg:=bB hi';rw[Ec src 0 i _ hg];cases hx:src[i]with
  |none=>rw[Option.getD_none,iC];exact J1 (by omega)
  |some h=>
   rw[hx]at hg;have:=(k2 i h hg).2 (by omega);rw[aw,this,iC];exact J1 (by omega)
def Goes(cx:Cx K)(n0:Nat)(st st':St K):Prop:=
 ∀(ρ:List Value)(S:Nat->Prop)(a:Act)(w:World),n0<=st.H.length->Sat cx ρ S a w st->n0<=st'.H.length/\∃ρ' S',Sat cx ρ' S' a w st'/\Step cx.D n0 ρ S st.H w ρ' S' st'.H w
theorem Goes.trans{cx:Cx K}{n0:Nat}{st st1 st2:St K}(a:Goes cx n0 st st1)(b:Goes cx n0 st1 st2):Goes cx n0 st st2:=fun ρ S a' w hn bI=>by
 obtain⟨h1,ρ1,S1,q1,q2⟩:=a ρ S a' w hn bI;obtain⟨h2,ρ2,S2,q3,q4⟩:=b ρ1 S1 a' w h1 q1;exact⟨h2,ρ2,S2,q3,q2.trans q4⟩
theorem Eb{cx:Cx K}(hD:bQ cx.D){n0:Nat}{src:List (Option Nat)}{keep:List Nat}{st st':St K}(h:qq n0 src keep st=some st'):st'.ok=st.ok/\dG st'.tm/\(dG st.tm->Goes cx n0 st st'):=by
 unfold qq at h;split at h
 ·rename_i hk;simp only[cC,cz]at hk;split at h
  ·rename_i vs H' hv hm;simp only[ay]at h;subst h;refine⟨rfl,O6 hv,fun h0 ρ S a w hn bI=>?_⟩;obtain⟨s1,s2,s3,s4⟩:=PN hD bI.heap hn hk.1 hk.2 hm;refine⟨s4,_,S,⟨s1,JD bI.slots.len.symm fun i t v x g1 g2 g3=>?_,bI.defers⟩,s2⟩;obtain⟨v0,q1,q2⟩:=(uU _ _ hv).2 i v g2;simp only[fU,g1,lx,ay]at q1;subst q1;refine rD hD s3 _ v x q2 ?_;rw[fh];cases hg:st.tm[t]? with
   |none=>exact .any x
   |some v1=>exact bI.slots.rep h0 hg g3
  ·cases h
 ·cases h
end Go.V
