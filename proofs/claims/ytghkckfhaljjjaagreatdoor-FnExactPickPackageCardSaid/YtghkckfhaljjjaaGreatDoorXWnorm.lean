/-
  NEW NUMBERS FOR THE OBJECTS.
-/
import Derived.Test.YtghkckfhaljjjaaGreatDoorXWexecA
set_option linter.unusedVariables false
namespace Go.V
open Go
variable {K :dh}{ρ ρ':List Value}{S S':Nat->Prop}{w w':World}{H H':List (Ob K)}
theorem Qh{α β:Type}{f:α->Option β}:∀(l:List α)(l':List β),uu f l=some l'->l'.length=l.length/\∀(i:Nat) y,l'[i]?=some y->∃x,l[i]?=some x/\f x=some y
 |[],l',h=>by simp[uu]at h;subst h;simp
 |x::l,l',h=>by
  simp only[uu]at h;split at h
  ·rename_i y m h1 h2;simp only[av]at h;subst h;obtain⟨g1,g2⟩:=Qh l m h2;refine⟨by simp[g1],fun i z hi=>?_⟩;cases i with
   |zero=>simp at hi;subst hi;exact⟨x,rfl,h1⟩
   |succ i=>simp at hi;obtain⟨v,q1,q2⟩:=g2 i z hi;exact⟨v,by simpa using q1,q2⟩
  ·cases h
theorem J6{n0 n:Nat}:∀(src:List (Option Nat))(k:Nat),rL n0 n k src=true->
 (∀i:Nat,src[i]?=some none->k+i<n0)/\(∀(i h:Nat),src[i]?=some (some h)->h<n/\(k+i<n0->h=k+i))/\∀(i j h:Nat),src[i]?=some (some h)->src[j]?=some (some h)->i=j
 |[],k,h=>⟨fun i hi=>by simp at hi,fun i h hi=>by simp at hi,fun i j h hi=>by simp at hi⟩
 |none::r,k,h=>by
  simp only[rL,cG,bB]at h;obtain⟨a,b,c⟩:=J6 r (k+1) h.2;refine⟨fun i hi=>?_,fun i g hi=>?_,fun i j g hi hj=>?_⟩
  ·cases i with
   |zero=>exact h.1
   |succ i=>have:=a i (by simpa using hi);omega
  ·cases i with
   |zero=>simp at hi
   |succ i=>have:=b i g (by simpa using hi);exact⟨this.1,fun hh=>by have:=this.2 (by omega);omega⟩
  ·cases i with
   |zero=>simp at hi
   |succ i=>
    cases j with
    |zero=>simp at hj
    |succ j=>rw[c i j g (by simpa using hi) (by simpa using hj)]
 |some g0::r,k,h=>by
  simp only[rL,cG,ej,bB,fk,rF,fi]at h;obtain⟨h1,h2,h3,h4⟩:=h;obtain⟨a,b,c⟩:=J6 r (k+1) h4;refine⟨fun i hi=>?_,fun i g hi=>?_,fun i j g hi hj=>?_⟩
  ·cases i with
   |zero=>simp at hi
   |succ i=>have:=a i (by simpa using hi);omega
  ·cases i with
   |zero=>simp at hi;subst hi;exact⟨h1,fun hh=>by omega⟩
   |succ i=>have:=b i g (by simpa using hi);exact⟨this.1,fun hh=>by have:=this.2 (by omega);omega⟩
  ·cases i with
   |zero=>
    simp at hi;subst hi;cases j with
    |zero=>rfl
    |succ j=>exact absurd (eN (by simpa using hj)) h3
   |succ i=>
    cases j with
    |zero=>simp at hj;subst hj;exact absurd (eN (by simpa using hi)) h3
    |succ j=>rw[c i j g (by simpa using hi) (by simpa using hj)]
theorem afm{src:List (Option Nat)}{h i:Nat}(hi:rK src h=some i):src[i]?=some (some h):=by
 unfold rK at hi;rw[List.idxOf?_eq_some_iff]at hi;obtain⟨hlt,he,-⟩:=hi;rw[cH hlt];simpa using he
def jX(ρ:List Value):Nat->List (Option Nat)->List Value
 |_,[]=>[]
 |i,none::r=>ρ.getD i undef::jX ρ (i+1) r
 |i,some h::r=>ρ.getD h undef::jX ρ (i+1) r
theorem D4{ρ:List Value}:∀(src:List (Option Nat))(k i:Nat)(x:Option Nat),src[i]?=some x->(jX ρ k src)[i]?=some (ρ.getD (x.getD (k+i)) undef)
 |[],k,i,x,h=>by simp at h
 |none::r,k,0,x,h=>by simp at h;subst h;simp[jX]
 |some h0::r,k,0,x,h=>by simp at h;subst h;simp[jX]
 |none::r,k,i+1,x,h=>by
  simp only[jX,List.getElem?_cons_succ];rw[D4 r (k+1) i x (by simpa using h),oh,wu 1 i]
 |some h0::r,k,i+1,x,h=>by
  simp only[jX,List.getElem?_cons_succ];rw[D4 r (k+1) i x (by simpa using h),oh,wu 1 i]
theorem J7{ρ:List Value}:∀(src:List (Option Nat))(k:Nat),(jX ρ k src).length=src.length
 |[],k=>rfl
 |none::r,k=>by simp[jX,J7 r]
 |some h0::r,k=>by simp[jX,J7 r]
theorem P3{D:bH K}(hD:bR D)(hs:aS D ρ S w H){n0:Nat}(hn:n0<=H.length){src:List (Option Nat)}(hk:rL n0 H.length 0 src=true)(hl:n0<=src.length)(hm:uu (uv src H) src=some H'):
 aS D (jX ρ 0 src) S w H'/\Step D n0 ρ S H w (jX ρ 0 src) S H' w/\Ren (rK src) ρ (jX ρ 0 src)/\n0<=H'.length:=by
 obtain⟨k1,k2,k3⟩:=J6 src 0 hk;obtain⟨m1,m2⟩:=Qh _ _ hm;have hlen:=hs.len;have J8:∀{h:Nat},h<H.length->some (ρ.getD h undef)=ρ[h]?:=fun{h} hh=>by
  rw[gn,cH (show h<ρ.length by omega)];rfl
 have hsub:∀(i h:Nat),src[i]?=some (some h)->(jX ρ 0 src)[i]?=ρ[h]?:=fun i h hi=>by
  rw[D4 src 0 i _ hi];exact J8 (k2 i h hi).1
 have pL:Ren (rK src) ρ (jX ρ 0 src):=fun i j r hij hr=>by rw[hsub j i (afm hij)];exact hr
 have hsrc:∀{i:Nat}{o:Ob K},H'[i]?=some o->o.live=true->∃h o0,src[i]?=some (some h)/\H[h]?=some o0/\kt (rK src) o0=some o:=fun{i o} ho hlive=>by
  obtain⟨x,q1,q2⟩:=m2 i o ho;cases x with
  |none=>simp only[uv,av]at q2;subst q2;simp[Ob.live]at hlive
  |some h=>
   simp only[uv]at q2;split at q2
   ·rename_i o0 ho0;exact⟨h,o0,q1,ho0,q2⟩
   ·cases q2
 have hown:∀b,Own D w (jX ρ 0 src) H' b->Own D w ρ H b:=fun b ⟨i,o,r,h1,h2,h3,h4⟩=>by
  obtain⟨h,o0,e1,e2,e3⟩:=hsrc h1 h2;rw[hsub i h e1]at h3;exact⟨h,o0,r,e2,by rw[<-mh e3];exact h2,h3,(m7 e3).1 h4⟩
 refine⟨⟨by rw[J7,m1],fun i o r h1 h2=>?_,fun i j o o' r r' b h1 h2 h3 h4 g1 g2 g3 g4=>?_,fun b hb=>hs.lt b (hown b hb),hs.slt,hs.base⟩,⟨rfl,rfl,rfl,fh _,fun _ _ _=>rfl,fun b hb=>.inl (hown b hb),fun _ h=>h,fun _ h=>.inl h,fun i hi=>?_⟩,pL,by rw[m1];exact hl⟩
 ·obtain⟨x,q1,q2⟩:=m2 i o h1;cases x with
  |none=>simp only[uv,av]at q2;subst q2;trivial
  |some h=>
   simp only[uv]at q2;split at q2
   ·rename_i o0 ho0;rw[hsub i h q1]at h2;exact Ip hD pL q2 (hs.ob h o0 r ho0 h2)
   ·cases q2
 ·obtain⟨h,o0,e1,e2,e3⟩:=hsrc h1 h2;obtain⟨h',Ix,c1,c2,c3⟩:=hsrc g1 g2;rw[hsub i h e1]at h3;rw[hsub j h' c1]at g3;have:=hs.eV h h' o0 Ix r r' b e2 (by rw[<-mh e3];exact h2) h3 ((m7 e3).1 h4) c2 (by rw[<-mh c3];exact g2) g3 ((m7 c3).1 g4);subst this;exact k3 i j h e1 c1
 ·have hi':i<src.length:=by omega
  have hg:=cH hi';rw[D4 src 0 i _ hg];cases hx:src[i]with
  |none=>rw[Option.getD_none,jq];exact J8 (by omega)
  |some h=>
   rw[hx]at hg;have:=(k2 i h hg).2 (by omega);rw[ay,this,jq];exact J8 (by omega)
def Goes(cx:Cx K)(n0:Nat)(st st':St K):Prop:=
 ∀(ρ:List Value)(S:Nat->Prop)(a:Act)(w:World),n0<=st.H.length->Sat cx ρ S a w st->n0<=st'.H.length/\∃ρ' S',Sat cx ρ' S' a w st'/\Step cx.D n0 ρ S st.H w ρ' S' st'.H w
theorem Goes.trans{cx:Cx K}{n0:Nat}{st st1 st2:St K}(a:Goes cx n0 st st1)(b:Goes cx n0 st1 st2):Goes cx n0 st st2:=fun ρ S a' w hn bM=>by
 obtain⟨h1,ρ1,S1,q1,q2⟩:=a ρ S a' w hn bM;obtain⟨h2,ρ2,S2,q3,q4⟩:=b ρ1 S1 a' w h1 q1;exact⟨h2,ρ2,S2,q3,q2.trans q4⟩
theorem D3{cx:Cx K}(hD:bR cx.D){n0:Nat}{src:List (Option Nat)}{keep:List Nat}{st st':St K}(h:qb n0 src keep st=some st'):st'.ok=st.ok/\dC st'.tm/\(dC st.tm->Goes cx n0 st st'):=by
 unfold qb at h;split at h
 ·rename_i hk;simp only[cG,bB]at hk;split at h
  ·rename_i vs H' hv hm;simp only[av]at h;subst h;refine⟨rfl,Py hv,fun h0 ρ S a w hn bM=>?_⟩;obtain⟨s1,s2,s3,s4⟩:=P3 hD bM.heap hn hk.1 hk.2 hm;refine⟨s4,_,S,⟨s1,JK bM.slots.len.symm fun i t v x g1 g2 g3=>?_,bM.defers⟩,s2⟩;obtain⟨v0,q1,q2⟩:=(uA _ _ hv).2 i v g2;simp only[ik,g1,iC,av]at q1;subst q1;refine rl hD s3 _ v x q2 ?_;rw[gn];cases hg:st.tm[t]? with
   |none=>exact .any x
   |some v1=>exact bM.slots.rep h0 hg g3
  ·cases h
 ·cases h
end Go.V
