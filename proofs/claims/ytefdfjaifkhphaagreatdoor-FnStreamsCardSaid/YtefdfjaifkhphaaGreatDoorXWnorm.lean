/-
  NEW NUMBERS FOR THE OBJECTS.
-/
import Derived.Test.YtefdfjaifkhphaaGreatDoorXWexecA
set_option linter.unusedVariables false
namespace Go.V
open Go
variable {K :yu} {ρ ρ':List Value} {S S':Nat->Prop} {w w':World} {H H':List (Ob K)}
theorem XI {α β:Type} {f:α->Option β}:∀(l:List α) (l':List β),abj f l=some l'->l'.length=l.length /\ ∀(i:Nat) y,l'[i]? =some y->∃x,l[i]? =some x /\ f x=some y
 | [],l',h=>by simp[abj] at h;subst h;simp
 |x::l,l',h=>by
  simp only[abj] at h;split at h
  ·rename_i y m h1 h2
   simp only[Option.some.injEq] at h;subst h;obtain ⟨g1,g2⟩:=XI l m h2;refine ⟨by simp[g1],fun i z hi=> ?_⟩
   cases i with
   |zero=>simp at hi;subst hi;exact ⟨x,rfl,h1⟩
   |succ i=>simp at hi;obtain ⟨v,q1,q2⟩:=g2 i z hi;exact ⟨v,by simpa using q1,q2⟩
  ·cases h
theorem MG {n0 n:Nat}:∀(src:List (Option Nat)) (k:Nat),Rh n0 n k src=true->
 (∀i:Nat,src[i]? =some none->k+i<n0) /\ (∀(i h:Nat),src[i]? =some (some h)->h<n /\ (k+i<n0->h=k+i)) /\ ∀(i j h:Nat),src[i]? =some (some h)->src[j]? =some (some h)->i=j
 | [],k,h=>⟨fun i hi=>by simp at hi,fun i h hi=>by simp at hi,fun i j h hi=>by simp at hi⟩
 |none::r,k,h=>by
  simp only[Rh,Bool.and_eq_true,decide_eq_true_eq] at h;obtain ⟨a,b,c⟩:=MG r (k+1) h.2;refine ⟨fun i hi=> ?_,fun i g hi=> ?_,fun i j g hi hj=> ?_⟩
  ·cases i with
   |zero=>exact h.1
   |succ i=>have:=a i (by simpa using hi);omega
  ·cases i with
   |zero=>simp at hi
   |succ i=>have:=b i g (by simpa using hi);exact ⟨this.1,fun hh=>by have:=this.2 (by omega);omega⟩
  ·cases i with
   |zero=>simp at hi
   |succ i=>
    cases j with
    |zero=>simp at hj
    |succ j=>rw[c i j g (by simpa using hi) (by simpa using hj)]
 |some g0::r,k,h=>by
  simp only[Rh,Bool.and_eq_true,Bool.or_eq_true,decide_eq_true_eq,Bool.not_eq_true',List.contains_eq_mem,decide_eq_false_iff_not] at h;obtain ⟨h1,h2,h3,h4⟩:=h;obtain ⟨a,b,c⟩:=MG r (k+1) h4;refine ⟨fun i hi=> ?_,fun i g hi=> ?_,fun i j g hi hj=> ?_⟩
  ·cases i with
   |zero=>simp at hi
   |succ i=>have:=a i (by simpa using hi);omega
  ·cases i with
   |zero=>simp at hi;subst hi;exact ⟨h1,fun hh=>by omega⟩
   |succ i=>have:=b i g (by simpa using hi);exact ⟨this.1,fun hh=>by have:=this.2 (by omega);omega⟩
  ·cases i with
   |zero=>
    simp at hi;subst hi
    cases j with
    |zero=>rfl
    |succ j=>exact absurd (List.mem_of_getElem? (by simpa using hj)) h3
   |succ i=>
    cases j with
    |zero=>simp at hj;subst hj;exact absurd (List.mem_of_getElem? (by simpa using hi)) h3
    |succ j=>rw[c i j g (by simpa using hi) (by simpa using hj)]
theorem aeG {src:List (Option Nat)} {h i:Nat} (hi:aaf src h=some i):src[i]? =some (some h):=by
 unfold aaf at hi;rw[List.idxOf?_eq_some_iff] at hi;obtain ⟨hlt,he, -⟩:=hi;rw[List.getElem?_eq_getElem hlt];simpa using he
def JM (ρ:List Value):Nat->List (Option Nat)->List Value
 |_,[]=>[]
 |i,none::r=>ρ.getD i undef::JM ρ (i+1) r
 |i,some h::r=>ρ.getD h undef::JM ρ (i+1) r
theorem OO {ρ:List Value}:∀(src:List (Option Nat)) (k i:Nat) (x:Option Nat),src[i]? =some x->(JM ρ k src)[i]? =some (ρ.getD (x.getD (k+i)) undef)
 | [],k,i,x,h=>by simp at h
 |none::r,k,0,x,h=>by simp at h;subst h;simp[JM]
 |some h0::r,k,0,x,h=>by simp at h;subst h;simp[JM]
 |none::r,k,i+1,x,h=>by
  simp only[JM,List.getElem?_cons_succ];rw[OO r (k+1) i x (by simpa using h),Nat.add_assoc,Nat.add_comm 1 i]
 |some h0::r,k,i+1,x,h=>by
  simp only[JM,List.getElem?_cons_succ];rw[OO r (k+1) i x (by simpa using h),Nat.add_assoc,Nat.add_comm 1 i]
theorem VK {ρ:List Value}:∀(src:List (Option Nat)) (k:Nat),(JM ρ k src).length=src.length
 | [],k=>rfl
 |none::r,k=>by simp[JM,VK r]
 |some h0::r,k=>by simp[JM,VK r]
theorem aay {D:iU K} (hD:bz D) (hs:ay D ρ S w H) {n0:Nat} (hn:n0<=H.length) {src:List (Option Nat)} (hk:Rh n0 H.length 0 src=true) (hl:n0<=src.length) (hm:abj (Vr src H) src=some H'):
 ay D (JM ρ 0 src) S w H' /\ Step D n0 ρ S H w (JM ρ 0 src) S H' w /\ Ren (aaf src) ρ (JM ρ 0 src) /\ n0<=H'.length:=by
 obtain ⟨k1,k2,k3⟩:=MG src 0 hk;obtain ⟨m1,m2⟩:=XI _ _ hm;have hlen:=hs.len;have aeH:∀{h:Nat},h<H.length->some (ρ.getD h undef)=ρ[h]?:=fun {h} hh=>by
  rw[List.getD_eq_getElem?_getD,List.getElem?_eq_getElem (show h<ρ.length by omega)];rfl
 have hsub:∀(i h:Nat),src[i]? =some (some h)->(JM ρ 0 src)[i]? =ρ[h]?:=fun i h hi=>by
  rw[OO src 0 i _ hi];exact aeH (k2 i h hi).1
 have YC:Ren (aaf src) ρ (JM ρ 0 src):=fun i j r hij hr=>by rw[hsub j i (aeG hij)];exact hr
 have hsrc:∀{i:Nat} {o:Ob K},H'[i]? =some o->o.live=true->∃h o0,src[i]? =some (some h) /\ H[h]? =some o0 /\ LU (aaf src) o0=some o:=fun {i o} ho hlive=>by
  obtain ⟨x,q1,q2⟩:=m2 i o ho
  cases x with
  |none=>simp only[Vr,Option.some.injEq] at q2;subst q2;simp[Ob.live] at hlive
  |some h=>
   simp only[Vr] at q2;split at q2
   ·rename_i o0 ho0;exact ⟨h,o0,q1,ho0,q2⟩
   ·cases q2
 have hown:∀b,Own D w (JM ρ 0 src) H' b->Own D w ρ H b:=fun b ⟨i,o,r,h1,h2,h3,h4⟩=>by
  obtain ⟨h,o0,e1,e2,e3⟩:=hsrc h1 h2;rw[hsub i h e1] at h3;exact ⟨h,o0,r,e2,by rw[<-lZ e3];exact h2,h3,(oh e3).1 h4⟩
 refine ⟨⟨by rw[VK,m1],fun i o r h1 h2=> ?_,fun i j o o' r r' b h1 h2 h3 h4 g1 g2 g3 g4=> ?_,fun b hb=>hs.lt b (hown b hb),hs.slt,hs.base⟩,⟨rfl,rfl,rfl,Nat.le_refl _,fun _ _ _=>rfl,fun b hb=> .inl (hown b hb),fun _ h=>h,fun _ h=> .inl h,fun i hi=> ?_⟩,YC,by rw[m1];exact hl⟩
 ·obtain ⟨x,q1,q2⟩:=m2 i o h1
  cases x with
  |none=>simp only[Vr,Option.some.injEq] at q2;subst q2;trivial
  |some h=>
   simp only[Vr] at q2;split at q2
   ·rename_i o0 ho0
    rw[hsub i h q1] at h2;exact LV hD YC q2 (hs.ob h o0 r ho0 h2)
   ·cases q2
 ·obtain ⟨h,o0,e1,e2,e3⟩:=hsrc h1 h2
  obtain ⟨h',o0',c1,c2,c3⟩:=hsrc g1 g2;rw[hsub i h e1] at h3;rw[hsub j h' c1] at g3;have:=hs.qi h h' o0 o0' r r' b e2 (by rw[<-lZ e3];exact h2) h3 ((oh e3).1 h4) c2 (by rw[<-lZ c3];exact g2) g3 ((oh c3).1 g4)
  subst this;exact k3 i j h e1 c1
 ·have hi':i<src.length:=by omega
  have hg:=List.getElem?_eq_getElem hi';rw[OO src 0 i _ hg]
  cases hx:src[i] with
  |none=>rw[Option.getD_none,Nat.zero_add];exact aeH (by omega)
  |some h=>
   rw[hx] at hg;have:=(k2 i h hg).2 (by omega)
   rw[Option.getD_some,this,Nat.zero_add];exact aeH (by omega)
def Goes (cx:Cx K) (n0:Nat) (st st':St K):Prop:=
 ∀(ρ:List Value) (S:Nat->Prop) (a:Act) (w:World),n0<=st.H.length->Sat cx ρ S a w st->n0<=st'.H.length /\ ∃ρ' S',Sat cx ρ' S' a w st' /\ Step cx.D n0 ρ S st.H w ρ' S' st'.H w
theorem Goes.trans {cx:Cx K} {n0:Nat} {st st1 st2:St K} (a:Goes cx n0 st st1) (b:Goes cx n0 st1 st2):Goes cx n0 st st2:=fun ρ S a' w hn dn=>by
 obtain ⟨h1,ρ1,S1,q1,q2⟩:=a ρ S a' w hn dn;obtain ⟨h2,ρ2,S2,q3,q4⟩:=b ρ1 S1 a' w h1 q1;exact ⟨h2,ρ2,S2,q3,q2.trans q4⟩
theorem JB {cx:Cx K} (hD:bz cx.D) {n0:Nat} {src:List (Option Nat)} {keep:List Nat} {st st':St K} (h:YH n0 src keep st=some st'):st'.ok=st.ok /\ gu st'.tm /\ (gu st.tm->Goes cx n0 st st'):=by
 unfold YH at h;split at h
 ·rename_i hk
  simp only[Bool.and_eq_true,decide_eq_true_eq] at hk;split at h
  ·rename_i vs H' hv hm
   simp only[Option.some.injEq] at h;subst h;refine ⟨rfl,KH hv,fun h0 ρ S a w hn dn=> ?_⟩
   obtain ⟨s1,s2,s3,s4⟩:=aay hD dn.heap hn hk.1 hk.2 hm;refine ⟨s4,_,S,⟨s1,zl dn.slots.len.symm fun i t v x g1 g2 g3=> ?_,dn.defers⟩,s2⟩
   obtain ⟨v0,q1,q2⟩:=(Bg _ _ hv).2 i v g2;simp only[List.getElem?_map,g1,Option.map_some,Option.some.injEq] at q1;subst q1;refine uF hD s3 _ v x q2 ?_;rw[List.getD_eq_getElem?_getD]
   cases hg:st.tm[t]? with
   |none=>exact .any x
   |some v1=>exact dn.slots.rep h0 hg g3
  ·cases h
 ·cases h
end Go.V
