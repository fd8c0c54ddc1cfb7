/-
  WHAT A CALL LEAVES, PUT BACK AMONG THE CALLER's OBJECTS.
-/
import Derived.Test.YtefdfjaifkhphaaGreatDoorXWcallA
set_option linter.unusedVariables false
namespace Go.V
open Go
variable {K :yu} {D:iU K} {ρ ρ':List Value} {S S':Nat->Prop} {w w':World} {H H':List (Ob K)}
theorem oh {f:Nat->Option Nat} {o o':Ob K} (h:LU f o=some o') {r:Value} {b:Nat}:eH D w o' r b↔eH D w o r b:=by
 cases o<;>simp[LU] at h
 ·subst h;exact Iff.rfl
 ·obtain ⟨l, -,rfl⟩:=h;exact Iff.rfl
 ·subst h;exact Iff.rfl
 ·subst h;exact Iff.rfl
 ·subst h;exact Iff.rfl
theorem lZ {f:Nat->Option Nat} {o o':Ob K} (h:LU f o=some o'):o'.live=o.live:=by
 cases o<;>simp[LU] at h
 ·subst h;rfl
 ·obtain ⟨l, -,rfl⟩:=h;rfl
 ·subst h;rfl
 ·subst h;rfl
 ·subst h;rfl
theorem ZT {f:Nat->Option Nat} {l l':List (AV K)} (h:Hl f l=some l') (hn:wu l'=true):wu l=true:=by
 cases l with
 |nil=>simp[Hl] at h;subst h;cases hn
 |cons v r=>
  simp only[Hl] at h;split at h
  ·rename_i x y hx hy
   simp only[Option.some.injEq] at h;subst h
   cases v<;>simp only[Og,Option.map_eq_some_iff,Option.some.injEq,reduceCtorEq] at hx<;>first |rfl |(subst hx;cases hn) |(obtain ⟨a, -,rfl⟩:=hx;cases hn)
  ·cases h
theorem LV (hD:bz D) {f:Nat->Option Nat} (hm:Ren f ρ ρ') {o o':Ob K} {r:Value} (h:LU f o=some o') (hs:oq D ρ S w o r):oq D ρ' S w o' r:=by
 cases o with
 |dead=>simp[LU] at h;subst h;trivial
 |OX c l=>simp[LU] at h;subst h;exact Rep.closed hD hs rfl
 |box cs=>
  simp only[LU,Option.map_eq_some_iff] at h;obtain ⟨l,hl,rfl⟩:=h;obtain ⟨b,vs,T,e,h1,h2,h3⟩:=hs;exact ⟨b,vs,T,e,h1,xK hD hm cs l _ hl h2,fun hn=>h3 (ZT hl hn)⟩
 |tree c l=>simp[LU] at h;subst h;exact hs
 |opn c l i off cs=>simp[LU] at h
 |arr c l=>
  simp[LU] at h;subst h
  rcases hs with hs |⟨b,o,cap,vs,T,fr,e,h1,h2,h3,h4,h5⟩
  ·exact .inl hs
  ·exact .inr ⟨b,o,cap,vs,T,fr,e,h1,h2,h3,h4,fun i x hx=>(h5 i x hx).closed hD (hD.closed _ _)⟩
theorem LW {f:Ob K->Option (Ob K)}:∀(l l':List (Ob K)),G7 f l=some l'->l'.length=l.length /\ ∀(i:Nat) o o',l[i]? =some o->l'[i]? =some o'->f o=some o'
 | [],l',h=>by simp[G7] at h;subst h;exact ⟨rfl,fun i o o' h=>by simp at h⟩
 |x::r,l',h=>by
  simp only[G7] at h;split at h
  ·rename_i y s hy hs
   simp only[Option.some.injEq] at h;subst h;obtain ⟨h1,h2⟩:=LW r s hs;refine ⟨by simp[h1],fun i o o' ho ho'=> ?_⟩
   cases i with
   |zero=>simp at ho ho';subst ho;subst ho';exact hy
   |succ i=>exact h2 i o o' (by simpa using ho) (by simpa using ho')
  ·cases h
theorem yQ : ∀(m:List Nat),LX H m=true->(∀(i h:Nat),m[i]? =some h->h<H.length) /\ ∀(i j h:Nat),m[i]? =some h->m[j]? =some h->i=j
 | [],_=>⟨fun i h hi=>by simp at hi,fun i j h hi=>by simp at hi⟩
 |x::r,hp=>by
  simp only[LX,Bool.and_eq_true,decide_eq_true_eq,Bool.not_eq_true',List.contains_eq_mem,decide_eq_false_iff_not] at hp;obtain ⟨h1,h2⟩:=yQ r hp.2.2;refine ⟨fun i h hi=> ?_,fun i j h hi hj=> ?_⟩
  ·cases i with
   |zero=>simp at hi;subst hi;exact hp.1
   |succ i=>exact h1 i h (by simpa using hi)
  ·cases i with
   |zero=>
    cases j with
    |zero=>rfl
    |succ j=>simp at hi hj;subst hi;exact absurd (List.mem_of_getElem? hj) hp.2.1
   |succ i=>
    cases j with
    |zero=>simp at hi hj;subst hj;exact absurd (List.mem_of_getElem? hi) hp.2.1
    |succ j=>rw[h2 i j h (by simpa using hi) (by simpa using hj)]
theorem qH : ∀(m:List Nat) (H os:List (Ob K)),(lD H m os).length=H.length
 | [],H,os=>by simp[lD]
 |h::m,H,[]=>by simp[lD]
 |h::m,H,o::r=>by simp[lD,qH m]
theorem QY : ∀(m:List Nat) (H os:List (Ob K)),m.length<=os.length->∀(k:Nat) (o:Ob K),(lD H m os)[k]? =some o->(k∉m /\ H[k]? =some o) \/ ∃i:Nat,m[i]? =some k /\ os[i]? =some o
 | [],H,os,_,k,o,h=> .inl ⟨by simp,by simpa [lD] using h⟩
 |x::m,H,[],hl,k,o,h=>by simp at hl
 |x::m,H,y::r,hl,k,o,h=>by
  rcases QY m (H.set x y) r (by simpa using hl) k o (by simpa [lD] using h) with ⟨h1,h2⟩ |⟨i,h1,h2⟩
  ·rcases dX h2 with ⟨rfl,rfl, -⟩ |⟨hne,h2⟩
   ·exact .inr ⟨0,rfl,rfl⟩
   ·exact .inl ⟨by simp[hne,h1],h2⟩
  ·exact .inr ⟨i+1,by simpa using h1,by simpa using h2⟩
theorem IK {m:List Nat} {n k i j:Nat} (h:(iP m n k)[i]? =some j):(i<m.length /\ m[i]? =some j) \/ (m.length<=i /\ i<k /\ j=n+(i-m.length)):=by
 unfold iP at h
 by_cases hi:i<m.length
 ·rw[List.getElem?_append_left hi] at h;exact .inl ⟨hi,h⟩
 ·rw[List.getElem?_append_right (by omega)] at h
  simp only[List.getElem?_map,Option.map_eq_some_iff] at h;obtain ⟨a,ha,rfl⟩:=h;have:=List.getElem?_eq_some_iff.1 ha;obtain ⟨h1,h2⟩:=this;simp at h1 h2;exact .inr ⟨by omega,by omega,by omega⟩
theorem join (hD:bz D) (hs:ay D ρ S w H) {m:List Nat} (hm:LX H m=true) {ρi:List Value} {Hi:List (Ob K)} (aiu:∀(i h:Nat),m[i]? =some h->ρi[i]? =ρ[h]?) (hil:Hi.length=m.length)
 (hHi:∀(i h:Nat) o,m[i]? =some h->Hi[i]? =some o->∃o0,H[h]? =some o0 /\ o0.live=o.live /\ ∀r b,eH D w o r b↔eH D w o0 r b) (hsi:ay D ρi S w Hi)
 {ρo:List Value} {So:Nat->Prop} {Ho V5:List (Ob K)} (hso:ay D ρo So w' Ho) (st:Step D Hi.length ρi S Hi w ρo So Ho w') (hle:Hi.length<=Ho.length) (hb:G7 (LY (iP m H.length Ho.length)) Ho=some V5):
 ay D (ρ++ρo.drop m.length) So w' (lD H m (V5.take m.length)++V5.drop m.length) /\
  Step D H.length ρ S H w (ρ++ρo.drop m.length) So (lD H m (V5.take m.length)++V5.drop m.length) w' /\
  Ren (fun h=>(iP m H.length Ho.length)[h]?) ρo (ρ++ρo.drop m.length):=by
 obtain ⟨ZU,agI⟩:=yQ m hm;obtain ⟨hol,hog⟩:=LW _ _ hb;have hlen:=hs.len;have ajc:=hsi.len;have ajd:=hso.len;have YC:Ren (fun h=>(iP m H.length Ho.length)[h]?) ρo (ρ++ρo.drop m.length):=fun i j r hij hr=>by
  rcases IK hij with ⟨h1,h2⟩ |⟨h1,h2,rfl⟩
  ·rw[List.getElem?_append_left (by rw[hlen];exact ZU i j h2),<-aiu i j h2,<-st.pre i (by omega)];exact hr
  ·rw[List.getElem?_append_right (by omega),List.getElem?_drop,<-hr];congr 1;omega
 have hget:∀{k:Nat} {o:Ob K} {r:Value},(lD H m (V5.take m.length)++V5.drop m.length)[k]? =some o->(ρ++ρo.drop m.length)[k]? =some r->
  (k∉m /\ H[k]? =some o /\ ρ[k]? =some r) \/ ∃i o1,(iP m H.length Ho.length)[i]? =some k /\ Ho[i]? =some o1 /\ LY (iP m H.length Ho.length) o1=some o /\ ρo[i]? =some r:=fun {k o r} ho hr=>by
  have inner:∀{i:Nat},(iP m H.length Ho.length)[i]? =some k->V5[i]? =some o->∃i o1,(iP m H.length Ho.length)[i]? =some k /\ Ho[i]? =some o1 /\ LY (iP m H.length Ho.length) o1=some o /\ ρo[i]? =some r:=fun {i} h1 h2=>by
   have hi:i<Ho.length:=by rw[<-hol];exact (List.getElem?_eq_some_iff.1 h2).1
   have hg:=List.getElem?_eq_getElem hi;have hρ:=List.getElem?_eq_getElem (show i<ρo.length by omega)
   refine ⟨i,_,h1,hg,hog i _ _ hg h2, ?_⟩;rw[hρ,<-hr,<-YC i k _ h1 hρ]
  by_cases hk:k<H.length
  ·rw[List.getElem?_append_left (by rw[qH];exact hk)] at ho
   rcases QY m H _ (by simp;omega) k o ho with ⟨h1,h2⟩ |⟨i,h1,h2⟩
   ·exact .inl ⟨h1,h2,by rwa [List.getElem?_append_left (by omega)] at hr⟩
   ·have him:=(List.getElem?_eq_some_iff.1 h1).1
    rw[List.getElem?_take,if_pos him] at h2;exact .inr (inner (by unfold iP;rw[List.getElem?_append_left him];exact h1) h2)
  ·rw[List.getElem?_append_right (by rw[qH];omega),qH,List.getElem?_drop] at ho
   have hlt:=(List.getElem?_eq_some_iff.1 ho).1;refine .inr (inner (i:=m.length+(k-H.length)) ?_ ho);unfold iP;rw[List.getElem?_append_right (by omega)]
   simp only[List.getElem?_map,Option.map_eq_some_iff];refine ⟨k-H.length, ?_,by omega⟩
   rw[List.getElem?_range (by omega)];congr 1;omega
 have hinj:∀{i j k:Nat},(iP m H.length Ho.length)[i]? =some k->(iP m H.length Ho.length)[j]? =some k->i=j:=fun {i j k} h1 h2=>by
  rcases IK h1 with ⟨a1,a2⟩ |⟨a1,a2,a3⟩<;>rcases IK h2 with ⟨b1,b2⟩ |⟨b1,b2,b3⟩
  ·exact agI i j k a2 b2
  ·have:=ZU i k a2;omega
  ·have:=ZU j k b2;omega
  ·omega
 have aeo:∀b,Own D w ρi Hi b->Own D w ρ H b:=fun b ⟨i,o,r,h1,h2,h3,h4⟩=>by
  have hi:i<m.length:=by rw[<-hil];exact (List.getElem?_eq_some_iff.1 h1).1
  have hmi:=List.getElem?_eq_getElem hi;obtain ⟨o0,e1,e2,e3⟩:=hHi i _ o hmi h1;exact ⟨_,o0,r,e1,by rw[e2];exact h2,by rw[<-aiu i _ hmi];exact h3,(e3 r b).1 h4⟩
 have hapart:∀{k:Nat} {o:Ob K} {r:Value} {b:Nat},k∉m->H[k]? =some o->o.live=true->ρ[k]? =some r->eH D w o r b->¬Own D w ρi Hi b:=fun {k o r b} hk h1 h2 h3 h4 ⟨i,o1,r1,g1,g2,g3,g4⟩=>by
  have hi:i<m.length:=by rw[<-hil];exact (List.getElem?_eq_some_iff.1 g1).1
  have hmi:=List.getElem?_eq_getElem hi;obtain ⟨o0,e1,e2,e3⟩:=hHi i _ o1 hmi g1;have:=hs.qi k _ o o0 r r1 b h1 h2 h3 h4 e1 (by rw[e2];exact g2) (by rw[<-aiu i _ hmi];exact g3) ((e3 r1 b).1 g4)
  exact hk (by rw[this];exact List.getElem_mem hi)
 have hkeep:∀{k:Nat} {o:Ob K} {r:Value},k∉m->H[k]? =some o->o.live=true->ρ[k]? =some r->∀b,eH D w o r b->w'.heap[b]? =w.heap[b]?:=fun {k o r} hk h1 h2 h3 b h4=>st.old b (hs.lt b ⟨k,o,r,h1,h2,h3,h4⟩).1 (hapart hk h1 h2 h3 h4)
 have hSw:∀b,S b->w'.heap[b]? =w.heap[b]?:=st.ZV hsi;have hpre:∀(h:Nat) r,ρ[h]? =some r->(ρ++ρo.drop m.length)[h]? =some r:=fun _ _ h=>yw h
 have af5:∀b,Own D w' (ρ++ρo.drop m.length) (lD H m (V5.take m.length)++V5.drop m.length) b->(Own D w ρ H b /\ ¬Own D w ρi Hi b) \/ Own D w' ρo Ho b:=fun b ⟨k,o,r,h1,h2,h3,h4⟩=>by
  rcases hget h1 h3 with ⟨a1,a2,a3⟩ |⟨i,o1,a1,a2,a3,a4⟩
  ·have h4':=h4.old (hkeep a1 a2 h2 a3)
   exact .inl ⟨⟨k,o,r,a2,h2,a3,h4'⟩,hapart a1 a2 h2 a3 h4'⟩
  ·exact .inr ⟨i,o1,r,a2,by rw[<-lZ a3];exact h2,a4,(oh a3).1 h4⟩
 refine ⟨⟨?_, ?_, ?_, ?_,hso.slt,hso.base⟩,⟨st.os,st.tape,st.output,st.size,fun b hb hno=>st.old b hb fun h=>hno (aeo b h),fun b hb=> ?_,st.s1,fun b hb=> ?_,fun h hh=> ?_⟩,YC⟩
 ·simp only[List.length_append,qH,List.length_drop];omega
 ·intro k o r h1 h3
  rcases hget h1 h3 with ⟨a1,a2,a3⟩ |⟨i,o1,a1,a2,a3,a4⟩
  ·exact (hs.ob k o r a2 a3).mono st.s1 hSw hpre fun b hl hb=>hkeep a1 a2 hl a3 b hb
  ·exact LV hD YC a3 (hso.ob i o1 r a2 a4)
 ·intro k k' o o' r r' b h1 h2 h3 h4 g1 g2 g3 g4
  rcases hget h1 h3 with ⟨a1,a2,a3⟩ |⟨i,o1,a1,a2,a3,a4⟩
  ·have h4':=h4.old (hkeep a1 a2 h2 a3)
   rcases hget g1 g3 with ⟨c1,c2,c3⟩ |⟨j,o2,c1,c2,c3,c4⟩
   ·exact hs.qi k k' o o' r r' b a2 h2 a3 h4' c2 g2 c3 (g4.old (hkeep c1 c2 g2 c3))
   ·exfalso
    rcases st.own b ⟨j,o2,r',c2,by rw[<-lZ c3];exact g2,c4,(oh c3).1 g4⟩ with h |h
    ·exact hapart a1 a2 h2 a3 h4' h
    ·have:=(hs.lt b ⟨k,o,r,a2,h2,a3,h4'⟩).1;omega
  ·have h4':=(oh a3).1 h4
   rcases hget g1 g3 with ⟨c1,c2,c3⟩ |⟨j,o2,c1,c2,c3,c4⟩
   ·exfalso
    have g4':=g4.old (hkeep c1 c2 g2 c3)
    rcases st.own b ⟨i,o1,r,a2,by rw[<-lZ a3];exact h2,a4,h4'⟩ with h |h
    ·exact hapart c1 c2 g2 c3 g4' h
    ·have:=(hs.lt b ⟨k',o',r',c2,g2,c3,g4'⟩).1;omega
   ·have:=hso.qi i j o1 o2 r r' b a2 (by rw[<-lZ a3];exact h2) a4 h4' c2 (by rw[<-lZ c3];exact g2) c4 ((oh c3).1 g4)
    subst this;rw[a1] at c1;simpa using c1
 ·intro b hb
  rcases af5 b hb with ⟨h1,h2⟩ |h
  ·refine ⟨Nat.lt_of_lt_of_le (hs.lt b h1).1 st.size,fun hS=> ?_⟩
   rcases st.s2 b hS with h |h |h
   ·exact (hs.lt b h1).2 h
   ·exact h2 h
   ·have:=(hs.lt b h1).1;omega
  ·exact hso.lt b h
 ·rcases af5 b hb with ⟨h1,h2⟩ |h
  ·exact .inl h1
  ·exact (st.own b h).imp (aeo b) id
 ·exact (st.s2 b hb).imp id (Or.imp (aeo b) id)
 ·rw[List.getElem?_append_left (by omega)]
end Go.V
