/-
  WHAT A CALL LEAVES, PUT BACK AMONG THE CALLER's OBJECTS.
-/
import Derived.Test.YtiacpoahkccfaaaGreatDoorXWcallA
set_option linter.unusedVariables false
namespace Go.V
open Go
variable {K :dh}{D:bF K}{ρ ρ':List Value}{S S':Nat->Prop}{w w':World}{H H':List (Ob K)}
theorem ni{f:Nat->Option Nat}{o o':Ob K}(h:kB f o=some o'){r:Value}{b:Nat}:cG D w o' r b↔cG D w o r b:=by
 cases o<;>simp[kB]at h
 ·subst h;exact ou
 ·obtain⟨l,-,rfl⟩:=h;exact ou
 ·subst h;exact ou
 ·subst h;exact ou
 ·subst h;exact ou
theorem mq{f:Nat->Option Nat}{o o':Ob K}(h:kB f o=some o'):o'.live=o.live:=by
 cases o<;>simp[kB]at h
 ·subst h;rfl
 ·obtain⟨l,-,rfl⟩:=h;rfl
 ·subst h;rfl
 ·subst h;rfl
 ·subst h;rfl
theorem adm{f:Nat->Option Nat}{l l':List (AV K)}(h:jm f l=some l')(hn:kC l'=true):kC l=true:=by
 cases l with
 |nil=>simp[jm]at h;subst h;cases hn
 |cons v r=>
  simp only[jm]at h;split at h
  ·rename_i x y hx hy;simp only[ay]at h;subst h;cases v<;>simp only[fP,fu,ay,reduceCtorEq]at hx<;>first|rfl|(subst hx;cases hn)|(obtain⟨a,-,rfl⟩:=hx;cases hn)
  ·cases h
theorem Il(hD:bQ D){f:Nat->Option Nat}(hm:Ren f ρ ρ'){o o':Ob K}{r:Value}(h:kB f o=some o')(hs:fY D ρ S w o r):fY D ρ' S w o' r:=by
 cases o with
 |dead=>simp[kB]at h;subst h;trivial
 |gU c l=>simp[kB]at h;subst h;exact Rep.closed hD hs rfl
 |box cs=>
  simp only[kB,fu]at h;obtain⟨l,hl,rfl⟩:=h;obtain⟨b,vs,T,e,h1,h2,h3⟩:=hs;exact⟨b,vs,T,e,h1,wk hD hm cs l _ hl h2,fun hn=>h3 (adm hl hn)⟩
 |tree c l=>simp[kB]at h;subst h;exact hs
 |opn c l i off cs=>simp[kB]at h
 |arr c l=>
  simp[kB]at h;subst h;rcases hs with hs|⟨b,o,cap,vs,T,fr,e,h1,h2,h3,h4,h5⟩
  ·exact .inl hs
  ·exact .inr ⟨b,o,cap,vs,T,fr,e,h1,h2,h3,h4,fun i x hx=>(h5 i x hx).closed hD (hD.closed _ _)⟩
theorem Im{f:Ob K->Option (Ob K)}:∀(l l':List (Ob K)),mr f l=some l'->l'.length=l.length/\∀(i:Nat) o o',l[i]?=some o->l'[i]?=some o'->f o=some o'
 |[],l',h=>by simp[mr]at h;subst h;exact⟨rfl,fun i o o' h=>by simp at h⟩
 |x::r,l',h=>by
  simp only[mr]at h;split at h
  ·rename_i y s hy hs;simp only[ay]at h;subst h;obtain⟨h1,h2⟩:=Im r s hs;refine⟨by simp[h1],fun i o o' ho ho'=>?_⟩;cases i with
   |zero=>simp at ho ho';subst ho;subst ho';exact hy
   |succ i=>exact h2 i o o' (by simpa using ho) (by simpa using ho')
  ·cases h
theorem yX:∀(m:List Nat),ue H m=true->(∀(i h:Nat),m[i]?=some h->h<H.length)/\∀(i j h:Nat),m[i]?=some h->m[j]?=some h->i=j
 |[],_=>⟨fun i h hi=>by simp at hi,fun i j h hi=>by simp at hi⟩
 |x::r,hp=>by
  simp only[ue,cC,cz,fE,qc,dR]at hp;obtain⟨h1,h2⟩:=yX r hp.2.2;refine⟨fun i h hi=>?_,fun i j h hi hj=>?_⟩
  ·cases i with
   |zero=>simp at hi;subst hi;exact hp.1
   |succ i=>exact h1 i h (by simpa using hi)
  ·cases i with
   |zero=>
    cases j with
    |zero=>rfl
    |succ j=>simp at hi hj;subst hi;exact absurd (fZ hj) hp.2.1
   |succ i=>
    cases j with
    |zero=>simp at hi hj;subst hj;exact absurd (fZ hi) hp.2.1
    |succ j=>rw[h2 i j h (by simpa using hi) (by simpa using hj)]
theorem yY:∀(m:List Nat)(H os:List (Ob K)),(jo H m os).length=H.length
 |[],H,os=>by simp[jo]
 |h::m,H,[]=>by simp[jo]
 |h::m,H,o::r=>by simp[jo,yY m]
theorem NL:∀(m:List Nat)(H os:List (Ob K)),m.length<=os.length->∀(k:Nat)(o:Ob K),(jo H m os)[k]?=some o->(k∉m/\H[k]?=some o)\/∃i:Nat,m[i]?=some k/\os[i]?=some o
 |[],H,os,_,k,o,h=>.inl ⟨by simp,by simpa [jo]using h⟩
 |x::m,H,[],hl,k,o,h=>by simp at hl
 |x::m,H,y::r,hl,k,o,h=>by
  rcases NL m (H.set x y) r (by simpa using hl) k o (by simpa [jo]using h)with⟨h1,h2⟩|⟨i,h1,h2⟩
  ·rcases fa h2 with⟨rfl,rfl,-⟩|⟨hne,h2⟩
   ·exact .inr ⟨0,rfl,rfl⟩
   ·exact .inl ⟨by simp[hne,h1],h2⟩
  ·exact .inr ⟨i+1,by simpa using h1,by simpa using h2⟩
theorem Io{m:List Nat}{n k i j:Nat}(h:(hZ m n k)[i]?=some j):(i<m.length/\m[i]?=some j)\/(m.length<=i/\i<k/\j=n+(i-m.length)):=by
 unfold hZ at h;by_cases hi:i<m.length
 ·rw[cT hi]at h;exact .inl ⟨hi,h⟩
 ·rw[cM (by omega)]at h;simp only[fU,fu]at h;obtain⟨a,ha,rfl⟩:=h;have:=bg.1 ha;obtain⟨h1,h2⟩:=this;simp at h1 h2;exact .inr ⟨by omega,by omega,by omega⟩
theorem join(hD:bQ D)(hs:aT D ρ S w H){m:List Nat}(hm:ue H m=true){ρi:List Value}{Hi:List (Ob K)}(Ip:∀(i h:Nat),m[i]?=some h->ρi[i]?=ρ[h]?)(hil:Hi.length=m.length)
 (hHi:∀(i h:Nat) o,m[i]?=some h->Hi[i]?=some o->∃o0,H[h]?=some o0/\o0.live=o.live/\∀r b,cG D w o r b↔cG D w o0 r b) (hsi:aT D ρi S w Hi)
 {ρo:List Value} {So:Nat->Prop} {Ho il:List (Ob K)} (hso:aT D ρo So w' Ho) (st:Step D Hi.length ρi S Hi w ρo So Ho w') (hle:Hi.length<=Ho.length) (hb:mr (uf (hZ m H.length Ho.length)) Ho=some il):
 aT D (ρ++ρo.drop m.length) So w' (jo H m (il.take m.length)++il.drop m.length)/\
  Step D H.length ρ S H w (ρ++ρo.drop m.length) So (jo H m (il.take m.length)++il.drop m.length) w'/\
  Ren (fun h=>(hZ m H.length Ho.length)[h]?) ρo (ρ++ρo.drop m.length):=by
 obtain⟨rB,Iq⟩:=yX m hm;obtain⟨hol,hog⟩:=Im _ _ hb;have hlen:=hs.len;have asG:=hsi.len;have asH:=hso.len;have pW:Ren (fun h=>(hZ m H.length Ho.length)[h]?) ρo (ρ++ρo.drop m.length):=fun i j r hij hr=>by
  rcases Io hij with⟨h1,h2⟩|⟨h1,h2,rfl⟩
  ·rw[cT (by rw[hlen];exact rB i j h2),<-Ip i j h2,<-st.pre i (by omega)];exact hr
  ·rw[cM (by omega),ej,<-hr];congr 1;omega
 have hget:∀{k:Nat}{o:Ob K}{r:Value},(jo H m (il.take m.length)++il.drop m.length)[k]?=some o->(ρ++ρo.drop m.length)[k]?=some r->
  (k∉m/\H[k]?=some o/\ρ[k]?=some r)\/∃i o1,(hZ m H.length Ho.length)[i]?=some k/\Ho[i]?=some o1/\uf (hZ m H.length Ho.length) o1=some o/\ρo[i]?=some r:=fun{k o r} ho hr=>by
  have inner:∀{i:Nat},(hZ m H.length Ho.length)[i]?=some k->il[i]?=some o->∃i o1,(hZ m H.length Ho.length)[i]?=some k/\Ho[i]?=some o1/\uf (hZ m H.length Ho.length) o1=some o/\ρo[i]?=some r:=fun{i} h1 h2=>by
   have hi:i<Ho.length:=by rw[<-hol];exact(bg.1 h2).1
   have hg:=bB hi;have hρ:=bB (show i<ρo.length by omega);refine⟨i,_,h1,hg,hog i _ _ hg h2,?_⟩;rw[hρ,<-hr,<-pW i k _ h1 hρ]
  by_cases hk:k<H.length
  ·rw[cT (by rw[yY];exact hk)]at ho;rcases NL m H _ (by simp;omega) k o ho with⟨h1,h2⟩|⟨i,h1,h2⟩
   ·exact .inl ⟨h1,h2,by rwa [cT (by omega)]at hr⟩
   ·have him:=(bg.1 h1).1;rw[dE,dP him]at h2;exact .inr (inner (by unfold hZ;rw[cT him];exact h1) h2)
  ·rw[cM (by rw[yY];omega),yY,ej]at ho;have hlt:=(bg.1 ho).1;refine .inr (inner (i:=m.length+(k-H.length)) ?_ ho);unfold hZ;rw[cM (by omega)];simp only[fU,fu];refine⟨k-H.length,?_,by omega⟩;rw[List.getElem?_range (by omega)];congr 1;omega
 have hinj:∀{i j k:Nat},(hZ m H.length Ho.length)[i]?=some k->(hZ m H.length Ho.length)[j]?=some k->i=j:=fun{i j k} h1 h2=>by
  rcases Io h1 with⟨a1,a2⟩|⟨a1,a2,a3⟩<;>rcases Io h2 with⟨b1,b2⟩|⟨b1,b2,b3⟩
  ·exact Iq i j k a2 b2
  ·have:=rB i k a2;omega
  ·have:=rB j k b2;omega
  ·omega
 have Ir:∀b,Own D w ρi Hi b->Own D w ρ H b:=fun b ⟨i,o,r,h1,h2,h3,h4⟩=>by
  have hi:i<m.length:=by rw[<-hil];exact(bg.1 h1).1
  have pX:=bB hi;obtain⟨o0,e1,e2,e3⟩:=hHi i _ o pX h1;exact⟨_,o0,r,e1,by rw[e2];exact h2,by rw[<-Ip i _ pX];exact h3,(e3 r b).1 h4⟩
 have hapart:∀{k:Nat}{o:Ob K}{r:Value}{b:Nat},k∉m->H[k]?=some o->o.live=true->ρ[k]?=some r->cG D w o r b->¬Own D w ρi Hi b:=fun{k o r b} hk h1 h2 h3 h4 ⟨i,o1,r1,g1,g2,g3,g4⟩=>by
  have hi:i<m.length:=by rw[<-hil];exact(bg.1 g1).1
  have pX:=bB hi;obtain⟨o0,e1,e2,e3⟩:=hHi i _ o1 pX g1;have:=hs.eM k _ o o0 r r1 b h1 h2 h3 h4 e1 (by rw[e2];exact g2) (by rw[<-Ip i _ pX];exact g3) ((e3 r1 b).1 g4);exact hk (by rw[this];exact dM hi)
 have hkeep:∀{k:Nat}{o:Ob K}{r:Value},k∉m->H[k]?=some o->o.live=true->ρ[k]?=some r->∀b,cG D w o r b->w'.heap[b]?=w.heap[b]?:=fun{k o r} hk h1 h2 h3 b h4=>st.old b (hs.lt b ⟨k,o,r,h1,h2,h3,h4⟩).1 (hapart hk h1 h2 h3 h4)
 have hSw:∀b,S b->w'.heap[b]?=w.heap[b]?:=st.yZ hsi;have hpre:∀(h:Nat) r,ρ[h]?=some r->(ρ++ρo.drop m.length)[h]?=some r:=fun _ _ h=>oo h
 have NM:∀b,Own D w' (ρ++ρo.drop m.length) (jo H m (il.take m.length)++il.drop m.length) b->(Own D w ρ H b/\¬Own D w ρi Hi b)\/Own D w' ρo Ho b:=fun b ⟨k,o,r,h1,h2,h3,h4⟩=>by
  rcases hget h1 h3 with⟨a1,a2,a3⟩|⟨i,o1,a1,a2,a3,a4⟩
  ·have h4':=h4.old (hkeep a1 a2 h2 a3);exact .inl ⟨⟨k,o,r,a2,h2,a3,h4'⟩,hapart a1 a2 h2 a3 h4'⟩
  ·exact .inr ⟨i,o1,r,a2,by rw[<-mq a3];exact h2,a4,(ni a3).1 h4⟩
 refine⟨⟨?_,?_,?_,?_,hso.slt,hso.base⟩,⟨st.os,st.tape,st.output,st.size,fun b hb hno=>st.old b hb fun h=>hno (Ir b h),fun b hb=>?_,st.s1,fun b hb=>?_,fun h hh=>?_⟩,pW⟩
 ·simp only[aM,yY,List.length_drop];omega
 ·intro k o r h1 h3;rcases hget h1 h3 with⟨a1,a2,a3⟩|⟨i,o1,a1,a2,a3,a4⟩
  ·exact(hs.ob k o r a2 a3).mono st.s1 hSw hpre fun b hl hb=>hkeep a1 a2 hl a3 b hb
  ·exact Il hD pW a3 (hso.ob i o1 r a2 a4)
 ·intro k k' o o' r r' b h1 h2 h3 h4 g1 g2 g3 g4;rcases hget h1 h3 with⟨a1,a2,a3⟩|⟨i,o1,a1,a2,a3,a4⟩
  ·have h4':=h4.old (hkeep a1 a2 h2 a3);rcases hget g1 g3 with⟨c1,c2,c3⟩|⟨j,o2,c1,c2,c3,c4⟩
   ·exact hs.eM k k' o o' r r' b a2 h2 a3 h4' c2 g2 c3 (g4.old (hkeep c1 c2 g2 c3))
   ·exfalso;rcases st.own b ⟨j,o2,r',c2,by rw[<-mq c3];exact g2,c4,(ni c3).1 g4⟩with h|h
    ·exact hapart a1 a2 h2 a3 h4' h
    ·have:=(hs.lt b ⟨k,o,r,a2,h2,a3,h4'⟩).1;omega
  ·have h4':=(ni a3).1 h4;rcases hget g1 g3 with⟨c1,c2,c3⟩|⟨j,o2,c1,c2,c3,c4⟩
   ·exfalso;have g4':=g4.old (hkeep c1 c2 g2 c3);rcases st.own b ⟨i,o1,r,a2,by rw[<-mq a3];exact h2,a4,h4'⟩with h|h
    ·exact hapart c1 c2 g2 c3 g4' h
    ·have:=(hs.lt b ⟨k',o',r',c2,g2,c3,g4'⟩).1;omega
   ·have:=hso.eM i j o1 o2 r r' b a2 (by rw[<-mq a3];exact h2) a4 h4' c2 (by rw[<-mq c3];exact g2) c4 ((ni c3).1 g4);subst this;rw[a1]at c1;simpa using c1
 ·intro b hb;rcases NM b hb with⟨h1,h2⟩|h
  ·refine⟨fS (hs.lt b h1).1 st.size,fun hS=>?_⟩;rcases st.s2 b hS with h|h|h
   ·exact(hs.lt b h1).2 h
   ·exact h2 h
   ·have:=(hs.lt b h1).1;omega
  ·exact hso.lt b h
 ·rcases NM b hb with⟨h1,h2⟩|h
  ·exact .inl h1
  ·exact(st.own b h).imp (Ir b) id
 ·exact(st.s2 b hb).imp id (Or.imp (Ir b) id)
 ·rw[cT (by omega)]
end Go.V
