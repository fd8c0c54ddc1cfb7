/-
  WHAT A CALL LEAVES, PUT BACK AMONG THE CALLER's OBJECTS.
-/
import Derived.Test.YtghkckfhaljjjaaGreatDoorXWcallA
set_option linter.unusedVariables false
namespace Go.V
open Go
variable {K :dh}{D:bH K}{ρ ρ':List Value}{S S':Nat->Prop}{w w':World}{H H':List (Ob K)}
theorem m7{f:Nat->Option Nat}{o o':Ob K}(h:kt f o=some o'){r:Value}{b:Nat}:cJ D w o' r b↔cJ D w o r b:=by
 cases o<;>simp[kt]at h
 ·subst h;exact kW
 ·obtain⟨l,-,rfl⟩:=h;exact kW
 ·subst h;exact kW
 ·subst h;exact kW
 ·subst h;exact kW
theorem mh{f:Nat->Option Nat}{o o':Ob K}(h:kt f o=some o'):o'.live=o.live:=by
 cases o<;>simp[kt]at h
 ·subst h;rfl
 ·obtain⟨l,-,rfl⟩:=h;rfl
 ·subst h;rfl
 ·subst h;rfl
 ·subst h;rfl
theorem ad5{f:Nat->Option Nat}{l l':List (AV K)}(h:jk f l=some l')(hn:ku l'=true):ku l=true:=by
 cases l with
 |nil=>simp[jk]at h;subst h;cases hn
 |cons v r=>
  simp only[jk]at h;split at h
  ·rename_i x y hx hy;simp only[av]at h;subst h;cases v<;>simp only[fH,dy,av,reduceCtorEq]at hx<;>first|rfl|(subst hx;cases hn)|(obtain⟨a,-,rfl⟩:=hx;cases hn)
  ·cases h
theorem Ip(hD:bR D){f:Nat->Option Nat}(hm:Ren f ρ ρ'){o o':Ob K}{r:Value}(h:kt f o=some o')(hs:gJ D ρ S w o r):gJ D ρ' S w o' r:=by
 cases o with
 |dead=>simp[kt]at h;subst h;trivial
 |gK c l=>simp[kt]at h;subst h;exact Rep.closed hD hs rfl
 |box cs=>
  simp only[kt,dy]at h;obtain⟨l,hl,rfl⟩:=h;obtain⟨b,vs,T,e,h1,h2,h3⟩:=hs;exact⟨b,vs,T,e,h1,vT hD hm cs l _ hl h2,fun hn=>h3 (ad5 hl hn)⟩
 |tree c l=>simp[kt]at h;subst h;exact hs
 |opn c l i off cs=>simp[kt]at h
 |arr c l=>
  simp[kt]at h;subst h;rcases hs with hs|⟨b,o,cap,vs,T,fr,e,h1,h2,h3,h4,h5⟩
  ·exact .inl hs
  ·exact .inr ⟨b,o,cap,vs,T,fr,e,h1,h2,h3,h4,fun i x hx=>(h5 i x hx).closed hD (hD.closed _ _)⟩
theorem Iq{f:Ob K->Option (Ob K)}:∀(l l':List (Ob K)),mi f l=some l'->l'.length=l.length/\∀(i:Nat) o o',l[i]?=some o->l'[i]?=some o'->f o=some o'
 |[],l',h=>by simp[mi]at h;subst h;exact⟨rfl,fun i o o' h=>by simp at h⟩
 |x::r,l',h=>by
  simp only[mi]at h;split at h
  ·rename_i y s hy hs;simp only[av]at h;subst h;obtain⟨h1,h2⟩:=Iq r s hs;refine⟨by simp[h1],fun i o o' ho ho'=>?_⟩;cases i with
   |zero=>simp at ho ho';subst ho;subst ho';exact hy
   |succ i=>exact h2 i o o' (by simpa using ho) (by simpa using ho')
  ·cases h
theorem yA:∀(m:List Nat),tL H m=true->(∀(i h:Nat),m[i]?=some h->h<H.length)/\∀(i j h:Nat),m[i]?=some h->m[j]?=some h->i=j
 |[],_=>⟨fun i h hi=>by simp at hi,fun i j h hi=>by simp at hi⟩
 |x::r,hp=>by
  simp only[tL,cG,bB,fk,rF,fi]at hp;obtain⟨h1,h2⟩:=yA r hp.2.2;refine⟨fun i h hi=>?_,fun i j h hi hj=>?_⟩
  ·cases i with
   |zero=>simp at hi;subst hi;exact hp.1
   |succ i=>exact h1 i h (by simpa using hi)
  ·cases i with
   |zero=>
    cases j with
    |zero=>rfl
    |succ j=>simp at hi hj;subst hi;exact absurd (eN hj) hp.2.1
   |succ i=>
    cases j with
    |zero=>simp at hi hj;subst hj;exact absurd (eN hi) hp.2.1
    |succ j=>rw[h2 i j h (by simpa using hi) (by simpa using hj)]
theorem yB:∀(m:List Nat)(H os:List (Ob K)),(jl H m os).length=H.length
 |[],H,os=>by simp[jl]
 |h::m,H,[]=>by simp[jl]
 |h::m,H,o::r=>by simp[jl,yB m]
theorem NY:∀(m:List Nat)(H os:List (Ob K)),m.length<=os.length->∀(k:Nat)(o:Ob K),(jl H m os)[k]?=some o->(k∉m/\H[k]?=some o)\/∃i:Nat,m[i]?=some k/\os[i]?=some o
 |[],H,os,_,k,o,h=>.inl ⟨by simp,by simpa [jl]using h⟩
 |x::m,H,[],hl,k,o,h=>by simp at hl
 |x::m,H,y::r,hl,k,o,h=>by
  rcases NY m (H.set x y) r (by simpa using hl) k o (by simpa [jl]using h)with⟨h1,h2⟩|⟨i,h1,h2⟩
  ·rcases fj h2 with⟨rfl,rfl,-⟩|⟨hne,h2⟩
   ·exact .inr ⟨0,rfl,rfl⟩
   ·exact .inl ⟨by simp[hne,h1],h2⟩
  ·exact .inr ⟨i+1,by simpa using h1,by simpa using h2⟩
theorem Ir{m:List Nat}{n k i j:Nat}(h:(gZ m n k)[i]?=some j):(i<m.length/\m[i]?=some j)\/(m.length<=i/\i<k/\j=n+(i-m.length)):=by
 unfold gZ at h;by_cases hi:i<m.length
 ·rw[b9 hi]at h;exact .inl ⟨hi,h⟩
 ·rw[eR (by omega)]at h;simp only[ik,dy]at h;obtain⟨a,ha,rfl⟩:=h;have:=bD.1 ha;obtain⟨h1,h2⟩:=this;simp at h1 h2;exact .inr ⟨by omega,by omega,by omega⟩
theorem join(hD:bR D)(hs:aS D ρ S w H){m:List Nat}(hm:tL H m=true){ρi:List Value}{Hi:List (Ob K)}(Is:∀(i h:Nat),m[i]?=some h->ρi[i]?=ρ[h]?)(hil:Hi.length=m.length)
 (hHi:∀(i h:Nat) o,m[i]?=some h->Hi[i]?=some o->∃o0,H[h]?=some o0/\o0.live=o.live/\∀r b,cJ D w o r b↔cJ D w o0 r b) (hsi:aS D ρi S w Hi)
 {ρo:List Value} {So:Nat->Prop} {Ho ij:List (Ob K)} (hso:aS D ρo So w' Ho) (st:Step D Hi.length ρi S Hi w ρo So Ho w') (hle:Hi.length<=Ho.length) (hb:mi (tM (gZ m H.length Ho.length)) Ho=some ij):
 aS D (ρ++ρo.drop m.length) So w' (jl H m (ij.take m.length)++ij.drop m.length)/\
  Step D H.length ρ S H w (ρ++ρo.drop m.length) So (jl H m (ij.take m.length)++ij.drop m.length) w'/\
  Ren (fun h=>(gZ m H.length Ho.length)[h]?) ρo (ρ++ρo.drop m.length):=by
 obtain⟨rj,It⟩:=yA m hm;obtain⟨hol,hog⟩:=Iq _ _ hb;have hlen:=hs.len;have atG:=hsi.len;have atH:=hso.len;have pL:Ren (fun h=>(gZ m H.length Ho.length)[h]?) ρo (ρ++ρo.drop m.length):=fun i j r hij hr=>by
  rcases Ir hij with⟨h1,h2⟩|⟨h1,h2,rfl⟩
  ·rw[b9 (by rw[hlen];exact rj i j h2),<-Is i j h2,<-st.pre i (by omega)];exact hr
  ·rw[eR (by omega),iY,<-hr];congr 1;omega
 have hget:∀{k:Nat}{o:Ob K}{r:Value},(jl H m (ij.take m.length)++ij.drop m.length)[k]?=some o->(ρ++ρo.drop m.length)[k]?=some r->
  (k∉m/\H[k]?=some o/\ρ[k]?=some r)\/∃i o1,(gZ m H.length Ho.length)[i]?=some k/\Ho[i]?=some o1/\tM (gZ m H.length Ho.length) o1=some o/\ρo[i]?=some r:=fun{k o r} ho hr=>by
  have inner:∀{i:Nat},(gZ m H.length Ho.length)[i]?=some k->ij[i]?=some o->∃i o1,(gZ m H.length Ho.length)[i]?=some k/\Ho[i]?=some o1/\tM (gZ m H.length Ho.length) o1=some o/\ρo[i]?=some r:=fun{i} h1 h2=>by
   have hi:i<Ho.length:=by rw[<-hol];exact(bD.1 h2).1
   have hg:=cH hi;have hρ:=cH (show i<ρo.length by omega);refine⟨i,_,h1,hg,hog i _ _ hg h2,?_⟩;rw[hρ,<-hr,<-pL i k _ h1 hρ]
  by_cases hk:k<H.length
  ·rw[b9 (by rw[yB];exact hk)]at ho;rcases NY m H _ (by simp;omega) k o ho with⟨h1,h2⟩|⟨i,h1,h2⟩
   ·exact .inl ⟨h1,h2,by rwa [b9 (by omega)]at hr⟩
   ·have him:=(bD.1 h1).1;rw[fa,aY him]at h2;exact .inr (inner (by unfold gZ;rw[b9 him];exact h1) h2)
  ·rw[eR (by rw[yB];omega),yB,iY]at ho;have hlt:=(bD.1 ho).1;refine .inr (inner (i:=m.length+(k-H.length)) ?_ ho);unfold gZ;rw[eR (by omega)];simp only[ik,dy];refine⟨k-H.length,?_,by omega⟩;rw[List.getElem?_range (by omega)];congr 1;omega
 have hinj:∀{i j k:Nat},(gZ m H.length Ho.length)[i]?=some k->(gZ m H.length Ho.length)[j]?=some k->i=j:=fun{i j k} h1 h2=>by
  rcases Ir h1 with⟨a1,a2⟩|⟨a1,a2,a3⟩<;>rcases Ir h2 with⟨b1,b2⟩|⟨b1,b2,b3⟩
  ·exact It i j k a2 b2
  ·have:=rj i k a2;omega
  ·have:=rj j k b2;omega
  ·omega
 have Iu:∀b,Own D w ρi Hi b->Own D w ρ H b:=fun b ⟨i,o,r,h1,h2,h3,h4⟩=>by
  have hi:i<m.length:=by rw[<-hil];exact(bD.1 h1).1
  have pM:=cH hi;obtain⟨o0,e1,e2,e3⟩:=hHi i _ o pM h1;exact⟨_,o0,r,e1,by rw[e2];exact h2,by rw[<-Is i _ pM];exact h3,(e3 r b).1 h4⟩
 have hapart:∀{k:Nat}{o:Ob K}{r:Value}{b:Nat},k∉m->H[k]?=some o->o.live=true->ρ[k]?=some r->cJ D w o r b->¬Own D w ρi Hi b:=fun{k o r b} hk h1 h2 h3 h4 ⟨i,o1,r1,g1,g2,g3,g4⟩=>by
  have hi:i<m.length:=by rw[<-hil];exact(bD.1 g1).1
  have pM:=cH hi;obtain⟨o0,e1,e2,e3⟩:=hHi i _ o1 pM g1;have:=hs.eV k _ o o0 r r1 b h1 h2 h3 h4 e1 (by rw[e2];exact g2) (by rw[<-Is i _ pM];exact g3) ((e3 r1 b).1 g4);exact hk (by rw[this];exact cE hi)
 have hkeep:∀{k:Nat}{o:Ob K}{r:Value},k∉m->H[k]?=some o->o.live=true->ρ[k]?=some r->∀b,cJ D w o r b->w'.heap[b]?=w.heap[b]?:=fun{k o r} hk h1 h2 h3 b h4=>st.old b (hs.lt b ⟨k,o,r,h1,h2,h3,h4⟩).1 (hapart hk h1 h2 h3 h4)
 have hSw:∀b,S b->w'.heap[b]?=w.heap[b]?:=st.yC hsi;have hpre:∀(h:Nat) r,ρ[h]?=some r->(ρ++ρo.drop m.length)[h]?=some r:=fun _ _ h=>tN h
 have NZ:∀b,Own D w' (ρ++ρo.drop m.length) (jl H m (ij.take m.length)++ij.drop m.length) b->(Own D w ρ H b/\¬Own D w ρi Hi b)\/Own D w' ρo Ho b:=fun b ⟨k,o,r,h1,h2,h3,h4⟩=>by
  rcases hget h1 h3 with⟨a1,a2,a3⟩|⟨i,o1,a1,a2,a3,a4⟩
  ·have h4':=h4.old (hkeep a1 a2 h2 a3);exact .inl ⟨⟨k,o,r,a2,h2,a3,h4'⟩,hapart a1 a2 h2 a3 h4'⟩
  ·exact .inr ⟨i,o1,r,a2,by rw[<-mh a3];exact h2,a4,(m7 a3).1 h4⟩
 refine⟨⟨?_,?_,?_,?_,hso.slt,hso.base⟩,⟨st.os,st.tape,st.output,st.size,fun b hb hno=>st.old b hb fun h=>hno (Iu b h),fun b hb=>?_,st.s1,fun b hb=>?_,fun h hh=>?_⟩,pL⟩
 ·simp only[aN,yB,List.length_drop];omega
 ·intro k o r h1 h3;rcases hget h1 h3 with⟨a1,a2,a3⟩|⟨i,o1,a1,a2,a3,a4⟩
  ·exact(hs.ob k o r a2 a3).mono st.s1 hSw hpre fun b hl hb=>hkeep a1 a2 hl a3 b hb
  ·exact Ip hD pL a3 (hso.ob i o1 r a2 a4)
 ·intro k k' o o' r r' b h1 h2 h3 h4 g1 g2 g3 g4;rcases hget h1 h3 with⟨a1,a2,a3⟩|⟨i,o1,a1,a2,a3,a4⟩
  ·have h4':=h4.old (hkeep a1 a2 h2 a3);rcases hget g1 g3 with⟨c1,c2,c3⟩|⟨j,o2,c1,c2,c3,c4⟩
   ·exact hs.eV k k' o o' r r' b a2 h2 a3 h4' c2 g2 c3 (g4.old (hkeep c1 c2 g2 c3))
   ·exfalso;rcases st.own b ⟨j,o2,r',c2,by rw[<-mh c3];exact g2,c4,(m7 c3).1 g4⟩with h|h
    ·exact hapart a1 a2 h2 a3 h4' h
    ·have:=(hs.lt b ⟨k,o,r,a2,h2,a3,h4'⟩).1;omega
  ·have h4':=(m7 a3).1 h4;rcases hget g1 g3 with⟨c1,c2,c3⟩|⟨j,o2,c1,c2,c3,c4⟩
   ·exfalso;have g4':=g4.old (hkeep c1 c2 g2 c3);rcases st.own b ⟨i,o1,r,a2,by rw[<-mh a3];exact h2,a4,h4'⟩with h|h
    ·exact hapart c1 c2 g2 c3 g4' h
    ·have:=(hs.lt b ⟨k',o',r',c2,g2,c3,g4'⟩).1;omega
   ·have:=hso.eV i j o1 o2 r r' b a2 (by rw[<-mh a3];exact h2) a4 h4' c2 (by rw[<-mh c3];exact g2) c4 ((m7 c3).1 g4);subst this;rw[a1]at c1;simpa using c1
 ·intro b hb;rcases NZ b hb with⟨h1,h2⟩|h
  ·refine⟨kY (hs.lt b h1).1 st.size,fun hS=>?_⟩;rcases st.s2 b hS with h|h|h
   ·exact(hs.lt b h1).2 h
   ·exact h2 h
   ·have:=(hs.lt b h1).1;omega
  ·exact hso.lt b h
 ·rcases NZ b hb with⟨h1,h2⟩|h
  ·exact .inl h1
  ·exact(st.own b h).imp (Iu b) id
 ·exact(st.s2 b hb).imp id (Or.imp (Iu b) id)
 ·rw[b9 (by omega)]
end Go.V
