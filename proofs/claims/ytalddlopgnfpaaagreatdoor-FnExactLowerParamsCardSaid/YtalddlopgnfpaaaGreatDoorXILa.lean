/-
  HOW TYPES LIE IN MEMORY: sizes, alignments, places, in plain Lean.
-/
import Derived.Test.YtalddlopgnfpaaaGreatDoorXITP
set_option linter.unusedVariables false
namespace M
def cQ(a b:Nat):Nat:=(a+b-1)/b*b
def cZ(a:Nat):Prop:=a=1\/a=2\/a=4\/a=8
theorem yj{a b:Nat}(hb:cZ b):a<=cQ a b:=by unfold cQ;rcases hb with rfl|rfl|rfl|rfl<;>omega
theorem oJ{a b:Nat}(hb:cZ b):cQ a b<a+b:=by unfold cQ;rcases hb with rfl|rfl|rfl|rfl<;>omega
theorem cZ.le{a:Nat}(h:cZ a):1<=a/\a<=8:=by rcases h with rfl|rfl|rfl|rfl<;>omega
theorem JR{a b:Nat}(ha:cZ a)(hb:cZ b):cZ (max a b):=by rcases Nat.le_total a b with h|h<;>simp[Nat.max_eq_left,Nat.max_eq_right,h,ha,hb]
def im(k:Int):Nat:=
 bif(k==2||(k==3||k==4))then 1 else bif(k==5||k==6)then 2
 else bif(k==7||(k==8||(k==10||(k==20||(k==21||(k==22||k==23))))))then 4 else bif k==9 then 8 else 0
def bW:Nat->Nat->List (Nat×Nat)->List Int×Nat×Nat
 |at_,al,[]=>([],at_,al)
 |at_,al,(s,a)::r=>(((cQ at_ a:Nat):Int)::(bW (cQ at_ a+s) (max al a) r).1,(bW (cQ at_ a+s) (max al a) r).2)
def dw:Nat->Nat->List (Nat×Nat)->Nat×Nat
 |sz,al,[]=>(sz,al)
 |sz,al,(s,a)::r=>dw (max sz s) (max al a) r
def gZ(k:Int)(l:List (Nat×Nat)):List (Nat×Nat):=if k=13 then[(0,1),l.getD 0 (0,1)]else l
def AQ(k:Int)(n:Nat)(l:List (Nat×Nat)):Nat×Nat:=
 if 0<im k then(im k,im k)
 else if k=11\/k=12 then(8,4)
 else if k=18 then(1,1)
 else if k=19 then(if 8<n then(2,2)else(1,1))
 else if k=15\/k=16 then(cQ (bW 0 1 l).2.1 (bW 0 1 l).2.2,(bW 0 1 l).2.2)
 else if k=13\/k=14\/k=17 then(cQ (cQ 1 (dw 0 1 (gZ k l)).2+(dw 0 1 (gZ k l)).1) (dw 0 1 (gZ k l)).2,(dw 0 1 (gZ k l)).2)
 else(0,1)
mutual
def lay:aa->Nat×Nat
 |.mk k _ ls ks=>AQ k ls.length (lays ks)
def lays:List aa->List (Nat×Nat)
 |[]=>[]
 |t::r=>lay t::lays r
end
theorem lays_map:∀l,lays l=l.map lay
 |[]=>rfl
 |t::r=>by rw[lays,lays_map r];rfl
theorem qt(t:aa):lay t=AQ t.Kind t.bu.length (t.Kids.map lay):=by cases t;rw[lay,lays_map];rfl
theorem aki(k:Int)(h:0<im k):cZ (im k):=by
 unfold im at*
 revert h
 cases (k==2||(k==3||k==4))<;>cases (k==5||k==6)<;>cases (k==7||(k==8||(k==10||(k==20||(k==21||(k==22||k==23))))))<;>cases k==9<;>simp[cZ]
theorem JS(k:Int):im k<=8:=by
 unfold im;cases (k==2||(k==3||k==4))<;>cases (k==5||k==6)<;>cases (k==7||(k==8||(k==10||(k==20||(k==21||(k==22||k==23))))))<;>cases k==9<;>simp
theorem yk:∀(l:List (Nat×Nat))(a g:Nat),(∀x∈l,cZ x.2)->cZ g->cZ (bW a g l).2.2
 |[],a,g,h,hg=>hg
 |(s,b)::r,a,g,h,hg=>yk r _ _ (fun x hx=>h x (fL _ hx)) (JR hg (h (s,b) (ek ..)))
theorem EU:∀(l:List (Nat×Nat))(a g:Nat),(∀x∈l,cZ x.2)->cZ g->cZ (dw a g l).2
 |[],a,g,h,hg=>hg
 |(s,b)::r,a,g,h,hg=>EU r _ _ (fun x hx=>h x (fL _ hx)) (JR hg (h (s,b) (ek ..)))
theorem vc:∀(l:List (Nat×Nat))(a g:Nat),(bW a g l).1.length=l.length
 |[],a,g=>rfl
 |(s,b)::r,a,g=>by simp only[bW,bX,vc r]
theorem W4:∀(l:List (Nat×Nat))(a g:Nat),(∀x∈l,cZ x.2)->a<=(bW a g l).2.1
 |[],a,g,h=>bg _
 |(s,b)::r,a,g,h=>by
  have h1:=W4 r (cQ a b+s) (max g b) (fun x hx=>h x (fL _ hx));have h2:=yj (a:=a) (b:=b) (h (s,b) (ek ..));simp only[bW];omega
theorem W5:∀(l:List (Nat×Nat))(a g k:Nat)(hk:k<l.length),(∀x∈l,cZ x.2)->∃p:Nat,(bW a g l).1.getD k 0=(p:Int)/\a<=p/\p+(l[k]).1<=(bW a g l).2.1
 |(s,b)::r,a,g,0,hk,h=>by
  have h1:=W4 r (cQ a b+s) (max g b) (fun x hx=>h x (fL _ hx));exact⟨cQ a b,rfl,yj (h (s,b) (ek ..)),h1⟩
 |(s,b)::r,a,g,k+1,hk,h=>by
  obtain⟨p,h1,h2,h3⟩:=W5 r (cQ a b+s) (max g b) k (by simpa using hk) (fun x hx=>h x (fL _ hx));have h4:=yj (a:=a) (b:=b) (h (s,b) (ek ..));exact⟨p,by simpa [bW]using h1,by omega,by simpa [bW]using h3⟩
theorem W6:∀(l:List (Nat×Nat))(a g:Nat),a<=(dw a g l).1
 |[],a,g=>bg _
 |(s,b)::r,a,g=>by have:=W6 r (max a s) (max g b);simp only[dw];omega
theorem W7:∀(l:List (Nat×Nat))(a g:Nat)(x:Nat×Nat),x∈l->x.1<=(dw a g l).1
 |(s,b)::r,a,g,x,h=>by
  rcases dY.1 h with rfl|h
  ·have:=W6 r (max a s) (max g b);simp only[dw];omega
  ·exact W7 r _ _ x h
theorem EV:∀(l:List (Nat×Nat))(a g B:Nat),a<=B->(∀x∈l,x.1<=B)->(dw a g l).1<=B
 |[],a,g,B,h,_=>h
 |(s,b)::r,a,g,B,h,hl=>EV r _ _ B (by have:=hl (s,b) (ek ..);simp only at this;omega) fun x hx=>hl x (fL _ hx)
def ka:List (Nat×Nat)->Nat
 |[]=>0
 |(s,_)::r=>s+7+ka r
theorem AS:∀(l:List (Nat×Nat))(a g:Nat),(∀x∈l,cZ x.2)->(bW a g l).2.1<=a+ka l
 |[],a,g,h=>bg _
 |(s,b)::r,a,g,h=>by
  have hb:cZ b:=h (s,b) (ek ..);have h1:=AS r (cQ a b+s) (max g b) (fun x hx=>h x (fL _ hx));have h2:=oJ (a:=a) hb;have:=hb.le;simp only[bW,ka];omega
theorem JU:∀(n:Nat)(t:aa),t.sz<n->cZ (lay t).2/\(lay t).1+8<=16*(t.sz+1)
 |0,t,h=>absurd h (en _)
 |n+1,t,h=>by
  have ih:∀x∈t.Kids,cZ (lay x).2/\(lay x).1+8<=16*(x.sz+1):=fun x hx=>JU n x (by have:=aa.cX (a:=t) hx;omega)
  have hal:∀x∈t.Kids.map lay,cZ x.2:=fun x hx=>by
   obtain⟨y,hy,rfl⟩:=mU.1 hx;exact(ih y hy).1
  have akj:∀l:List aa,(∀x∈l,(lay x).1+8<=16*(x.sz+1))->ka (l.map lay)+l.length<=16*aR aa.sz l:=by
   intro l
   induction l with
   |nil=>intro _;simp[ka]
   |cons x r ihr=>
    intro hx;have h1:=hx x (ek ..);have h2:=ihr fun y hy=>hx y (fL _ hy)
    simp only[fm,ka,bX,aR];omega
  have hsz:=aa.dW t;rw[qt];unfold AQ;split
  ·rename_i h1;exact⟨aki _ h1,by have:=JS t.Kind;simp only;omega⟩
  ·split
   ·exact⟨.inr (.inr (.inl rfl)),by simp only;omega⟩
   ·split
    ·exact⟨.inl rfl,by simp only;omega⟩
    ·split
     ·split
      ·exact⟨.inr (.inl rfl),by simp only;omega⟩
      ·exact⟨.inl rfl,by simp only;omega⟩
     ·split
      ·have hg:=yk (t.Kids.map lay) 0 1 hal (.inl rfl);refine⟨hg,?_⟩;have h1:=AS (t.Kids.map lay) 0 1 hal;have h2:=oJ (a:=(bW 0 1 (t.Kids.map lay)).2.1) hg;have h3:=akj t.Kids fun x hx=>(ih x hx).2
       have:=hg.le;simp only;omega
      ·split
       ·rcases jq t.sz with h0|h0
        ·have hk:t.Kids=[]:=by
          cases e:t.Kids with
          |nil=>rfl
          |cons x r=>have:=aa.cX (a:=t) (x:=x) (by rw[e];exact ek ..);omega
         have e:dw 0 1 (gZ t.Kind (t.Kids.map lay))=(0,1):=by
          rw[hk];unfold gZ;split<;>rfl
         rw[e];exact⟨.inl rfl,by rw[h0];decide⟩
        have hc:∀x∈gZ t.Kind (t.Kids.map lay),cZ x.2/\x.1+8<=16*t.sz:=by
         intro x hx;have hm:∀x∈t.Kids.map lay,cZ x.2/\x.1+8<=16*t.sz:=fun x hx=>by
          obtain⟨y,hy,rfl⟩:=mU.1 hx;have:=aa.cX (a:=t) hy;exact⟨(ih y hy).1,by have:=(ih y hy).2;omega⟩
         unfold gZ at hx;split at hx
         ·simp only[dY,JL,kG]at hx;rcases hx with rfl|rfl
          ·exact⟨.inl rfl,by simp only;omega⟩
          ·rcases cO 0 (t.Kids.map lay).length with hl|hl
           ·rw[getD_lt hl];exact hm _ (bn hl)
           ·rw[g9,m3 hl];exact⟨.inl rfl,by simp only[Option.getD_none];omega⟩
         ·exact hm x hx
        have hg:=EU (gZ t.Kind (t.Kids.map lay)) 0 1 (fun x hx=>(hc x hx).1) (.inl rfl);refine⟨hg,?_⟩;have h1:=EV (gZ t.Kind (t.Kids.map lay)) 0 1 (16*t.sz-8) (cU _) (fun x hx=>by have:=(hc x hx).2;omega);have h2:cQ 1 (dw 0 1 (gZ t.Kind (t.Kids.map lay))).2=(dw 0 1 (gZ t.Kind (t.Kids.map lay))).2:=by
         generalize (dw 0 1 (gZ t.Kind (t.Kids.map lay))).2=a at hg;rcases hg with rfl|rfl|rfl|rfl<;>rfl
        have h3:=oJ (a:=cQ 1 (dw 0 1 (gZ t.Kind (t.Kids.map lay))).2+(dw 0 1 (gZ t.Kind (t.Kids.map lay))).1) hg;have:=hg.le;rw[h2]at h3⊢;simp only;omega
       ·exact⟨.inl rfl,by simp only;omega⟩
theorem sF(t:aa):cZ (lay t).2:=(JU _ t (sG _)).1
theorem AT(t:aa):(lay t).1+8<=16*(t.sz+1):=(JU _ t (sG _)).2
end M
set_option linter.unusedSimpArgs false
namespace M
open Go.V (inB bV ah cC)
theorem W8(k:Int):M.w8 k=some (im k:Int):=by
 unfold M.w8 im;simp only[qu];cases (k==2||(k==3||k==4))<;>cases (k==5||k==6)<;>cases (k==7||(k==8||(k==10||(k==20||(k==21||(k==22||k==23))))))<;>cases k==9<;>rfl
theorem yl(a b:Nat)(hb:cZ b)(ha:a<=1099511627776):M.iQ (a:Int) (b:Int)=some ((cQ a b:Nat):Int):=by
 have hl:=hb.le;have h2:=oJ (a:=a) hb;have d:((b:Int) !=0)=true:=by rw[oK];omega
 unfold M.iQ;rw[d];simp only[aO,aA];rw[wrap_i64 (n:=(a:Int)+b) (by omega) (by omega),wrap_i64 (n:=(a:Int)+b-1) (by omega) (by omega)];have e:Int.tdiv ((a:Int)+b-1) (b:Int)=(((a+b-1)/b:Nat):Int):=by
  rw[show((a:Int)+b-1)=((a+b-1:Nat):Int) by omega];exact(Int.ofNat_tdiv _ _).symm
 have h3:(a+b-1)/b<=a+b-1:=Nat.div_le_self _ _;unfold cQ at*;generalize (a+b-1)/b=q at*;rw[e,wrap_i64 (n:=(q:Int)) (by omega) (by omega),<-Int.natCast_mul,wrap_i64 (by omega) (by omega)]
theorem W9(a b:Nat):M.gQ (a:Int) (b:Int)=some ((max a b:Nat):Int):=by
 unfold M.gQ;by_cases h:(b:Int)<(a:Int)
 ·rw[aY h,aA,Nat.max_eq_left (by omega)]
 ·rw[bU h,aT,Nat.max_eq_right (by omega)]
theorem kd{α A Y:Type}{F:Nat->Int->A->Option Y}(l:List α)(hn:l.length<2^62)(R:List α->A->Option Y)(I:Nat->A->Prop)
 (step:∀f k a (hk:k<l.length),I k a->(∀a',I (k+1) a'->F f ((k+1:Nat):Int) a'=R (l.drop (k+1)) a')->F (f+1) (k:Int) a=R (l[k]::l.drop (k+1)) a)
 (stop:∀f a,I l.length a->F (f+1) (l.length:Int) a=R [] a) (a:A) (h0:I 0 a):F ah 0 a=R l a:=by
 have key:∀f k a,k<=l.length->l.length-k<f->I k a->F f (k:Int) a=R (l.drop k) a:=by
  intro f
  induction f with
  |zero=>intro k a h1 h2;omega
  |succ f ih=>
   intro k a h1 h2 hI;rcases cO k l.length with hk|hk
   ·rw[step f k a hk hI fun a' ha'=>ih (k+1) a' (by omega) (by omega) ha',dZ hk]
   ·have:k=l.length:=by omega
    subst this;rw[stop f a hI,hC]
 have:=key ah 0 a (cU _) (by have:=cC;omega) h0;simpa using this
section
variable {rec :aa->Option (Int×Int)}{l:List aa}
def apN(l:List aa):Prop:=l.length<=1048576/\aR aa.sz l<=1048576
theorem AU(l:List aa):ka (l.map lay)<=16*aR aa.sz l:=by
 induction l with
 |nil=>simp[ka]
 |cons x r ih=>
  have h1:=AT x;simp only[fm,ka,aR];omega
theorem oL(l:List aa):∀x∈l.map lay,cZ x.2:=fun x hx=>by
 obtain⟨y,hy,rfl⟩:=mU.1 hx;exact sF y
theorem Xa(hr:∀x∈l,rec x=some (((lay x).1:Int),((lay x).2:Int)))(hl:l.length<=1048576)(hs:aR aa.sz l<=1048576):
 M.mK rec l=some ((bW 0 1 (l.map lay)).1,((cQ (bW 0 1 (l.map lay)).2.1 (bW 0 1 (l.map lay)).2.2:Nat):Int),((bW 0 1 (l.map lay)).2.2:Int)):=by
 have e:=kd (F:=fun f i (a:Int×Int×List Int)=>M.l4 rec l f a.1 a.2.1 i a.2.2) l (by omega)
  (fun r a=>some ((((bW a.1.toNat a.2.1.toNat (r.map lay)).2.1:Nat):Int),(((bW a.1.toNat a.2.1.toNat (r.map lay)).2.2:Nat):Int),a.2.2++(bW a.1.toNat a.2.1.toNat (r.map lay)).1))
  (fun k a=>∃p g:Nat,a.1=(p:Int)/\a.2.1=(g:Int)/\cZ g/\p+ka ((l.drop k).map lay)<=16*aR aa.sz l/\a.2.2.length<=k) ?_ ?_ (0,1,[]) ⟨0,1,rfl,rfl,.inl rfl,by have:=AU l;simpa using this,bg _⟩
 ·have e':M.l4 rec l ah 0 1 0 []=_:=e;unfold M.mK;rw[e'];have hal:=yk (l.map lay) 0 1 (oL l) (.inl rfl);have hle:=AS (l.map lay) 0 1 (oL l);have hsp:=AU l;simp only[Int.toNat_zero,Int.toNat_one,jF];rw[yl _ _ hal (by omega)];rfl
 ·rintro f k ⟨a1,a2,a3⟩ hk ⟨p,g,h1,h2,hg,hp,h3⟩ ih
  simp only at h1 h2 h3;subst h1;subst h2;have hal:=sF l[k];have hdrop:ka ((l.drop k).map lay)=(lay l[k]).1+7+ka ((l.drop (k+1)).map lay):=by rw[dZ hk];rfl
  have hup:=oJ (a:=p) hal;have akk:=hal.le
  show M.l4 rec l (f+1) _ _ (k:Int) _=_
  rw[M.l4];simp only[cJ,hk,cn,aA,bL,getD_lt hk,aa.aP,hr _ (bn hk),aQ,aU,cq,aO,bM,W9,yl p _ hal (by omega),bX,dn];have d:decide (a3.length+(0+1)<=1073741824)=true:=aY (by omega);rw[d,aA,wrap_i64 (n:=((cQ p (lay l[k]).2:Nat):Int)+_) (by omega) (by omega),cm hk (by omega:l.length<2^62)];have:=ih (((cQ p (lay l[k]).2:Nat):Int)+((lay l[k]).1:Int),((max g (lay l[k]).2:Nat):Int),a3++[((cQ p (lay l[k]).2:Nat):Int)])
   ⟨cQ p (lay l[k]).2+(lay l[k]).1,max g (lay l[k]).2,by simp,rfl,JR hg hal,by omega,by rw[cI];simp;omega⟩
  refine Eq.trans this ?_;have e1:(((cQ p (lay l[k]).2:Nat):Int)+((lay l[k]).1:Int)).toNat=cQ p (lay l[k]).2+(lay l[k]).1:=by omega
  simp only[e1,bL,fm,bW,iI,List.singleton_append]
 ·rintro f ⟨a1,a2,a3⟩ ⟨p,g,h1,h2,hg,hp,h3⟩
  simp only at h1 h2;subst h1;subst h2
  show M.l4 rec l (f+1) _ _ (l.length:Int) _=_
  rw[M.l4];simp[bW]
theorem Xb(hr:∀x∈l,rec x=some (((lay x).1:Int),((lay x).2:Int)))(hl:l.length<=1048576):
 M.rK rec l=some (((dw 0 1 (l.map lay)).1:Int),((dw 0 1 (l.map lay)).2:Int)):=by
 have e:=kd (F:=fun f i (a:Int×Int)=>M.nU rec l f a.1 a.2 i) l (by omega)
  (fun r a=>some ((((dw a.1.toNat a.2.toNat (r.map lay)).1:Nat):Int),(((dw a.1.toNat a.2.toNat (r.map lay)).2:Nat):Int)))
  (fun k a=>∃p g:Nat,a.1=(p:Int)/\a.2=(g:Int)) ?_ ?_ (0,1) ⟨0,1,rfl,rfl⟩
 ·have e':M.nU rec l ah 0 1 0=_:=e;unfold M.rK;rw[e'];rfl
 ·rintro f k ⟨a1,a2⟩ hk ⟨p,g,h1,h2⟩ ih
  simp only at h1 h2;subst h1;subst h2
  show M.nU rec l (f+1) _ _ (k:Int)=_
  rw[M.nU];simp only[cJ,hk,cn,aA,bL,getD_lt hk,aa.aP,hr _ (bn hk),aQ,aU,cq,aO,bM,W9];rw[cm hk (by omega:l.length<2^62)];exact ih (((max p (lay l[k]).1:Nat):Int),((max g (lay l[k]).2:Nat):Int)) ⟨_,_,rfl,rfl⟩
 ·rintro f ⟨a1,a2⟩ ⟨p,g,h1,h2⟩
  simp only at h1 h2;subst h1;subst h2
  show M.nU rec l (f+1) _ _ (l.length:Int)=_
  rw[M.nU];simp[dw]
end
theorem Xc(t:aa)(h:bj t=true)(hk:t.Kind=13\/t.Kind=14\/t.Kind=17):(bB t).map lay=gZ t.Kind (t.Kids.map lay):=by
 unfold bB gZ;by_cases h13:t.Kind=13
 ·have hp:=sH h h13;rw[av h13,av h13,getD_lt hp,getD_lt (by simpa using hp)];simp only[fm,List.map_nil,List.getElem_map];rfl
 ·rw[an h13,an h13]
theorem AW(t:aa)(h:t.Kids.length<=1048576):(bB t).length<=1048576:=by
 unfold bB;split
 ·simp
 ·exact h
theorem cr{a b:Int}(h:a≠b):(a==b)=false:=by rw[kK];exact h
theorem Xd:∀(m:Nat)(t:aa),t.sz<m->t.sz<=1048576->bj t=true->M.pW m t=some (((lay t).1:Int),((lay t).2:Int))
 |0,t,h,_,_=>absurd h (en _)
 |m+1,t,h,hN,hs=>by
  have ih:∀x:aa,x.sz<t.sz->bj x=true->M.pW m x=some (((lay x).1:Int),((lay x).2:Int)):=fun x hx hsx=>Xd m x (by omega) (by omega) hsx
  have ihk:∀x∈t.Kids,M.pW m x=some (((lay x).1:Int),((lay x).2:Int)):=fun x hx=>ih x (aa.cX hx) (fu hs x hx)
  have hkl:=aa.fw hN;have hks:=aa.ke hN
  show M.Ac (M.pW m) t=_
  unfold M.Ac;rw[qt];unfold AQ;rw[W8];simp only[aQ,aU,aO,cD,bM,aA,qu,fF];by_cases h0:0<im t.Kind
  ·rw[av h0,aY (by omega:(0:Int)<(im t.Kind:Int)),aA]
  ·rw[an h0,bU (by omega:¬(0:Int)<(im t.Kind:Int)),aT];by_cases h1:t.Kind=11\/t.Kind=12
   ·rw[av h1];rcases h1 with h1|h1<;>rw[h1]<;>rfl
   ·rw[an h1,cr (fun e=>h1 (.inl e)),cr (fun e=>h1 (.inr e)),ip,aT];by_cases h2:t.Kind=18
    ·rw[av h2,h2];rfl
    ·rw[an h2,cr h2,aT];by_cases h3:t.Kind=19
     ·rw[av h3,h3];by_cases h4:8<t.bu.length
      ·rw[av h4,aY (by omega:(8:Int)<(t.bu.length:Int))];rfl
      ·rw[an h4,bU (by omega:¬(8:Int)<(t.bu.length:Int))];rfl
     ·rw[an h3,cr h3,aT];by_cases h4:t.Kind=15\/t.Kind=16
      ·rw[av h4,Xa ihk hkl hks];rcases h4 with h4|h4<;>rw[h4]<;>rfl
      ·rw[an h4,cr (fun e=>h4 (.inl e)),cr (fun e=>h4 (.inr e)),ip,aT];by_cases h5:t.Kind=13\/t.Kind=14\/t.Kind=17
       ·rw[av h5];have hc:=Xc t hs h5;have hm:=Xb (l:=bB t) (rec:=M.pW m) (fun x hx=>ih x (kL hs h5 x hx) (lF hs h5 x hx)) (AW t hkl);rw[hc]at hm;have hal:=EU (gZ t.Kind (t.Kids.map lay)) 0 1 (fun x hx=>by rw[<-hc]at hx;exact oL _ x hx) (.inl rfl);have hle:(dw 0 1 (gZ t.Kind (t.Kids.map lay))).1<=16*1048577:=EV _ _ _ _ (cU _) fun x hx=>by
         rw[<-hc]at hx;obtain⟨y,hy,rfl⟩:=mU.1 hx;have h6:=kL hs h5 y hy;have:=AT y;omega
        have hu:=oJ (a:=1) hal;have:=hal.le;rw[aa.aP,ym t hs h5,aQ,hm];simp only[aQ,aU,aO,bM];rw[show(1:Int)=((1:Nat):Int)from rfl,yl 1 _ hal (by omega)];simp only[aQ];rw[wrap_i64 (n:=((cQ 1 (dw 0 1 (gZ t.Kind (t.Kids.map lay))).2:Nat):Int)+_) (by omega) (by omega),<-Int.natCast_add,yl _ _ hal (by omega)];generalize dw 0 1 (gZ t.Kind (t.Kids.map lay))=mm at*;rcases h5 with h5|h5|h5<;>rw[h5]<;>rfl
       ·rw[an h5,cr (fun e=>h5 (.inl e)),cr (fun e=>h5 (.inr (.inl e))),cr (fun e=>h5 (.inr (.inr e))),ip,ip,aT];rfl
theorem EW(t:aa)(hN:t.sz<=1048576)(hs:bj t=true):M.gR t=some (((lay t).1:Int),((lay t).2:Int)):=Xd ah t (eU hN) hN hs
end M
namespace M
open Go.V (inB bV ah cC)
def sJ(g:Nat):List (Nat×Nat)->Nat
 |[]=>g
 |(_,a)::r=>sJ (max g a) r
theorem EX:∀(l:List (Nat×Nat))(a g:Nat),(bW a g l).2.2=sJ g l
 |[],a,g=>rfl
 |(s,b)::r,a,g=>by simp only[bW,sJ];exact EX r _ _
theorem JV:∀(l:List (Nat×Nat))(a g:Nat),(dw a g l).2=sJ g l
 |[],a,g=>rfl
 |(s,b)::r,a,g=>by simp only[dw,sJ];exact JV r _ _
def yn(g:Nat):List (Nat×Nat)->Nat
 |[]=>g
 |(s,_)::r=>yn (max g s) r
theorem Xe:∀(l:List (Nat×Nat))(a g:Nat),(dw a g l).1=yn a l
 |[],a,g=>rfl
 |(s,b)::r,a,g=>by simp only[dw,yn];exact Xe r _ _
theorem EY{t:aa}(h:bj t=true):t.Kind=1\/0<im t.Kind\/t.Kind=11\/t.Kind=12\/t.Kind=13\/t.Kind=14\/t.Kind=15\/t.Kind=16\/t.Kind=17\/t.Kind=18\/t.Kind=19:=by
 have h1:jH t=true:=by rw[oM,aZ]at h;exact h.1
 have h2:sK t=true:=by unfold jH at h1;rw[aZ]at h1;exact h1.2
 have key:t.Kind=12\/t.Kind=13\/t.Kind=14\/t.Kind=15\/t.Kind=16\/t.Kind=17\/t.Kind=22\/t.Kind=23\/(1<=t.Kind/\t.Kind<=23):=by
  by_cases a1:t.Kind=12\/t.Kind=13
  ·omega
  by_cases a2:t.Kind=14
  ·omega
  by_cases a3:t.Kind=15
  ·omega
  by_cases a4:t.Kind=16
  ·omega
  by_cases a5:t.Kind=17
  ·omega
  by_cases a6:t.Kind=22\/t.Kind=23
  ·omega
  unfold sK at h2;rw[an a1,an a2,an a3,an a4,an a5,an a6]at h2;simp only[aZ,bh]at h2;omega
 have num:∀k:Int,(k=2\/k=3\/k=4\/k=5\/k=6\/k=7\/k=8\/k=9\/k=10\/k=20\/k=21\/k=22\/k=23)->0<im k:=by
  rintro k (h|h|h|h|h|h|h|h|h|h|h|h|h)<;>subst h<;>decide
 have:t.Kind=1\/(t.Kind=2\/t.Kind=3\/t.Kind=4\/t.Kind=5\/t.Kind=6\/t.Kind=7\/t.Kind=8\/t.Kind=9\/t.Kind=10\/t.Kind=20\/t.Kind=21\/t.Kind=22\/t.Kind=23)\/t.Kind=11\/t.Kind=12\/t.Kind=13\/t.Kind=14\/t.Kind=15\/t.Kind=16\/t.Kind=17\/t.Kind=18\/t.Kind=19:=by omega
 rcases this with h|h|h
 ·exact .inl h
 ·exact .inr (.inl (num _ h))
 ·exact .inr (.inr h)
theorem Xf{t:aa}(h:bj t=true)(hk:t.Kind=19):1<=t.bu.length/\t.bu.length<=16:=by
 have h1:jH t=true:=by rw[oM,aZ]at h;exact h.1
 unfold jH at h1;have hb:AX t=true:=by unfold AX;rw[hk];decide
 rw[av hb]at h1;unfold oN at h1;simp only[aZ,bh]at h1;exact h1.1.1.1
theorem Xg{k:Int}(h:k=1\/k=11\/k=12\/k=13\/k=14\/k=15\/k=16\/k=17\/k=18\/k=19):im k=0:=by
 rcases h with h|h|h|h|h|h|h|h|h|h<;>subst h<;>rfl
theorem Xh(k:Int):M.uG k=some (im k:Int):=W8 k
theorem AY(a b:Nat)(hb:cZ b)(ha:a<=1099511627776):M.ib (a:Int) (b:Int)=some ((cQ a b:Nat):Int):=yl a b hb ha
theorem Xi{t:aa}(h:bj t=true)(hk:t.Kind=19):M.rQ t=some (((if 8<t.bu.length then 2 else 1:Nat)):Int):=by
 obtain⟨h1,h2⟩:=Xf h hk;unfold M.rQ;rw[wrap_i64 (n:=(t.bu.length:Int)+7) (by omega) (by omega),show((t.bu.length:Int)+7)=((t.bu.length+7:Nat):Int) by omega,show(8:Int)=((8:Nat):Int)from rfl,<-Int.ofNat_tdiv];have h3:(t.bu.length+7)/8=if 8<t.bu.length then 2 else 1:=by split<;>omega
 rw[h3];split<;>rfl
section
variable {rec :aa->Option Int}{l:List aa}
theorem Xj(a b:Nat):(bif decide (a<b)then(b:Int)else(a:Int))=((max a b:Nat):Int):=by
 by_cases h:a<b
 ·rw[aY h,aA,Nat.max_eq_right (by omega)]
 ·rw[bU h,aT,Nat.max_eq_left (by omega)]
theorem AZ(hr:∀x∈l,rec x=some ((lay x).2:Int))(hl:l.length<=1048576):M.jY rec l=some ((sJ 1 (l.map lay):Nat):Int):=by
 have e:=kd (F:=fun f i (a:Int)=>M.l6 rec l (l.length:Int) f a i) l (by omega)
  (fun r a=>some ((sJ a.toNat (r.map lay):Nat):Int)) (fun k a=>∃g:Nat,a=(g:Int)) ?_ ?_ 1 ⟨1,rfl⟩
 ·have e':M.l6 rec l (l.length:Int) ah 1 0=_:=e;unfold M.jY;rw[e'];rfl
 ·rintro f k a hk ⟨g,rfl⟩ ih
  show M.l6 rec l (l.length:Int) (f+1) _ (k:Int)=_
  rw[M.l6];simp only[cJ,hk,cn,aA,bL,getD_lt hk,aa.aP,hr _ (bn hk),aQ,aU,cq,aO,bM];rw[cm hk (by omega:l.length<2^62),Xj];exact ih _ ⟨_,rfl⟩
 ·rintro f a ⟨g,rfl⟩
  show M.l6 rec l (l.length:Int) (f+1) _ (l.length:Int)=_
  rw[M.l6];simp[sJ]
theorem akl(hr:∀x∈l,rec x=some ((lay x).1:Int))(hl:l.length<=1048576):M.rS rec l=some ((yn 0 (l.map lay):Nat):Int):=by
 have e:=kd (F:=fun f i (a:Int)=>M.oe rec l (l.length:Int) f a i) l (by omega)
  (fun r a=>some ((yn a.toNat (r.map lay):Nat):Int)) (fun k a=>∃g:Nat,a=(g:Int)) ?_ ?_ 0 ⟨0,rfl⟩
 ·have e':M.oe rec l (l.length:Int) ah 0 0=_:=e;unfold M.rS;rw[e'];rfl
 ·rintro f k a hk ⟨g,rfl⟩ ih
  show M.oe rec l (l.length:Int) (f+1) _ (k:Int)=_
  rw[M.oe];simp only[cJ,hk,cn,aA,bL,getD_lt hk,aa.aP,hr _ (bn hk),aQ,aU,cq,aO,bM];rw[cm hk (by omega:l.length<2^62),Xj];exact ih _ ⟨_,rfl⟩
 ·rintro f a ⟨g,rfl⟩
  show M.oe rec l (l.length:Int) (f+1) _ (l.length:Int)=_
  rw[M.oe];simp[yn]
end
theorem EZ{t:aa}(h:0<im t.Kind):lay t=(im t.Kind,im t.Kind):=by rw[qt];unfold AQ;rw[av h]
theorem A0{t:aa}(h:t.Kind=1):lay t=(0,1):=by rw[qt,h];rfl
theorem A4{t:aa}(h:t.Kind=11\/t.Kind=12):lay t=(8,4):=by rw[qt];rcases h with h|h<;>rw[h]<;>rfl
theorem E0{t:aa}(h:t.Kind=18):lay t=(1,1):=by rw[qt,h];rfl
theorem E1{t:aa}(h:t.Kind=19):lay t=(if 8<t.bu.length then(2,2)else(1,1)):=by rw[qt,h];rfl
theorem A5{t:aa}(h:t.Kind=15\/t.Kind=16):lay t=(cQ (bW 0 1 (t.Kids.map lay)).2.1 (bW 0 1 (t.Kids.map lay)).2.2,(bW 0 1 (t.Kids.map lay)).2.2):=by rw[qt];rcases h with h|h<;>rw[h]<;>rfl
theorem JW{t:aa}(hs:bj t=true)(h:t.Kind=13\/t.Kind=14\/t.Kind=17):lay t=(cQ (cQ 1 (dw 0 1 ((bB t).map lay)).2+(dw 0 1 ((bB t).map lay)).1) (dw 0 1 ((bB t).map lay)).2,(dw 0 1 ((bB t).map lay)).2):=by
 rw[Xc t hs h,qt];rcases h with h|h|h<;>rw[h]<;>rfl
theorem Xk:∀(m:Nat)(t:aa),t.sz<m->t.sz<=1048576->bj t=true->M.pY m t=some ((lay t).2:Int)
 |0,t,h,_,_=>absurd h (en _)
 |m+1,t,h,hN,hs=>by
  have ih:∀x:aa,x.sz<t.sz->bj x=true->M.pY m x=some ((lay x).2:Int):=fun x hx hsx=>Xk m x (by omega) (by omega) hsx
  have hkl:=aa.fw hN
  show M.Ai (M.pY m) t=_
  unfold M.Ai;simp only[qu];have cs:∀hk:t.Kind=13\/t.Kind=14\/t.Kind=17,M.jY (M.pY m) (bB t)=some ((lay t).2:Int):=fun hk=>by
   rw[AZ (l:=bB t) (fun x hx=>ih x (kL hs hk x hx) (lF hs hk x hx)) (AW t hkl),JW hs hk,JV]
  have ks:∀hk:t.Kind=15\/t.Kind=16,M.jY (M.pY m) t.Kids=some ((lay t).2:Int):=fun hk=>by
   rw[AZ (l:=t.Kids) (fun x hx=>ih x (aa.cX hx) (fu hs x hx)) hkl,A5 hk,EX]
  rcases EY hs with k|k|k|k|k|k|k|k|k|k|k
  ·rw[A0 k,k];rfl
  ·have hn:=Xg (k:=t.Kind);have n:∀c:Int,c=1\/c=11\/c=12\/c=13\/c=14\/c=15\/c=16\/c=17\/c=18\/c=19->(t.Kind==c)=false:=fun c hc=>cr fun e=>by rw[<-e]at hc;have:=hn hc;omega
   rw[n 1 (by omega),n 18 (by omega),n 11 (by omega),n 12 (by omega),n 19 (by omega),n 15 (by omega),n 16 (by omega),n 13 (by omega),n 14 (by omega),n 17 (by omega),Xh,EZ k];rfl
  ·rw[A4 (.inl k),k];rfl
  ·rw[A4 (.inr k),k];rfl
  ·have:=cs (.inl k);rw[aa.aP,yo t hs (.inl k),aQ,this,k];rfl
  ·have:=cs (.inr (.inl k));rw[aa.aP,yo t hs (.inr (.inl k)),aQ,this,k];rfl
  ·rw[ks (.inl k),k];rfl
  ·rw[ks (.inr k),k];rfl
  ·have:=cs (.inr (.inr k));rw[aa.aP,yo t hs (.inr (.inr k)),aQ,this,k];rfl
  ·rw[E0 k,k];rfl
  ·rw[aa.aP,Xi hs k,E1 k,k];split<;>rfl
theorem sL(t:aa)(hN:t.sz<=1048576)(hs:bj t=true):M.fE t=some ((lay t).2:Int):=Xk ah t (eU hN) hN hs
def jr(t:aa):Nat:=cQ 1 (dw 0 1 ((bB t).map lay)).2
theorem E2(l:List aa):cZ (dw 0 1 (l.map lay)).2:=EU _ 0 1 (oL l) (.inl rfl)
theorem Xl(t:aa)(hN:t.sz<=1048576)(hs:bj t=true)(hk:t.Kind=13\/t.Kind=14\/t.Kind=17):M.qb t=some ((jr t:Nat):Int):=by
 unfold M.qb jr;have hkl:=aa.fw hN;rw[aa.aP,yo t hs hk];simp only[aQ,aU,aO];rw[AZ (l:=bB t) (fun x hx=>sL x (by have:=kL hs hk x hx;omega) (lF hs hk x hx)) (AW t hkl),<-JV _ 0 1];simp only[aQ,aU,aO];rw[show(1:Int)=((1:Nat):Int)from rfl,AY 1 _ (E2 _) (by omega)];rfl
section
variable {rec :aa->Option Int}{l:List aa}
theorem JX(hr:∀x∈l,rec x=some ((lay x).1:Int))(ha:∀x∈l,M.fE x=some ((lay x).2:Int))(hl:l.length<=1048576)(hs:aR aa.sz l<=1048576):
 M.od rec l=some ((bW 0 1 (l.map lay)).1,((bW 0 1 (l.map lay)).2.1:Int)):=by
 have e:=kd (F:=fun f i (a:Int×List Int)=>M.l9 rec l (l.length:Int) f a.1 i a.2) l (by omega)
  (fun r a=>some ((((bW a.1.toNat 1 (r.map lay)).2.1:Nat):Int),a.2++(bW a.1.toNat 1 (r.map lay)).1))
  (fun k a=>∃p:Nat,a.1=(p:Int)/\p+ka ((l.drop k).map lay)<=16*aR aa.sz l/\a.2.length<=k) ?_ ?_ (0,[]) ⟨0,rfl,by have:=AU l;simpa using this,bg _⟩
 ·have e':M.l9 rec l (l.length:Int) ah 0 0 []=_:=e;unfold M.od;rw[e'];rfl
 ·rintro f k ⟨a1,a2⟩ hk ⟨p,h1,hp,h3⟩ ih
  simp only at h1 h3;subst h1;have hal:=sF l[k];have hdrop:ka ((l.drop k).map lay)=(lay l[k]).1+7+ka ((l.drop (k+1)).map lay):=by rw[dZ hk];rfl
  have hup:=oJ (a:=p) hal;have akk:=hal.le
  show M.l9 rec l (l.length:Int) (f+1) _ (k:Int) _=_
  rw[M.l9];simp only[cJ,hk,cn,aA,bL,getD_lt hk,aa.aP,hr _ (bn hk),ha _ (bn hk),aQ,aU,cq,aO,bM,AY p _ hal (by omega),bX,dn];have d:decide (a2.length+(0+1)<=1073741824)=true:=aY (by omega);rw[d,aA,wrap_i64 (n:=((cQ p (lay l[k]).2:Nat):Int)+_) (by omega) (by omega),cm hk (by omega:l.length<2^62)];have:=ih (((cQ p (lay l[k]).2:Nat):Int)+((lay l[k]).1:Int),a2++[((cQ p (lay l[k]).2:Nat):Int)])
   ⟨cQ p (lay l[k]).2+(lay l[k]).1,by simp,by omega,by rw[cI];simp;omega⟩
  refine Eq.trans this ?_;have e1:(((cQ p (lay l[k]).2:Nat):Int)+((lay l[k]).1:Int)).toNat=cQ p (lay l[k]).2+(lay l[k]).1:=by omega
  have e2:∀(r:List (Nat×Nat))(a g g':Nat),(bW a g r).1=(bW a g' r).1/\(bW a g r).2.1=(bW a g' r).2.1:=by
   intro r
   induction r with
   |nil=>intro a g g';exact⟨rfl,rfl⟩
   |cons x r ih=>intro a g g';simp only[bW];exact⟨by rw[(ih _ (max g x.2) (max g' x.2)).1],(ih _ _ _).2⟩
  simp only[e1,bL,fm,bW,iI,List.singleton_append];rw[(e2 _ _ (max 1 (lay l[k]).2) 1).1,(e2 _ _ (max 1 (lay l[k]).2) 1).2]
 ·rintro f ⟨a1,a2⟩ ⟨p,h1,hp,h3⟩
  simp only at h1;subst h1
  show M.l9 rec l (l.length:Int) (f+1) _ (l.length:Int) _=_
  rw[M.l9];simp[bW]
theorem Xm(hr:∀x∈l,rec x=some ((lay x).1:Int))(ha:∀x∈l,M.fE x=some ((lay x).2:Int))(hl:l.length<=1048576)(hs:aR aa.sz l<=1048576):
 M.qa rec l=some ((cQ (bW 0 1 (l.map lay)).2.1 (bW 0 1 (l.map lay)).2.2:Nat):Int):=by
 unfold M.qa;rw[JX hr ha hl hs,AZ ha hl,<-EX _ 0 1];have hal:=yk (l.map lay) 0 1 (oL l) (.inl rfl);have hle:=AS (l.map lay) 0 1 (oL l);have hsp:=AU l;simp only[aQ,aU,aO];rw[AY _ _ hal (by omega)];rfl
end
theorem Xn:∀(m:Nat)(t:aa),t.sz<m->t.sz<=1048576->bj t=true->M.oh m t=some ((lay t).1:Int)
 |0,t,h,_,_=>absurd h (en _)
 |m+1,t,h,hN,hs=>by
  have ih:∀x:aa,x.sz<t.sz->bj x=true->M.oh m x=some ((lay x).1:Int):=fun x hx hsx=>Xn m x (by omega) (by omega) hsx
  have hkl:=aa.fw hN;have hks:=aa.ke hN
  show M.Aj (M.oh m) t=_
  unfold M.Aj;simp only[qu];have ks:∀hk:t.Kind=15\/t.Kind=16,M.qa (M.oh m) t.Kids=some ((lay t).1:Int):=fun hk=>by
   rw[Xm (l:=t.Kids) (fun x hx=>ih x (aa.cX hx) (fu hs x hx)) (fun x hx=>sL x (by have:=aa.cX hx;omega) (fu hs x hx)) hkl hks,A5 hk]
  have cs:∀hk:t.Kind=13\/t.Kind=14\/t.Kind=17,M.rS (M.oh m) (bB t)=some ((dw 0 1 ((bB t).map lay)).1:Int)/\M.ib (Go.IntKind.wrap .i64 ((jr t:Int)+((dw 0 1 ((bB t).map lay)).1:Int))) ((lay t).2:Int)=some ((lay t).1:Int):=fun hk=>by
   have hal:=E2 (bB t);have hle:(dw 0 1 ((bB t).map lay)).1<=16*1048577:=EV _ _ _ _ (cU _) fun x hx=>by
    obtain⟨y,hy,rfl⟩:=mU.1 hx;have h6:=kL hs hk y hy;have:=AT y;omega
   have hu:=oJ (a:=1) hal;have:=hal.le;refine⟨by rw[akl (l:=bB t) (fun x hx=>ih x (kL hs hk x hx) (lF hs hk x hx)) (AW t hkl),Xe],?_⟩;unfold jr;rw[JW hs hk,wrap_i64 (by omega) (by omega),<-Int.natCast_add,AY _ _ hal (by omega)]
  have fin:∀hk:t.Kind=13\/t.Kind=14\/t.Kind=17,(let q0:=(M.qb (M.aa.re t))
           let q1:=(M.l7 (M.aa.re t))
           let q2:=(M.rS (M.oh m) (Option.getD q1 Inhabited.default))
           let q3:=(M.fE (M.aa.re t))
           let q4:=(M.ib (Go.IntKind.wrap Go.IntKind.i64 ((Option.getD q0 Inhabited.default)+(Option.getD q2 Inhabited.default))) (Option.getD q3 Inhabited.default))
           bif((Option.isSome q4)&&((Option.isSome q3)&&((Option.isSome q2)&&((Option.isSome q1)&&((Option.isSome q0)&&true)))))then
            some (Option.getD q4 Inhabited.default)
           else
            none)=some ((lay t).1:Int):=fun hk=>by
   obtain⟨c1,c2⟩:=cs hk;rw[aa.aP,Xl t hN hs hk,yo t hs hk,sL t hN hs];simp only[aQ,aU,aO];rw[c1];simp only[aQ,aU,aO];rw[c2];rfl
  rcases EY hs with k|k|k|k|k|k|k|k|k|k|k
  ·rw[A0 k,k];rfl
  ·have hn:=Xg (k:=t.Kind);have n:∀c:Int,c=1\/c=11\/c=12\/c=13\/c=14\/c=15\/c=16\/c=17\/c=18\/c=19->(t.Kind==c)=false:=fun c hc=>cr fun e=>by rw[<-e]at hc;have:=hn hc;omega
   rw[n 1 (by omega),n 18 (by omega),n 11 (by omega),n 12 (by omega),n 19 (by omega),n 15 (by omega),n 16 (by omega),n 13 (by omega),n 14 (by omega),n 17 (by omega),Xh,EZ k];rfl
  ·rw[A4 (.inl k),k];rfl
  ·rw[A4 (.inr k),k];rfl
  ·have:=fin (.inl k);rw[k];exact this
  ·have:=fin (.inr (.inl k));rw[k];exact this
  ·rw[ks (.inl k),k];rfl
  ·rw[ks (.inr k),k];rfl
  ·have:=fin (.inr (.inr k));rw[k];exact this
  ·rw[E0 k,k];rfl
  ·rw[aa.aP,Xi hs k,E1 k,k];split<;>rfl
theorem vd(t:aa)(hN:t.sz<=1048576)(hs:bj t=true):M.ie t=some ((lay t).1:Int):=Xn ah t (eU hN) hN hs
end M
namespace M
open Go.V (inB bV ah cC)
def chainB(e:Int):Int->List af->Bool
 |_,[]=>true
 |last,b::r=>(((decide (1<=b.Size)&&decide (last<b.At))&&decide (b.At<=e))&&decide (b.Size<=e-b.At))&&chainB e (b.At+b.Size) r
def Chain(e:Int)(last:Int)(l:List af):Prop:=chainB e last l=true
theorem m4{e last:Int}{b:af}{r:List af}:Chain e last (b::r)↔(1<=b.Size/\last<b.At/\b.At+b.Size<=e)/\Chain e (b.At+b.Size) r:=by
 unfold Chain;simp only[chainB,aZ,bh];constructor
 ·rintro ⟨⟨⟨⟨h1,h2⟩,h3⟩,h4⟩,h5⟩;exact⟨⟨h1,h2,by omega⟩,h5⟩
 ·rintro ⟨⟨h1,h2,h3⟩,h5⟩;exact⟨⟨⟨⟨h1,h2⟩,by omega⟩,by omega⟩,h5⟩
theorem Chain.nil{e last:Int}:Chain e last []:=rfl
theorem Chain.low{e last last':Int}{l:List af}(h:Chain e last l)(hl:last'<=last):Chain e last' l:=by
 cases l with
 |nil=>rfl
 |cons b r=>rw[m4]at*;exact⟨⟨h.1.1,by omega,h.1.2.2⟩,h.2⟩
theorem Chain.len:∀{l:List af}{e last:Int},Chain e last l->last<=e->(l.length:Int)<=e-last
 |[],e,last,_,h=>by simp;omega
 |b::r,e,last,h,hl=>by
  rw[m4]at h;have:=Chain.len h.2 h.1.2.2;simp only[bX];omega
theorem Chain.mem:∀{l:List af}{e last:Int},Chain e last l->∀b∈l,last<b.At/\1<=b.Size/\b.At+b.Size<=e
 |b::r,e,last,h,x,hx=>by
  rw[m4]at h;rcases dY.1 hx with rfl|hx
  ·exact⟨h.1.2.1,h.1.1,h.1.2.2⟩
  ·have:=Chain.mem h.2 x hx;exact⟨by omega,this.2⟩
def A6(b:af)(a many:Int):List af:=
 (if b.At<a then[af.mk b.At (a-b.At)]else[])++(if a+many<b.At+b.Size then[af.mk (a+many) (b.At+b.Size-(a+many))]else[])
def dK(b:af)(al:Nat):Int:=((cQ b.At.toNat al:Nat):Int)
def kM(many al:Nat):List af->Option (Int×List af)
 |[]=>none
 |b::r=>if dK b al+many<=b.At+b.Size then some (dK b al,A6 b (dK b al) many++r)
  else(kM many al r).map fun p=>(p.1,b::p.2)
theorem JY{b:af}{al:Nat}(ha:cZ al)(h0:0<=b.At):b.At<=dK b al/\dK b al<b.At+al:=by
 unfold dK;have h1:=yj (a:=b.At.toNat) ha;have h2:=oJ (a:=b.At.toNat) ha;omega
theorem akm{e last:Int}{b:af}{r:List af}{a:Int}{many:Nat}(h:Chain e last (b::r))(h1:b.At<=a)(h2:a+many<=b.At+b.Size)(h0:0<many):Chain e last (A6 b a many++r):=by
 rw[m4]at h;obtain⟨⟨g1,g2,g3⟩,g4⟩:=h;unfold A6;by_cases c1:b.At<a
 ·rw[av c1];by_cases c2:a+many<b.At+b.Size
  ·rw[av c2,iI,List.singleton_append,List.singleton_append,m4,m4];simp only;exact⟨⟨by omega,g2,by omega⟩,⟨by omega,by omega,by omega⟩,g4.low (by omega)⟩
  ·rw[an c2,mb,List.singleton_append,m4];simp only;exact⟨⟨by omega,g2,by omega⟩,g4.low (by omega)⟩
 ·rw[an c1,jF];by_cases c2:a+many<b.At+b.Size
  ·rw[av c2,List.singleton_append,m4];simp only;exact⟨⟨by omega,by omega,by omega⟩,g4.low (by omega)⟩
  ·rw[an c2,jF];exact g4.low (by omega)
theorem Xo{many al:Nat}(h0:0<many)(ha:cZ al):∀{l:List af}{e last:Int}{a:Int}{l':List af},Chain e last l->0<=last->kM many al l=some (a,l')->Chain e last l'/\last<a/\a+many<=e
 |b::r,e,last,a,l',h,hl,hr=>by
  have hc:=m4.1 h;have hp:=JY (b:=b) ha (by omega);unfold kM at hr;split at hr
  ·rename_i hle;simp only[ar,aH]at hr;obtain⟨rfl,rfl⟩:=hr;exact⟨akm h hp.1 hle h0,by omega,by omega⟩
  ·rw[dS]at hr;obtain⟨p,h1,h2⟩:=hr;simp only[aH]at h2;obtain⟨rfl,rfl⟩:=h2;obtain⟨g1,g2,g3⟩:=Xo (l:=r) h0 ha hc.2 (by omega) h1;exact⟨m4.2 ⟨hc.1,g1⟩,by omega,g3⟩
def eV(many al:Nat)(l:List af):Option (Int×List af):=if many=0 then some (0,l)else kM many al l
theorem akn{many al:Nat}(ha:cZ al){l:List af}{e:Int}{a:Int}{l':List af}(h:Chain e 7 l)(he:0<=e)(hr:eV many al l=some (a,l')):Chain e 7 l'/\0<=a/\a+many<=e:=by
 unfold eV at hr;split at hr
 ·rename_i h0;simp only[ar,aH]at hr;obtain⟨rfl,rfl⟩:=hr;exact⟨h,Int.le_refl _,by omega⟩
 ·obtain⟨g1,g2,g3⟩:=Xo (by omega) ha h (by omega) hr;exact⟨g1,by omega,g3⟩
def eX(a:Int)(bs B:List UInt8):List UInt8:=if 0<=a/\a+bs.length<=B.length then B.take a.toNat++bs++B.drop (a.toNat+bs.length)else B
theorem Xp(a:Int)(bs B:List UInt8):(eX a bs B).length=B.length:=by
 unfold eX;split
 ·simp;omega
 ·rfl
theorem Xq(a:Int)(B:List UInt8):eX a [] B=B:=by
 unfold eX;split<;>simp
theorem ako(a:Int)(x y B:List UInt8)(h0:0<=a)(h:a+(x.length+y.length)<=B.length):eX (a+x.length) y (eX a x B)=eX a (x++y) B:=by
 obtain⟨n,rfl⟩:=mW h0;have hx:eX (n:Int) x B=B.take n++x++B.drop (n+x.length):=by
  unfold eX;rw[av ⟨h0,by omega⟩,bL]
 rw[hx];have hlx:(B.take n++x++B.drop (n+x.length)).length=B.length:=by simp;omega
 unfold eX;rw[av ⟨by omega,by rw[hlx];omega⟩,av ⟨h0,by rw[cI];omega⟩];have e1:((n:Int)+x.length).toNat=n+x.length:=by omega
 rw[e1,bL];have hl:(B.take n++x).length=n+x.length:=by simp;omega
 rw[A7 (by rw[hl];exact bg _),ve (by rw[hl];exact bg _)];rw[show n+x.length+y.length=(B.take n++x).length+y.length by rw[hl],<-u7,List.drop_left,u7];simp[gX]
def fixF(n:Int):Nat->List UInt8
 |0=>[]
 |k+1=>Go.V.eA (Go.IntKind.wrap .u8 n)::fixF (Go.V.gi .i64 n 8) k
theorem iq(n:Int):∀k,(fixF n k).length=k:=by
 intro k
 induction k generalizing n with
 |zero=>rfl
 |succ k ih=>simp[fixF,ih]
end M
