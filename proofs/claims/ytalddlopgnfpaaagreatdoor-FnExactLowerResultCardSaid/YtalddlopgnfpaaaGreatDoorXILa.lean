/-
  HOW TYPES LIE IN MEMORY: sizes, alignments, places, in plain Lean.
-/
import Derived.Test.YtalddlopgnfpaaaGreatDoorXITP
set_option linter.unusedVariables false
namespace M
def cY(a b:Nat):Nat:=(a+b-1)/b*b
def di(a:Nat):Prop:=a=1\/a=2\/a=4\/a=8
theorem xG{a b:Nat}(hb:di b):a<=cY a b:=by unfold cY;rcases hb with rfl|rfl|rfl|rfl<;>omega
theorem qd{a b:Nat}(hb:di b):cY a b<a+b:=by unfold cY;rcases hb with rfl|rfl|rfl|rfl<;>omega
theorem di.le{a:Nat}(h:di a):1<=a/\a<=8:=by rcases h with rfl|rfl|rfl|rfl<;>omega
theorem I3{a b:Nat}(ha:di a)(hb:di b):di (max a b):=by rcases Nat.le_total a b with h|h<;>simp[Nat.max_eq_left,Nat.max_eq_right,h,ha,hb]
def hQ(k:Int):Nat:=
 bif(k==2||(k==3||k==4))then 1 else bif(k==5||k==6)then 2
 else bif(k==7||(k==8||(k==10||(k==20||(k==21||(k==22||k==23))))))then 4 else bif k==9 then 8 else 0
def cE:Nat->Nat->List (Nat×Nat)->List Int×Nat×Nat
 |at_,al,[]=>([],at_,al)
 |at_,al,(s,a)::r=>(((cY at_ a:Nat):Int)::(cE (cY at_ a+s) (max al a) r).1,(cE (cY at_ a+s) (max al a) r).2)
def du:Nat->Nat->List (Nat×Nat)->Nat×Nat
 |sz,al,[]=>(sz,al)
 |sz,al,(s,a)::r=>du (max sz s) (max al a) r
def gP(k:Int)(l:List (Nat×Nat)):List (Nat×Nat):=if k=13 then[(0,1),l.getD 0 (0,1)]else l
def Aa(k:Int)(n:Nat)(l:List (Nat×Nat)):Nat×Nat:=
 if 0<hQ k then(hQ k,hQ k)
 else if k=11\/k=12 then(8,4)
 else if k=18 then(1,1)
 else if k=19 then(if 8<n then(2,2)else(1,1))
 else if k=15\/k=16 then(cY (cE 0 1 l).2.1 (cE 0 1 l).2.2,(cE 0 1 l).2.2)
 else if k=13\/k=14\/k=17 then(cY (cY 1 (du 0 1 (gP k l)).2+(du 0 1 (gP k l)).1) (du 0 1 (gP k l)).2,(du 0 1 (gP k l)).2)
 else(0,1)
mutual
def lay:aa->Nat×Nat
 |.mk k _ ls ks=>Aa k ls.length (lays ks)
def lays:List aa->List (Nat×Nat)
 |[]=>[]
 |t::r=>lay t::lays r
end
theorem lays_map:∀l,lays l=l.map lay
 |[]=>rfl
 |t::r=>by rw[lays,lays_map r];rfl
theorem qe(t:aa):lay t=Aa t.Kind t.bp.length (t.Kids.map lay):=by cases t;rw[lay,lays_map];rfl
theorem ah7(k:Int)(h:0<hQ k):di (hQ k):=by
 unfold hQ at*
 revert h
 cases (k==2||(k==3||k==4))<;>cases (k==5||k==6)<;>cases (k==7||(k==8||(k==10||(k==20||(k==21||(k==22||k==23))))))<;>cases k==9<;>simp[di]
theorem I4(k:Int):hQ k<=8:=by
 unfold hQ;cases (k==2||(k==3||k==4))<;>cases (k==5||k==6)<;>cases (k==7||(k==8||(k==10||(k==20||(k==21||(k==22||k==23))))))<;>cases k==9<;>simp
theorem Ab:∀(l:List (Nat×Nat))(a g:Nat),(∀x∈l,di x.2)->di g->di (cE a g l).2.2
 |[],a,g,h,hg=>hg
 |(s,b)::r,a,g,h,hg=>Ab r _ _ (fun x hx=>h x (gQ _ hx)) (I3 hg (h (s,b) (fa ..)))
theorem Ec:∀(l:List (Nat×Nat))(a g:Nat),(∀x∈l,di x.2)->di g->di (du a g l).2
 |[],a,g,h,hg=>hg
 |(s,b)::r,a,g,h,hg=>Ec r _ _ (fun x hx=>h x (gQ _ hx)) (I3 hg (h (s,b) (fa ..)))
theorem Ed:∀(l:List (Nat×Nat))(a g:Nat),(cE a g l).1.length=l.length
 |[],a,g=>rfl
 |(s,b)::r,a,g=>by simp only[cE,bQ,Ed r]
theorem Vl:∀(l:List (Nat×Nat))(a g:Nat),(∀x∈l,di x.2)->a<=(cE a g l).2.1
 |[],a,g,h=>bj _
 |(s,b)::r,a,g,h=>by
  have h1:=Vl r (cY a b+s) (max g b) (fun x hx=>h x (gQ _ hx));have h2:=xG (a:=a) (b:=b) (h (s,b) (fa ..));simp only[cE];omega
theorem Vm:∀(l:List (Nat×Nat))(a g k:Nat)(hk:k<l.length),(∀x∈l,di x.2)->∃p:Nat,(cE a g l).1.getD k 0=(p:Int)/\a<=p/\p+(l[k]).1<=(cE a g l).2.1
 |(s,b)::r,a,g,0,hk,h=>by
  have h1:=Vl r (cY a b+s) (max g b) (fun x hx=>h x (gQ _ hx));exact⟨cY a b,rfl,xG (h (s,b) (fa ..)),h1⟩
 |(s,b)::r,a,g,k+1,hk,h=>by
  obtain⟨p,h1,h2,h3⟩:=Vm r (cY a b+s) (max g b) k (by simpa using hk) (fun x hx=>h x (gQ _ hx));have h4:=xG (a:=a) (b:=b) (h (s,b) (fa ..));exact⟨p,by simpa [cE]using h1,by omega,by simpa [cE]using h3⟩
theorem Vn:∀(l:List (Nat×Nat))(a g:Nat),a<=(du a g l).1
 |[],a,g=>bj _
 |(s,b)::r,a,g=>by have:=Vn r (max a s) (max g b);simp only[du];omega
theorem Vo:∀(l:List (Nat×Nat))(a g:Nat)(x:Nat×Nat),x∈l->x.1<=(du a g l).1
 |(s,b)::r,a,g,x,h=>by
  rcases dW.1 h with rfl|h
  ·have:=Vn r (max a s) (max g b);simp only[du];omega
  ·exact Vo r _ _ x h
theorem Ee:∀(l:List (Nat×Nat))(a g B:Nat),a<=B->(∀x∈l,x.1<=B)->(du a g l).1<=B
 |[],a,g,B,h,_=>h
 |(s,b)::r,a,g,B,h,hl=>Ee r _ _ B (by have:=hl (s,b) (fa ..);simp only at this;omega) fun x hx=>hl x (gQ _ hx)
def j4:List (Nat×Nat)->Nat
 |[]=>0
 |(s,_)::r=>s+7+j4 r
theorem Ef:∀(l:List (Nat×Nat))(a g:Nat),(∀x∈l,di x.2)->(cE a g l).2.1<=a+j4 l
 |[],a,g,h=>bj _
 |(s,b)::r,a,g,h=>by
  have hb:di b:=h (s,b) (fa ..);have h1:=Ef r (cY a b+s) (max g b) (fun x hx=>h x (gQ _ hx));have h2:=qd (a:=a) hb;have:=hb.le;simp only[cE,j4];omega
theorem I5:∀(n:Nat)(t:aa),t.sz<n->di (lay t).2/\(lay t).1+8<=16*(t.sz+1)
 |0,t,h=>absurd h (eB _)
 |n+1,t,h=>by
  have ih:∀x∈t.Kids,di (lay x).2/\(lay x).1+8<=16*(x.sz+1):=fun x hx=>I5 n x (by have:=aa.cZ (a:=t) hx;omega)
  have hal:∀x∈t.Kids.map lay,di x.2:=fun x hx=>by
   obtain⟨y,hy,rfl⟩:=mO.1 hx;exact(ih y hy).1
  have ah8:∀l:List aa,(∀x∈l,(lay x).1+8<=16*(x.sz+1))->j4 (l.map lay)+l.length<=16*aZ aa.sz l:=by
   intro l
   induction l with
   |nil=>intro _;simp[j4]
   |cons x r ihr=>
    intro hx;have h1:=hx x (fa ..);have h2:=ihr fun y hy=>hx y (gQ _ hy)
    simp only[fb,j4,bQ,aZ];omega
  have hsz:=aa.dV t;rw[qe];unfold Aa;split
  ·rename_i h1;exact⟨ah7 _ h1,by have:=I4 t.Kind;simp only;omega⟩
  ·split
   ·exact⟨.inr (.inr (.inl rfl)),by simp only;omega⟩
   ·split
    ·exact⟨.inl rfl,by simp only;omega⟩
    ·split
     ·split
      ·exact⟨.inr (.inl rfl),by simp only;omega⟩
      ·exact⟨.inl rfl,by simp only;omega⟩
     ·split
      ·have hg:=Ab (t.Kids.map lay) 0 1 hal (.inl rfl);refine⟨hg,?_⟩;have h1:=Ef (t.Kids.map lay) 0 1 hal;have h2:=qd (a:=(cE 0 1 (t.Kids.map lay)).2.1) hg;have h3:=ah8 t.Kids fun x hx=>(ih x hx).2
       have:=hg.le;simp only;omega
      ·split
       ·rcases jj t.sz with h0|h0
        ·have hk:t.Kids=[]:=by
          cases e:t.Kids with
          |nil=>rfl
          |cons x r=>have:=aa.cZ (a:=t) (x:=x) (by rw[e];exact fa ..);omega
         have e:du 0 1 (gP t.Kind (t.Kids.map lay))=(0,1):=by
          rw[hk];unfold gP;split<;>rfl
         rw[e];exact⟨.inl rfl,by rw[h0];decide⟩
        have hc:∀x∈gP t.Kind (t.Kids.map lay),di x.2/\x.1+8<=16*t.sz:=by
         intro x hx;have hm:∀x∈t.Kids.map lay,di x.2/\x.1+8<=16*t.sz:=fun x hx=>by
          obtain⟨y,hy,rfl⟩:=mO.1 hx;have:=aa.cZ (a:=t) hy;exact⟨(ih y hy).1,by have:=(ih y hy).2;omega⟩
         unfold gP at hx;split at hx
         ·simp only[dW,IY,kC]at hx;rcases hx with rfl|rfl
          ·exact⟨.inl rfl,by simp only;omega⟩
          ·rcases cQ 0 (t.Kids.map lay).length with hl|hl
           ·rw[getD_lt hl];exact hm _ (bC hl)
           ·rw[cK,qb hl];exact⟨.inl rfl,by simp only[Option.getD_none];omega⟩
         ·exact hm x hx
        have hg:=Ec (gP t.Kind (t.Kids.map lay)) 0 1 (fun x hx=>(hc x hx).1) (.inl rfl);refine⟨hg,?_⟩;have h1:=Ee (gP t.Kind (t.Kids.map lay)) 0 1 (16*t.sz-8) (cU _) (fun x hx=>by have:=(hc x hx).2;omega);have h2:cY 1 (du 0 1 (gP t.Kind (t.Kids.map lay))).2=(du 0 1 (gP t.Kind (t.Kids.map lay))).2:=by
         generalize (du 0 1 (gP t.Kind (t.Kids.map lay))).2=a at hg;rcases hg with rfl|rfl|rfl|rfl<;>rfl
        have h3:=qd (a:=cY 1 (du 0 1 (gP t.Kind (t.Kids.map lay))).2+(du 0 1 (gP t.Kind (t.Kids.map lay))).1) hg;have:=hg.le;rw[h2]at h3⊢;simp only;omega
       ·exact⟨.inl rfl,by simp only;omega⟩
theorem sd(t:aa):di (lay t).2:=(I5 _ t (uE _)).1
theorem Ac(t:aa):(lay t).1+8<=16*(t.sz+1):=(I5 _ t (uE _)).2
end M
set_option linter.unusedSimpArgs false
namespace M
open Go.V (inB bK ah cH)
theorem Vp(k:Int):M.wG k=some (hQ k:Int):=by
 unfold M.wG hQ;simp only[se];cases (k==2||(k==3||k==4))<;>cases (k==5||k==6)<;>cases (k==7||(k==8||(k==10||(k==20||(k==21||(k==22||k==23))))))<;>cases k==9<;>rfl
theorem xH(a b:Nat)(hb:di b)(ha:a<=1099511627776):M.jR (a:Int) (b:Int)=some ((cY a b:Nat):Int):=by
 have hl:=hb.le;have h2:=qd (a:=a) hb;have d:((b:Int) !=0)=true:=by rw[qg];omega
 unfold M.jR;rw[d];simp only[aP,aA];rw[wrap_i64 (n:=(a:Int)+b) (by omega) (by omega),wrap_i64 (n:=(a:Int)+b-1) (by omega) (by omega)];have e:Int.tdiv ((a:Int)+b-1) (b:Int)=(((a+b-1)/b:Nat):Int):=by
  rw[show((a:Int)+b-1)=((a+b-1:Nat):Int) by omega];exact(Int.ofNat_tdiv _ _).symm
 have h3:(a+b-1)/b<=a+b-1:=Nat.div_le_self _ _;unfold cY at*;generalize (a+b-1)/b=q at*;rw[e,wrap_i64 (n:=(q:Int)) (by omega) (by omega),<-Int.natCast_mul,wrap_i64 (by omega) (by omega)]
theorem Vq(a b:Nat):M.il (a:Int) (b:Int)=some ((max a b:Nat):Int):=by
 unfold M.il;by_cases h:(b:Int)<(a:Int)
 ·rw[aY h,aA,Nat.max_eq_left (by omega)]
 ·rw[bU h,aR,Nat.max_eq_right (by omega)]
theorem j5{α A Y:Type}{F:Nat->Int->A->Option Y}(l:List α)(hn:l.length<2^62)(R:List α->A->Option Y)(I:Nat->A->Prop)
 (step:∀f k a (hk:k<l.length),I k a->(∀a',I (k+1) a'->F f ((k+1:Nat):Int) a'=R (l.drop (k+1)) a')->F (f+1) (k:Int) a=R (l[k]::l.drop (k+1)) a)
 (stop:∀f a,I l.length a->F (f+1) (l.length:Int) a=R [] a) (a:A) (h0:I 0 a):F ah 0 a=R l a:=by
 have key:∀f k a,k<=l.length->l.length-k<f->I k a->F f (k:Int) a=R (l.drop k) a:=by
  intro f
  induction f with
  |zero=>intro k a h1 h2;omega
  |succ f ih=>
   intro k a h1 h2 hI;rcases cQ k l.length with hk|hk
   ·rw[step f k a hk hI fun a' ha'=>ih (k+1) a' (by omega) (by omega) ha',dX hk]
   ·have:k=l.length:=by omega
    subst this;rw[stop f a hI,gU]
 have:=key ah 0 a (cU _) (by have:=cH;omega) h0;simpa using this
section
variable {rec :aa->Option (Int×Int)}{l:List aa}
def anu(l:List aa):Prop:=l.length<=1048576/\aZ aa.sz l<=1048576
theorem Eg(l:List aa):j4 (l.map lay)<=16*aZ aa.sz l:=by
 induction l with
 |nil=>simp[j4]
 |cons x r ih=>
  have h1:=Ac x;simp only[fb,j4,aZ];omega
theorem sf(l:List aa):∀x∈l.map lay,di x.2:=fun x hx=>by
 obtain⟨y,hy,rfl⟩:=mO.1 hx;exact sd y
theorem Vr(hr:∀x∈l,rec x=some (((lay x).1:Int),((lay x).2:Int)))(hl:l.length<=1048576)(hs:aZ aa.sz l<=1048576):
 M.pD rec l=some ((cE 0 1 (l.map lay)).1,((cY (cE 0 1 (l.map lay)).2.1 (cE 0 1 (l.map lay)).2.2:Nat):Int),((cE 0 1 (l.map lay)).2.2:Int)):=by
 have e:=j5 (F:=fun f i (a:Int×Int×List Int)=>M.nP rec l f a.1 a.2.1 i a.2.2) l (by omega)
  (fun r a=>some ((((cE a.1.toNat a.2.1.toNat (r.map lay)).2.1:Nat):Int),(((cE a.1.toNat a.2.1.toNat (r.map lay)).2.2:Nat):Int),a.2.2++(cE a.1.toNat a.2.1.toNat (r.map lay)).1))
  (fun k a=>∃p g:Nat,a.1=(p:Int)/\a.2.1=(g:Int)/\di g/\p+j4 ((l.drop k).map lay)<=16*aZ aa.sz l/\a.2.2.length<=k) ?_ ?_ (0,1,[]) ⟨0,1,rfl,rfl,.inl rfl,by have:=Eg l;simpa using this,bj _⟩
 ·have e':M.nP rec l ah 0 1 0 []=_:=e;unfold M.pD;rw[e'];have hal:=Ab (l.map lay) 0 1 (sf l) (.inl rfl);have hle:=Ef (l.map lay) 0 1 (sf l);have hsp:=Eg l;simp only[Int.toNat_zero,Int.toNat_one,jB];rw[xH _ _ hal (by omega)];rfl
 ·rintro f k ⟨a1,a2,a3⟩ hk ⟨p,g,h1,h2,hg,hp,h3⟩ ih
  simp only at h1 h2 h3;subst h1;subst h2;have hal:=sd l[k];have hdrop:j4 ((l.drop k).map lay)=(lay l[k]).1+7+j4 ((l.drop (k+1)).map lay):=by rw[dX hk];rfl
  have hup:=qd (a:=p) hal;have ah9:=hal.le
  show M.nP rec l (f+1) _ _ (k:Int) _=_
  rw[M.nP];simp only[cO,hk,cr,aA,cN,getD_lt hk,aa.aO,hr _ (bC hk),aS,aU,cB,aP,bI,Vq,xH p _ hal (by omega),bQ,dm];have d:decide (a3.length+(0+1)<=1073741824)=true:=aY (by omega);rw[d,aA,wrap_i64 (n:=((cY p (lay l[k]).2:Nat):Int)+_) (by omega) (by omega),cm hk (by omega:l.length<2^62)];have:=ih (((cY p (lay l[k]).2:Nat):Int)+((lay l[k]).1:Int),((max g (lay l[k]).2:Nat):Int),a3++[((cY p (lay l[k]).2:Nat):Int)])
   ⟨cY p (lay l[k]).2+(lay l[k]).1,max g (lay l[k]).2,by simp,rfl,I3 hg hal,by omega,by rw[cL];simp;omega⟩
  refine Eq.trans this ?_;have e1:(((cY p (lay l[k]).2:Nat):Int)+((lay l[k]).1:Int)).toNat=cY p (lay l[k]).2+(lay l[k]).1:=by omega
  simp only[e1,cN,fb,cE,iw,List.singleton_append]
 ·rintro f ⟨a1,a2,a3⟩ ⟨p,g,h1,h2,hg,hp,h3⟩
  simp only at h1 h2;subst h1;subst h2
  show M.nP rec l (f+1) _ _ (l.length:Int) _=_
  rw[M.nP];simp[cE]
theorem Vs(hr:∀x∈l,rec x=some (((lay x).1:Int),((lay x).2:Int)))(hl:l.length<=1048576):
 M.rB rec l=some (((du 0 1 (l.map lay)).1:Int),((du 0 1 (l.map lay)).2:Int)):=by
 have e:=j5 (F:=fun f i (a:Int×Int)=>M.nQ rec l f a.1 a.2 i) l (by omega)
  (fun r a=>some ((((du a.1.toNat a.2.toNat (r.map lay)).1:Nat):Int),(((du a.1.toNat a.2.toNat (r.map lay)).2:Nat):Int)))
  (fun k a=>∃p g:Nat,a.1=(p:Int)/\a.2=(g:Int)) ?_ ?_ (0,1) ⟨0,1,rfl,rfl⟩
 ·have e':M.nQ rec l ah 0 1 0=_:=e;unfold M.rB;rw[e'];rfl
 ·rintro f k ⟨a1,a2⟩ hk ⟨p,g,h1,h2⟩ ih
  simp only at h1 h2;subst h1;subst h2
  show M.nQ rec l (f+1) _ _ (k:Int)=_
  rw[M.nQ];simp only[cO,hk,cr,aA,cN,getD_lt hk,aa.aO,hr _ (bC hk),aS,aU,cB,aP,bI,Vq];rw[cm hk (by omega:l.length<2^62)];exact ih (((max p (lay l[k]).1:Nat):Int),((max g (lay l[k]).2:Nat):Int)) ⟨_,_,rfl,rfl⟩
 ·rintro f ⟨a1,a2⟩ ⟨p,g,h1,h2⟩
  simp only at h1 h2;subst h1;subst h2
  show M.nQ rec l (f+1) _ _ (l.length:Int)=_
  rw[M.nQ];simp[du]
end
theorem Vt(t:aa)(h:bw t=true)(hk:t.Kind=13\/t.Kind=14\/t.Kind=17):(bB t).map lay=gP t.Kind (t.Kids.map lay):=by
 unfold bB gP;by_cases h13:t.Kind=13
 ·have hp:=sg h h13;rw[av h13,av h13,getD_lt hp,getD_lt (by simpa using hp)];simp only[fb,List.map_nil,List.getElem_map];rfl
 ·rw[ak h13,ak h13]
theorem Ad(t:aa)(h:t.Kids.length<=1048576):(bB t).length<=1048576:=by
 unfold bB;split
 ·simp
 ·exact h
theorem cq{a b:Int}(h:a≠b):(a==b)=false:=by rw[kF];exact h
theorem Vu:∀(m:Nat)(t:aa),t.sz<m->t.sz<=1048576->bw t=true->M.pF m t=some (((lay t).1:Int),((lay t).2:Int))
 |0,t,h,_,_=>absurd h (eB _)
 |m+1,t,h,hN,hs=>by
  have ih:∀x:aa,x.sz<t.sz->bw x=true->M.pF m x=some (((lay x).1:Int),((lay x).2:Int)):=fun x hx hsx=>Vu m x (by omega) (by omega) hsx
  have ihk:∀x∈t.Kids,M.pF m x=some (((lay x).1:Int),((lay x).2:Int)):=fun x hx=>ih x (aa.cZ hx) (fh hs x hx)
  have hkl:=aa.fi hN;have hks:=aa.jk hN
  show M.zr (M.pF m) t=_
  unfold M.zr;rw[qe];unfold Aa;rw[Vp];simp only[aS,aU,aP,gR,bI,aA,se,fE];by_cases h0:0<hQ t.Kind
  ·rw[av h0,aY (by omega:(0:Int)<(hQ t.Kind:Int)),aA]
  ·rw[ak h0,bU (by omega:¬(0:Int)<(hQ t.Kind:Int)),aR];by_cases h1:t.Kind=11\/t.Kind=12
   ·rw[av h1];rcases h1 with h1|h1<;>rw[h1]<;>rfl
   ·rw[ak h1,cq (fun e=>h1 (.inl e)),cq (fun e=>h1 (.inr e)),hU,aR];by_cases h2:t.Kind=18
    ·rw[av h2,h2];rfl
    ·rw[ak h2,cq h2,aR];by_cases h3:t.Kind=19
     ·rw[av h3,h3];by_cases h4:8<t.bp.length
      ·rw[av h4,aY (by omega:(8:Int)<(t.bp.length:Int))];rfl
      ·rw[ak h4,bU (by omega:¬(8:Int)<(t.bp.length:Int))];rfl
     ·rw[ak h3,cq h3,aR];by_cases h4:t.Kind=15\/t.Kind=16
      ·rw[av h4,Vr ihk hkl hks];rcases h4 with h4|h4<;>rw[h4]<;>rfl
      ·rw[ak h4,cq (fun e=>h4 (.inl e)),cq (fun e=>h4 (.inr e)),hU,aR];by_cases h5:t.Kind=13\/t.Kind=14\/t.Kind=17
       ·rw[av h5];have hc:=Vt t hs h5;have hm:=Vs (l:=bB t) (rec:=M.pF m) (fun x hx=>ih x (kG hs h5 x hx) (lD hs h5 x hx)) (Ad t hkl);rw[hc]at hm;have hal:=Ec (gP t.Kind (t.Kids.map lay)) 0 1 (fun x hx=>by rw[<-hc]at hx;exact sf _ x hx) (.inl rfl);have hle:(du 0 1 (gP t.Kind (t.Kids.map lay))).1<=16*1048577:=Ee _ _ _ _ (cU _) fun x hx=>by
         rw[<-hc]at hx;obtain⟨y,hy,rfl⟩:=mO.1 hx;have h6:=kG hs h5 y hy;have:=Ac y;omega
        have hu:=qd (a:=1) hal;have:=hal.le;rw[aa.aO,xI t hs h5,aS,hm];simp only[aS,aU,aP,bI];rw[show(1:Int)=((1:Nat):Int)from rfl,xH 1 _ hal (by omega)];simp only[aS];rw[wrap_i64 (n:=((cY 1 (du 0 1 (gP t.Kind (t.Kids.map lay))).2:Nat):Int)+_) (by omega) (by omega),<-Int.natCast_add,xH _ _ hal (by omega)];generalize du 0 1 (gP t.Kind (t.Kids.map lay))=mm at*;rcases h5 with h5|h5|h5<;>rw[h5]<;>rfl
       ·rw[ak h5,cq (fun e=>h5 (.inl e)),cq (fun e=>h5 (.inr (.inl e))),cq (fun e=>h5 (.inr (.inr e))),hU,hU,aR];rfl
theorem Eh(t:aa)(hN:t.sz<=1048576)(hs:bw t=true):M.je t=some (((lay t).1:Int),((lay t).2:Int)):=Vu ah t (fj hN) hN hs
end M
namespace M
open Go.V (inB bK ah cH)
def si(g:Nat):List (Nat×Nat)->Nat
 |[]=>g
 |(_,a)::r=>si (max g a) r
theorem I6:∀(l:List (Nat×Nat))(a g:Nat),(cE a g l).2.2=si g l
 |[],a,g=>rfl
 |(s,b)::r,a,g=>by simp only[cE,si];exact I6 r _ _
theorem I7:∀(l:List (Nat×Nat))(a g:Nat),(du a g l).2=si g l
 |[],a,g=>rfl
 |(s,b)::r,a,g=>by simp only[du,si];exact I7 r _ _
def xJ(g:Nat):List (Nat×Nat)->Nat
 |[]=>g
 |(s,_)::r=>xJ (max g s) r
theorem Vv:∀(l:List (Nat×Nat))(a g:Nat),(du a g l).1=xJ a l
 |[],a,g=>rfl
 |(s,b)::r,a,g=>by simp only[du,xJ];exact Vv r _ _
theorem Ei{t:aa}(h:bw t=true):t.Kind=1\/0<hQ t.Kind\/t.Kind=11\/t.Kind=12\/t.Kind=13\/t.Kind=14\/t.Kind=15\/t.Kind=16\/t.Kind=17\/t.Kind=18\/t.Kind=19:=by
 have h1:jD t=true:=by rw[oH,aW]at h;exact h.1
 have h2:sj t=true:=by unfold jD at h1;rw[aW]at h1;exact h1.2
 have key:t.Kind=12\/t.Kind=13\/t.Kind=14\/t.Kind=15\/t.Kind=16\/t.Kind=17\/t.Kind=22\/t.Kind=23\/(1<=t.Kind/\t.Kind<=23):=by
  by_cases a1:t.Kind=12\/t.Kind=13
  ·omega
  by_cases a2:t.Kind=14
  ·omega
  by_cases a3:t.Kind=15
  ·omega
  by_cases a4:t.Kind=16
  ·omega
  by_cases a5:t.Kind=17
  ·omega
  by_cases a6:t.Kind=22\/t.Kind=23
  ·omega
  unfold sj at h2;rw[ak a1,ak a2,ak a3,ak a4,ak a5,ak a6]at h2;simp only[aW,bm]at h2;omega
 have num:∀k:Int,(k=2\/k=3\/k=4\/k=5\/k=6\/k=7\/k=8\/k=9\/k=10\/k=20\/k=21\/k=22\/k=23)->0<hQ k:=by
  rintro k (h|h|h|h|h|h|h|h|h|h|h|h|h)<;>subst h<;>decide
 have:t.Kind=1\/(t.Kind=2\/t.Kind=3\/t.Kind=4\/t.Kind=5\/t.Kind=6\/t.Kind=7\/t.Kind=8\/t.Kind=9\/t.Kind=10\/t.Kind=20\/t.Kind=21\/t.Kind=22\/t.Kind=23)\/t.Kind=11\/t.Kind=12\/t.Kind=13\/t.Kind=14\/t.Kind=15\/t.Kind=16\/t.Kind=17\/t.Kind=18\/t.Kind=19:=by omega
 rcases this with h|h|h
 ·exact .inl h
 ·exact .inr (.inl (num _ h))
 ·exact .inr (.inr h)
theorem Vw{t:aa}(h:bw t=true)(hk:t.Kind=19):1<=t.bp.length/\t.bp.length<=16:=by
 have h1:jD t=true:=by rw[oH,aW]at h;exact h.1
 unfold jD at h1;have hb:Ae t=true:=by unfold Ae;rw[hk];decide
 rw[av hb]at h1;unfold oI at h1;simp only[aW,bm]at h1;exact h1.1.1.1
theorem Vx{k:Int}(h:k=1\/k=11\/k=12\/k=13\/k=14\/k=15\/k=16\/k=17\/k=18\/k=19):hQ k=0:=by
 rcases h with h|h|h|h|h|h|h|h|h|h<;>subst h<;>rfl
theorem Vy(k:Int):M.tY k=some (hQ k:Int):=Vp k
theorem Af(a b:Nat)(hb:di b)(ha:a<=1099511627776):M.jx (a:Int) (b:Int)=some ((cY a b:Nat):Int):=xH a b hb ha
theorem Vz{t:aa}(h:bw t=true)(hk:t.Kind=19):M.rG t=some (((if 8<t.bp.length then 2 else 1:Nat)):Int):=by
 obtain⟨h1,h2⟩:=Vw h hk;unfold M.rG;rw[wrap_i64 (n:=(t.bp.length:Int)+7) (by omega) (by omega),show((t.bp.length:Int)+7)=((t.bp.length+7:Nat):Int) by omega,show(8:Int)=((8:Nat):Int)from rfl,<-Int.ofNat_tdiv];have h3:(t.bp.length+7)/8=if 8<t.bp.length then 2 else 1:=by split<;>omega
 rw[h3];split<;>rfl
section
variable {rec :aa->Option Int}{l:List aa}
theorem VA(a b:Nat):(bif decide (a<b)then(b:Int)else(a:Int))=((max a b:Nat):Int):=by
 by_cases h:a<b
 ·rw[aY h,aA,Nat.max_eq_right (by omega)]
 ·rw[bU h,aR,Nat.max_eq_left (by omega)]
theorem Ej(hr:∀x∈l,rec x=some ((lay x).2:Int))(hl:l.length<=1048576):M.k9 rec l=some ((si 1 (l.map lay):Nat):Int):=by
 have e:=j5 (F:=fun f i (a:Int)=>M.nY rec l (l.length:Int) f a i) l (by omega)
  (fun r a=>some ((si a.toNat (r.map lay):Nat):Int)) (fun k a=>∃g:Nat,a=(g:Int)) ?_ ?_ 1 ⟨1,rfl⟩
 ·have e':M.nY rec l (l.length:Int) ah 1 0=_:=e;unfold M.k9;rw[e'];rfl
 ·rintro f k a hk ⟨g,rfl⟩ ih
  show M.nY rec l (l.length:Int) (f+1) _ (k:Int)=_
  rw[M.nY];simp only[cO,hk,cr,aA,cN,getD_lt hk,aa.aO,hr _ (bC hk),aS,aU,cB,aP,bI];rw[cm hk (by omega:l.length<2^62),VA];exact ih _ ⟨_,rfl⟩
 ·rintro f a ⟨g,rfl⟩
  show M.nY rec l (l.length:Int) (f+1) _ (l.length:Int)=_
  rw[M.nY];simp[si]
theorem aia(hr:∀x∈l,rec x=some ((lay x).1:Int))(hl:l.length<=1048576):M.rI rec l=some ((xJ 0 (l.map lay):Nat):Int):=by
 have e:=j5 (F:=fun f i (a:Int)=>M.oe rec l (l.length:Int) f a i) l (by omega)
  (fun r a=>some ((xJ a.toNat (r.map lay):Nat):Int)) (fun k a=>∃g:Nat,a=(g:Int)) ?_ ?_ 0 ⟨0,rfl⟩
 ·have e':M.oe rec l (l.length:Int) ah 0 0=_:=e;unfold M.rI;rw[e'];rfl
 ·rintro f k a hk ⟨g,rfl⟩ ih
  show M.oe rec l (l.length:Int) (f+1) _ (k:Int)=_
  rw[M.oe];simp only[cO,hk,cr,aA,cN,getD_lt hk,aa.aO,hr _ (bC hk),aS,aU,cB,aP,bI];rw[cm hk (by omega:l.length<2^62),VA];exact ih _ ⟨_,rfl⟩
 ·rintro f a ⟨g,rfl⟩
  show M.oe rec l (l.length:Int) (f+1) _ (l.length:Int)=_
  rw[M.oe];simp[xJ]
end
theorem Ek{t:aa}(h:0<hQ t.Kind):lay t=(hQ t.Kind,hQ t.Kind):=by rw[qe];unfold Aa;rw[av h]
theorem Ag{t:aa}(h:t.Kind=1):lay t=(0,1):=by rw[qe,h];rfl
theorem Ah{t:aa}(h:t.Kind=11\/t.Kind=12):lay t=(8,4):=by rw[qe];rcases h with h|h<;>rw[h]<;>rfl
theorem Em{t:aa}(h:t.Kind=18):lay t=(1,1):=by rw[qe,h];rfl
theorem En{t:aa}(h:t.Kind=19):lay t=(if 8<t.bp.length then(2,2)else(1,1)):=by rw[qe,h];rfl
theorem Ai{t:aa}(h:t.Kind=15\/t.Kind=16):lay t=(cY (cE 0 1 (t.Kids.map lay)).2.1 (cE 0 1 (t.Kids.map lay)).2.2,(cE 0 1 (t.Kids.map lay)).2.2):=by rw[qe];rcases h with h|h<;>rw[h]<;>rfl
theorem I8{t:aa}(hs:bw t=true)(h:t.Kind=13\/t.Kind=14\/t.Kind=17):lay t=(cY (cY 1 (du 0 1 ((bB t).map lay)).2+(du 0 1 ((bB t).map lay)).1) (du 0 1 ((bB t).map lay)).2,(du 0 1 ((bB t).map lay)).2):=by
 rw[Vt t hs h,qe];rcases h with h|h|h<;>rw[h]<;>rfl
theorem VB:∀(m:Nat)(t:aa),t.sz<m->t.sz<=1048576->bw t=true->M.pG m t=some ((lay t).2:Int)
 |0,t,h,_,_=>absurd h (eB _)
 |m+1,t,h,hN,hs=>by
  have ih:∀x:aa,x.sz<t.sz->bw x=true->M.pG m x=some ((lay x).2:Int):=fun x hx hsx=>VB m x (by omega) (by omega) hsx
  have hkl:=aa.fi hN
  show M.zC (M.pG m) t=_
  unfold M.zC;simp only[se];have cs:∀hk:t.Kind=13\/t.Kind=14\/t.Kind=17,M.k9 (M.pG m) (bB t)=some ((lay t).2:Int):=fun hk=>by
   rw[Ej (l:=bB t) (fun x hx=>ih x (kG hs hk x hx) (lD hs hk x hx)) (Ad t hkl),I8 hs hk,I7]
  have ks:∀hk:t.Kind=15\/t.Kind=16,M.k9 (M.pG m) t.Kids=some ((lay t).2:Int):=fun hk=>by
   rw[Ej (l:=t.Kids) (fun x hx=>ih x (aa.cZ hx) (fh hs x hx)) hkl,Ai hk,I6]
  rcases Ei hs with k|k|k|k|k|k|k|k|k|k|k
  ·rw[Ag k,k];rfl
  ·have hn:=Vx (k:=t.Kind);have n:∀c:Int,c=1\/c=11\/c=12\/c=13\/c=14\/c=15\/c=16\/c=17\/c=18\/c=19->(t.Kind==c)=false:=fun c hc=>cq fun e=>by rw[<-e]at hc;have:=hn hc;omega
   rw[n 1 (by omega),n 18 (by omega),n 11 (by omega),n 12 (by omega),n 19 (by omega),n 15 (by omega),n 16 (by omega),n 13 (by omega),n 14 (by omega),n 17 (by omega),Vy,Ek k];rfl
  ·rw[Ah (.inl k),k];rfl
  ·rw[Ah (.inr k),k];rfl
  ·have:=cs (.inl k);rw[aa.aO,xK t hs (.inl k),aS,this,k];rfl
  ·have:=cs (.inr (.inl k));rw[aa.aO,xK t hs (.inr (.inl k)),aS,this,k];rfl
  ·rw[ks (.inl k),k];rfl
  ·rw[ks (.inr k),k];rfl
  ·have:=cs (.inr (.inr k));rw[aa.aO,xK t hs (.inr (.inr k)),aS,this,k];rfl
  ·rw[Em k,k];rfl
  ·rw[aa.aO,Vz hs k,En k,k];split<;>rfl
theorem Aj(t:aa)(hN:t.sz<=1048576)(hs:bw t=true):M.im t=some ((lay t).2:Int):=VB ah t (fj hN) hN hs
def jl(t:aa):Nat:=cY 1 (du 0 1 ((bB t).map lay)).2
theorem Eo(l:List aa):di (du 0 1 (l.map lay)).2:=Ec _ 0 1 (sf l) (.inl rfl)
theorem VC(t:aa)(hN:t.sz<=1048576)(hs:bw t=true)(hk:t.Kind=13\/t.Kind=14\/t.Kind=17):M.pH t=some ((jl t:Nat):Int):=by
 unfold M.pH jl;have hkl:=aa.fi hN;rw[aa.aO,xK t hs hk];simp only[aS,aU,aP];rw[Ej (l:=bB t) (fun x hx=>Aj x (by have:=kG hs hk x hx;omega) (lD hs hk x hx)) (Ad t hkl),<-I7 _ 0 1];simp only[aS,aU,aP];rw[show(1:Int)=((1:Nat):Int)from rfl,Af 1 _ (Eo _) (by omega)];rfl
section
variable {rec :aa->Option Int}{l:List aa}
theorem VD(hr:∀x∈l,rec x=some ((lay x).1:Int))(ha:∀x∈l,M.im x=some ((lay x).2:Int))(hl:l.length<=1048576)(hs:aZ aa.sz l<=1048576):
 M.rH rec l=some ((cE 0 1 (l.map lay)).1,((cE 0 1 (l.map lay)).2.1:Int)):=by
 have e:=j5 (F:=fun f i (a:Int×List Int)=>M.od rec l (l.length:Int) f a.1 i a.2) l (by omega)
  (fun r a=>some ((((cE a.1.toNat 1 (r.map lay)).2.1:Nat):Int),a.2++(cE a.1.toNat 1 (r.map lay)).1))
  (fun k a=>∃p:Nat,a.1=(p:Int)/\p+j4 ((l.drop k).map lay)<=16*aZ aa.sz l/\a.2.length<=k) ?_ ?_ (0,[]) ⟨0,rfl,by have:=Eg l;simpa using this,bj _⟩
 ·have e':M.od rec l (l.length:Int) ah 0 0 []=_:=e;unfold M.rH;rw[e'];rfl
 ·rintro f k ⟨a1,a2⟩ hk ⟨p,h1,hp,h3⟩ ih
  simp only at h1 h3;subst h1;have hal:=sd l[k];have hdrop:j4 ((l.drop k).map lay)=(lay l[k]).1+7+j4 ((l.drop (k+1)).map lay):=by rw[dX hk];rfl
  have hup:=qd (a:=p) hal;have ah9:=hal.le
  show M.od rec l (l.length:Int) (f+1) _ (k:Int) _=_
  rw[M.od];simp only[cO,hk,cr,aA,cN,getD_lt hk,aa.aO,hr _ (bC hk),ha _ (bC hk),aS,aU,cB,aP,bI,Af p _ hal (by omega),bQ,dm];have d:decide (a2.length+(0+1)<=1073741824)=true:=aY (by omega);rw[d,aA,wrap_i64 (n:=((cY p (lay l[k]).2:Nat):Int)+_) (by omega) (by omega),cm hk (by omega:l.length<2^62)];have:=ih (((cY p (lay l[k]).2:Nat):Int)+((lay l[k]).1:Int),a2++[((cY p (lay l[k]).2:Nat):Int)])
   ⟨cY p (lay l[k]).2+(lay l[k]).1,by simp,by omega,by rw[cL];simp;omega⟩
  refine Eq.trans this ?_;have e1:(((cY p (lay l[k]).2:Nat):Int)+((lay l[k]).1:Int)).toNat=cY p (lay l[k]).2+(lay l[k]).1:=by omega
  have e2:∀(r:List (Nat×Nat))(a g g':Nat),(cE a g r).1=(cE a g' r).1/\(cE a g r).2.1=(cE a g' r).2.1:=by
   intro r
   induction r with
   |nil=>intro a g g';exact⟨rfl,rfl⟩
   |cons x r ih=>intro a g g';simp only[cE];exact⟨by rw[(ih _ (max g x.2) (max g' x.2)).1],(ih _ _ _).2⟩
  simp only[e1,cN,fb,cE,iw,List.singleton_append];rw[(e2 _ _ (max 1 (lay l[k]).2) 1).1,(e2 _ _ (max 1 (lay l[k]).2) 1).2]
 ·rintro f ⟨a1,a2⟩ ⟨p,h1,hp,h3⟩
  simp only at h1;subst h1
  show M.od rec l (l.length:Int) (f+1) _ (l.length:Int) _=_
  rw[M.od];simp[cE]
theorem aib(hr:∀x∈l,rec x=some ((lay x).1:Int))(ha:∀x∈l,M.im x=some ((lay x).2:Int))(hl:l.length<=1048576)(hs:aZ aa.sz l<=1048576):
 M.ua rec l=some ((cY (cE 0 1 (l.map lay)).2.1 (cE 0 1 (l.map lay)).2.2:Nat):Int):=by
 unfold M.ua;rw[VD hr ha hl hs,Ej ha hl,<-I6 _ 0 1];have hal:=Ab (l.map lay) 0 1 (sf l) (.inl rfl);have hle:=Ef (l.map lay) 0 1 (sf l);have hsp:=Eg l;simp only[aS,aU,aP];rw[Af _ _ hal (by omega)];rfl
end
theorem VE:∀(m:Nat)(t:aa),t.sz<m->t.sz<=1048576->bw t=true->M.oh m t=some ((lay t).1:Int)
 |0,t,h,_,_=>absurd h (eB _)
 |m+1,t,h,hN,hs=>by
  have ih:∀x:aa,x.sz<t.sz->bw x=true->M.oh m x=some ((lay x).1:Int):=fun x hx hsx=>VE m x (by omega) (by omega) hsx
  have hkl:=aa.fi hN;have hks:=aa.jk hN
  show M.zE (M.oh m) t=_
  unfold M.zE;simp only[se];have ks:∀hk:t.Kind=15\/t.Kind=16,M.ua (M.oh m) t.Kids=some ((lay t).1:Int):=fun hk=>by
   rw[aib (l:=t.Kids) (fun x hx=>ih x (aa.cZ hx) (fh hs x hx)) (fun x hx=>Aj x (by have:=aa.cZ hx;omega) (fh hs x hx)) hkl hks,Ai hk]
  have cs:∀hk:t.Kind=13\/t.Kind=14\/t.Kind=17,M.rI (M.oh m) (bB t)=some ((du 0 1 ((bB t).map lay)).1:Int)/\M.jx (Go.IntKind.wrap .i64 ((jl t:Int)+((du 0 1 ((bB t).map lay)).1:Int))) ((lay t).2:Int)=some ((lay t).1:Int):=fun hk=>by
   have hal:=Eo (bB t);have hle:(du 0 1 ((bB t).map lay)).1<=16*1048577:=Ee _ _ _ _ (cU _) fun x hx=>by
    obtain⟨y,hy,rfl⟩:=mO.1 hx;have h6:=kG hs hk y hy;have:=Ac y;omega
   have hu:=qd (a:=1) hal;have:=hal.le;refine⟨by rw[aia (l:=bB t) (fun x hx=>ih x (kG hs hk x hx) (lD hs hk x hx)) (Ad t hkl),Vv],?_⟩;unfold jl;rw[I8 hs hk,wrap_i64 (by omega) (by omega),<-Int.natCast_add,Af _ _ hal (by omega)]
  have fin:∀hk:t.Kind=13\/t.Kind=14\/t.Kind=17,(let q0:=(M.pH (M.aa.re t))
           let q1:=(M.lY (M.aa.re t))
           let q2:=(M.rI (M.oh m) (Option.getD q1 Inhabited.default))
           let q3:=(M.im (M.aa.re t))
           let q4:=(M.jx (Go.IntKind.wrap Go.IntKind.i64 ((Option.getD q0 Inhabited.default)+(Option.getD q2 Inhabited.default))) (Option.getD q3 Inhabited.default))
           bif((Option.isSome q4)&&((Option.isSome q3)&&((Option.isSome q2)&&((Option.isSome q1)&&((Option.isSome q0)&&true)))))then
            some (Option.getD q4 Inhabited.default)
           else
            none)=some ((lay t).1:Int):=fun hk=>by
   obtain⟨c1,c2⟩:=cs hk;rw[aa.aO,VC t hN hs hk,xK t hs hk,Aj t hN hs];simp only[aS,aU,aP];rw[c1];simp only[aS,aU,aP];rw[c2];rfl
  rcases Ei hs with k|k|k|k|k|k|k|k|k|k|k
  ·rw[Ag k,k];rfl
  ·have hn:=Vx (k:=t.Kind);have n:∀c:Int,c=1\/c=11\/c=12\/c=13\/c=14\/c=15\/c=16\/c=17\/c=18\/c=19->(t.Kind==c)=false:=fun c hc=>cq fun e=>by rw[<-e]at hc;have:=hn hc;omega
   rw[n 1 (by omega),n 18 (by omega),n 11 (by omega),n 12 (by omega),n 19 (by omega),n 15 (by omega),n 16 (by omega),n 13 (by omega),n 14 (by omega),n 17 (by omega),Vy,Ek k];rfl
  ·rw[Ah (.inl k),k];rfl
  ·rw[Ah (.inr k),k];rfl
  ·have:=fin (.inl k);rw[k];exact this
  ·have:=fin (.inr (.inl k));rw[k];exact this
  ·rw[ks (.inl k),k];rfl
  ·rw[ks (.inr k),k];rfl
  ·have:=fin (.inr (.inr k));rw[k];exact this
  ·rw[Em k,k];rfl
  ·rw[aa.aO,Vz hs k,En k,k];split<;>rfl
theorem Ak(t:aa)(hN:t.sz<=1048576)(hs:bw t=true):M.kq t=some ((lay t).1:Int):=VE ah t (fj hN) hN hs
end M
namespace M
open Go.V (inB bK ah cH)
def chainB(e:Int):Int->List af->Bool
 |_,[]=>true
 |last,b::r=>(((decide (1<=b.Size)&&decide (last<b.At))&&decide (b.At<=e))&&decide (b.Size<=e-b.At))&&chainB e (b.At+b.Size) r
def Chain(e:Int)(last:Int)(l:List af):Prop:=chainB e last l=true
theorem mW{e last:Int}{b:af}{r:List af}:Chain e last (b::r)↔(1<=b.Size/\last<b.At/\b.At+b.Size<=e)/\Chain e (b.At+b.Size) r:=by
 unfold Chain;simp only[chainB,aW,bm];constructor
 ·rintro ⟨⟨⟨⟨h1,h2⟩,h3⟩,h4⟩,h5⟩;exact⟨⟨h1,h2,by omega⟩,h5⟩
 ·rintro ⟨⟨h1,h2,h3⟩,h5⟩;exact⟨⟨⟨⟨h1,h2⟩,by omega⟩,by omega⟩,h5⟩
theorem Chain.nil{e last:Int}:Chain e last []:=rfl
theorem Chain.low{e last last':Int}{l:List af}(h:Chain e last l)(hl:last'<=last):Chain e last' l:=by
 cases l with
 |nil=>rfl
 |cons b r=>rw[mW]at*;exact⟨⟨h.1.1,by omega,h.1.2.2⟩,h.2⟩
theorem Chain.len:∀{l:List af}{e last:Int},Chain e last l->last<=e->(l.length:Int)<=e-last
 |[],e,last,_,h=>by simp;omega
 |b::r,e,last,h,hl=>by
  rw[mW]at h;have:=Chain.len h.2 h.1.2.2;simp only[bQ];omega
theorem Chain.mem:∀{l:List af}{e last:Int},Chain e last l->∀b∈l,last<b.At/\1<=b.Size/\b.At+b.Size<=e
 |b::r,e,last,h,x,hx=>by
  rw[mW]at h;rcases dW.1 hx with rfl|hx
  ·exact⟨h.1.2.1,h.1.1,h.1.2.2⟩
  ·have:=Chain.mem h.2 x hx;exact⟨by omega,this.2⟩
def Am(b:af)(a many:Int):List af:=
 (if b.At<a then[af.mk b.At (a-b.At)]else[])++(if a+many<b.At+b.Size then[af.mk (a+many) (b.At+b.Size-(a+many))]else[])
def dF(b:af)(al:Nat):Int:=((cY b.At.toNat al:Nat):Int)
def kH(many al:Nat):List af->Option (Int×List af)
 |[]=>none
 |b::r=>if dF b al+many<=b.At+b.Size then some (dF b al,Am b (dF b al) many++r)
  else(kH many al r).map fun p=>(p.1,b::p.2)
theorem I9{b:af}{al:Nat}(ha:di al)(h0:0<=b.At):b.At<=dF b al/\dF b al<b.At+al:=by
 unfold dF;have h1:=xG (a:=b.At.toNat) ha;have h2:=qd (a:=b.At.toNat) ha;omega
theorem aic{e last:Int}{b:af}{r:List af}{a:Int}{many:Nat}(h:Chain e last (b::r))(h1:b.At<=a)(h2:a+many<=b.At+b.Size)(h0:0<many):Chain e last (Am b a many++r):=by
 rw[mW]at h;obtain⟨⟨g1,g2,g3⟩,g4⟩:=h;unfold Am;by_cases c1:b.At<a
 ·rw[av c1];by_cases c2:a+many<b.At+b.Size
  ·rw[av c2,iw,List.singleton_append,List.singleton_append,mW,mW];simp only;exact⟨⟨by omega,g2,by omega⟩,⟨by omega,by omega,by omega⟩,g4.low (by omega)⟩
  ·rw[ak c2,ma,List.singleton_append,mW];simp only;exact⟨⟨by omega,g2,by omega⟩,g4.low (by omega)⟩
 ·rw[ak c1,jB];by_cases c2:a+many<b.At+b.Size
  ·rw[av c2,List.singleton_append,mW];simp only;exact⟨⟨by omega,by omega,by omega⟩,g4.low (by omega)⟩
  ·rw[ak c2,jB];exact g4.low (by omega)
theorem VF{many al:Nat}(h0:0<many)(ha:di al):∀{l:List af}{e last:Int}{a:Int}{l':List af},Chain e last l->0<=last->kH many al l=some (a,l')->Chain e last l'/\last<a/\a+many<=e
 |b::r,e,last,a,l',h,hl,hr=>by
  have hc:=mW.1 h;have hp:=I9 (b:=b) ha (by omega);unfold kH at hr;split at hr
  ·rename_i hle;simp only[ar,aE]at hr;obtain⟨rfl,rfl⟩:=hr;exact⟨aic h hp.1 hle h0,by omega,by omega⟩
  ·rw[dR]at hr;obtain⟨p,h1,h2⟩:=hr;simp only[aE]at h2;obtain⟨rfl,rfl⟩:=h2;obtain⟨g1,g2,g3⟩:=VF (l:=r) h0 ha hc.2 (by omega) h1;exact⟨mW.2 ⟨hc.1,g1⟩,by omega,g3⟩
def fy(many al:Nat)(l:List af):Option (Int×List af):=if many=0 then some (0,l)else kH many al l
theorem aid{many al:Nat}(ha:di al){l:List af}{e:Int}{a:Int}{l':List af}(h:Chain e 7 l)(he:0<=e)(hr:fy many al l=some (a,l')):Chain e 7 l'/\0<=a/\a+many<=e:=by
 unfold fy at hr;split at hr
 ·rename_i h0;simp only[ar,aE]at hr;obtain⟨rfl,rfl⟩:=hr;exact⟨h,Int.le_refl _,by omega⟩
 ·obtain⟨g1,g2,g3⟩:=VF (by omega) ha h (by omega) hr;exact⟨g1,by omega,g3⟩
def eM(a:Int)(bs B:List UInt8):List UInt8:=if 0<=a/\a+bs.length<=B.length then B.take a.toNat++bs++B.drop (a.toNat+bs.length)else B
theorem VG(a:Int)(bs B:List UInt8):(eM a bs B).length=B.length:=by
 unfold eM;split
 ·simp;omega
 ·rfl
theorem VH(a:Int)(B:List UInt8):eM a [] B=B:=by
 unfold eM;split<;>simp
theorem aie(a:Int)(x y B:List UInt8)(h0:0<=a)(h:a+(x.length+y.length)<=B.length):eM (a+x.length) y (eM a x B)=eM a (x++y) B:=by
 obtain⟨n,rfl⟩:=kD h0;have hx:eM (n:Int) x B=B.take n++x++B.drop (n+x.length):=by
  unfold eM;rw[av ⟨h0,by omega⟩,cN]
 rw[hx];have hlx:(B.take n++x++B.drop (n+x.length)).length=B.length:=by simp;omega
 unfold eM;rw[av ⟨by omega,by rw[hlx];omega⟩,av ⟨h0,by rw[cL];omega⟩];have e1:((n:Int)+x.length).toNat=n+x.length:=by omega
 rw[e1,cN];have hl:(B.take n++x).length=n+x.length:=by simp;omega
 rw[qf (by rw[hl];exact bj _),uI (by rw[hl];exact bj _)];rw[show n+x.length+y.length=(B.take n++x).length+y.length by rw[hl],<-uG,List.drop_left,uG];simp[gJ]
def fixF(n:Int):Nat->List UInt8
 |0=>[]
 |k+1=>Go.V.eu (Go.IntKind.wrap .u8 n)::fixF (Go.V.fX .i64 n 8) k
theorem hZ(n:Int):∀k,(fixF n k).length=k:=by
 intro k
 induction k generalizing n with
 |zero=>rfl
 |succ k ih=>simp[fixF,ih]
end M
