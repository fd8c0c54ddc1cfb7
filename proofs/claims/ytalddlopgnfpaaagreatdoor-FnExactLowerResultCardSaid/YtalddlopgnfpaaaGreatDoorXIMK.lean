/-
  RUNNING NUMBERS in plain Lean: a list whose elements are marked one behind the other.
-/
import Derived.Test.YtalddlopgnfpaaaGreatDoorXIplA
import Derived.Test.YtalddlopgnfpaaaGreatDoorXIGM
import Derived.Test.YtalddlopgnfpaaaGreatDoorXIGH
set_option linter.unusedVariables false
namespace M
open Go.V (inB bK ah cH)
def bk{α:Type}(mk:Int->α->Int×α):Int->List α->Int×List α
 |k,[]=>(k,[])
 |k,x::r=>((bk mk (mk k x).1 r).1,(mk k x).2::(bk mk (mk k x).1 r).2)
theorem sn{α:Type}(mk:Int->α->Int×α):∀(k:Int)(l:List α),(bk mk k l).2.length=l.length
 |k,[]=>rfl
 |k,x::r=>by simp[bk,sn mk _ r]
theorem Js{α:Type}{l:List α}{i:Nat}(h:i<l.length)(x d:α):(l.set i x).getD i d=x:=by
 rw[cK,List.getElem?_set_self h];rfl
theorem As{α:Type}{F:Nat->Int->Int->List α->Option (Int×List α)}{mk:Int->α->Int×α}(a:List α)(ha:a.length<=1048576)(I:Nat->Int->Prop)(d:α)
 (step:∀f k i (l:List α),∀h:i<a.length,i<l.length->l.getD i d=a[i]->I i k->F (f+1) k (i:Int) l=F f (mk k a[i]).1 ((i+1:Nat):Int) (l.set i (mk k a[i]).2)/\I (i+1) (mk k a[i]).1)
 (stop:∀f k (l:List α),l.length=a.length->F (f+1) k (a.length:Int) l=some (k,l)) (k0:Int) (h0:I 0 k0):F ah k0 0 a=some (bk mk k0 a):=by
 have key:∀f i k (l:List α),i<=a.length->a.length-i<f->l.length=a.length->(∀j,i<=j->l[j]?=a[j]?)->I i k->F f k (i:Int) l=some ((bk mk k (a.drop i)).1,l.take i++(bk mk k (a.drop i)).2):=by
  intro f
  induction f with
  |zero=>intro i k l h1 h2;omega
  |succ f ih=>
   intro i k l h1 h2 hl hj hI;rcases cQ i a.length with hi|hi
   ·have hg:l.getD i d=a[i]:=by rw[cK,hj i (bj _),bY hi];rfl
    obtain⟨e,hI'⟩:=step f k i l hi (by omega) hg hI;rw[e,ih (i+1) _ _ (by omega) (by omega) (by simpa using hl) (fun j hj'=>by rw[gp,ak (by omega)];exact hj j (by omega)) hI',dX hi];simp only[bk];congr 2;rw[Jt,List.getElem?_set_self (by omega),List.take_set_of_le (bj _)];simp
   ·have:i=a.length:=by omega
    subst this;rw[stop f k l hl,gU,<-hl,uJ];simp[bk]
 have:=key ah 0 k0 a (cU _) (by have:=cH;omega) rfl (fun _ _=>rfl) h0;simpa using this
theorem Wg{α E:Type}{F:Nat->Int->Int->Option (Int⊕E)}{mk:Int->α->Int×α}{fin:Int->E}(a:List α)(ha:a.length<=1048576)(I:Nat->Int->Prop)(d:α)(k0:Int)(h0:I 0 k0)
 (step:∀f k i (y:α),∀h:i<a.length,((bk mk k0 a).2).getD i d=y->y=(mk k a[i]).2->I i k->F (f+1) k (i:Int)=F f (mk k a[i]).1 ((i+1:Nat):Int)/\I (i+1) (mk k a[i]).1)
 (stop:∀f k,F (f+1) k (a.length:Int)=some (.inr (fin k))):F ah k0 0=some (.inr (fin (bk mk k0 a).1)):=by
 have key:∀f i k,i<=a.length->a.length-i<f->(bk mk k0 a).2.drop i=(bk mk k (a.drop i)).2->(bk mk k0 a).1=(bk mk k (a.drop i)).1->I i k->F f k (i:Int)=some (.inr (fin (bk mk k (a.drop i)).1)):=by
  intro f
  induction f with
  |zero=>intro i k h1 h2;omega
  |succ f ih=>
   intro i k h1 h2 hd hk hI;rcases cQ i a.length with hi|hi
   ·have hlen:=sn mk k0 a;have hi':i<(bk mk k0 a).2.length:=by omega
    have hd':=hd;rw[dX hi,bk,dX hi']at hd;have hg:((bk mk k0 a).2).getD i d=(mk k a[i]).2:=by
     rw[getD_lt hi'];exact(List.cons.inj hd).1
    obtain⟨e,hI'⟩:=step f k i _ hi rfl hg hI;rw[e,ih (i+1) _ (by omega) (by omega) (List.cons.inj hd).2 (by rw[hk,dX hi,bk]) hI',dX hi,bk]
   ·have:i=a.length:=by omega
    subst this;rw[stop,gU];rfl
 have:=key ah 0 k0 (cU _) (by have:=cH;omega) rfl rfl h0;simpa using this
end M
set_option linter.unusedSimpArgs false
namespace M
open Go.V (inB bK ah cH)
theorem aiY{n:Nat}(h:n<10):Go.IntKind.wrap .u8 (Go.IntKind.wrap .i64 ((48:Int)+(n:Int)))=((48+n:Nat):Int):=by
 rw[wrap_i64 (by omega) (by omega)];have:∀m:Fin 10,Go.IntKind.wrap .u8 ((48:Int)+((m.val:Nat):Int))=((48+m.val:Nat):Int):=by decide
 exact this ⟨n,h⟩
theorem aiZ{n:Nat}(h:n<10):Go.V.fB ((48+n:Nat):Int)=true:=by
 unfold Go.V.fB;simp only[aW,bm];omega
theorem Wh{a b:List UInt8}(h:a.length+b.length<=100000):Go.V.eA a b=true:=by
 unfold Go.V.eA;rw[bm];omega
theorem Wi:∀(j f k:Nat)(out:List UInt8),k<10^j->j<f->k<4611686018427387904->out.length+j<=1000->∃s,M.tJ f (k:Int) out=some s/\s.length<=out.length+j
 |j,0,k,out,_,h,_,_=>by omega
 |0,f+1,k,out,h1,h2,h3,h4=>by
  have:k=0:=by simpa using h1
  subst this;exact⟨out,by rw[M.tJ];simp,bj _⟩
 |j+1,f+1,k,out,h1,h2,h3,h4=>by
  rw[M.tJ];rcases jj k with h0|h0
  ·subst h0;exact⟨out,by simp,by omega⟩
  ·have hd:decide ((0:Int)<(k:Int))=true:=by rw[bm];omega
   have e3:Int.tmod (k:Int) 10=((k%10:Nat):Int):=(Int.ofNat_tmod k 10).symm;have e4:Go.IntKind.wrap .i64 (Int.tdiv (k:Int) 10)=((k/10:Nat):Int):=by
    rw[show Int.tdiv (k:Int) 10=((k/10:Nat):Int)from(Int.ofNat_tdiv k 10).symm,wrap_i64 (by omega) (by omega)]
   have hm:k%10<10:=Nat.mod_lt _ (by decide);obtain⟨s,g1,g2⟩:=Wi j f (k/10) ([Go.V.eu ((48+k%10:Nat):Int)]++out) (by rw[Nat.pow_succ]at h1;omega) (by omega) (by omega) (by simp;omega);refine⟨s,?_,by simp at g2;omega⟩;simp only[hd,e3,e4,aiY hm,aiZ hm,aA,fb,List.map_nil];rw[Wh (by simp;omega)];exact g1
theorem ai0(k:Int)(h0:0<=k)(h1:k<=1000000000000):∃s,M.lW k=some s:=by
 obtain⟨n,rfl⟩:=kD h0;unfold M.lW;by_cases hz:(n:Int)<=0
 ·rw[aY hz];exact⟨_,rfl⟩
 ·rw[bU hz];obtain⟨s,e,hl⟩:=Wi 13 ah n [] (by omega) (by have:=cH;omega) (by omega) (by simp);rw[e];simp only[aR];rw[Wh (by simp at hl⊢;omega)];exact⟨_,rfl⟩
noncomputable def mT(k:Int):List UInt8:=(M.lW k).getD Inhabited.default
theorem Ju{k:Int}(h0:0<=k)(h1:k<=1000000000000):M.lW k=some (mT k):=by
 obtain⟨s,e⟩:=ai0 k h0 h1;unfold mT;rw[e];rfl
noncomputable def mS(k:Int)(_:List UInt8):Int×List UInt8:=(k+1,mT k)
theorem EI(l:List (List UInt8))(k:Int):k<=(bk mS k l).1/\(bk mS k l).1=k+(l.length:Int):=by
 induction l generalizing k with
 |nil=>simp[bk]
 |cons x r ih=>have:=ih (k+1);simp only[bk,mS,bQ]at*;omega
theorem Wj(a:List (List UInt8))(ha:a.length<=1048576)(k:Int)(h0:0<=k)(h1:k<=100000000000):M.ry k a=some (bk mS k a):=by
 unfold M.ry;rw[As (F:=M.tK) (mk:=mS) a ha (fun i q=>q=k+(i:Int)) [] (fun f q i l hi hl hg hI=>by
  subst hI;rw[M.tK];have hmt:=Ju (k:=k+(i:Int)) (by omega) (by omega);have hlt:decide ((i:Int)<((l.length:Nat):Int))=true:=by rw[bm];omega
  have hin:inB (i:Int) l.length=true:=by rw[cB];simpa using hl
  simp only[hlt,hin,hmt,cN,aA,bI,aP,aU,aS,cm hi (gC ha)];have hw:Go.IntKind.wrap .i64 (k+(i:Int)+1)=k+(i:Int)+1:=wrap_i64 (by omega) (by omega);rw[hw];exact⟨rfl,by simp[mS];omega⟩) (fun f q l hl=>by rw[M.tK];simp[hl]) k (by simp)]
end M
namespace M
open Go.V (inB bK ah cH)
theorem aa.p1(a b c d):(aa.mk a b c d).Kind=a:=rfl
theorem aa.p2(a b c d):(aa.mk a b c d).Name=b:=rfl
theorem aa.p3(a b c d):(aa.mk a b c d).bp=c:=rfl
theorem aa.p4(a b c d):(aa.mk a b c d).Kids=d:=rfl
theorem ae.p1(a b c d):(ae.mk a b c d).Kind=a:=rfl
theorem ae.p2(a b c d):(ae.mk a b c d).Num=b:=rfl
theorem ae.p3(a b c d):(ae.mk a b c d).Text=c:=rfl
theorem ae.p4(a b c d):(ae.mk a b c d).Kids=d:=rfl
mutual
noncomputable def gq:Int->aa->Int×aa
 |k,.mk _ _ ls ks=>((mZ (bk mS (k+1+1) ls).1 ks).1,.mk k (mT (k+1)) (bk mS (k+1+1) ls).2 (mZ (bk mS (k+1+1) ls).1 ks).2)
noncomputable def mZ:Int->List aa->Int×List aa
 |k,[]=>(k,[])
 |k,x::r=>((mZ (gq k x).1 r).1,(gq k x).2::(mZ (gq k x).1 r).2)
end
theorem Jv:∀(k:Int)(l:List aa),mZ k l=bk gq k l
 |k,[]=>by simp only[mZ,bk]
 |k,x::r=>by simp only[mZ,bk,Jv]
theorem ai1(k:Int)(a:aa):gq k a=((bk gq (bk mS (k+1+1) a.bp).1 a.Kids).1,.mk k (mT (k+1)) (bk mS (k+1+1) a.bp).2 (bk gq (bk mS (k+1+1) a.bp).1 a.Kids).2):=by
 cases a;simp only[gq,Jv];rfl
mutual
theorem Wl:∀(x:aa)(k:Int),k<=(gq k x).1/\(gq k x).1<=k+2+2*(x.sz:Int)
 |.mk a b ls ks,k=>by
   have h1:=EI ls (k+1+1);have h2:=Jw ks (bk mS (k+1+1) ls).1;have h3:=fx List.length ls;have h4:=aa.uz ks;simp only[gq,aa.sz];omega
theorem Jw:∀(l:List aa)(k:Int),k<=(mZ k l).1/\(mZ k l).1<=k+2*(aZ aa.sz l:Int)
 |[],k=>by simp[mZ,aZ]
 |x::r,k=>by
  have h1:=Wl x k;have h2:=Jw r (gq k x).1;simp only[mZ,aZ];omega
end
theorem ai2(l:List aa)(k:Int):k<=(bk gq k l).1/\(bk gq k l).1<=k+2*(aZ aa.sz l:Int):=by
 rw[<-Jv];exact Jw l k
theorem Wm:∀(n:Nat)(a:List aa)(k:Int),aZ aa.sz a<n->aZ aa.sz a<=1048576->0<=k->k+2*(aZ aa.sz a:Int)<=100000000000->M.tM n k a=some (bk gq k a)
 |0,a,k,h,_,_,_=>by omega
 |n+1,a,k,h,hz,h0,h1=>by
  have hlen:=fx aa.sz a
  show M.zm (M.tM n) k a=_
  unfold M.zm;rw[As (F:=M.tL (M.tM n)) (mk:=gq) a (by omega) (fun i q=>0<=q/\q+2*(aZ aa.sz (a.drop i):Int)<=100000000000) aa.zero (fun f q i l hi hl hg hI=>by
   rw[dX hi,aZ]at hI;have hle:=Wl a[i] q;have hmem:=jU aa.sz a a[i] (bC hi);have hpos:=jV aa.sz a a[i] (bC hi);have hs:=aa.dV a[i];have hll:=fx List.length a[i].bp;have hkk:=fx aa.sz a[i].Kids;have hms:=EI a[i].bp (q+1+1);rw[M.tL];have hlt:decide ((i:Int)<((l.length:Nat):Int))=true:=by rw[bm];omega
   have hin:inB (i:Int) l.length=true:=by rw[cB];simpa using hl
   have w1:Go.IntKind.wrap .i64 (q+1)=q+1:=wrap_i64 (by omega) (by omega);have w2:Go.IntKind.wrap .i64 (q+1+1)=q+1+1:=wrap_i64 (by omega) (by omega);have e1:=Ju (k:=q+1) (by omega) (by omega);have e2:=Wj a[i].bp (by omega) (q+1+1) (by omega) (by omega);have e3:=Wm n a[i].Kids (bk mS (q+1+1) a[i].bp).1 (by omega) (by omega) (by omega) (by omega);refine⟨?_,by omega,by omega⟩;simp only[hlt,hin,cN,aA,bI,aP,Js,hl,me,hg,w1,w2,aa.p1,aa.p2,aa.p3,aa.p4,e1,e2,e3,aU,aS,cm hi (gC (show a.length<=1048576 by omega)),List.set_set];rw[ai1]) (fun f q l hl=>by rw[M.tL];simp[hl]) k ⟨h0,by simpa using h1⟩]
theorem ai3(a:List aa)(k:Int)(hz:aZ aa.sz a<=1048576)(h0:0<=k)(h1:k<=1000000000):M.CO k a=some (bk gq k a):=
 Wm _ a k (by have:=cH;omega) hz h0 (by omega)
mutual
noncomputable def iz:Int->ae->Int×ae
 |k,.mk _ _ _ ks=>((m3 (k+1+1+1) ks).1,.mk k (k+1) (mT (k+1+1)) (m3 (k+1+1+1) ks).2)
noncomputable def m3:Int->List ae->Int×List ae
 |k,[]=>(k,[])
 |k,x::r=>((m3 (iz k x).1 r).1,(iz k x).2::(m3 (iz k x).1 r).2)
end
theorem Jy:∀(k:Int)(l:List ae),m3 k l=bk iz k l
 |k,[]=>by simp only[m3,bk]
 |k,x::r=>by simp only[m3,bk,Jy]
theorem ai4(k:Int)(a:ae):iz k a=((bk iz (k+1+1+1) a.Kids).1,.mk k (k+1) (mT (k+1+1)) (bk iz (k+1+1+1) a.Kids).2):=by
 cases a;simp only[iz,Jy];rfl
mutual
theorem Wn:∀(x:ae)(k:Int),k<=(iz k x).1/\(iz k x).1<=k+3+3*(x.sz:Int)
 |.mk a b t ks,k=>by
   have h2:=Jz ks (k+1+1+1);have h4:=ae.uz ks;simp only[iz,ae.sz];omega
theorem Jz:∀(l:List ae)(k:Int),k<=(m3 k l).1/\(m3 k l).1<=k+3*(aZ ae.sz l:Int)
 |[],k=>by simp[m3,aZ]
 |x::r,k=>by
  have h1:=Wn x k;have h2:=Jz r (iz k x).1;simp only[m3,aZ];omega
end
theorem ai5(l:List ae)(k:Int):k<=(bk iz k l).1/\(bk iz k l).1<=k+3*(aZ ae.sz l:Int):=by
 rw[<-Jy];exact Jz l k
theorem Wp:∀(n:Nat)(a:List ae)(k:Int),aZ ae.sz a<n->aZ ae.sz a<=1048576->0<=k->k+3*(aZ ae.sz a:Int)<=100000000000->M.tO n k a=some (bk iz k a)
 |0,a,k,h,_,_,_=>by omega
 |n+1,a,k,h,hz,h0,h1=>by
  have hlen:=fx ae.sz a
  show M.zn (M.tO n) k a=_
  unfold M.zn;rw[As (F:=M.tN (M.tO n)) (mk:=iz) a (by omega) (fun i q=>0<=q/\q+3*(aZ ae.sz (a.drop i):Int)<=100000000000) ae.zero (fun f q i l hi hl hg hI=>by
   rw[dX hi,aZ]at hI;have hle:=Wn a[i] q;have hmem:=jU ae.sz a a[i] (bC hi);have hpos:=jV ae.sz a a[i] (bC hi);have hs:=ae.dV a[i];have hkk:=fx ae.sz a[i].Kids;rw[M.tN];have hlt:decide ((i:Int)<((l.length:Nat):Int))=true:=by rw[bm];omega
   have hin:inB (i:Int) l.length=true:=by rw[cB];simpa using hl
   have w1:Go.IntKind.wrap .i64 (q+1)=q+1:=wrap_i64 (by omega) (by omega);have w2:Go.IntKind.wrap .i64 (q+1+1)=q+1+1:=wrap_i64 (by omega) (by omega);have w3:Go.IntKind.wrap .i64 (q+1+1+1)=q+1+1+1:=wrap_i64 (by omega) (by omega);have e1:=Ju (k:=q+1+1) (by omega) (by omega);have e3:=Wp n a[i].Kids (q+1+1+1) (by omega) (by omega) (by omega) (by omega);refine⟨?_,by omega,by omega⟩;simp only[hlt,hin,cN,aA,bI,aP,Js,hl,me,hg,w1,w2,w3,ae.p1,ae.p2,ae.p3,ae.p4,e1,e3,aU,aS,cm hi (gC (show a.length<=1048576 by omega)),List.set_set];rw[ai4]) (fun f q l hl=>by rw[M.tN];simp[hl]) k ⟨h0,by simpa using h1⟩]
theorem ai6(a:List ae)(k:Int)(hz:aZ ae.sz a<=1048576)(h0:0<=k)(h1:k<=1000000000):M.CQ k a=some (bk iz k a):=
 Wp _ a k (by have:=cH;omega) hz h0 (by omega)
end M
namespace M
open Go.V (inB bK ah cH)
def jE(k:Int)(_:Int):Int×Int:=(k+1,k)
theorem ai7(l:List Int)(k:Int):k<=(bk jE k l).1/\(bk jE k l).1=k+(l.length:Int):=by
 induction l generalizing k with
 |nil=>simp[bk]
 |cons x r ih=>have:=ih (k+1);simp only[bk,jE,bQ]at*;omega
theorem ai8(a:List Int)(ha:a.length<=1048576)(k:Int)(h0:0<=k)(h1:k<=100000000000):M.tc k a=some (bk jE k a):=by
 unfold M.tc;rw[As (F:=M.ta) (mk:=jE) a ha (fun i q=>q=k+(i:Int)) 0 (fun f q i l hi hl hg hI=>by
  rw[M.ta];have hlt:decide ((i:Int)<((l.length:Nat):Int))=true:=by rw[bm];omega
  have hin:inB (i:Int) l.length=true:=by rw[cB];simpa using hl
  have w1:Go.IntKind.wrap .i64 (q+1)=q+1:=wrap_i64 (by omega) (by omega);refine⟨?_,by simp only[jE];omega⟩;simp only[hlt,hin,cN,aA,bI,aP,w1,cm hi (gC ha),jE]) (fun f q l hl=>by rw[M.ta];simp[hl]) k (by simp)]
theorem ai9(a:List Int)(ha:a.length<=1048576)(k:Int)(h0:0<=k)(h1:k<=100000000000):M.vC (bk jE k a).2 k=some (bk jE k a).1:=by
 unfold M.vC;rw[Wg (F:=M.td (bk jE k a).2) (mk:=jE) (fin:=id) a ha (fun i q=>q=k+(i:Int)) 0 k (by simp) (fun f q i y hi e1 e2 hI=>by
  have e3:y=q:=e2;rw[e3]at e1;clear e2 e3;rw[M.td];have hlt:decide ((i:Int)<(((bk jE k a).2.length:Nat):Int))=true:=by rw[bm,sn];omega
  have hin:inB (i:Int) (bk jE k a).2.length=true:=by rw[cB,sn];simpa using hi
  have w1:Go.IntKind.wrap .i64 (q+1)=q+1:=wrap_i64 (by omega) (by omega);refine⟨?_,by simp only[jE];omega⟩;simp only[hlt,hin,e1,jE,cN,aA,aR,bI,aP,cm hi (gC ha),bne_self_eq_false,w1]) (fun f q=>by rw[M.td];simp[sn])]
 rfl
def ek(k:Int)(_:af):Int×af:=(k+1+1,af.mk k (k+1))
theorem JA(l:List af)(k:Int):k<=(bk ek k l).1/\(bk ek k l).1=k+2*(l.length:Int):=by
 induction l generalizing k with
 |nil=>simp[bk]
 |cons x r ih=>have:=ih (k+1+1);simp only[bk,ek,bQ]at*;omega
theorem aja(a:List af)(ha:a.length<=1048576)(k:Int)(h0:0<=k)(h1:k<=100000000000):M.xy k a=some (bk ek k a):=by
 unfold M.xy;rw[As (F:=M.uv) (mk:=ek) a ha (fun i q=>q=k+2*(i:Int)) af.zero (fun f q i l hi hl hg hI=>by
  rw[M.uv];have hlt:decide ((i:Int)<((l.length:Nat):Int))=true:=by rw[bm];omega
  have hin:inB (i:Int) l.length=true:=by rw[cB];simpa using hl
  have w1:Go.IntKind.wrap .i64 (q+1)=q+1:=wrap_i64 (by omega) (by omega);have w2:Go.IntKind.wrap .i64 (q+1+1)=q+1+1:=wrap_i64 (by omega) (by omega);have hgs:∀x:af,(l.set i x).getD i af.zero=x:=fun x=>Js hl x _
  refine⟨?_,by simp only[ek];omega⟩;simp only[hlt,hin,cN,aA,bI,aP,w1,w2,cm hi (gC ha),ek,me,hgs,List.set_set]) (fun f q l hl=>by rw[M.uv];simp[hl]) k (by simp)]
theorem ajb(a:List af)(ha:a.length<=1048576)(k:Int)(h0:0<=k)(h1:k<=100000000000):M.uy (bk ek k a).2 k=some (bk ek k a).1:=by
 unfold M.uy;rw[Wg (F:=M.ux (bk ek k a).2) (mk:=ek) (fin:=id) a ha (fun i q=>q=k+2*(i:Int)) af.zero k (by simp) (fun f q i y hi e1 e2 hI=>by
  have e3:y=af.mk q (q+1):=e2;rw[e3]at e1;clear e2 e3;rw[M.ux];have hlt:decide ((i:Int)<(((bk ek k a).2.length:Nat):Int))=true:=by rw[bm,sn];omega
  have hin:inB (i:Int) (bk ek k a).2.length=true:=by rw[cB,sn];simpa using hi
  have w1:Go.IntKind.wrap .i64 (q+1)=q+1:=wrap_i64 (by omega) (by omega);have w2:Go.IntKind.wrap .i64 (q+1+1)=q+1+1:=wrap_i64 (by omega) (by omega);refine⟨?_,by simp only[ek];omega⟩;simp only[hlt,hin,e1,ek,cN,aA,aR,bI,aP,cm hi (gC ha),bne_self_eq_false,w1,w2]) (fun f q=>by rw[M.ux];simp[sn])]
 rfl
theorem Wq(b:List UInt8)(a:List af)(ha:a.length<=1048576)(k:Int)(h0:0<=k)(h1:k<=100000000000):M.uw b k a=some (bk ek k a):=by
 unfold M.uw;rw[aja a ha k h0 h1];rfl
theorem ajc(b:List UInt8)(a:List af)(ha:a.length<=1048576)(k:Int)(h0:0<=k)(h1:k<=100000000000):M.xz (M.aB.mk b (bk ek k a).2) k=some (bk ek k a).1:=by
 unfold M.xz;have:=JA a k;show(let q0:=M.uy (bk ek k a).2 k;_)=_
 rw[ajb a ha k h0 h1];simp only[aS,aU,aP];rw[bU (by omega:¬(bk ek k a).1<0)];rfl
end M
