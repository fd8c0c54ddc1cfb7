/-
  RUNNING NUMBERS in plain Lean: a list whose elements are marked one behind the other.
-/
import Derived.Test.YtalddlopgnfpaaaGreatDoorXIplA
import Derived.Test.YtalddlopgnfpaaaGreatDoorXIGM
import Derived.Test.YtalddlopgnfpaaaGreatDoorXIGH
set_option linter.unusedVariables false
namespace M
open Go.V (inB bF ai cJ)
def bA{α:Type}(mk:Int->α->Int×α):Int->List α->Int×List α
 |k,[]=>(k,[])
 |k,x::r=>((bA mk (mk k x).1 r).1,(mk k x).2::(bA mk (mk k x).1 r).2)
theorem xX{α:Type}(mk:Int->α->Int×α):∀(k:Int)(l:List α),(bA mk k l).2.length=l.length
 |k,[]=>rfl
 |k,x::r=>by simp[bA,xX mk _ r]
theorem Gm{α:Type}{l:List α}{i:Nat}(h:i<l.length)(x d:α):(l.set i x).getD i d=x:=by
 rw[fR,List.getElem?_set_self h];rfl
theorem Bm{α:Type}{F:Nat->Int->Int->List α->Option (Int×List α)}{mk:Int->α->Int×α}(a:List α)(ha:a.length<=1048576)(I:Nat->Int->Prop)(d:α)
 (step:∀f k i (l:List α),∀h:i<a.length,i<l.length->l.getD i d=a[i]->I i k->F (f+1) k (i:Int) l=F f (mk k a[i]).1 ((i+1:Nat):Int) (l.set i (mk k a[i]).2)/\I (i+1) (mk k a[i]).1)
 (stop:∀f k (l:List α),l.length=a.length->F (f+1) k (a.length:Int) l=some (k,l)) (k0:Int) (h0:I 0 k0):F ai k0 0 a=some (bA mk k0 a):=by
 have key:∀f i k (l:List α),i<=a.length->a.length-i<f->l.length=a.length->(∀j,i<=j->l[j]?=a[j]?)->I i k->F f k (i:Int) l=some ((bA mk k (a.drop i)).1,l.take i++(bA mk k (a.drop i)).2):=by
  intro f
  induction f with
  |zero=>intro i k l h1 h2;omega
  |succ f ih=>
   intro i k l h1 h2 hl hj hI;rcases du i a.length with hi|hi
   ·have hg:l.getD i d=a[i]:=by rw[fR,hj i (bn _),bI hi];rfl
    obtain⟨e,hI'⟩:=step f k i l hi (by omega) hg hI;rw[e,ih (i+1) _ _ (by omega) (by omega) (by simpa using hl) (fun j hj'=>by rw[fC,bH (by omega)];exact hj j (by omega)) hI',fe hi];simp only[bA];congr 2;rw[Gn,List.getElem?_set_self (by omega),List.take_set_of_le (bn _)];simp
   ·have:i=a.length:=by omega
    subst this;rw[stop f k l hl,j9,<-hl,sj];simp[bA]
 have:=key ai 0 k0 a (dM _) (by have:=cJ;omega) rfl (fun _ _=>rfl) h0;simpa using this
theorem ad4{α E:Type}{F:Nat->Int->Int->Option (Int⊕E)}{mk:Int->α->Int×α}{fin:Int->E}(a:List α)(ha:a.length<=1048576)(I:Nat->Int->Prop)(d:α)(k0:Int)(h0:I 0 k0)
 (step:∀f k i (y:α),∀h:i<a.length,((bA mk k0 a).2).getD i d=y->y=(mk k a[i]).2->I i k->F (f+1) k (i:Int)=F f (mk k a[i]).1 ((i+1:Nat):Int)/\I (i+1) (mk k a[i]).1)
 (stop:∀f k,F (f+1) k (a.length:Int)=some (.inr (fin k))):F ai k0 0=some (.inr (fin (bA mk k0 a).1)):=by
 have key:∀f i k,i<=a.length->a.length-i<f->(bA mk k0 a).2.drop i=(bA mk k (a.drop i)).2->(bA mk k0 a).1=(bA mk k (a.drop i)).1->I i k->F f k (i:Int)=some (.inr (fin (bA mk k (a.drop i)).1)):=by
  intro f
  induction f with
  |zero=>intro i k h1 h2;omega
  |succ f ih=>
   intro i k h1 h2 hd hk hI;rcases du i a.length with hi|hi
   ·have hlen:=xX mk k0 a;have hi':i<(bA mk k0 a).2.length:=by omega
    have hd':=hd;rw[fe hi,bA,fe hi']at hd;have hg:((bA mk k0 a).2).getD i d=(mk k a[i]).2:=by
     rw[getD_lt hi'];exact(List.cons.inj hd).1
    obtain⟨e,hI'⟩:=step f k i _ hi rfl hg hI;rw[e,ih (i+1) _ (by omega) (by omega) (List.cons.inj hd).2 (by rw[hk,fe hi,bA]) hI',fe hi,bA]
   ·have:i=a.length:=by omega
    subst this;rw[stop,j9];rfl
 have:=key ai 0 k0 (dM _) (by have:=cJ;omega) rfl rfl h0;simpa using this
end M
set_option linter.unusedSimpArgs false
namespace M
open Go.V (inB bF ai cJ)
theorem ad5{n:Nat}(h:n<10):Go.IntKind.wrap .u8 (Go.IntKind.wrap .i64 ((48:Int)+(n:Int)))=((48+n:Nat):Int):=by
 rw[wrap_i64 (by omega) (by omega)];have:∀m:Fin 10,Go.IntKind.wrap .u8 ((48:Int)+((m.val:Nat):Int))=((48+m.val:Nat):Int):=by decide
 exact this ⟨n,h⟩
theorem ad6{n:Nat}(h:n<10):Go.V.eS ((48+n:Nat):Int)=true:=by
 unfold Go.V.eS;simp only[aU,aZ];omega
theorem Ro{a b:List UInt8}(h:a.length+b.length<=100000):Go.V.dS a b=true:=by
 unfold Go.V.dS;rw[aZ];omega
theorem Rq:∀(j f k:Nat)(out:List UInt8),k<10^j->j<f->k<4611686018427387904->out.length+j<=1000->∃s,M.rB f (k:Int) out=some s/\s.length<=out.length+j
 |j,0,k,out,_,h,_,_=>by omega
 |0,f+1,k,out,h1,h2,h3,h4=>by
  have:k=0:=by simpa using h1
  subst this;exact⟨out,by rw[M.rB];simp,bn _⟩
 |j+1,f+1,k,out,h1,h2,h3,h4=>by
  rw[M.rB];rcases iy k with h0|h0
  ·subst h0;exact⟨out,by simp,by omega⟩
  ·have hd:decide ((0:Int)<(k:Int))=true:=by rw[aZ];omega
   have e3:Int.tmod (k:Int) 10=((k%10:Nat):Int):=(Int.ofNat_tmod k 10).symm;have e4:Go.IntKind.wrap .i64 (Int.tdiv (k:Int) 10)=((k/10:Nat):Int):=by
    rw[show Int.tdiv (k:Int) 10=((k/10:Nat):Int)from(Int.ofNat_tdiv k 10).symm,wrap_i64 (by omega) (by omega)]
   have hm:k%10<10:=Nat.mod_lt _ (by decide);obtain⟨s,g1,g2⟩:=Rq j f (k/10) ([Go.V.dO ((48+k%10:Nat):Int)]++out) (by rw[Nat.pow_succ]at h1;omega) (by omega) (by omega) (by simp;omega);refine⟨s,?_,by simp at g2;omega⟩;simp only[hd,e3,e4,ad5 hm,ad6 hm,cE,eB,List.map_nil];rw[Ro (by simp;omega)];exact g1
theorem ad7(k:Int)(h0:0<=k)(h1:k<=1000000000000):∃s,M.ky k=some s:=by
 obtain⟨n,rfl⟩:=mU h0;unfold M.ky;by_cases hz:(n:Int)<=0
 ·rw[bD hz];exact⟨_,rfl⟩
 ·rw[av hz];obtain⟨s,e,hl⟩:=Rq 13 ai n [] (by omega) (by have:=cJ;omega) (by omega) (by simp);rw[e];simp only[aW];rw[Ro (by simp at hl⊢;omega)];exact⟨_,rfl⟩
noncomputable def mT(k:Int):List UInt8:=(M.ky k).getD Inhabited.default
theorem Gp{k:Int}(h0:0<=k)(h1:k<=1000000000000):M.ky k=some (mT k):=by
 obtain⟨s,e⟩:=ad7 k h0 h1;unfold mT;rw[e];rfl
noncomputable def mS(k:Int)(_:List UInt8):Int×List UInt8:=(k+1,mT k)
theorem Bn(l:List (List UInt8))(k:Int):k<=(bA mS k l).1/\(bA mS k l).1=k+(l.length:Int):=by
 induction l generalizing k with
 |nil=>simp[bA]
 |cons x r ih=>have:=ih (k+1);simp only[bA,mS,bY]at*;omega
theorem Rr(a:List (List UInt8))(ha:a.length<=1048576)(k:Int)(h0:0<=k)(h1:k<=100000000000):M.pQ k a=some (bA mS k a):=by
 unfold M.pQ;rw[Bm (F:=M.rC) (mk:=mS) a ha (fun i q=>q=k+(i:Int)) [] (fun f q i l hi hl hg hI=>by
  subst hI;rw[M.rC];have hmt:=Gp (k:=k+(i:Int)) (by omega) (by omega);have hlt:decide ((i:Int)<((l.length:Nat):Int))=true:=by rw[aZ];omega
  have hin:inB (i:Int) l.length=true:=by rw[cD];simpa using hl
  simp only[hlt,hin,hmt,bP,cE,c9,aQ,aR,aC,cq hi (gJ ha)];have hw:Go.IntKind.wrap .i64 (k+(i:Int)+1)=k+(i:Int)+1:=wrap_i64 (by omega) (by omega);rw[hw];exact⟨rfl,by simp[mS];omega⟩) (fun f q l hl=>by rw[M.rC];simp[hl]) k (by simp)]
end M
namespace M
open Go.V (inB bF ai cJ)
theorem aa.p1(a b c d):(aa.mk a b c d).Kind=a:=rfl
theorem aa.p2(a b c d):(aa.mk a b c d).Name=b:=rfl
theorem aa.p3(a b c d):(aa.mk a b c d).bm=c:=rfl
theorem aa.p4(a b c d):(aa.mk a b c d).Kids=d:=rfl
theorem ae.p1(a b c d):(ae.mk a b c d).Kind=a:=rfl
theorem ae.p2(a b c d):(ae.mk a b c d).Num=b:=rfl
theorem ae.p3(a b c d):(ae.mk a b c d).Text=c:=rfl
theorem ae.p4(a b c d):(ae.mk a b c d).Kids=d:=rfl
mutual
noncomputable def fD:Int->aa->Int×aa
 |k,.mk _ _ ls ks=>((lJ (bA mS (k+1+1) ls).1 ks).1,.mk k (mT (k+1)) (bA mS (k+1+1) ls).2 (lJ (bA mS (k+1+1) ls).1 ks).2)
noncomputable def lJ:Int->List aa->Int×List aa
 |k,[]=>(k,[])
 |k,x::r=>((lJ (fD k x).1 r).1,(fD k x).2::(lJ (fD k x).1 r).2)
end
theorem Gq:∀(k:Int)(l:List aa),lJ k l=bA fD k l
 |k,[]=>by simp only[lJ,bA]
 |k,x::r=>by simp only[lJ,bA,Gq]
theorem ad8(k:Int)(a:aa):fD k a=((bA fD (bA mS (k+1+1) a.bm).1 a.Kids).1,.mk k (mT (k+1)) (bA mS (k+1+1) a.bm).2 (bA fD (bA mS (k+1+1) a.bm).1 a.Kids).2):=by
 cases a;simp only[fD,Gq];rfl
mutual
theorem Rt:∀(x:aa)(k:Int),k<=(fD k x).1/\(fD k x).1<=k+2+2*(x.sz:Int)
 |.mk a b ls ks,k=>by
   have h1:=Bn ls (k+1+1);have h2:=Gs ks (bA mS (k+1+1) ls).1;have h3:=eR List.length ls;have h4:=aa.rX ks;simp only[fD,aa.sz];omega
theorem Gs:∀(l:List aa)(k:Int),k<=(lJ k l).1/\(lJ k l).1<=k+2*(bc aa.sz l:Int)
 |[],k=>by simp[lJ,bc]
 |x::r,k=>by
  have h1:=Rt x k;have h2:=Gs r (fD k x).1;simp only[lJ,bc];omega
end
theorem ad9(l:List aa)(k:Int):k<=(bA fD k l).1/\(bA fD k l).1<=k+2*(bc aa.sz l:Int):=by
 rw[<-Gq];exact Gs l k
theorem Ru:∀(n:Nat)(a:List aa)(k:Int),bc aa.sz a<n->bc aa.sz a<=1048576->0<=k->k+2*(bc aa.sz a:Int)<=100000000000->M.rE n k a=some (bA fD k a)
 |0,a,k,h,_,_,_=>by omega
 |n+1,a,k,h,hz,h0,h1=>by
  have hlen:=eR aa.sz a
  show M.wW (M.rE n) k a=_
  unfold M.wW;rw[Bm (F:=M.rD (M.rE n)) (mk:=fD) a (by omega) (fun i q=>0<=q/\q+2*(bc aa.sz (a.drop i):Int)<=100000000000) aa.zero (fun f q i l hi hl hg hI=>by
   rw[fe hi,bc]at hI;have hle:=Rt a[i] q;have hmem:=jg aa.sz a a[i] (an hi);have hpos:=om aa.sz a a[i] (an hi);have hs:=aa.dL a[i];have hll:=eR List.length a[i].bm;have hkk:=eR aa.sz a[i].Kids;have hms:=Bn a[i].bm (q+1+1);rw[M.rD];have hlt:decide ((i:Int)<((l.length:Nat):Int))=true:=by rw[aZ];omega
   have hin:inB (i:Int) l.length=true:=by rw[cD];simpa using hl
   have w1:Go.IntKind.wrap .i64 (q+1)=q+1:=wrap_i64 (by omega) (by omega);have w2:Go.IntKind.wrap .i64 (q+1+1)=q+1+1:=wrap_i64 (by omega) (by omega);have e1:=Gp (k:=q+1) (by omega) (by omega);have e2:=Rr a[i].bm (by omega) (q+1+1) (by omega) (by omega);have e3:=Ru n a[i].Kids (bA mS (q+1+1) a[i].bm).1 (by omega) (by omega) (by omega) (by omega);refine⟨?_,by omega,by omega⟩;simp only[hlt,hin,bP,cE,c9,aQ,Gm,hl,kF,hg,w1,w2,aa.p1,aa.p2,aa.p3,aa.p4,e1,e2,e3,aR,aC,cq hi (gJ (show a.length<=1048576 by omega)),List.set_set];rw[ad8]) (fun f q l hl=>by rw[M.rD];simp[hl]) k ⟨h0,by simpa using h1⟩]
theorem aea(a:List aa)(k:Int)(hz:bc aa.sz a<=1048576)(h0:0<=k)(h1:k<=1000000000):M.zK k a=some (bA fD k a):=
 Ru _ a k (by have:=cJ;omega) hz h0 (by omega)
mutual
noncomputable def gR:Int->ae->Int×ae
 |k,.mk _ _ _ ks=>((lK (k+1+1+1) ks).1,.mk k (k+1) (mT (k+1+1)) (lK (k+1+1+1) ks).2)
noncomputable def lK:Int->List ae->Int×List ae
 |k,[]=>(k,[])
 |k,x::r=>((lK (gR k x).1 r).1,(gR k x).2::(lK (gR k x).1 r).2)
end
theorem Gt:∀(k:Int)(l:List ae),lK k l=bA gR k l
 |k,[]=>by simp only[lK,bA]
 |k,x::r=>by simp only[lK,bA,Gt]
theorem aeb(k:Int)(a:ae):gR k a=((bA gR (k+1+1+1) a.Kids).1,.mk k (k+1) (mT (k+1+1)) (bA gR (k+1+1+1) a.Kids).2):=by
 cases a;simp only[gR,Gt];rfl
mutual
theorem Rw:∀(x:ae)(k:Int),k<=(gR k x).1/\(gR k x).1<=k+3+3*(x.sz:Int)
 |.mk a b t ks,k=>by
   have h2:=Gu ks (k+1+1+1);have h4:=ae.rX ks;simp only[gR,ae.sz];omega
theorem Gu:∀(l:List ae)(k:Int),k<=(lK k l).1/\(lK k l).1<=k+3*(bc ae.sz l:Int)
 |[],k=>by simp[lK,bc]
 |x::r,k=>by
  have h1:=Rw x k;have h2:=Gu r (gR k x).1;simp only[lK,bc];omega
end
theorem aec(l:List ae)(k:Int):k<=(bA gR k l).1/\(bA gR k l).1<=k+3*(bc ae.sz l:Int):=by
 rw[<-Gt];exact Gu l k
theorem Rx:∀(n:Nat)(a:List ae)(k:Int),bc ae.sz a<n->bc ae.sz a<=1048576->0<=k->k+3*(bc ae.sz a:Int)<=100000000000->M.rG n k a=some (bA gR k a)
 |0,a,k,h,_,_,_=>by omega
 |n+1,a,k,h,hz,h0,h1=>by
  have hlen:=eR ae.sz a
  show M.wX (M.rG n) k a=_
  unfold M.wX;rw[Bm (F:=M.rF (M.rG n)) (mk:=gR) a (by omega) (fun i q=>0<=q/\q+3*(bc ae.sz (a.drop i):Int)<=100000000000) ae.zero (fun f q i l hi hl hg hI=>by
   rw[fe hi,bc]at hI;have hle:=Rw a[i] q;have hmem:=jg ae.sz a a[i] (an hi);have hpos:=om ae.sz a a[i] (an hi);have hs:=ae.dL a[i];have hkk:=eR ae.sz a[i].Kids;rw[M.rF];have hlt:decide ((i:Int)<((l.length:Nat):Int))=true:=by rw[aZ];omega
   have hin:inB (i:Int) l.length=true:=by rw[cD];simpa using hl
   have w1:Go.IntKind.wrap .i64 (q+1)=q+1:=wrap_i64 (by omega) (by omega);have w2:Go.IntKind.wrap .i64 (q+1+1)=q+1+1:=wrap_i64 (by omega) (by omega);have w3:Go.IntKind.wrap .i64 (q+1+1+1)=q+1+1+1:=wrap_i64 (by omega) (by omega);have e1:=Gp (k:=q+1+1) (by omega) (by omega);have e3:=Rx n a[i].Kids (q+1+1+1) (by omega) (by omega) (by omega) (by omega);refine⟨?_,by omega,by omega⟩;simp only[hlt,hin,bP,cE,c9,aQ,Gm,hl,kF,hg,w1,w2,w3,ae.p1,ae.p2,ae.p3,ae.p4,e1,e3,aR,aC,cq hi (gJ (show a.length<=1048576 by omega)),List.set_set];rw[aeb]) (fun f q l hl=>by rw[M.rF];simp[hl]) k ⟨h0,by simpa using h1⟩]
theorem aed(a:List ae)(k:Int)(hz:bc ae.sz a<=1048576)(h0:0<=k)(h1:k<=1000000000):M.zM k a=some (bA gR k a):=
 Rx _ a k (by have:=cJ;omega) hz h0 (by omega)
end M
namespace M
open Go.V (inB bF ai cJ)
def mNu(k:Int)(_:Int):Int×Int:=(k+1,k)
def eC(k:Int)(_:af):Int×af:=(k+1+1,af.mk k (k+1))
theorem Gv(l:List af)(k:Int):k<=(bA eC k l).1/\(bA eC k l).1=k+2*(l.length:Int):=by
 induction l generalizing k with
 |nil=>simp[bA]
 |cons x r ih=>have:=ih (k+1+1);simp only[bA,eC,bY]at*;omega
theorem aee(a:List af)(ha:a.length<=1048576)(k:Int)(h0:0<=k)(h1:k<=100000000000):M.u3 k a=some (bA eC k a):=by
 unfold M.u3;rw[Bm (F:=M.rT) (mk:=eC) a ha (fun i q=>q=k+2*(i:Int)) af.zero (fun f q i l hi hl hg hI=>by
  rw[M.rT];have hlt:decide ((i:Int)<((l.length:Nat):Int))=true:=by rw[aZ];omega
  have hin:inB (i:Int) l.length=true:=by rw[cD];simpa using hl
  have w1:Go.IntKind.wrap .i64 (q+1)=q+1:=wrap_i64 (by omega) (by omega);have w2:Go.IntKind.wrap .i64 (q+1+1)=q+1+1:=wrap_i64 (by omega) (by omega);have hgs:∀x:af,(l.set i x).getD i af.zero=x:=fun x=>Gm hl x _
  refine⟨?_,by simp only[eC];omega⟩;simp only[hlt,hin,bP,cE,c9,aQ,w1,w2,cq hi (gJ ha),eC,kF,hgs,List.set_set]) (fun f q l hl=>by rw[M.rT];simp[hl]) k (by simp)]
theorem aef(a:List af)(ha:a.length<=1048576)(k:Int)(h0:0<=k)(h1:k<=100000000000):M.rW (bA eC k a).2 k=some (bA eC k a).1:=by
 unfold M.rW;rw[ad4 (F:=M.rV (bA eC k a).2) (mk:=eC) (fin:=id) a ha (fun i q=>q=k+2*(i:Int)) af.zero k (by simp) (fun f q i y hi e1 e2 hI=>by
  have e3:y=af.mk q (q+1):=e2;rw[e3]at e1;clear e2 e3;rw[M.rV];have hlt:decide ((i:Int)<(((bA eC k a).2.length:Nat):Int))=true:=by rw[aZ,xX];omega
  have hin:inB (i:Int) (bA eC k a).2.length=true:=by rw[cD,xX];simpa using hi
  have w1:Go.IntKind.wrap .i64 (q+1)=q+1:=wrap_i64 (by omega) (by omega);have w2:Go.IntKind.wrap .i64 (q+1+1)=q+1+1:=wrap_i64 (by omega) (by omega);refine⟨?_,by simp only[eC];omega⟩;simp only[hlt,hin,e1,eC,bP,cE,aW,c9,aQ,cq hi (gJ ha),bne_self_eq_false,w1,w2]) (fun f q=>by rw[M.rV];simp[xX])]
 rfl
theorem Ry(b:List UInt8)(a:List af)(ha:a.length<=1048576)(k:Int)(h0:0<=k)(h1:k<=100000000000):M.rU b k a=some (bA eC k a):=by
 unfold M.rU;rw[aee a ha k h0 h1];rfl
theorem aeg(b:List UInt8)(a:List af)(ha:a.length<=1048576)(k:Int)(h0:0<=k)(h1:k<=100000000000):M.u4 (M.ax.mk b (bA eC k a).2) k=some (bA eC k a).1:=by
 unfold M.u4;have:=Gv a k;show(let q0:=M.rW (bA eC k a).2 k;_)=_
 rw[aef a ha k h0 h1];simp only[aC,aR,aQ];rw[av (by omega:¬(bA eC k a).1<0)];rfl
end M
