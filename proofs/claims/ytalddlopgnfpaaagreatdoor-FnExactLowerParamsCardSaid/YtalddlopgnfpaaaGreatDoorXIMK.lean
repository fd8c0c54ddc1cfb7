/-
  RUNNING NUMBERS in plain Lean: a list whose elements are marked one behind the other.
-/
import Derived.Test.YtalddlopgnfpaaaGreatDoorXIplA
import Derived.Test.YtalddlopgnfpaaaGreatDoorXIGM
import Derived.Test.YtalddlopgnfpaaaGreatDoorXIGH
set_option linter.unusedVariables false
namespace M
open Go.V (inB bV ah cC)
def bz{α:Type}(mk:Int->α->Int×α):Int->List α->Int×List α
 |k,[]=>(k,[])
 |k,x::r=>((bz mk (mk k x).1 r).1,(mk k x).2::(bz mk (mk k x).1 r).2)
theorem sP{α:Type}(mk:Int->α->Int×α):∀(k:Int)(l:List α),(bz mk k l).2.length=l.length
 |k,[]=>rfl
 |k,x::r=>by simp[bz,sP mk _ r]
theorem KA{α:Type}{l:List α}{i:Nat}(h:i<l.length)(x d:α):(l.set i x).getD i d=x:=by
 rw[g9,List.getElem?_set_self h];rfl
theorem Bc{α:Type}{F:Nat->Int->Int->List α->Option (Int×List α)}{mk:Int->α->Int×α}(a:List α)(ha:a.length<=1048576)(I:Nat->Int->Prop)(d:α)
 (step:∀f k i (l:List α),∀h:i<a.length,i<l.length->l.getD i d=a[i]->I i k->F (f+1) k (i:Int) l=F f (mk k a[i]).1 ((i+1:Nat):Int) (l.set i (mk k a[i]).2)/\I (i+1) (mk k a[i]).1)
 (stop:∀f k (l:List α),l.length=a.length->F (f+1) k (a.length:Int) l=some (k,l)) (k0:Int) (h0:I 0 k0):F ah k0 0 a=some (bz mk k0 a):=by
 have key:∀f i k (l:List α),i<=a.length->a.length-i<f->l.length=a.length->(∀j,i<=j->l[j]?=a[j]?)->I i k->F f k (i:Int) l=some ((bz mk k (a.drop i)).1,l.take i++(bz mk k (a.drop i)).2):=by
  intro f
  induction f with
  |zero=>intro i k l h1 h2;omega
  |succ f ih=>
   intro i k l h1 h2 hl hj hI;rcases cO i a.length with hi|hi
   ·have hg:l.getD i d=a[i]:=by rw[g9,hj i (bg _),bZ hi];rfl
    obtain⟨e,hI'⟩:=step f k i l hi (by omega) hg hI;rw[e,ih (i+1) _ _ (by omega) (by omega) (by simpa using hl) (fun j hj'=>by rw[gC,an (by omega)];exact hj j (by omega)) hI',dZ hi];simp only[bz];congr 2;rw[KB,List.getElem?_set_self (by omega),List.take_set_of_le (bg _)];simp
   ·have:i=a.length:=by omega
    subst this;rw[stop f k l hl,hC,<-hl,vf];simp[bz]
 have:=key ah 0 k0 a (cU _) (by have:=cC;omega) rfl (fun _ _=>rfl) h0;simpa using this
theorem XT{α E:Type}{F:Nat->Int->Int->Option (Int⊕E)}{mk:Int->α->Int×α}{fin:Int->E}(a:List α)(ha:a.length<=1048576)(I:Nat->Int->Prop)(d:α)(k0:Int)(h0:I 0 k0)
 (step:∀f k i (y:α),∀h:i<a.length,((bz mk k0 a).2).getD i d=y->y=(mk k a[i]).2->I i k->F (f+1) k (i:Int)=F f (mk k a[i]).1 ((i+1:Nat):Int)/\I (i+1) (mk k a[i]).1)
 (stop:∀f k,F (f+1) k (a.length:Int)=some (.inr (fin k))):F ah k0 0=some (.inr (fin (bz mk k0 a).1)):=by
 have key:∀f i k,i<=a.length->a.length-i<f->(bz mk k0 a).2.drop i=(bz mk k (a.drop i)).2->(bz mk k0 a).1=(bz mk k (a.drop i)).1->I i k->F f k (i:Int)=some (.inr (fin (bz mk k (a.drop i)).1)):=by
  intro f
  induction f with
  |zero=>intro i k h1 h2;omega
  |succ f ih=>
   intro i k h1 h2 hd hk hI;rcases cO i a.length with hi|hi
   ·have hlen:=sP mk k0 a;have hi':i<(bz mk k0 a).2.length:=by omega
    have hd':=hd;rw[dZ hi,bz,dZ hi']at hd;have hg:((bz mk k0 a).2).getD i d=(mk k a[i]).2:=by
     rw[getD_lt hi'];exact(List.cons.inj hd).1
    obtain⟨e,hI'⟩:=step f k i _ hi rfl hg hI;rw[e,ih (i+1) _ (by omega) (by omega) (List.cons.inj hd).2 (by rw[hk,dZ hi,bz]) hI',dZ hi,bz]
   ·have:i=a.length:=by omega
    subst this;rw[stop,hC];rfl
 have:=key ah 0 k0 (cU _) (by have:=cC;omega) rfl rfl h0;simpa using this
end M
set_option linter.unusedSimpArgs false
namespace M
open Go.V (inB bV ah cC)
theorem ak2{n:Nat}(h:n<10):Go.IntKind.wrap .u8 (Go.IntKind.wrap .i64 ((48:Int)+(n:Int)))=((48+n:Nat):Int):=by
 rw[wrap_i64 (by omega) (by omega)];have:∀m:Fin 10,Go.IntKind.wrap .u8 ((48:Int)+((m.val:Nat):Int))=((48+m.val:Nat):Int):=by decide
 exact this ⟨n,h⟩
theorem ak3{n:Nat}(h:n<10):Go.V.fH ((48+n:Nat):Int)=true:=by
 unfold Go.V.fH;simp only[aZ,bh];omega
theorem XU{a b:List UInt8}(h:a.length+b.length<=100000):Go.V.eE a b=true:=by
 unfold Go.V.eE;rw[bh];omega
theorem XV:∀(j f k:Nat)(out:List UInt8),k<10^j->j<f->k<4611686018427387904->out.length+j<=1000->∃s,M.uk f (k:Int) out=some s/\s.length<=out.length+j
 |j,0,k,out,_,h,_,_=>by omega
 |0,f+1,k,out,h1,h2,h3,h4=>by
  have:k=0:=by simpa using h1
  subst this;exact⟨out,by rw[M.uk];simp,bg _⟩
 |j+1,f+1,k,out,h1,h2,h3,h4=>by
  rw[M.uk];rcases jq k with h0|h0
  ·subst h0;exact⟨out,by simp,by omega⟩
  ·have hd:decide ((0:Int)<(k:Int))=true:=by rw[bh];omega
   have e3:Int.tmod (k:Int) 10=((k%10:Nat):Int):=(Int.ofNat_tmod k 10).symm;have e4:Go.IntKind.wrap .i64 (Int.tdiv (k:Int) 10)=((k/10:Nat):Int):=by
    rw[show Int.tdiv (k:Int) 10=((k/10:Nat):Int)from(Int.ofNat_tdiv k 10).symm,wrap_i64 (by omega) (by omega)]
   have hm:k%10<10:=Nat.mod_lt _ (by decide);obtain⟨s,g1,g2⟩:=XV j f (k/10) ([Go.V.eA ((48+k%10:Nat):Int)]++out) (by rw[Nat.pow_succ]at h1;omega) (by omega) (by omega) (by simp;omega);refine⟨s,?_,by simp at g2;omega⟩;simp only[hd,e3,e4,ak2 hm,ak3 hm,aA,fm,List.map_nil];rw[XU (by simp;omega)];exact g1
theorem ak4(k:Int)(h0:0<=k)(h1:k<=1000000000000):∃s,M.lZ k=some s:=by
 obtain⟨n,rfl⟩:=mW h0;unfold M.lZ;by_cases hz:(n:Int)<=0
 ·rw[aY hz];exact⟨_,rfl⟩
 ·rw[bU hz];obtain⟨s,e,hl⟩:=XV 13 ah n [] (by omega) (by have:=cC;omega) (by omega) (by simp);rw[e];simp only[aT];rw[XU (by simp at hl⊢;omega)];exact⟨_,rfl⟩
noncomputable def mT(k:Int):List UInt8:=(M.lZ k).getD Inhabited.default
theorem KC{k:Int}(h0:0<=k)(h1:k<=1000000000000):M.lZ k=some (mT k):=by
 obtain⟨s,e⟩:=ak4 k h0 h1;unfold mT;rw[e];rfl
noncomputable def mS(k:Int)(_:List UInt8):Int×List UInt8:=(k+1,mT k)
theorem XW(l:List (List UInt8))(k:Int):k<=(bz mS k l).1/\(bz mS k l).1=k+(l.length:Int):=by
 induction l generalizing k with
 |nil=>simp[bz]
 |cons x r ih=>have:=ih (k+1);simp only[bz,mS,bX]at*;omega
theorem ak5(a:List (List UInt8))(ha:a.length<=1048576)(k:Int)(h0:0<=k)(h1:k<=100000000000):M.wW k a=some (bz mS k a):=by
 unfold M.wW;rw[Bc (F:=M.um) (mk:=mS) a ha (fun i q=>q=k+(i:Int)) [] (fun f q i l hi hl hg hI=>by
  subst hI;rw[M.um];have hmt:=KC (k:=k+(i:Int)) (by omega) (by omega);have hlt:decide ((i:Int)<((l.length:Nat):Int))=true:=by rw[bh];omega
  have hin:inB (i:Int) l.length=true:=by rw[cq];simpa using hl
  simp only[hlt,hin,hmt,bL,aA,bM,aO,aU,aQ,cm hi (gU ha)];have hw:Go.IntKind.wrap .i64 (k+(i:Int)+1)=k+(i:Int)+1:=wrap_i64 (by omega) (by omega);rw[hw];exact⟨rfl,by simp[mS];omega⟩) (fun f q l hl=>by rw[M.um];simp[hl]) k (by simp)]
end M
namespace M
open Go.V (inB bV ah cC)
theorem aa.p1(a b c d):(aa.mk a b c d).Kind=a:=rfl
theorem aa.p2(a b c d):(aa.mk a b c d).Name=b:=rfl
theorem aa.p3(a b c d):(aa.mk a b c d).bu=c:=rfl
theorem aa.p4(a b c d):(aa.mk a b c d).Kids=d:=rfl
theorem ae.p1(a b c d):(ae.mk a b c d).Kind=a:=rfl
theorem ae.p2(a b c d):(ae.mk a b c d).Num=b:=rfl
theorem ae.p3(a b c d):(ae.mk a b c d).Text=c:=rfl
theorem ae.p4(a b c d):(ae.mk a b c d).Kids=d:=rfl
mutual
noncomputable def iu:Int->aa->Int×aa
 |k,.mk _ _ ls ks=>((m6 (bz mS (k+1+1) ls).1 ks).1,.mk k (mT (k+1)) (bz mS (k+1+1) ls).2 (m6 (bz mS (k+1+1) ls).1 ks).2)
noncomputable def m6:Int->List aa->Int×List aa
 |k,[]=>(k,[])
 |k,x::r=>((m6 (iu k x).1 r).1,(iu k x).2::(m6 (iu k x).1 r).2)
end
theorem KD:∀(k:Int)(l:List aa),m6 k l=bz iu k l
 |k,[]=>by simp only[m6,bz]
 |k,x::r=>by simp only[m6,bz,KD]
theorem ak6(k:Int)(a:aa):iu k a=((bz iu (bz mS (k+1+1) a.bu).1 a.Kids).1,.mk k (mT (k+1)) (bz mS (k+1+1) a.bu).2 (bz iu (bz mS (k+1+1) a.bu).1 a.Kids).2):=by
 cases a;simp only[iu,KD];rfl
mutual
theorem XX:∀(x:aa)(k:Int),k<=(iu k x).1/\(iu k x).1<=k+2+2*(x.sz:Int)
 |.mk a b ls ks,k=>by
   have h1:=XW ls (k+1+1);have h2:=KE ks (bz mS (k+1+1) ls).1;have h3:=ed List.length ls;have h4:=aa.uX ks;simp only[iu,aa.sz];omega
theorem KE:∀(l:List aa)(k:Int),k<=(m6 k l).1/\(m6 k l).1<=k+2*(aR aa.sz l:Int)
 |[],k=>by simp[m6,aR]
 |x::r,k=>by
  have h1:=XX x k;have h2:=KE r (iu k x).1;simp only[m6,aR];omega
end
theorem ak7(l:List aa)(k:Int):k<=(bz iu k l).1/\(bz iu k l).1<=k+2*(aR aa.sz l:Int):=by
 rw[<-KD];exact KE l k
theorem XY:∀(n:Nat)(a:List aa)(k:Int),aR aa.sz a<n->aR aa.sz a<=1048576->0<=k->k+2*(aR aa.sz a:Int)<=100000000000->M.uu n k a=some (bz iu k a)
 |0,a,k,h,_,_,_=>by omega
 |n+1,a,k,h,hz,h0,h1=>by
  have hlen:=ed aa.sz a
  show M.zV (M.uu n) k a=_
  unfold M.zV;rw[Bc (F:=M.uo (M.uu n)) (mk:=iu) a (by omega) (fun i q=>0<=q/\q+2*(aR aa.sz (a.drop i):Int)<=100000000000) aa.zero (fun f q i l hi hl hg hI=>by
   rw[dZ hi,aR]at hI;have hle:=XX a[i] q;have hmem:=ij aa.sz a a[i] (bn hi);have hpos:=j5 aa.sz a a[i] (bn hi);have hs:=aa.dW a[i];have hll:=ed List.length a[i].bu;have hkk:=ed aa.sz a[i].Kids;have hms:=XW a[i].bu (q+1+1);rw[M.uo];have hlt:decide ((i:Int)<((l.length:Nat):Int))=true:=by rw[bh];omega
   have hin:inB (i:Int) l.length=true:=by rw[cq];simpa using hl
   have w1:Go.IntKind.wrap .i64 (q+1)=q+1:=wrap_i64 (by omega) (by omega);have w2:Go.IntKind.wrap .i64 (q+1+1)=q+1+1:=wrap_i64 (by omega) (by omega);have e1:=KC (k:=q+1) (by omega) (by omega);have e2:=ak5 a[i].bu (by omega) (q+1+1) (by omega) (by omega);have e3:=XY n a[i].Kids (bz mS (q+1+1) a[i].bu).1 (by omega) (by omega) (by omega) (by omega);refine⟨?_,by omega,by omega⟩;simp only[hlt,hin,bL,aA,bM,aO,KA,hl,mg,hg,w1,w2,aa.p1,aa.p2,aa.p3,aa.p4,e1,e2,e3,aU,aQ,cm hi (gU (show a.length<=1048576 by omega)),List.set_set];rw[ak6]) (fun f q l hl=>by rw[M.uo];simp[hl]) k ⟨h0,by simpa using h1⟩]
theorem ak8(a:List aa)(k:Int)(hz:aR aa.sz a<=1048576)(h0:0<=k)(h1:k<=1000000000):M.Ds k a=some (bz iu k a):=
 XY _ a k (by have:=cC;omega) hz h0 (by omega)
mutual
noncomputable def jb:Int->ae->Int×ae
 |k,.mk _ _ _ ks=>((m7 (k+1+1+1) ks).1,.mk k (k+1) (mT (k+1+1)) (m7 (k+1+1+1) ks).2)
noncomputable def m7:Int->List ae->Int×List ae
 |k,[]=>(k,[])
 |k,x::r=>((m7 (jb k x).1 r).1,(jb k x).2::(m7 (jb k x).1 r).2)
end
theorem KF:∀(k:Int)(l:List ae),m7 k l=bz jb k l
 |k,[]=>by simp only[m7,bz]
 |k,x::r=>by simp only[m7,bz,KF]
theorem ak9(k:Int)(a:ae):jb k a=((bz jb (k+1+1+1) a.Kids).1,.mk k (k+1) (mT (k+1+1)) (bz jb (k+1+1+1) a.Kids).2):=by
 cases a;simp only[jb,KF];rfl
mutual
theorem XZ:∀(x:ae)(k:Int),k<=(jb k x).1/\(jb k x).1<=k+3+3*(x.sz:Int)
 |.mk a b t ks,k=>by
   have h2:=KG ks (k+1+1+1);have h4:=ae.uX ks;simp only[jb,ae.sz];omega
theorem KG:∀(l:List ae)(k:Int),k<=(m7 k l).1/\(m7 k l).1<=k+3*(aR ae.sz l:Int)
 |[],k=>by simp[m7,aR]
 |x::r,k=>by
  have h1:=XZ x k;have h2:=KG r (jb k x).1;simp only[m7,aR];omega
end
theorem ala(l:List ae)(k:Int):k<=(bz jb k l).1/\(bz jb k l).1<=k+3*(aR ae.sz l:Int):=by
 rw[<-KF];exact KG l k
theorem X0:∀(n:Nat)(a:List ae)(k:Int),aR ae.sz a<n->aR ae.sz a<=1048576->0<=k->k+3*(aR ae.sz a:Int)<=100000000000->M.uw n k a=some (bz jb k a)
 |0,a,k,h,_,_,_=>by omega
 |n+1,a,k,h,hz,h0,h1=>by
  have hlen:=ed ae.sz a
  show M.zW (M.uw n) k a=_
  unfold M.zW;rw[Bc (F:=M.uv (M.uw n)) (mk:=jb) a (by omega) (fun i q=>0<=q/\q+3*(aR ae.sz (a.drop i):Int)<=100000000000) ae.zero (fun f q i l hi hl hg hI=>by
   rw[dZ hi,aR]at hI;have hle:=XZ a[i] q;have hmem:=ij ae.sz a a[i] (bn hi);have hpos:=j5 ae.sz a a[i] (bn hi);have hs:=ae.dW a[i];have hkk:=ed ae.sz a[i].Kids;rw[M.uv];have hlt:decide ((i:Int)<((l.length:Nat):Int))=true:=by rw[bh];omega
   have hin:inB (i:Int) l.length=true:=by rw[cq];simpa using hl
   have w1:Go.IntKind.wrap .i64 (q+1)=q+1:=wrap_i64 (by omega) (by omega);have w2:Go.IntKind.wrap .i64 (q+1+1)=q+1+1:=wrap_i64 (by omega) (by omega);have w3:Go.IntKind.wrap .i64 (q+1+1+1)=q+1+1+1:=wrap_i64 (by omega) (by omega);have e1:=KC (k:=q+1+1) (by omega) (by omega);have e3:=X0 n a[i].Kids (q+1+1+1) (by omega) (by omega) (by omega) (by omega);refine⟨?_,by omega,by omega⟩;simp only[hlt,hin,bL,aA,bM,aO,KA,hl,mg,hg,w1,w2,w3,ae.p1,ae.p2,ae.p3,ae.p4,e1,e3,aU,aQ,cm hi (gU (show a.length<=1048576 by omega)),List.set_set];rw[ak9]) (fun f q l hl=>by rw[M.uv];simp[hl]) k ⟨h0,by simpa using h1⟩]
theorem alb(a:List ae)(k:Int)(hz:aR ae.sz a<=1048576)(h0:0<=k)(h1:k<=1000000000):M.Du k a=some (bz jb k a):=
 X0 _ a k (by have:=cC;omega) hz h0 (by omega)
end M
namespace M
open Go.V (inB bV ah cC)
def jK(k:Int)(_:Int):Int×Int:=(k+1,k)
theorem alc(l:List Int)(k:Int):k<=(bz jK k l).1/\(bz jK k l).1=k+(l.length:Int):=by
 induction l generalizing k with
 |nil=>simp[bz]
 |cons x r ih=>have:=ih (k+1);simp only[bz,jK,bX]at*;omega
theorem ald(a:List Int)(ha:a.length<=1048576)(k:Int)(h0:0<=k)(h1:k<=100000000000):M.tL k a=some (bz jK k a):=by
 unfold M.tL;rw[Bc (F:=M.tK) (mk:=jK) a ha (fun i q=>q=k+(i:Int)) 0 (fun f q i l hi hl hg hI=>by
  rw[M.tK];have hlt:decide ((i:Int)<((l.length:Nat):Int))=true:=by rw[bh];omega
  have hin:inB (i:Int) l.length=true:=by rw[cq];simpa using hl
  have w1:Go.IntKind.wrap .i64 (q+1)=q+1:=wrap_i64 (by omega) (by omega);refine⟨?_,by simp only[jK];omega⟩;simp only[hlt,hin,bL,aA,bM,aO,w1,cm hi (gU ha),jK]) (fun f q l hl=>by rw[M.tK];simp[hl]) k (by simp)]
theorem ale(a:List Int)(ha:a.length<=1048576)(k:Int)(h0:0<=k)(h1:k<=100000000000):M.wa (bz jK k a).2 k=some (bz jK k a).1:=by
 unfold M.wa;rw[XT (F:=M.tM (bz jK k a).2) (mk:=jK) (fin:=id) a ha (fun i q=>q=k+(i:Int)) 0 k (by simp) (fun f q i y hi e1 e2 hI=>by
  have e3:y=q:=e2;rw[e3]at e1;clear e2 e3;rw[M.tM];have hlt:decide ((i:Int)<(((bz jK k a).2.length:Nat):Int))=true:=by rw[bh,sP];omega
  have hin:inB (i:Int) (bz jK k a).2.length=true:=by rw[cq,sP];simpa using hi
  have w1:Go.IntKind.wrap .i64 (q+1)=q+1:=wrap_i64 (by omega) (by omega);refine⟨?_,by simp only[jK];omega⟩;simp only[hlt,hin,e1,jK,bL,aA,aT,bM,aO,cm hi (gU ha),bne_self_eq_false,w1]) (fun f q=>by rw[M.tM];simp[sP])]
 rfl
def eC(k:Int)(_:af):Int×af:=(k+1+1,af.mk k (k+1))
theorem KH(l:List af)(k:Int):k<=(bz eC k l).1/\(bz eC k l).1=k+2*(l.length:Int):=by
 induction l generalizing k with
 |nil=>simp[bz]
 |cons x r ih=>have:=ih (k+1+1);simp only[bz,eC,bX]at*;omega
theorem alf(a:List af)(ha:a.length<=1048576)(k:Int)(h0:0<=k)(h1:k<=100000000000):M.yd k a=some (bz eC k a):=by
 unfold M.yd;rw[Bc (F:=M.uT) (mk:=eC) a ha (fun i q=>q=k+2*(i:Int)) af.zero (fun f q i l hi hl hg hI=>by
  rw[M.uT];have hlt:decide ((i:Int)<((l.length:Nat):Int))=true:=by rw[bh];omega
  have hin:inB (i:Int) l.length=true:=by rw[cq];simpa using hl
  have w1:Go.IntKind.wrap .i64 (q+1)=q+1:=wrap_i64 (by omega) (by omega);have w2:Go.IntKind.wrap .i64 (q+1+1)=q+1+1:=wrap_i64 (by omega) (by omega);have hgs:∀x:af,(l.set i x).getD i af.zero=x:=fun x=>KA hl x _
  refine⟨?_,by simp only[eC];omega⟩;simp only[hlt,hin,bL,aA,bM,aO,w1,w2,cm hi (gU ha),eC,mg,hgs,List.set_set]) (fun f q l hl=>by rw[M.uT];simp[hl]) k (by simp)]
theorem alg(a:List af)(ha:a.length<=1048576)(k:Int)(h0:0<=k)(h1:k<=100000000000):M.uW (bz eC k a).2 k=some (bz eC k a).1:=by
 unfold M.uW;rw[XT (F:=M.uV (bz eC k a).2) (mk:=eC) (fin:=id) a ha (fun i q=>q=k+2*(i:Int)) af.zero k (by simp) (fun f q i y hi e1 e2 hI=>by
  have e3:y=af.mk q (q+1):=e2;rw[e3]at e1;clear e2 e3;rw[M.uV];have hlt:decide ((i:Int)<(((bz eC k a).2.length:Nat):Int))=true:=by rw[bh,sP];omega
  have hin:inB (i:Int) (bz eC k a).2.length=true:=by rw[cq,sP];simpa using hi
  have w1:Go.IntKind.wrap .i64 (q+1)=q+1:=wrap_i64 (by omega) (by omega);have w2:Go.IntKind.wrap .i64 (q+1+1)=q+1+1:=wrap_i64 (by omega) (by omega);refine⟨?_,by simp only[eC];omega⟩;simp only[hlt,hin,e1,eC,bL,aA,aT,bM,aO,cm hi (gU ha),bne_self_eq_false,w1,w2]) (fun f q=>by rw[M.uV];simp[sP])]
 rfl
theorem X1(b:List UInt8)(a:List af)(ha:a.length<=1048576)(k:Int)(h0:0<=k)(h1:k<=100000000000):M.uU b k a=some (bz eC k a):=by
 unfold M.uU;rw[alf a ha k h0 h1];rfl
theorem alh(b:List UInt8)(a:List af)(ha:a.length<=1048576)(k:Int)(h0:0<=k)(h1:k<=100000000000):M.ye (M.aB.mk b (bz eC k a).2) k=some (bz eC k a).1:=by
 unfold M.ye;have:=KH a k;show(let q0:=M.uW (bz eC k a).2 k;_)=_
 rw[alg a ha k h0 h1];simp only[aQ,aU,aO];rw[bU (by omega:¬(bz eC k a).1<0)];rfl
end M
