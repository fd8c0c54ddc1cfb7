/-
  RUNNING NUMBERS: that marking ends, and how far the numbers go.
-/
import Derived.Test.YtgonjnjoklpegaaGreatDoorXOV
set_option linter.unusedVariables false
set_option linter.unusedSimpArgs false
namespace M
open Go.V (inB cu al cE)
def Mk{β:Type}(n:Nat)(k:Int)(o:Option (Int×β)):Prop:=∃k' l,o=some (k',l)/\k<=k'/\k'<=k+16*(n:Int)
theorem oS{α:Type}{l:List α}{i:Nat}(h:i<l.length)(x d:α):(l.set i x).getD i d=x:=by
 rw[eK,List.getElem?_set_self h];rfl
theorem oU{α:Type}{F:Nat->Int->Int->List α->Option (Int×List α)}{c:α->Nat}(a:List α)(ha:aF c a<=1048576)(d:α)
 (step:∀f k (i:Nat) (l:List α),∀h:i<a.length,decide ((i:Int)<((l.length:Nat):Int))=true->inB (i:Int) l.length=true->i<l.length->l.getD i d=a[i]->Go.IntKind.wrap .i64 ((i:Int)+1)=((i+1:Nat):Int)->0<=k->k+16*(c a[i]+1:Int)<=100000000000->c a[i]<=1048576->
   ∃k',(∃x,F (f+1) k (i:Int) l=F f k' ((i+1:Nat):Int) (l.set i x))/\k<=k'/\k'<=k+16*(c a[i]+1:Int))
 (stop:∀f k (l:List α),l.length=a.length->F (f+1) k (a.length:Int) l=some (k,l)) (k0:Int) (h0:0<=k0) (h1:k0+16*(aF c a:Int)<=100000000000):Mk (aF c a) k0 (F al k0 0 a):=by
 have hlen:=da c a;have key:∀f i k (l:List α),i<=a.length->a.length-i<f->l.length=a.length->(∀j,i<=j->l[j]?=a[j]?)->0<=k->k+16*(aF c (a.drop i):Int)<=100000000000->Mk (aF c (a.drop i)) k (F f k (i:Int) l):=by
  intro f
  induction f with
  |zero=>intro i k l h1 h2;omega
  |succ f ih=>
   intro i k l h1 h2 hl hj hk hb;rcases cM i a.length with hi|hi
   ·have hg:l.getD i d=a[i]:=by rw[eK,hj i (bu _),bL hi];rfl
    have hm:=dQ c a a[i] (ca hi);rw[jP hi,aF]at hb;obtain⟨k',⟨x,e⟩,g1,g2⟩:=step f k i l hi (by rw[bP];omega) (by rw[cg];simpa [hl]using hi) (by omega) hg (bM hi (dj (by omega))) hk (by omega) (by omega);obtain⟨k2,l2,e2,g3,g4⟩:=ih (i+1) k' (l.set i x) (by omega) (by omega) (by simpa using hl) (fun j hj'=>by rw[eE,ax (by omega)];exact hj j (by omega)) (by omega) (by omega);rw[jP hi,aF];exact⟨k2,l2,by rw[e,e2],by omega,by omega⟩
   ·have:i=a.length:=by omega
    subst this;exact⟨k,l,stop f k l hl,Int.le_refl _,by omega⟩
 have:=key al 0 k0 a (ew _) (by have:=cE;omega) rfl (fun _ _=>rfl) h0 (by simpa using h1);simpa using this
theorem Uy{n:Nat}(h:n<10):Go.IntKind.wrap .u8 (Go.IntKind.wrap .i64 ((48:Int)+(n:Int)))=((48+n:Nat):Int):=by
 rw[wrap_i64 (by omega) (by omega)];have:∀m:Fin 10,Go.IntKind.wrap .u8 ((48:Int)+((m.val:Nat):Int))=((48+m.val:Nat):Int):=by decide
 exact this ⟨n,h⟩
theorem Uz{n:Nat}(h:n<10):Go.V.fE ((48+n:Nat):Int)=true:=by
 unfold Go.V.fE;simp only[bc,bP];omega
theorem Hk{a b:List UInt8}(h:a.length+b.length<=100000):Go.V.rm a b=true:=by
 unfold Go.V.rm;rw[bP];omega
theorem Hl:∀(j f k:Nat)(out:List UInt8),k<10^j->j<f->k<4611686018427387904->out.length+j<=1000->∃s,M.oV f (k:Int) out=some s/\s.length<=out.length+j
 |j,0,k,out,_,h,_,_=>by omega
 |0,f+1,k,out,h1,h2,h3,h4=>by
  have:k=0:=by simpa using h1
  subst this;exact⟨out,by rw[M.oV];simp,bu _⟩
 |j+1,f+1,k,out,h1,h2,h3,h4=>by
  rw[M.oV];rcases iz k with h0|h0
  ·subst h0;exact⟨out,by simp,by omega⟩
  ·have hd:decide ((0:Int)<(k:Int))=true:=by rw[bP];omega
   have e3:Int.tmod (k:Int) 10=((k%10:Nat):Int):=(Int.ofNat_tmod k 10).symm;have e4:Go.IntKind.wrap .i64 (Int.tdiv (k:Int) 10)=((k/10:Nat):Int):=by
    rw[show Int.tdiv (k:Int) 10=((k/10:Nat):Int)from(Int.ofNat_tdiv k 10).symm,wrap_i64 (by omega) (by omega)]
   have hm:k%10<10:=Nat.mod_lt _ (by decide);obtain⟨s,g1,g2⟩:=Hl j f (k/10) ([Go.V.eI ((48+k%10:Nat):Int)]++out) (by rw[Nat.pow_succ]at h1;omega) (by omega) (by omega) (by simp;omega);refine⟨s,?_,by simp at g2;omega⟩;simp only[hd,e3,e4,Uy hm,Uz hm,aT,fF,List.map_nil];rw[Hk (by simp;omega)];exact g1
theorem UA(k:Int)(h0:0<=k)(h1:k<=1000000000000):∃s,M.iC k=some s:=by
 obtain⟨n,rfl⟩:=Hm h0;unfold M.iC;by_cases hz:(n:Int)<=0
 ·rw[cZ hz];exact⟨_,rfl⟩
 ·rw[dw hz];obtain⟨s,e,hl⟩:=Hl 13 al n [] (by omega) (by have:=cE;omega) (by omega) (by simp);rw[e];simp only[bF];rw[Hk (by simp at hl⊢;omega)];exact⟨_,rfl⟩
noncomputable def mT(k:Int):List UInt8:=(M.iC k).getD Inhabited.default
theorem w9{k:Int}(h0:0<=k)(h1:k<=1000000000000):M.iC k=some (mT k):=by
 obtain⟨s,e⟩:=UA k h0 h1;unfold mT;rw[e];rfl
theorem up{k:Int}(h0:0<=k)(h1:k<=1000000000000):Go.IntKind.wrap .i64 (k+1)=k+1:=wrap_i64 (by omega) (by omega)
theorem three:((3:Int) !=0)=true:=rfl
theorem UB(a:List (List UInt8))(ha:a.length<=1048576)(k:Int)(h0:0<=k)(h1:k<=100000000000):M.lK k a=some (k+(a.length:Int),(List.range a.length).map fun j:Nat=>mT (k+(j:Int))):=by
 have key:∀f i (l:List (List UInt8)),i<=a.length->a.length-i<f->l.length=a.length->(∀j,j<i->l[j]?=some (mT (k+(j:Int))))->M.rn f (k+(i:Int)) (i:Int) l=some (k+(a.length:Int),(List.range a.length).map fun j:Nat=>mT (k+(j:Int))):=by
  intro f
  induction f with
  |zero=>intro i l h1 h2;omega
  |succ f ih=>
   intro i l h1 h2 hl hj;rw[M.rn];rcases cM i a.length with hi|hi
   ·have hmt:=w9 (k:=k+(i:Int)) (by omega) (by omega);have hlt:decide ((i:Int)<((l.length:Nat):Int))=true:=by rw[bP];omega
    have hin:inB (i:Int) l.length=true:=by rw[cg];simpa [hl]using hi
    have hw:Go.IntKind.wrap .i64 (k+(i:Int)+1)=k+((i+1:Nat):Int):=by rw[up (by omega) (by omega)];omega
    simp only[hlt,hin,hmt,bY,aT,bU,bX,bQ,bH,bM hi (dj ha),hw];exact ih (i+1) _ (by omega) (by omega) (by simpa using hl) fun j hj'=>by
     rw[eE];rcases cM j i with g|g
     ·rw[ax (by omega)];exact hj j g
     ·have:i=j:=by omega
      subst this;rw[aC rfl,aC (by omega)]
   ·have:i=a.length:=by omega
    subst this;have hf:decide ((a.length:Int)<((l.length:Nat):Int))=false:=by rw[iD];omega
    rw[hf,bF];have:l=(List.range a.length).map fun j:Nat=>mT (k+(j:Int)):=by
     apply jx;intro j;rcases cM j a.length with g|g
     ·rw[hj j g];simp[g]
     ·rw[i3 (by omega),i3 (by simpa using g)]
    rw[this]
 have:=key al 0 a (ew _) (by have:=cE;omega) rfl (fun j h=>absurd h (i4 _));unfold M.lK;have e:k+((0:Nat):Int)=k:=by simp
 rw[e]at this;have e0:((0:Nat):Int)=0:=rfl;rw[e0]at this;rw[this]
theorem Hq(a:List (List UInt8))(ha:aF List.length a<=1048576)(k:Int)(h0:0<=k)(h1:k<=100000000000):Mk (aF List.length a) k (M.lK k a):=by
 have:=da List.length a;exact⟨_,_,UB a (by omega) k h0 h1,by omega,by omega⟩
end M
namespace M
open Go.V (inB cu al cE)
theorem aa.p1(a b c d):(aa.mk a b c d).Kind=a:=rfl
theorem aa.p2(a b c d):(aa.mk a b c d).Name=b:=rfl
theorem aa.p3(a b c d):(aa.mk a b c d).bK=c:=rfl
theorem aa.p4(a b c d):(aa.mk a b c d).Kids=d:=rfl
theorem ae.p1(a b c d):(ae.mk a b c d).Kind=a:=rfl
theorem ae.p2(a b c d):(ae.mk a b c d).Num=b:=rfl
theorem ae.p3(a b c d):(ae.mk a b c d).Text=c:=rfl
theorem ae.p4(a b c d):(ae.mk a b c d).Kids=d:=rfl
theorem Hr:∀(n:Nat)(a:List aa)(k:Int),aF aa.sz a<n->aF aa.sz a<=1048576->0<=k->k+16*(aF aa.sz a:Int)<=100000000000->Mk (aF aa.sz a) k (M.oW n k a)
 |0,a,k,h,_,_,_=>by omega
 |n+1,a,k,h,hz,h0,h1=>by
  obtain⟨k',l',e,g⟩:=oU (F:=M.oY (M.oW n)) a hz aa.zero (fun f q i l hi hlt hin hl hg hw hq hb hc=>by
   have hs:=aa.cy a[i];have hpos:=lL aa.sz a a[i] (ca hi);obtain⟨k1,l1,e1,a1,b1⟩:=Hq a[i].bK (by omega) (q+1+1) (by omega) (by omega);obtain⟨k2,l2,e2,a2,b2⟩:=Hr n a[i].Kids k1 (by omega) (by omega) (by omega) (by omega);refine⟨k2,Exists.intro ?x ?h,by omega,by omega⟩
   rotate_left
   rw[M.oY];simp only[hlt,hin,bY,aT,bU,bX,oS,hl,gG,hg,up hq (show q<=1000000000000 by omega),up (show 0<=q+1 by omega) (by omega),aa.p1,aa.p2,aa.p3,aa.p4,w9 (show 0<=q+1 by omega) (by omega),e1,e2,bQ,bH,hw,List.set_set];rfl) (fun f q l hl=>by rw[M.oY];simp[hl]) k h0 h1
  show Mk _ k (M.vc (M.oW n) k a)
  unfold M.vc;rw[e];exact⟨_,_,rfl,g⟩
theorem UC(a:List aa)(k:Int)(hz:aF aa.sz a<=1048576)(h0:0<=k)(h1:k+16*(aF aa.sz a:Int)<=100000000000):Mk (aF aa.sz a) k (M.xa k a):=
 Hr al a k (by have:=cE;omega) hz h0 h1
theorem Ht:∀(n:Nat)(a:List ae)(k:Int),aF ae.sz a<n->aF ae.sz a<=1048576->0<=k->k+16*(aF ae.sz a:Int)<=100000000000->Mk (aF ae.sz a) k (M.oZ n k a)
 |0,a,k,h,_,_,_=>by omega
 |n+1,a,k,h,hz,h0,h1=>by
  obtain⟨k',l',e,g⟩:=oU (F:=M.o5 (M.oZ n)) a hz ae.zero (fun f q i l hi hlt hin hl hg hw hq hb hc=>by
   have hs:=ae.cy a[i];have hpos:=lL ae.sz a a[i] (ca hi);obtain⟨k2,l2,e2,a2,b2⟩:=Ht n a[i].Kids (q+1+1+1) (by omega) (by omega) (by omega) (by omega);refine⟨k2,Exists.intro ?x ?h,by omega,by omega⟩
   rotate_left
   rw[M.o5];simp only[hlt,hin,bY,aT,bU,bX,oS,hl,gG,hg,up hq (show q<=1000000000000 by omega),up (show 0<=q+1 by omega) (by omega),up (show 0<=q+1+1 by omega) (by omega),ae.p1,ae.p2,ae.p3,ae.p4,w9 (show 0<=q+1+1 by omega) (by omega),e2,bQ,bH,hw,List.set_set];rfl) (fun f q l hl=>by rw[M.o5];simp[hl]) k h0 h1
  show Mk _ k (M.vd (M.oZ n) k a)
  unfold M.vd;rw[e];exact⟨_,_,rfl,g⟩
theorem UD(a:List ae)(k:Int)(hz:aF ae.sz a<=1048576)(h0:0<=k)(h1:k+16*(aF ae.sz a:Int)<=100000000000):Mk (aF ae.sz a) k (M.xb k a):=
 Ht al a k (by have:=cE;omega) hz h0 h1
theorem AE(a:List Int)(k:Int)(hz:aF (fun _=>0) a<=1048576)(h0:0<=k)(h1:k+16*(aF (fun _=>0) a:Int)<=100000000000):Mk (aF (fun _=>0) a) k (M.lM k a):=by
 obtain⟨k',l',e,g⟩:=oU (F:=M.o6) a hz (0:Int) (fun f q i l hi hlt hin hl hg hw hq hb hc=>by
  refine⟨q+1,Exists.intro ?x ?h,by omega,by omega⟩
  rotate_left
  rw[M.o6];simp only[hlt,hin,bY,aT,bU,bX,hw,up hq (show q<=1000000000000 by omega)];rfl) (fun f q l hl=>by rw[M.o6];simp[hl]) k h0 h1
 unfold M.lM;rw[e];exact⟨_,_,rfl,g⟩
theorem UE(a:List aG)(k:Int)(hz:aF aG.sz a<=1048576)(h0:0<=k)(h1:k+16*(aF aG.sz a:Int)<=100000000000):Mk (aF aG.sz a) k (M.rq k a):=by
 obtain⟨k',l',e,g⟩:=oU (F:=M.o7) a hz aG.zero (fun f q i l hi hlt hin hl hg hw hq hb hc=>by
  refine⟨q+1+1+1,Exists.intro ?x ?h,by omega,by omega⟩
  rotate_left
  rw[M.o7];simp only[hlt,hin,bY,aT,bU,bX,oS,hl,gG,hg,hw,List.set_set,up (show 0<=q by omega) (by omega),up (show 0<=q+1 by omega) (by omega),up (show 0<=q+1+1 by omega) (by omega)];rfl) (fun f q l hl=>by rw[M.o7];simp[hl]) k h0 h1
 unfold M.rq;rw[e];exact⟨_,_,rfl,g⟩
theorem UF(a:List aD)(k:Int)(hz:aF aD.sz a<=1048576)(h0:0<=k)(h1:k+16*(aF aD.sz a:Int)<=100000000000):Mk (aF aD.sz a) k (M.ru k a):=by
 obtain⟨k',l',e,g⟩:=oU (F:=M.o8) a hz aD.zero (fun f q i l hi hlt hin hl hg hw hq hb hc=>by
  have hs:=aD.cy a[i];obtain⟨k1,l1,e1,a1,b1⟩:=UE a[i].Ops (q+1) (by omega) (by omega) (by omega);refine⟨k1,Exists.intro ?x ?h,by omega,by omega⟩
  rotate_left
  rw[M.o8];simp only[hlt,hin,bY,aT,bU,bX,oS,hl,gG,hg,hw,List.set_set,up (show 0<=q by omega) (by omega),e1,bQ,bH];rfl) (fun f q l hl=>by rw[M.o8];simp[hl]) k h0 h1
 unfold M.ru;rw[e];exact⟨_,_,rfl,g⟩
theorem UG(a:List ah)(k:Int)(hz:aF ah.sz a<=1048576)(h0:0<=k)(h1:k+16*(aF ah.sz a:Int)<=100000000000):Mk (aF ah.sz a) k (M.rx k a):=by
 obtain⟨k',l',e,g⟩:=oU (F:=M.o9) a hz ah.zero (fun f q i l hi hlt hin hl hg hw hq hb hc=>by
  have hs:=ah.cy a[i];have ht:=aa.cy a[i].bR;obtain⟨k1,l1,e1,a1,b1⟩:=Hq a[i].bR.bK (by omega) (q+1+1) (by omega) (by omega);obtain⟨k2,l2,e2,a2,b2⟩:=UC a[i].bR.Kids k1 (by omega) (by omega) (by omega);obtain⟨k3,l3,e3,a3,b3⟩:=UD a[i].Buffer (k2+1+1) (by omega) (by omega) (by omega);refine⟨k3+1+1+1+1,Exists.intro ?x ?h,by omega,by omega⟩
  rotate_left
  rw[M.o9];simp only[hlt,hin,bY,aT,bU,bX,oS,hl,gG,hg,hw,List.set_set,aa.p1,aa.p2,aa.p3,aa.p4,aa.aE,three,up (show 0<=q by omega) (by omega),up (show 0<=q+1 by omega) (by omega),up (show 0<=k2 by omega) (by omega),up (show 0<=k2+1 by omega) (by omega),up (show 0<=k3 by omega) (by omega),up (show 0<=k3+1 by omega) (by omega),up (show 0<=k3+1+1 by omega) (by omega),up (show 0<=k3+1+1+1 by omega) (by omega),w9 (show 0<=q+1 by omega) (by omega),e1,e2,e3,bQ,bH];rfl) (fun f q l hl=>by rw[M.o9];simp[hl]) k h0 h1
 unfold M.rx;rw[e];exact⟨_,_,rfl,g⟩
theorem UH(a:List af)(k:Int)(hz:aF af.sz a<=1048576)(h0:0<=k)(h1:k+16*(aF af.sz a:Int)<=100000000000):Mk (aF af.sz a) k (M.ry k a):=by
 obtain⟨k',l',e,g⟩:=oU (F:=M.pd) a hz af.zero (fun f q i l hi hlt hin hl hg hw hq hb hc=>by
  have hs:=af.cy a[i];obtain⟨k1,l1,e1,a1,b1⟩:=AE a[i].aZ (q+1+1+1+1+1+1+1+1+1) (by omega) (by omega) (by omega);obtain⟨k2,l2,e2,a2,b2⟩:=AE a[i].Set k1 (by omega) (by omega) (by omega);refine⟨k2,Exists.intro ?x ?h,by omega,by omega⟩
  rotate_left
  rw[M.pd];simp only[hlt,hin,bY,aT,bU,bX,oS,hl,gG,hg,hw,List.set_set,three,up (show 0<=q by omega) (by omega),up (show 0<=q+1 by omega) (by omega),up (show 0<=q+1+1 by omega) (by omega),up (show 0<=q+1+1+1 by omega) (by omega),up (show 0<=q+1+1+1+1 by omega) (by omega),up (show 0<=q+1+1+1+1+1 by omega) (by omega),up (show 0<=q+1+1+1+1+1+1 by omega) (by omega),up (show 0<=q+1+1+1+1+1+1+1 by omega) (by omega),up (show 0<=q+1+1+1+1+1+1+1+1 by omega) (by omega),e1,e2,bQ,bH];rfl) (fun f q l hl=>by rw[M.pd];simp[hl]) k h0 h1
 unfold M.ry;rw[e];exact⟨_,_,rfl,g⟩
def mN(k:Int):ay:=ay.mk k (k+1) (k+1+1) (k+1+1+1)
theorem UI(k:Int):(mN k).Task=k:=rfl
theorem UJ(k:Int):(mN k).Kind=k+1:=rfl
theorem UK(k:Int):(mN k).A=k+1+1:=rfl
theorem UL(k:Int):(mN k).B=k+1+1+1:=rfl
theorem Hu(a:List ay)(ha:a.length<=1048576)(k:Int)(h0:0<=k)(h1:k<=100000000000):M.mV k a=some (k+4*(a.length:Int),(List.range a.length).map fun j:Nat=>mN (k+4*(j:Int))):=by
 have key:∀f i (l:List ay),i<=a.length->a.length-i<f->l.length=a.length->(∀j,j<i->l[j]?=some (mN (k+4*(j:Int))))->M.rz f (k+4*(i:Int)) (i:Int) l=some (k+4*(a.length:Int),(List.range a.length).map fun j:Nat=>mN (k+4*(j:Int))):=by
  intro f
  induction f with
  |zero=>intro i l h1 h2;omega
  |succ f ih=>
   intro i l h1 h2 hl hj;rw[M.rz];rcases cM i a.length with hi|hi
   ·have hil:i<l.length:=by omega
    have hlt:decide ((i:Int)<((l.length:Nat):Int))=true:=by rw[bP];omega
    have hin:inB (i:Int) l.length=true:=by rw[cg];simpa [hl]using hi
    have hw:Go.IntKind.wrap .i64 (k+4*(i:Int)+1+1+1+1)=k+4*((i+1:Nat):Int):=by rw[up (by omega) (by omega)];omega
    simp only[hlt,hin,bY,aT,bU,bX,oS,hil,gG,List.set_set,bM hi (dj ha),up (show 0<=k+4*(i:Int) by omega) (by omega),up (show 0<=k+4*(i:Int)+1 by omega) (by omega),up (show 0<=k+4*(i:Int)+1+1 by omega) (by omega),hw];refine Eq.trans ?_ (ih (i+1) (l.set i (mN (k+4*(i:Int)))) (by omega) (by omega) (by simpa using hl) fun j hj'=>?_)
    ·rfl
    ·rw[eE];rcases cM j i with g|g
     ·rw[ax (by omega)];exact hj j g
     ·have:i=j:=by omega
      subst this;rw[aC rfl,aC (by omega)]
   ·have:i=a.length:=by omega
    subst this;have hf:decide ((a.length:Int)<((l.length:Nat):Int))=false:=by rw[iD];omega
    rw[hf,bF];have:l=(List.range a.length).map fun j:Nat=>mN (k+4*(j:Int)):=by
     apply jx;intro j;rcases cM j a.length with g|g
     ·rw[hj j g];simp[g]
     ·rw[i3 (by omega),i3 (by simpa using g)]
    rw[this]
 have:=key al 0 a (ew _) (by have:=cE;omega) rfl (fun j h=>absurd h (i4 _));unfold M.mV;have e:k+4*((0:Nat):Int)=k:=by simp
 have e0:((0:Nat):Int)=0:=rfl;rw[e,e0]at this;rw[this]
theorem UM(n:Nat)(hn:n<=1048576)(k:Int)(h0:0<=k)(h1:k<=100000000000):M.rA ((List.range n).map fun j:Nat=>mN (k+4*(j:Int))) k=some (k+4*(n:Int)):=by
 have key:∀f i,i<=n->n-i<f->M.rB ((List.range n).map fun j:Nat=>mN (k+4*(j:Int))) f (k+4*(i:Int)) (i:Int)=some (.inr (k+4*(n:Int))):=by
  intro f
  induction f with
  |zero=>intro i h1 h2;omega
  |succ f ih=>
   intro i h1 h2;rw[M.rB];rcases cM i n with hi|hi
   ·have hlen:((List.range n).map fun j:Nat=>mN (k+4*(j:Int))).length=n:=by simp
    have hlt:decide ((i:Int)<((n:Nat):Int))=true:=by rw[bP];omega
    have hin:inB (i:Int) n=true:=by rw[cg];simpa using hi
    have hg:((List.range n).map fun j:Nat=>mN (k+4*(j:Int))).getD i ay.zero=mN (k+4*(i:Int)):=by rw[getD_lt (by omega)];simp
    have hw:Go.IntKind.wrap .i64 (k+4*(i:Int)+1+1+1+1)=k+4*((i+1:Nat):Int):=by rw[up (by omega) (by omega)];omega
    simp only[hlen,hlt,hin,hg,UI,UJ,UK,UL,bY,aT,bF,bU,bX,bne_self_eq_false,bM hi (dj hn),up (show 0<=k+4*(i:Int) by omega) (by omega),up (show 0<=k+4*(i:Int)+1 by omega) (by omega),up (show 0<=k+4*(i:Int)+1+1 by omega) (by omega),hw];exact ih (i+1) (by omega) (by omega)
   ·have:i=n:=by omega
    subst this;simp
 have:=key al 0 (ew _) (by have:=cE;omega);unfold M.rA;have e:k+4*((0:Nat):Int)=k:=by simp
 have e0:((0:Nat):Int)=0:=rfl;rw[e,e0]at this;rw[this]
theorem rC:∀l:List ay,aF ay.sz l=l.length
 |[]=>rfl
 |x::r=>by simp only[aF,rC r,ay.cy,cV];omega
theorem UN(w:ar)(h:w.sz<=1048576):∃k r,M.rD 1 w.bp w.bS w.aH w.Back w.Notes=some (k,r)/\0<=k:=by
 have hs:=ar.cy w;have hn:=rC w.Notes;obtain⟨k0,l0,e0,a0,b0⟩:=UF w.bp 1 (by omega) (by omega) (by omega);obtain⟨k1,l1,e1,a1,b1⟩:=UG w.bS k0 (by omega) (by omega) (by omega);obtain⟨k2,l2,e2,a2,b2⟩:=UH w.aH k1 (by omega) (by omega) (by omega);obtain⟨k3,l3,e3,a3,b3⟩:=AE w.Back k2 (by omega) (by omega) (by omega);have e4:=Hu w.Notes (by omega) k3 (by omega) (by omega);refine⟨k3+4*(w.Notes.length:Int), ?r, ?h,by omega⟩
 rotate_left
 unfold M.rD;simp only[e0,e1,e2,e3,e4,bH,bQ,bU,bX,aT];rfl
end M
namespace M
open Go.V (inB cu al cE)
theorem UO{α Y:Type}{P:α->Bool}{F:Nat->Int->Int->List α->Option Y}{h:Int->List α->Option Y}(s0:List α)(d:α)
 (UP:∀f (i j:Nat) s,∀hj:j<s0.length,i<s0.length->s.length=s0.length->P s0[j]=true->s.getD j d=s0[j]->F (f+1) (i:Int) (j:Int) s=F f ((i+1:Nat):Int) ((j+1:Nat):Int) (s.set i s0[j]))
 (UQ:∀f (i j:Nat) s,∀hj:j<s0.length,i<s0.length->s.length=s0.length->P s0[j]=false->s.getD j d=s0[j]->F (f+1) (i:Int) (j:Int) s=F f (i:Int) ((j+1:Nat):Int) s)
 (stop:∀f (i:Nat) s,s.length=s0.length->F (f+1) (i:Int) (s0.length:Int) s=h (i:Int) s):
 ∀f (i j:Nat) s,j<=s0.length->s0.length-j<f->i<j->s.length=s0.length->s.take i=(s0.take j).filter P->(∀q,j<=q->s[q]?=s0[q]?)->
  ∃(i':Nat)(s':List α),F f (i:Int) (j:Int) s=h (i':Int) s'/\i'<=s0.length/\s'.length=s0.length/\s'.take i'=s0.filter P:=by
 intro f
 induction f with
 |zero=>intro i j s h1 h2;omega
 |succ f ih=>
  intro i j s h1 h2 hij hl ht hq;rcases cM j s0.length with hj|hj
  ·have hg:s.getD j d=s0[j]:=by rw[eK,hq j (bu _),bL hj];rfl
   have hf:(s0.take (j+1)).filter P=(s0.take j).filter P++(if P s0[j]then[s0[j]]else[]):=by
    rw[xc,bL hj,Option.toList_some,List.filter_append];congr 1;cases hp:P s0[j]<;>simp[hp]
   cases hp:P s0[j]with
   |true=>
    rw[UP f i j s hj (by omega) hl hp hg];refine ih (i+1) (j+1) _ (by omega) (by omega) (by omega) (by simpa using hl) ?_ fun q hq'=>?_
    ·rw[hf,hp,aC rfl,<-ht,xc,List.getElem?_set_self (by omega),Option.toList_some,List.take_set_of_le (bu _)]
    ·rw[eE,ax (by omega)];exact hq q (by omega)
   |false=>
    rw[UQ f i j s hj (by omega) hl hp hg];refine ih i (j+1) s (by omega) (by omega) (by omega) hl ?_ fun q hq'=>hq q (by omega)
    rw[hf,hp,ht];simp
  ·have:j=s0.length:=by omega
   subst this;refine⟨i,s,stop f i s hl,by omega,hl,?_⟩;rw[ht,AG]
theorem Hw{α:Type}{P:α->Bool}:∀(l:List α){k:Nat},l.findIdx? (fun x=> !P x)=some k->k<l.length/\(l.take (k+1)).filter P=l.take k
 |[],k,h=>by simp at h
 |x::r,k,h=>by
  rw[List.findIdx?_cons]at h;cases hp:P x with
  |false=>
   rw[hp]at h;simp at h;subst h;exact⟨by simp,by simp[hp]⟩
  |true=>
   rw[hp]at h;simp only[d5,gi,dN,dH]at h;obtain⟨j,hj,rfl⟩:=h;obtain⟨h1,h2⟩:=Hw r hj;exact⟨by simp;omega,by simp only[List.take_succ_cons,List.filter_cons,hp,dC,h2]⟩
theorem UR{α:Type}{P:α->Bool}{l:List α}(h:l.findIdx? (fun x=> !P x)=none):l.filter P=l:=by
 rw[List.findIdx?_eq_none_iff]at h;rw[List.filter_eq_self];intro x hx;simpa using h x hx
end M
namespace M
open Go.V (inB cu al cE)
def mW(l:List ay)(id:Int):List ay:=l.filter fun n=>n.Task==id
theorem bne_not(a b:Int):(a !=b)= !(a==b):=rfl
theorem US(s:List ay)(hs:s.length<=1048576)(id:Int):M.rE s id=some (match s.findIdx? (fun n=> !(n.Task==id))with
 |some k=>(k:Int)
 |none=> -1):=by
 have e:=i5 (p:=fun n:ay=> !(n.Task==id)) (F:=M.pe s id (s.length:Int)) (e:=()) (fun k=>k) s (by omega) (fun g k hk=>by
  rw[M.pe];simp only[getD_lt hk,bne_not,bY,cg,cX,hk,cz,aT,bU,bX,bM hk (dj hs)]) (fun g=>by rw[M.pe];simp)
 unfold M.rE;rw[e];cases s.findIdx? fun n=> !(n.Task==id)<;>rfl
theorem UT(s:List ay)(hs:s.length<=1048576)(id:Int):∃o,M.rF s id=some (o,mW s id):=by
 unfold M.rF mW;rw[US s hs id];cases h:s.findIdx? fun n=> !(n.Task==id)with
 |none=>
  rw[UR (P:=fun n:ay=>n.Task==id) h];exact⟨id,rfl⟩
 |some k=>
  obtain⟨hk,ht⟩:=Hw (P:=fun n:ay=>n.Task==id) s h;have hne:(((k:Nat):Int)== -1)=false:=by rw[gZ];omega
  have hw:Go.IntKind.wrap .i64 ((k:Int)+1)=((k+1:Nat):Int):=bM hk (dj hs);obtain⟨i,s',e,hi,hl,hf⟩:=UO (P:=fun n:ay=>n.Task==id) (F:=fun f i j s=>M.i6 id f i j s) (h:=fun i s=>some (i,id,s)) s ay.zero (fun f i j l hj hi hl hp hg=>by
   show M.i6 id (f+1) (i:Int) (j:Int) l=_
   rw[M.i6];have hlt:decide ((j:Int)<((l.length:Nat):Int))=true:=by rw[bP];omega
   have h1:inB (i:Int) l.length=true:=by rw[cg];simpa [hl]using hi
   have h2:inB (j:Int) l.length=true:=by rw[cg];simpa [hl]using hj
   simp only[hlt,h1,h2,bne_not,bY,hg,hp,d5,iE,aT,cI,bU,bM hi (dj hs),bM hj (dj hs)]) (fun f i j l hj hi hl hp hg=>by
   show M.i6 id (f+1) (i:Int) (j:Int) l=_
   rw[M.i6];have hlt:decide ((j:Int)<((l.length:Nat):Int))=true:=by rw[bP];omega
   have h2:inB (j:Int) l.length=true:=by rw[cg];simpa [hl]using hj
   simp only[hlt,h2,bne_not,bY,hg,hp,d5,iE,aT,bF,cI,bU,bM hj (dj hs)]) (fun f i l hl=>by
   show M.i6 id (f+1) (i:Int) (s.length:Int) l=_
   rw[M.i6];simp[hl]) al k (k+1) s hk (by have:=cE;omega) (Nat.lt_succ_self _) rfl ht.symm (fun _ _=>rfl)
  have e':M.i6 id al (k:Int) ((k+1:Nat):Int) s=_:=e;have hd:List.drop s'.length s'=[]:=jQ;have hs1:cu 0 (i:Int) (List.take i s'++List.replicate (s'.length-i) (ay.mk 0 0 0 0)++[]).length=true:=by
   unfold cu;simp only[bc,bP];simp;omega
  have hs2:cu (i:Int) (s'.length:Int) s'.length=true:=by
   unfold cu;simp only[bc,bP];omega
  have ht2:List.take i (List.take i s'++List.replicate (s'.length-i) (ay.mk 0 0 0 0)++[])=s.filter fun n=>n.Task==id:=by
   rw[oQ,ve (by simp;omega),List.take_take,Nat.min_self,hf]
  simp only[bH,bQ,hne,bF,hw,e',bY,hd,hs1,hs2,ht2,bu,cz,cI,bX,aT];exact⟨id,rfl⟩
theorem UU(w:ar)(h:w.sz<=1048576)(id:Int):M.pf w id=some (if lN w then mW w.Notes id else[]):=by
 have hn:=rC w.Notes;have hs:=ar.cy w;obtain⟨o,e⟩:=UT w.Notes (by omega) id;have ec:M.mP w.Notes=some w.Notes:=by unfold M.mP;rw[cZ (by omega)];rfl
 unfold M.pf;rw[UW w h];cases lN w
 ·rfl
 ·simp only[ec,e,bH,bQ,d5,bF,cI,aT,dC]
theorem Hy(id:Int):∀(l a:List ay),l.foldl (fun a n=>if n.Task==id then a++[n]else a) a=a++mW l id
 |[],a=>by simp[mW]
 |x::r,a=>by
  rw[List.foldl_cons,Hy id r];unfold mW;cases hx:x.Task==id
  ·simp[hx]
  ·simp[hx]
theorem UX(w:ar)(h:w.sz<=1048576)(id:Int):M.pg w id=some (if lN w then mW w.Notes id else[]):=by
 have hn:=rC w.Notes;have hs:=ar.cy w;have hl:w.Notes.length<=1048576:=by omega
 have e:=UY (F:=M.mX id w) (g:=fun a n=>if n.Task==id then a++[n]else a) (h:=fun a=>a) w.Notes (by omega) (fun k a=>a.length<=k) (fun f k a hk hI=>by
  rw[M.mX];have hb:decide (a.length+[w.Notes[k]].length<=1073741824)=true:=by rw[bP,List.length_singleton];omega
  simp only[getD_lt hk,bY,cg,cX,hk,cz,aT,bU,bX,hb,bM hk (dj hl)];cases w.Notes[k].Task==id
  ·exact⟨rfl,by simp;omega⟩
  ·exact⟨rfl,by simp;omega⟩) (fun f a hI=>by rw[M.mX];simp) [] (bu _)
 rw[Hy]at e;unfold M.pg;rw[UZ w h];cases lN w
 ·rfl
 ·simp only[e,bH,bQ,d5,bF,cI,aT,dC,lG]
theorem ar.eta(w:ar):ar.mk w.bp w.bS w.aH w.Back w.Notes=w:=rfl
theorem U0(l:List ay)(id:Int):(mW l id).length<=l.length:=List.length_filter_le _ _
theorem U1(x:ar)(id:Int)(hx:x.Ok):M.rG x id=some true:=by
 unfold M.rG;rw[U2 x 1048576 hx (by omega) (by omega)];by_cases h1:(x.sz:Int)<=1048576
 ·have h:x.sz<=1048576:=by omega
  have n1:¬(1048576-(x.sz:Int)<0):=by omega
  have hn:=rC x.Notes;have hs:=ar.cy x;obtain⟨r,hr,er,es⟩:∃r:List ay,r.length<=1048576/\M.pf x id=some r/\M.pg x id=some r:=by
   refine⟨_,?_,UU x h id,UX x h id⟩;have:=U0 x.Notes id;split
   ·omega
   ·simp
  have e3:=Hz r (by rw[rC];omega);obtain⟨k,q,em,hk⟩:=UN x h;have n2:¬(k<0):=by omega
  have n3:¬(1+4*((r.length:Nat):Int)<0):=by omega
  rw[aC h1];simp only[U3 x h,ar.eta,er,es,e3,U4 x h,em,Hu r hr 1 (by omega) (by omega),UM r.length hr 1 (by omega) (by omega),bH,bQ,n1,n2,n3,vf,bF,bX,cI,bU,aT,AH,bne_self_eq_false,d5,fO,kq,iE,bZ]
 ·rw[ax h1];simp
end M
