/-
  RUNNING NUMBERS: that marking ends, and how far the numbers go.
-/
import Derived.Test.YtbeijibjinbgcaaGreatDoorXHV
set_option linter.unusedVariables false
set_option linter.unusedSimpArgs false
namespace M
open Go.V (inB cC an cJ)
def Mk{β:Type}(n:Nat)(k:Int)(o:Option (Int×β)):Prop:=∃k' l,o=some (k',l)/\k<=k'/\k'<=k+16*(n:Int)
theorem alS{α:Type}{l:List α}{i:Nat}(h:i<l.length)(x d:α):(l.set i x).getD i d=x:=by
 rw[cY,List.getElem?_set_self h];rfl
theorem alT{α:Type}{F:Nat->Int->Int->List α->Option (Int×List α)}{c:α->Nat}(a:List α)(ha:aR c a<=1048576)(d:α)
 (step:∀f k (i:Nat) (l:List α),∀h:i<a.length,decide ((i:Int)<((l.length:Nat):Int))=true->inB (i:Int) l.length=true->i<l.length->l.getD i d=a[i]->Go.IntKind.wrap .i64 ((i:Int)+1)=((i+1:Nat):Int)->0<=k->k+16*(c a[i]+1:Int)<=100000000000->c a[i]<=1048576->
   ∃k',(∃x,F (f+1) k (i:Int) l=F f k' ((i+1:Nat):Int) (l.set i x))/\k<=k'/\k'<=k+16*(c a[i]+1:Int))
 (stop:∀f k (l:List α),l.length=a.length->F (f+1) k (a.length:Int) l=some (k,l)) (k0:Int) (h0:0<=k0) (h1:k0+16*(aR c a:Int)<=100000000000):Mk (aR c a) k0 (F an k0 0 a):=by
 have hlen:=di c a;have key:∀f i k (l:List α),i<=a.length->a.length-i<f->l.length=a.length->(∀j,i<=j->l[j]?=a[j]?)->0<=k->k+16*(aR c (a.drop i):Int)<=100000000000->Mk (aR c (a.drop i)) k (F f k (i:Int) l):=by
  intro f
  induction f with
  |zero=>intro i k l h1 h2;omega
  |succ f ih=>
   intro i k l h1 h2 hl hj hk hb;rcases fY i a.length with hi|hi
   ·have hg:l.getD i d=a[i]:=by rw[cY,hj i (cH _),bW hi];rfl
    have hm:=dX c a a[i] (cn hi);rw[jZ hi,aR]at hb;obtain⟨k',⟨x,e⟩,g1,g2⟩:=step f k i l hi (by rw[bC];omega) (by rw[ct];simpa [hl]using hi) (by omega) hg (bN hi (dP (by omega))) hk (by omega) (by omega);obtain⟨k2,l2,e2,g3,g4⟩:=ih (i+1) k' (l.set i x) (by omega) (by omega) (by simpa using hl) (fun j hj'=>by rw[iO,bF (by omega)];exact hj j (by omega)) (by omega) (by omega);rw[jZ hi,aR];exact⟨k2,l2,by rw[e,e2],by omega,by omega⟩
   ·have:i=a.length:=by omega
    subst this;exact⟨k,l,stop f k l hl,Int.le_refl _,by omega⟩
 have:=key an 0 k0 a (dJ _) (by have:=cJ;omega) rfl (fun _ _=>rfl) h0 (by simpa using h1);simpa using this
theorem an9{n:Nat}(h:n<10):Go.IntKind.wrap .u8 (Go.IntKind.wrap .i64 ((48:Int)+(n:Int)))=((48+n:Nat):Int):=by
 rw[wrap_i64 (by omega) (by omega)];have:∀m:Fin 10,Go.IntKind.wrap .u8 ((48:Int)+((m.val:Nat):Int))=((48+m.val:Nat):Int):=by decide
 exact this ⟨n,h⟩
theorem aoa{n:Nat}(h:n<10):Go.V.iz ((48+n:Nat):Int)=true:=by
 unfold Go.V.iz;simp only[bk,bC];omega
theorem ani{a b:List UInt8}(h:a.length+b.length<=100000):Go.V.VJ a b=true:=by
 unfold Go.V.VJ;rw[bC];omega
theorem anj:∀(j f k:Nat)(out:List UInt8),k<10^j->j<f->k<4611686018427387904->out.length+j<=1000->∃s,M.alV f (k:Int) out=some s/\s.length<=out.length+j
 |j,0,k,out,_,h,_,_=>by omega
 |0,f+1,k,out,h1,h2,h3,h4=>by
  have:k=0:=by simpa using h1
  subst this;exact⟨out,by rw[M.alV];simp,cH _⟩
 |j+1,f+1,k,out,h1,h2,h3,h4=>by
  rw[M.alV];rcases gJ k with h0|h0
  ·subst h0;exact⟨out,by simp,by omega⟩
  ·have hd:decide ((0:Int)<(k:Int))=true:=by rw[bC];omega
   have e3:Int.tmod (k:Int) 10=((k%10:Nat):Int):=(Int.ofNat_tmod k 10).symm;have e4:Go.IntKind.wrap .i64 (Int.tdiv (k:Int) 10)=((k/10:Nat):Int):=by
    rw[show Int.tdiv (k:Int) 10=((k/10:Nat):Int)from(Int.ofNat_tdiv k 10).symm,wrap_i64 (by omega) (by omega)]
   have hm:k%10<10:=Nat.mod_lt _ (by decide);obtain⟨s,g1,g2⟩:=anj j f (k/10) ([Go.V.fy ((48+k%10:Nat):Int)]++out) (by rw[Nat.pow_succ]at h1;omega) (by omega) (by omega) (by simp;omega);refine⟨s,?_,by simp at g2;omega⟩;simp only[hd,e3,e4,an9 hm,aoa hm,aE,gj,List.map_nil];rw[ani (by simp;omega)];exact g1
theorem aob(k:Int)(h0:0<=k)(h1:k<=1000000000000):∃s,M.ajx k=some s:=by
 obtain⟨n,rfl⟩:=yO h0;unfold M.ajx;by_cases hz:(n:Int)<=0
 ·rw[cy hz];exact⟨_,rfl⟩
 ·rw[dj hz];obtain⟨s,e,hl⟩:=anj 13 an n [] (by omega) (by have:=cJ;omega) (by omega) (by simp);rw[e];simp only[aZ];rw[ani (by simp at hl⊢;omega)];exact⟨_,rfl⟩
noncomputable def mT(k:Int):List UInt8:=(M.ajx k).getD Inhabited.default
theorem amM{k:Int}(h0:0<=k)(h1:k<=1000000000000):M.ajx k=some (mT k):=by
 obtain⟨s,e⟩:=aob k h0 h1;unfold mT;rw[e];rfl
theorem up{k:Int}(h0:0<=k)(h1:k<=1000000000000):Go.IntKind.wrap .i64 (k+1)=k+1:=wrap_i64 (by omega) (by omega)
theorem three:((3:Int) !=0)=true:=rfl
theorem aoc(a:List (List UInt8))(ha:a.length<=1048576)(k:Int)(h0:0<=k)(h1:k<=100000000000):M.akm k a=some (k+(a.length:Int),(List.range a.length).map fun j:Nat=>mT (k+(j:Int))):=by
 have key:∀f i (l:List (List UInt8)),i<=a.length->a.length-i<f->l.length=a.length->(∀j,j<i->l[j]?=some (mT (k+(j:Int))))->M.amq f (k+(i:Int)) (i:Int) l=some (k+(a.length:Int),(List.range a.length).map fun j:Nat=>mT (k+(j:Int))):=by
  intro f
  induction f with
  |zero=>intro i l h1 h2;omega
  |succ f ih=>
   intro i l h1 h2 hl hj;rw[M.amq];rcases fY i a.length with hi|hi
   ·have hmt:=amM (k:=k+(i:Int)) (by omega) (by omega);have hlt:decide ((i:Int)<((l.length:Nat):Int))=true:=by rw[bC];omega
    have hin:inB (i:Int) l.length=true:=by rw[ct];simpa [hl]using hi
    have hw:Go.IntKind.wrap .i64 (k+(i:Int)+1)=k+((i+1:Nat):Int):=by rw[up (by omega) (by omega)];omega
    simp only[hlt,hin,hmt,bV,aE,bJ,aD,bf,aQ,bN hi (dP ha),hw];exact ih (i+1) _ (by omega) (by omega) (by simpa using hl) fun j hj'=>by
     rw[iO];rcases fY j i with g|g
     ·rw[bF (by omega)];exact hj j g
     ·have:i=j:=by omega
      subst this;rw[aF rfl,aF (by omega)]
   ·have:i=a.length:=by omega
    subst this;have hf:decide ((a.length:Int)<((l.length:Nat):Int))=false:=by rw[fO];omega
    rw[hf,aZ];have:l=(List.range a.length).map fun j:Nat=>mT (k+(j:Int)):=by
     apply kK;intro j;rcases fY j a.length with g|g
     ·rw[hj j g];simp[g]
     ·rw[dV (by omega),dV (by simpa using g)]
    rw[this]
 have:=key an 0 a (dJ _) (by have:=cJ;omega) rfl (fun j h=>absurd h (lx _));unfold M.akm;have e:k+((0:Nat):Int)=k:=by simp
 rw[e]at this;have e0:((0:Nat):Int)=0:=rfl;rw[e0]at this;rw[this]
theorem ank(a:List (List UInt8))(ha:aR List.length a<=1048576)(k:Int)(h0:0<=k)(h1:k<=100000000000):Mk (aR List.length a) k (M.akm k a):=by
 have:=di List.length a;exact⟨_,_,aoc a (by omega) k h0 h1,by omega,by omega⟩
end M
namespace M
open Go.V (inB cC an cJ)
theorem aa.p1(a b c d):(aa.mk a b c d).Kind=a:=rfl
theorem aa.p2(a b c d):(aa.mk a b c d).Name=b:=rfl
theorem aa.p3(a b c d):(aa.mk a b c d).bY=c:=rfl
theorem aa.p4(a b c d):(aa.mk a b c d).Kids=d:=rfl
theorem af.p1(a b c d):(af.mk a b c d).Kind=a:=rfl
theorem af.p2(a b c d):(af.mk a b c d).Num=b:=rfl
theorem af.p3(a b c d):(af.mk a b c d).Text=c:=rfl
theorem af.p4(a b c d):(af.mk a b c d).Kids=d:=rfl
theorem anl:∀(n:Nat)(a:List aa)(k:Int),aR aa.sz a<n->aR aa.sz a<=1048576->0<=k->k+16*(aR aa.sz a:Int)<=100000000000->Mk (aR aa.sz a) k (M.amd n k a)
 |0,a,k,h,_,_,_=>by omega
 |n+1,a,k,h,hz,h0,h1=>by
  obtain⟨k',l',e,g⟩:=alT (F:=M.ame (M.amd n)) a hz aa.zero (fun f q i l hi hlt hin hl hg hw hq hb hc=>by
   have hs:=aa.cT a[i];have hpos:=oa aa.sz a a[i] (cn hi);obtain⟨k1,l1,e1,a1,b1⟩:=ank a[i].bY (by omega) (q+1+1) (by omega) (by omega);obtain⟨k2,l2,e2,a2,b2⟩:=anl n a[i].Kids k1 (by omega) (by omega) (by omega) (by omega);refine⟨k2,Exists.intro ?x ?h,by omega,by omega⟩
   rotate_left
   rw[M.ame];simp only[hlt,hin,bV,aE,bJ,aD,alS,hl,f0,hg,up hq (show q<=1000000000000 by omega),up (show 0<=q+1 by omega) (by omega),aa.p1,aa.p2,aa.p3,aa.p4,amM (show 0<=q+1 by omega) (by omega),e1,e2,bf,aQ,hw,List.set_set];rfl) (fun f q l hl=>by rw[M.ame];simp[hl]) k h0 h1
  show Mk _ k (M.amF (M.amd n) k a)
  unfold M.amF;rw[e];exact⟨_,_,rfl,g⟩
theorem aod(a:List aa)(k:Int)(hz:aR aa.sz a<=1048576)(h0:0<=k)(h1:k+16*(aR aa.sz a:Int)<=100000000000):Mk (aR aa.sz a) k (M.amN k a):=
 anl an a k (by have:=cJ;omega) hz h0 h1
theorem anm:∀(n:Nat)(a:List af)(k:Int),aR af.sz a<n->aR af.sz a<=1048576->0<=k->k+16*(aR af.sz a:Int)<=100000000000->Mk (aR af.sz a) k (M.amf n k a)
 |0,a,k,h,_,_,_=>by omega
 |n+1,a,k,h,hz,h0,h1=>by
  obtain⟨k',l',e,g⟩:=alT (F:=M.amg (M.amf n)) a hz af.zero (fun f q i l hi hlt hin hl hg hw hq hb hc=>by
   have hs:=af.cT a[i];have hpos:=oa af.sz a a[i] (cn hi);obtain⟨k2,l2,e2,a2,b2⟩:=anm n a[i].Kids (q+1+1+1) (by omega) (by omega) (by omega) (by omega);refine⟨k2,Exists.intro ?x ?h,by omega,by omega⟩
   rotate_left
   rw[M.amg];simp only[hlt,hin,bV,aE,bJ,aD,alS,hl,f0,hg,up hq (show q<=1000000000000 by omega),up (show 0<=q+1 by omega) (by omega),up (show 0<=q+1+1 by omega) (by omega),af.p1,af.p2,af.p3,af.p4,amM (show 0<=q+1+1 by omega) (by omega),e2,bf,aQ,hw,List.set_set];rfl) (fun f q l hl=>by rw[M.amg];simp[hl]) k h0 h1
  show Mk _ k (M.amG (M.amf n) k a)
  unfold M.amG;rw[e];exact⟨_,_,rfl,g⟩
theorem aoe(a:List af)(k:Int)(hz:aR af.sz a<=1048576)(h0:0<=k)(h1:k+16*(aR af.sz a:Int)<=100000000000):Mk (aR af.sz a) k (M.amO k a):=
 anm an a k (by have:=cJ;omega) hz h0 h1
theorem am4(a:List Int)(k:Int)(hz:aR (fun _=>0) a<=1048576)(h0:0<=k)(h1:k+16*(aR (fun _=>0) a:Int)<=100000000000):Mk (aR (fun _=>0) a) k (M.ajI k a):=by
 obtain⟨k',l',e,g⟩:=alT (F:=M.ajK) a hz (0:Int) (fun f q i l hi hlt hin hl hg hw hq hb hc=>by
  refine⟨q+1,Exists.intro ?x ?h,by omega,by omega⟩
  rotate_left
  rw[M.ajK];simp only[hlt,hin,bV,aE,bJ,aD,hw,up hq (show q<=1000000000000 by omega)];rfl) (fun f q l hl=>by rw[M.ajK];simp[hl]) k h0 h1
 unfold M.ajI;rw[e];exact⟨_,_,rfl,g⟩
theorem aof(a:List aw)(k:Int)(hz:aR aw.sz a<=1048576)(h0:0<=k)(h1:k+16*(aR aw.sz a:Int)<=100000000000):Mk (aR aw.sz a) k (M.amr k a):=by
 obtain⟨k',l',e,g⟩:=alT (F:=M.amh) a hz aw.zero (fun f q i l hi hlt hin hl hg hw hq hb hc=>by
  refine⟨q+1+1+1,Exists.intro ?x ?h,by omega,by omega⟩
  rotate_left
  rw[M.amh];simp only[hlt,hin,bV,aE,bJ,aD,alS,hl,f0,hg,hw,List.set_set,up (show 0<=q by omega) (by omega),up (show 0<=q+1 by omega) (by omega),up (show 0<=q+1+1 by omega) (by omega)];rfl) (fun f q l hl=>by rw[M.amh];simp[hl]) k h0 h1
 unfold M.amr;rw[e];exact⟨_,_,rfl,g⟩
theorem aog(a:List ar)(k:Int)(hz:aR ar.sz a<=1048576)(h0:0<=k)(h1:k+16*(aR ar.sz a:Int)<=100000000000):Mk (aR ar.sz a) k (M.ams k a):=by
 obtain⟨k',l',e,g⟩:=alT (F:=M.ami) a hz ar.zero (fun f q i l hi hlt hin hl hg hw hq hb hc=>by
  have hs:=ar.cT a[i];obtain⟨k1,l1,e1,a1,b1⟩:=aof a[i].Ops (q+1) (by omega) (by omega) (by omega);refine⟨k1,Exists.intro ?x ?h,by omega,by omega⟩
  rotate_left
  rw[M.ami];simp only[hlt,hin,bV,aE,bJ,aD,alS,hl,f0,hg,hw,List.set_set,up (show 0<=q by omega) (by omega),e1,bf,aQ];rfl) (fun f q l hl=>by rw[M.ami];simp[hl]) k h0 h1
 unfold M.ams;rw[e];exact⟨_,_,rfl,g⟩
theorem aoh(a:List ae)(k:Int)(hz:aR ae.sz a<=1048576)(h0:0<=k)(h1:k+16*(aR ae.sz a:Int)<=100000000000):Mk (aR ae.sz a) k (M.amu k a):=by
 obtain⟨k',l',e,g⟩:=alT (F:=M.amj) a hz ae.zero (fun f q i l hi hlt hin hl hg hw hq hb hc=>by
  have hs:=ae.cT a[i];have ht:=aa.cT a[i].cq;obtain⟨k1,l1,e1,a1,b1⟩:=ank a[i].cq.bY (by omega) (q+1+1) (by omega) (by omega);obtain⟨k2,l2,e2,a2,b2⟩:=aod a[i].cq.Kids k1 (by omega) (by omega) (by omega);obtain⟨k3,l3,e3,a3,b3⟩:=aoe a[i].Buffer (k2+1+1) (by omega) (by omega) (by omega);refine⟨k3+1+1+1+1,Exists.intro ?x ?h,by omega,by omega⟩
  rotate_left
  rw[M.amj];simp only[hlt,hin,bV,aE,bJ,aD,alS,hl,f0,hg,hw,List.set_set,aa.p1,aa.p2,aa.p3,aa.p4,aa.aG,three,up (show 0<=q by omega) (by omega),up (show 0<=q+1 by omega) (by omega),up (show 0<=k2 by omega) (by omega),up (show 0<=k2+1 by omega) (by omega),up (show 0<=k3 by omega) (by omega),up (show 0<=k3+1 by omega) (by omega),up (show 0<=k3+1+1 by omega) (by omega),up (show 0<=k3+1+1+1 by omega) (by omega),amM (show 0<=q+1 by omega) (by omega),e1,e2,e3,bf,aQ];rfl) (fun f q l hl=>by rw[M.amj];simp[hl]) k h0 h1
 unfold M.amu;rw[e];exact⟨_,_,rfl,g⟩
theorem aoi(a:List ad)(k:Int)(hz:aR ad.sz a<=1048576)(h0:0<=k)(h1:k+16*(aR ad.sz a:Int)<=100000000000):Mk (aR ad.sz a) k (M.amv k a):=by
 obtain⟨k',l',e,g⟩:=alT (F:=M.amk) a hz ad.zero (fun f q i l hi hlt hin hl hg hw hq hb hc=>by
  have hs:=ad.cT a[i];obtain⟨k1,l1,e1,a1,b1⟩:=am4 a[i].bg (q+1+1+1+1+1+1+1+1+1) (by omega) (by omega) (by omega);obtain⟨k2,l2,e2,a2,b2⟩:=am4 a[i].Set k1 (by omega) (by omega) (by omega);refine⟨k2,Exists.intro ?x ?h,by omega,by omega⟩
  rotate_left
  rw[M.amk];simp only[hlt,hin,bV,aE,bJ,aD,alS,hl,f0,hg,hw,List.set_set,three,up (show 0<=q by omega) (by omega),up (show 0<=q+1 by omega) (by omega),up (show 0<=q+1+1 by omega) (by omega),up (show 0<=q+1+1+1 by omega) (by omega),up (show 0<=q+1+1+1+1 by omega) (by omega),up (show 0<=q+1+1+1+1+1 by omega) (by omega),up (show 0<=q+1+1+1+1+1+1 by omega) (by omega),up (show 0<=q+1+1+1+1+1+1+1 by omega) (by omega),up (show 0<=q+1+1+1+1+1+1+1+1 by omega) (by omega),e1,e2,bf,aQ];rfl) (fun f q l hl=>by rw[M.amk];simp[hl]) k h0 h1
 unfold M.amv;rw[e];exact⟨_,_,rfl,g⟩
def mN(k:Int):az:=az.mk k (k+1) (k+1+1) (k+1+1+1)
theorem aoj(a:List az)(ha:a.length<=1048576)(k:Int)(h0:0<=k)(h1:k<=100000000000):M.amw k a=some (k+4*(a.length:Int),(List.range a.length).map fun j:Nat=>mN (k+4*(j:Int))):=by
 have key:∀f i (l:List az),i<=a.length->a.length-i<f->l.length=a.length->(∀j,j<i->l[j]?=some (mN (k+4*(j:Int))))->M.amx f (k+4*(i:Int)) (i:Int) l=some (k+4*(a.length:Int),(List.range a.length).map fun j:Nat=>mN (k+4*(j:Int))):=by
  intro f
  induction f with
  |zero=>intro i l h1 h2;omega
  |succ f ih=>
   intro i l h1 h2 hl hj;rw[M.amx];rcases fY i a.length with hi|hi
   ·have hil:i<l.length:=by omega
    have hlt:decide ((i:Int)<((l.length:Nat):Int))=true:=by rw[bC];omega
    have hin:inB (i:Int) l.length=true:=by rw[ct];simpa [hl]using hi
    have hw:Go.IntKind.wrap .i64 (k+4*(i:Int)+1+1+1+1)=k+4*((i+1:Nat):Int):=by rw[up (by omega) (by omega)];omega
    simp only[hlt,hin,bV,aE,bJ,aD,alS,hil,f0,List.set_set,bN hi (dP ha),up (show 0<=k+4*(i:Int) by omega) (by omega),up (show 0<=k+4*(i:Int)+1 by omega) (by omega),up (show 0<=k+4*(i:Int)+1+1 by omega) (by omega),hw];refine Eq.trans ?_ (ih (i+1) (l.set i (mN (k+4*(i:Int)))) (by omega) (by omega) (by simpa using hl) fun j hj'=>?_)
    ·rfl
    ·rw[iO];rcases fY j i with g|g
     ·rw[bF (by omega)];exact hj j g
     ·have:i=j:=by omega
      subst this;rw[aF rfl,aF (by omega)]
   ·have:i=a.length:=by omega
    subst this;have hf:decide ((a.length:Int)<((l.length:Nat):Int))=false:=by rw[fO];omega
    rw[hf,aZ];have:l=(List.range a.length).map fun j:Nat=>mN (k+4*(j:Int)):=by
     apply kK;intro j;rcases fY j a.length with g|g
     ·rw[hj j g];simp[g]
     ·rw[dV (by omega),dV (by simpa using g)]
    rw[this]
 have:=key an 0 a (dJ _) (by have:=cJ;omega) rfl (fun j h=>absurd h (lx _));unfold M.amw;have e:k+4*((0:Nat):Int)=k:=by simp
 have e0:((0:Nat):Int)=0:=rfl;rw[e,e0]at this;rw[this]
theorem szN:∀l:List az,aR az.sz l=l.length
 |[]=>rfl
 |x::r=>by simp only[aR,szN r,az.cT,cr];omega
theorem aok(w:ai)(h:w.sz<=1048576):∃k r,M.amy 1 w.aT w.aX w.aC w.Back w.Notes=some (k,r)/\0<=k:=by
 have hs:=ai.cT w;have hn:=szN w.Notes;obtain⟨k0,l0,e0,a0,b0⟩:=aog w.aT 1 (by omega) (by omega) (by omega);obtain⟨k1,l1,e1,a1,b1⟩:=aoh w.aX k0 (by omega) (by omega) (by omega);obtain⟨k2,l2,e2,a2,b2⟩:=aoi w.aC k1 (by omega) (by omega) (by omega);obtain⟨k3,l3,e3,a3,b3⟩:=am4 w.Back k2 (by omega) (by omega) (by omega);have e4:=aoj w.Notes (by omega) k3 (by omega) (by omega);refine⟨k3+4*(w.Notes.length:Int), ?r, ?h,by omega⟩
 rotate_left
 unfold M.amy;simp only[e0,e1,e2,e3,e4,aQ,bf,bJ,aD,aE];rfl
end M
namespace M
open Go.V (inB cC an cJ)
def f6{α:Type}(mk:Int->α->Int×α):Int->List α->Int×List α
 |k,[]=>(k,[])
 |k,x::r=>((f6 mk (mk k x).1 r).1,(mk k x).2::(f6 mk (mk k x).1 r).2)
theorem amH{α:Type}(mk:Int->α->Int×α):∀(k:Int)(l:List α),(f6 mk k l).2.length=l.length
 |k,[]=>rfl
 |k,x::r=>by simp[f6,amH mk _ r]
theorem aol{α:Type}{F:Nat->Int->Int->List α->Option (Int×List α)}{mk:Int->α->Int×α}(a:List α)(ha:a.length<=1048576)(I:Nat->Int->Prop)(d:α)
 (step:∀f k i (l:List α),∀h:i<a.length,i<l.length->l.getD i d=a[i]->I i k->F (f+1) k (i:Int) l=F f (mk k a[i]).1 ((i+1:Nat):Int) (l.set i (mk k a[i]).2)/\I (i+1) (mk k a[i]).1)
 (stop:∀f k (l:List α),l.length=a.length->F (f+1) k (a.length:Int) l=some (k,l)) (k0:Int) (h0:I 0 k0):F an k0 0 a=some (f6 mk k0 a):=by
 have key:∀f i k (l:List α),i<=a.length->a.length-i<f->l.length=a.length->(∀j,i<=j->l[j]?=a[j]?)->I i k->F f k (i:Int) l=some ((f6 mk k (a.drop i)).1,l.take i++(f6 mk k (a.drop i)).2):=by
  intro f
  induction f with
  |zero=>intro i k l h1 h2;omega
  |succ f ih=>
   intro i k l h1 h2 hl hj hI;rcases fY i a.length with hi|hi
   ·have hg:l.getD i d=a[i]:=by rw[cY,hj i (cH _),bW hi];rfl
    obtain⟨e,hI'⟩:=step f k i l hi (by omega) hg hI;rw[e,ih (i+1) _ _ (by omega) (by omega) (by simpa using hl) (fun j hj'=>by rw[iO,bF (by omega)];exact hj j (by omega)) hI',jZ hi];simp only[f6];congr 2;rw[jG,List.getElem?_set_self (by omega),List.take_set_of_le (cH _)];simp
   ·have:i=a.length:=by omega
    subst this;rw[stop f k l hl,jC,<-hl,mn];simp[f6]
 have:=key an 0 k0 a (dJ _) (by have:=cJ;omega) rfl (fun _ _=>rfl) h0;simpa using this
theorem aom{α E:Type}{F:Nat->Int->Int->Option (Int⊕E)}{mk:Int->α->Int×α}{fin:Int->E}(a:List α)(ha:a.length<=1048576)(I:Nat->Int->Prop)(d:α)(k0:Int)(h0:I 0 k0)
 (step:∀f k i (y:α),∀h:i<a.length,((f6 mk k0 a).2).getD i d=y->y=(mk k a[i]).2->I i k->F (f+1) k (i:Int)=F f (mk k a[i]).1 ((i+1:Nat):Int)/\I (i+1) (mk k a[i]).1)
 (stop:∀f k,F (f+1) k (a.length:Int)=some (.inr (fin k))):F an k0 0=some (.inr (fin (f6 mk k0 a).1)):=by
 have key:∀f i k,i<=a.length->a.length-i<f->(f6 mk k0 a).2.drop i=(f6 mk k (a.drop i)).2->(f6 mk k0 a).1=(f6 mk k (a.drop i)).1->I i k->F f k (i:Int)=some (.inr (fin (f6 mk k (a.drop i)).1)):=by
  intro f
  induction f with
  |zero=>intro i k h1 h2;omega
  |succ f ih=>
   intro i k h1 h2 hd hk hI;rcases fY i a.length with hi|hi
   ·have hlen:=amH mk k0 a;have hi':i<(f6 mk k0 a).2.length:=by omega
    have hd':=hd;rw[jZ hi,f6,jZ hi']at hd;have hg:((f6 mk k0 a).2).getD i d=(mk k a[i]).2:=by
     rw[getD_lt hi'];exact(List.cons.inj hd).1
    obtain⟨e,hI'⟩:=step f k i _ hi rfl hg hI;rw[e,ih (i+1) _ (by omega) (by omega) (List.cons.inj hd).2 (by rw[hk,jZ hi,f6]) hI',jZ hi,f6]
   ·have:i=a.length:=by omega
    subst this;rw[stop,jC];rfl
 have:=key an 0 k0 (dJ _) (by have:=cJ;omega) rfl rfl h0;simpa using this
def mNu(k:Int)(_:Int):Int×Int:=(k+1,k)
theorem aon(l:List Int)(k:Int):k<=(f6 mNu k l).1/\(f6 mNu k l).1=k+(l.length:Int):=by
 induction l generalizing k with
 |nil=>simp[f6]
 |cons x r ih=>have:=ih (k+1);simp only[f6,mNu,cr]at*;omega
theorem aoo(a:List Int)(ha:a.length<=1048576)(k:Int)(h0:0<=k)(h1:k<=100000000000):M.ajI k a=some (f6 mNu k a):=by
 unfold M.ajI;rw[aol (F:=M.ajK) (mk:=mNu) a ha (fun i q=>q=k+(i:Int)) 0 (fun f q i l hi hl hg hI=>by
  rw[M.ajK];have hlt:decide ((i:Int)<((l.length:Nat):Int))=true:=by rw[bC];omega
  have hin:inB (i:Int) l.length=true:=by rw[ct];simpa using hl
  have w1:Go.IntKind.wrap .i64 (q+1)=q+1:=wrap_i64 (by omega) (by omega);refine⟨?_,by simp only[mNu];omega⟩;simp only[hlt,hin,bV,aE,bJ,aD,w1,bN hi (dP ha),mNu]) (fun f q l hl=>by rw[M.ajK];simp[hl]) k (by simp)]
theorem aop(a:List Int)(ha:a.length<=1048576)(k:Int)(h0:0<=k)(h1:k<=100000000000):M.amz (f6 mNu k a).2 k=some (f6 mNu k a).1:=by
 unfold M.amz;rw[aom (F:=M.aml (f6 mNu k a).2) (mk:=mNu) (fin:=id) a ha (fun i q=>q=k+(i:Int)) 0 k (by simp) (fun f q i y hi e1 e2 hI=>by
  have e3:y=q:=e2;rw[e3]at e1;clear e2 e3;rw[M.aml];have hlt:decide ((i:Int)<(((f6 mNu k a).2.length:Nat):Int))=true:=by rw[bC,amH];omega
  have hin:inB (i:Int) (f6 mNu k a).2.length=true:=by rw[ct,amH];simpa using hi
  have w1:Go.IntKind.wrap .i64 (q+1)=q+1:=wrap_i64 (by omega) (by omega);refine⟨?_,by simp only[mNu];omega⟩;simp only[hlt,hin,e1,mNu,bV,aE,aZ,bJ,aD,bN hi (dP ha),bne_self_eq_false,w1]) (fun f q=>by rw[M.aml];simp[amH])]
 rfl
end M
