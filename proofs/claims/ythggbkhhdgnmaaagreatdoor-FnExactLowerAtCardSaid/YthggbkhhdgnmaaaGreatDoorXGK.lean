/-
  RUNNING NUMBERS: that marking ends, and how far the numbers go.
-/
import Derived.Test.YthggbkhhdgnmaaaGreatDoorXEC
set_option linter.unusedVariables false
set_option linter.unusedSimpArgs false
namespace M
open Go.V (inB cA ae bS)
def Mk{β:Type}(n:Nat)(k:Int)(o:Option (Int×β)):Prop:=∃k' l,o=some (k',l)/\k<=k'/\k'<=k+8*(n:Int)
theorem mB{α:Type}{l:List α}{i:Nat}(h:i<l.length)(x d:α):(l.set i x).getD i d=x:=by
 rw[dK,List.getElem?_set_self h];rfl
theorem py{α:Type}{F:Nat->Int->Int->List α->Option (Int×List α)}{c:α->Nat}(a:List α)(ha:aB c a<=1048576)(d:α)
 (step:∀f k (i:Nat) (l:List α),∀h:i<a.length,decide ((i:Int)<((l.length:Nat):Int))=true->inB (i:Int) l.length=true->i<l.length->l.getD i d=a[i]->Go.IntKind.wrap .i64 ((i:Int)+1)=((i+1:Nat):Int)->0<=k->k+8*(c a[i]+1:Int)<=100000000000->c a[i]<=1048576->
   ∃k',(∃x,F (f+1) k (i:Int) l=F f k' ((i+1:Nat):Int) (l.set i x))/\k<=k'/\k'<=k+8*(c a[i]+1:Int))
 (stop:∀f k (l:List α),l.length=a.length->F (f+1) k (a.length:Int) l=some (k,l)) (k0:Int) (h0:0<=k0) (h1:k0+8*(aB c a:Int)<=100000000000):Mk (aB c a) k0 (F ae k0 0 a):=by
 have hlen:=bW c a;have key:∀f i k (l:List α),i<=a.length->a.length-i<f->l.length=a.length->(∀j,i<=j->l[j]?=a[j]?)->0<=k->k+8*(aB c (a.drop i):Int)<=100000000000->Mk (aB c (a.drop i)) k (F f k (i:Int) l):=by
  intro f
  induction f with
  |zero=>intro i k l h1 h2;omega
  |succ f ih=>
   intro i k l h1 h2 hl hj hk hb;rcases cJ i a.length with hi|hi
   ·have hg:l.getD i d=a[i]:=by rw[dK,hj i (cr _),cw hi];rfl
    have hm:=da c a a[i] (bK hi);rw[eD hi,aB]at hb;obtain⟨k',⟨x,e⟩,g1,g2⟩:=step f k i l hi (by rw[bu];omega) (by rw[bz];simpa [hl]using hi) (by omega) hg (bE hi (cu (by omega))) hk (by omega) (by omega);obtain⟨k2,l2,e2,g3,g4⟩:=ih (i+1) k' (l.set i x) (by omega) (by omega) (by simpa using hl) (fun j hj'=>by rw[gu,ax (by omega)];exact hj j (by omega)) (by omega) (by omega);rw[eD hi,aB];exact⟨k2,l2,by rw[e,e2],by omega,by omega⟩
   ·have:i=a.length:=by omega
    subst this;exact⟨k,l,stop f k l hl,Int.le_refl _,by omega⟩
 have:=key ae 0 k0 a (cU _) (by have:=bS;omega) rfl (fun _ _=>rfl) h0 (by simpa using h1);simpa using this
theorem azW{n:Nat}(h:n<10):Go.IntKind.wrap .u8 (Go.IntKind.wrap .i64 ((48:Int)+(n:Int)))=((48+n:Nat):Int):=by
 rw[wrap_i64 (by omega) (by omega)];have:∀m:Fin 10,Go.IntKind.wrap .u8 ((48:Int)+((m.val:Nat):Int))=((48+m.val:Nat):Int):=by decide
 exact this ⟨n,h⟩
theorem azX{n:Nat}(h:n<10):Go.V.m8 ((48+n:Nat):Int)=true:=by
 unfold Go.V.m8;simp only[bJ,bu];omega
theorem aiQ:∀(j f k:Nat)(out:List UInt8),k<10^j->j<f->k<4611686018427387904->out.length+j<=1000->∃s,M.ve f (k:Int) out=some s/\s.length<=out.length+j
 |j,0,k,out,_,h,_,_=>by omega
 |0,f+1,k,out,h1,h2,h3,h4=>by
  have:k=0:=by simpa using h1
  subst this;exact⟨out,by rw[M.ve];simp,cr _⟩
 |j+1,f+1,k,out,h1,h2,h3,h4=>by
  rw[M.ve];rcases kg k with h0|h0
  ·subst h0;exact⟨out,by simp,by omega⟩
  ·have hd:decide ((0:Int)<(k:Int))=true:=by rw[bu];omega
   have e3:Int.tmod (k:Int) 10=((k%10:Nat):Int):=(Int.ofNat_tmod k 10).symm;have e4:Go.IntKind.wrap .i64 (Int.tdiv (k:Int) 10)=((k/10:Nat):Int):=by
    rw[show Int.tdiv (k:Int) 10=((k/10:Nat):Int)from(Int.ofNat_tdiv k 10).symm,wrap_i64 (by omega) (by omega)]
   have hm:k%10<10:=Nat.mod_lt _ (by decide);obtain⟨s,g1,g2⟩:=aiQ j f (k/10) ([Go.V.pe ((48+k%10:Nat):Int)]++out) (by rw[Nat.pow_succ]at h1;omega) (by omega) (by omega) (by simp;omega);refine⟨s,?_,by simp at g2;omega⟩;simp only[hd,e3,e4,azW hm,azX hm,aG,jo,List.map_nil];rw[m9 (by simp;omega)];exact g1
theorem azY(k:Int)(h0:0<=k)(h1:k<=1000000000000):∃s,M.dO k=some s:=by
 obtain⟨n,rfl⟩:=JY h0;unfold M.dO;by_cases hz:(n:Int)<=0
 ·rw[jt hz];exact⟨_,rfl⟩
 ·rw[ly hz];obtain⟨s,e,hl⟩:=aiQ 13 ae n [] (by omega) (by have:=bS;omega) (by omega) (by simp);rw[e];simp only[bM];rw[m9 (by simp at hl⊢;omega)];exact⟨_,rfl⟩
noncomputable def mT(k:Int):List UInt8:=(M.dO k).getD Inhabited.default
theorem fD{k:Int}(h0:0<=k)(h1:k<=1000000000000):M.dO k=some (mT k):=by
 obtain⟨s,e⟩:=azY k h0 h1;unfold mT;rw[e];rfl
theorem up{k:Int}(h0:0<=k)(h1:k<=1000000000000):Go.IntKind.wrap .i64 (k+1)=k+1:=wrap_i64 (by omega) (by omega)
theorem three:((3:Int) !=0)=true:=rfl
theorem azZ(a:List (List UInt8))(ha:a.length<=1048576)(k:Int)(h0:0<=k)(h1:k<=100000000000):M.jG k a=some (k+(a.length:Int),(List.range a.length).map fun j:Nat=>mT (k+(j:Int))):=by
 have key:∀f i (l:List (List UInt8)),i<=a.length->a.length-i<f->l.length=a.length->(∀j,j<i->l[j]?=some (mT (k+(j:Int))))->M.qe f (k+(i:Int)) (i:Int) l=some (k+(a.length:Int),(List.range a.length).map fun j:Nat=>mT (k+(j:Int))):=by
  intro f
  induction f with
  |zero=>intro i l h1 h2;omega
  |succ f ih=>
   intro i l h1 h2 hl hj;rw[M.qe];rcases cJ i a.length with hi|hi
   ·have hmt:=fD (k:=k+(i:Int)) (by omega) (by omega);have hlt:decide ((i:Int)<((l.length:Nat):Int))=true:=by rw[bu];omega
    have hin:inB (i:Int) l.length=true:=by rw[bz];simpa [hl]using hi
    have hw:Go.IntKind.wrap .i64 (k+(i:Int)+1)=k+((i+1:Nat):Int):=by rw[up (by omega) (by omega)];omega
    simp only[hlt,hin,hmt,bn,aG,bj,aS,bf,aZ,bE hi (cu ha),hw];exact ih (i+1) _ (by omega) (by omega) (by simpa using hl) fun j hj'=>by
     rw[gu];rcases cJ j i with g|g
     ·rw[ax (by omega)];exact hj j g
     ·have:i=j:=by omega
      subst this;rw[aF rfl,aF (by omega)]
   ·have:i=a.length:=by omega
    subst this;have hf:decide ((a.length:Int)<((l.length:Nat):Int))=false:=by rw[ew];omega
    rw[hf,bM];have:l=(List.range a.length).map fun j:Nat=>mT (k+(j:Int)):=by
     apply tu;intro j;rcases cJ j a.length with g|g
     ·rw[hj j g];simp[g]
     ·rw[ns (by omega),ns (by simpa using g)]
    rw[this]
 have:=key ae 0 a (cU _) (by have:=bS;omega) rfl (fun j h=>absurd h (jy _));unfold M.jG;have e:k+((0:Nat):Int)=k:=by simp
 rw[e]at this;have e0:((0:Nat):Int)=0:=rfl;rw[e0]at this;rw[this]
theorem Kt(a:List (List UInt8))(ha:aB List.length a<=1048576)(k:Int)(h0:0<=k)(h1:k<=100000000000):Mk (aB List.length a) k (M.jG k a):=by
 have:=bW List.length a;exact⟨_,_,azZ a (by omega) k h0 h1,by omega,by omega⟩
end M
namespace M
open Go.V (inB cA ae bS)
theorem aa.p1(a b c d):(aa.mk a b c d).Kind=a:=rfl
theorem aa.p2(a b c d):(aa.mk a b c d).Name=b:=rfl
theorem aa.p3(a b c d):(aa.mk a b c d).bF=c:=rfl
theorem aa.p4(a b c d):(aa.mk a b c d).Kids=d:=rfl
theorem aiR:∀(n:Nat)(a:List aa)(k:Int),aB aa.sz a<n->aB aa.sz a<=1048576->0<=k->k+8*(aB aa.sz a:Int)<=100000000000->Mk (aB aa.sz a) k (M.oy n k a)
 |0,a,k,h,_,_,_=>by omega
 |n+1,a,k,h,hz,h0,h1=>by
  obtain⟨k',l',e,g⟩:=py (F:=M.ox (M.oy n)) a hz aa.zero (fun f q i l hi hlt hin hl hg hw hq hb hc=>by
   have hs:=aa.bL a[i];have hpos:=pn aa.sz a a[i] (bK hi);obtain⟨k1,l1,e1,a1,b1⟩:=Kt a[i].bF (by omega) (q+1+1) (by omega) (by omega);obtain⟨k2,l2,e2,a2,b2⟩:=aiR n a[i].Kids k1 (by omega) (by omega) (by omega) (by omega);refine⟨k2,Exists.intro ?x ?h,by omega,by omega⟩
   rotate_left
   rw[M.ox];simp only[hlt,hin,bn,aG,bj,aS,mB,hl,im,hg,up hq (show q<=1000000000000 by omega),up (show 0<=q+1 by omega) (by omega),aa.p1,aa.p2,aa.p3,aa.p4,fD (show 0<=q+1 by omega) (by omega),e1,e2,bf,aZ,hw,List.set_set];rfl) (fun f q l hl=>by rw[M.ox];simp[hl]) k h0 h1
  show Mk _ k (M.yp (M.oy n) k a)
  unfold M.yp;rw[e];exact⟨_,_,rfl,g⟩
theorem aiS(a:List aa)(k:Int)(hz:aB aa.sz a<=1048576)(h0:0<=k)(h1:k+8*(aB aa.sz a:Int)<=100000000000):Mk (aB aa.sz a) k (M.oz k a):=
 aiR ae a k (by have:=bS;omega) hz h0 h1
theorem az0(a:List al)(k:Int)(hz:aB al.sz a<=1048576)(h0:0<=k)(h1:k+8*(aB al.sz a:Int)<=100000000000):Mk (aB al.sz a) k (M.qf k a):=by
 obtain⟨k',l',e,g⟩:=py (F:=M.oC) a hz al.zero (fun f q i l hi hlt hin hl hg hw hq hb hc=>by
  have hs:=al.bL a[i];have ht:=aa.bL a[i].aI;obtain⟨k1,l1,e1,a1,b1⟩:=Kt a[i].aI.bF (by omega) (q+1+1+1) (by omega) (by omega);obtain⟨k2,l2,e2,a2,b2⟩:=aiS a[i].aI.Kids k1 (by omega) (by omega) (by omega);refine⟨k2,Exists.intro ?x ?h,by omega,by omega⟩
  rotate_left
  rw[M.oC];simp only[hlt,hin,bn,aG,bj,aS,mB,hl,im,hg,bf,aZ,hw,List.set_set,aa.p1,aa.p2,aa.p3,aa.p4,aa.ai,up (show 0<=q by omega) (by omega),up (show 0<=q+1 by omega) (by omega),up (show 0<=q+1+1 by omega) (by omega),fD (show 0<=q by omega) (by omega),fD (show 0<=q+1+1 by omega) (by omega),e1,e2];rfl) (fun f q l hl=>by rw[M.oC];simp[hl]) k h0 h1
 unfold M.qf;rw[e];exact⟨_,_,rfl,g⟩
theorem az1(a:List aD)(k:Int)(hz:aB aD.sz a<=1048576)(h0:0<=k)(h1:k+8*(aB aD.sz a:Int)<=100000000000):Mk (aB aD.sz a) k (M.B7 k a):=by
 obtain⟨k',l',e,g⟩:=py (F:=M.vf) a hz aD.zero (fun f q i l hi hlt hin hl hg hw hq hb hc=>by
  have hs:=aD.bL a[i];have hf:=av.bL a[i].aI;have ht:=aa.bL a[i].aI.Result;obtain⟨k0,l0,e0,a0,b0⟩:=az0 a[i].aI.Params (q+1) (by omega) (by omega) (by omega);obtain⟨k1,l1,e1,a1,b1⟩:=Kt a[i].aI.Result.bF (by omega) (k0+1+1) (by omega) (by omega);obtain⟨k2,l2,e2,a2,b2⟩:=aiS a[i].aI.Result.Kids k1 (by omega) (by omega) (by omega);refine⟨k2+1,Exists.intro ?x ?h,by omega,by omega⟩
  rotate_left
  rw[M.vf];simp only[hlt,hin,bn,aG,bj,aS,mB,hl,im,hg,bf,aZ,hw,List.set_set,aa.p1,aa.p2,aa.p3,aa.p4,aa.ai,av.ai,three,up (show 0<=q by omega) (by omega),up (show 0<=k0 by omega) (by omega),up (show 0<=k0+1 by omega) (by omega),up (show 0<=k2 by omega) (by omega),fD (show 0<=q by omega) (by omega),fD (show 0<=k0+1 by omega) (by omega),e0,e1,e2];rfl) (fun f q l hl=>by rw[M.vf];simp[hl]) k h0 h1
 unfold M.B7;rw[e];exact⟨_,_,rfl,g⟩
theorem aiT(a:List ar)(k:Int)(hz:aB ar.sz a<=1048576)(h0:0<=k)(h1:k+8*(aB ar.sz a:Int)<=100000000000):Mk (aB ar.sz a) k (M.yq k a):=by
 obtain⟨k',l',e,g⟩:=py (F:=M.vg) a hz ar.zero (fun f q i l hi hlt hin hl hg hw hq hb hc=>by
  have hs:=ar.bL a[i];obtain⟨k1,l1,e1,a1,b1⟩:=Kt a[i].bQ (by omega) (q+1+1+1) (by omega) (by omega);obtain⟨k2,l2,e2,a2,b2⟩:=az1 a[i].Funcs k1 (by omega) (by omega) (by omega);refine⟨k2,Exists.intro ?x ?h,by omega,by omega⟩
  rotate_left
  rw[M.vg];simp only[hlt,hin,bn,aG,bj,aS,mB,hl,im,hg,bf,aZ,hw,List.set_set,up (show 0<=q by omega) (by omega),up (show 0<=q+1 by omega) (by omega),up (show 0<=q+1+1 by omega) (by omega),fD (show 0<=q by omega) (by omega),fD (show 0<=q+1 by omega) (by omega),fD (show 0<=q+1+1 by omega) (by omega),e1,e2];rfl) (fun f q l hl=>by rw[M.vg];simp[hl]) k h0 h1
 unfold M.yq;rw[e];exact⟨_,_,rfl,g⟩
theorem az2(a:List aM)(k:Int)(hz:aB aM.sz a<=1048576)(h0:0<=k)(h1:k+8*(aB aM.sz a:Int)<=100000000000):Mk (aB aM.sz a) k (M.B8 k a):=by
 obtain⟨k',l',e,g⟩:=py (F:=M.vh) a hz aM.zero (fun f q i l hi hlt hin hl hg hw hq hb hc=>by
  refine⟨q+1+1+1,Exists.intro ?x ?h,by omega,by omega⟩
  rotate_left
  rw[M.vh];simp only[hlt,hin,bn,aG,bj,aS,mB,hl,im,hg,bf,aZ,hw,List.set_set,three,up (show 0<=q by omega) (by omega),up (show 0<=q+1 by omega) (by omega),up (show 0<=q+1+1 by omega) (by omega),fD (show 0<=q by omega) (by omega)];rfl) (fun f q l hl=>by rw[M.vh];simp[hl]) k h0 h1
 unfold M.B8;rw[e];exact⟨_,_,rfl,g⟩
theorem az3(a:List aJ)(k:Int)(hz:aB aJ.sz a<=1048576)(h0:0<=k)(h1:k+8*(aB aJ.sz a:Int)<=100000000000):Mk (aB aJ.sz a) k (M.B9 k a):=by
 obtain⟨k',l',e,g⟩:=py (F:=M.vi) a hz aJ.zero (fun f q i l hi hlt hin hl hg hw hq hb hc=>by
  refine⟨q+1+1,Exists.intro ?x ?h,by omega,by omega⟩
  rotate_left
  rw[M.vi];simp only[hlt,hin,bn,aG,bj,aS,mB,hl,im,hg,bf,aZ,hw,List.set_set,up (show 0<=q by omega) (by omega),up (show 0<=q+1 by omega) (by omega)];rfl) (fun f q l hl=>by rw[M.vi];simp[hl]) k h0 h1
 unfold M.B9;rw[e];exact⟨_,_,rfl,g⟩
theorem az4(a:List aw)(k:Int)(hz:aB aw.sz a<=1048576)(h0:0<=k)(h1:k+8*(aB aw.sz a:Int)<=100000000000):Mk (aB aw.sz a) k (M.Cb k a):=by
 obtain⟨k',l',e,g⟩:=py (F:=M.vj) a hz aw.zero (fun f q i l hi hlt hin hl hg hw hq hb hc=>by
  have hs:=aw.bL a[i];obtain⟨k1,l1,e1,a1,b1⟩:=az3 a[i].Code (q+1+1+1+1) (by omega) (by omega) (by omega);refine⟨k1,Exists.intro ?x ?h,by omega,by omega⟩
  rotate_left
  rw[M.vj];simp only[hlt,hin,bn,aG,bj,aS,mB,hl,im,hg,bf,aZ,hw,List.set_set,three,up (show 0<=q by omega) (by omega),up (show 0<=q+1 by omega) (by omega),up (show 0<=q+1+1 by omega) (by omega),up (show 0<=q+1+1+1 by omega) (by omega),fD (show 0<=q by omega) (by omega),e1];rfl) (fun f q l hl=>by rw[M.vj];simp[hl]) k h0 h1
 unfold M.Cb;rw[e];exact⟨_,_,rfl,g⟩
theorem az5(a:List bk)(k:Int)(hz:aB bk.sz a<=1048576)(h0:0<=k)(h1:k+8*(aB bk.sz a:Int)<=100000000000):Mk (aB bk.sz a) k (M.Cc k a):=by
 obtain⟨k',l',e,g⟩:=py (F:=M.vk) a hz bk.zero (fun f q i l hi hlt hin hl hg hw hq hb hc=>by
  refine⟨q+1+1+1,Exists.intro ?x ?h,by omega,by omega⟩
  rotate_left
  rw[M.vk];simp only[hlt,hin,bn,aG,bj,aS,mB,hl,im,hg,bf,aZ,hw,List.set_set,up (show 0<=q by omega) (by omega),up (show 0<=q+1 by omega) (by omega),up (show 0<=q+1+1 by omega) (by omega),fD (show 0<=q by omega) (by omega),fD (show 0<=q+1 by omega) (by omega),fD (show 0<=q+1+1 by omega) (by omega)];rfl) (fun f q l hl=>by rw[M.vk];simp[hl]) k h0 h1
 unfold M.Cc;rw[e];exact⟨_,_,rfl,g⟩
theorem az6(a:List bh)(k:Int)(hz:aB bh.sz a<=1048576)(h0:0<=k)(h1:k+8*(aB bh.sz a:Int)<=100000000000):Mk (aB bh.sz a) k (M.Cd k a):=by
 obtain⟨k',l',e,g⟩:=py (F:=M.vl) a hz bh.zero (fun f q i l hi hlt hin hl hg hw hq hb hc=>by
  refine⟨q+1+1+1,Exists.intro ?x ?h,by omega,by omega⟩
  rotate_left
  rw[M.vl];simp only[hlt,hin,bn,aG,bj,aS,mB,hl,im,hg,bf,aZ,hw,List.set_set,up (show 0<=q by omega) (by omega),up (show 0<=q+1 by omega) (by omega),up (show 0<=q+1+1 by omega) (by omega),fD (show 0<=q by omega) (by omega),fD (show 0<=q+1 by omega) (by omega),fD (show 0<=q+1+1 by omega) (by omega)];rfl) (fun f q l hl=>by rw[M.vl];simp[hl]) k h0 h1
 unfold M.Cd;rw[e];exact⟨_,_,rfl,g⟩
theorem az7(a:List bg)(k:Int)(hz:aB bg.sz a<=1048576)(h0:0<=k)(h1:k+8*(aB bg.sz a:Int)<=100000000000):Mk (aB bg.sz a) k (M.Ce k a):=by
 obtain⟨k',l',e,g⟩:=py (F:=M.vm) a hz bg.zero (fun f q i l hi hlt hin hl hg hw hq hb hc=>by
  refine⟨q+1+1+1+1,Exists.intro ?x ?h,by omega,by omega⟩
  rotate_left
  rw[M.vm];simp only[hlt,hin,bn,aG,bj,aS,mB,hl,im,hg,bf,aZ,hw,List.set_set,up (show 0<=q by omega) (by omega),up (show 0<=q+1 by omega) (by omega),up (show 0<=q+1+1 by omega) (by omega),up (show 0<=q+1+1+1 by omega) (by omega),fD (show 0<=q+1 by omega) (by omega),fD (show 0<=q+1+1 by omega) (by omega),fD (show 0<=q+1+1+1 by omega) (by omega)];rfl) (fun f q l hl=>by rw[M.vm];simp[hl]) k h0 h1
 unfold M.Ce;rw[e];exact⟨_,_,rfl,g⟩
theorem az8(c:aX)(h:c.sz<=1048576)(a b:List UInt8)(x y z:Int):∃k r,M.Cf a b x y z 1 c.ay c.bP c.Module.ay c.Module.aP c.bV c.cg c.Builtins=some (k,r)/\0<=k:=by
 have hs:=aX.bL c;have hm:=aR.bL c.Module;obtain⟨k0,l0,e0,a0,b0⟩:=aiT c.ay 1 (by omega) (by omega) (by omega);obtain⟨k1,l1,e1,a1,b1⟩:=aiT c.bP k0 (by omega) (by omega) (by omega);obtain⟨k2,l2,e2,a2,b2⟩:=az2 c.Module.ay k1 (by omega) (by omega) (by omega);obtain⟨k3,l3,e3,a3,b3⟩:=az4 c.Module.aP k2 (by omega) (by omega) (by omega);obtain⟨k4,l4,e4,a4,b4⟩:=az5 c.bV k3 (by omega) (by omega) (by omega);obtain⟨k5,l5,e5,a5,b5⟩:=az6 c.cg k4 (by omega) (by omega) (by omega);obtain⟨k6,l6,e6,a6,b6⟩:=az7 c.Builtins k5 (by omega) (by omega) (by omega);refine⟨k6, ?r, ?h,by omega⟩
 rotate_left
 unfold M.Cf M.Ii;simp only[e0,e1,e2,e3,e4,e5,e6,aZ,bf,bj,aS,aG];rfl
end M
namespace M
open Go.V (inB cA ae bS dF)
theorem O1:∀a:List UInt8,dF a a=false
 |[]=>rfl
 |a::x=>by
  have:=O1 x;unfold dF at*;simp[Go.Op.bytesLess,this]
theorem aiU:∀a b c:List UInt8,dF a b=true->dF b c=true->dF a c=true
 |[],[],_,h,_=>by simp[dF,Go.Op.bytesLess]at h
 |[],_::_,[],_,h=>by simp[dF,Go.Op.bytesLess]at h
 |[],_::_,_::_,_,_=>by simp[dF,Go.Op.bytesLess]
 |_::_,[],_,h,_=>by simp[dF,Go.Op.bytesLess]at h
 |_::_,_::_,[],_,h=>by simp[dF,Go.Op.bytesLess]at h
 |a::x,b::y,c::z,h1,h2=>by
  have ih:=aiU x y z;unfold dF at*;simp only[Go.Op.bytesLess,eM,bJ,bu,dx,UInt8.lt_iff_toNat_lt]at h1 h2⊢;rcases h1 with h1|⟨rfl,h1⟩
  ·rcases h2 with h2|⟨rfl,h2⟩
   ·exact .inl (by omega)
   ·exact .inl h1
  ·rcases h2 with h2|⟨rfl,h2⟩
   ·exact .inl h2
   ·exact .inr ⟨rfl,ih h1 h2⟩
theorem aiV{l:List (List UInt8)}(h:jc l=true):∀i d:Nat,i+d+1<l.length->dF (l.getD i []) (l.getD (i+d+1) [])=true:=by
 unfold jc at h;rw[ee]at h;have step:∀k,k+1<l.length->dF (l.getD k []) (l.getD (k+1) [])=true:=fun k hk=>by
  have:=h (k+1) (wL.2 hk);simpa using this
 intro i d
 induction d with
 |zero=>intro hk;exact step i hk
 |succ d ih=>
  intro hk;exact aiU _ _ _ (ih (by omega)) (step (i+d+1) hk)
theorem az9{l:List (List UInt8)}(h:jc l=true){i j:Nat}(hi:i<l.length)(hj:j<l.length)(e:l.getD i []=l.getD j []):i=j:=by
 rcases Nat.lt_trichotomy i j with g|g|g
 ·have:=aiV h i (j-i-1) (by omega);rw[show i+(j-i-1)+1=j by omega,e,O1]at this;cases this
 ·exact g
 ·have:=aiV h j (i-j-1) (by omega);rw[show j+(i-j-1)+1=i by omega,e,O1]at this;cases this
def iP(l:List ar)(a b:List UInt8):Option av:=match l.findIdx? (fun f=>di f==a)with
 |none=>none
 |some k=>match(l.getD k ar.zero).Funcs.findIdx? (fun x=>x.Name==b)with
  |none=>none
  |some j=>some ((l.getD k ar.zero).Funcs.getD j aD.zero).aI
theorem aiW{α:Type}{p:α->Bool}{l:List α}{x:α}(h:x∈l)(hp:p x=true):∃j,l.findIdx? p=some j:=by
 cases e:l.findIdx? p with
 |some j=>exact⟨j,rfl⟩
 |none=>rw[List.findIdx?_eq_none_iff]at e;have:=e x h;rw[hp]at this;cases this
theorem aAa{l:List ar}(h:fO l=true):jc (l.map di)=true:=by
 unfold fO at h;simp only[bJ]at h;exact h.2.2
theorem aAb{l:List ar}(hF:fO l=true){w:cO}(hw:w∈dT l):∃t,iP l w.eY w.name=some t:=by
 obtain⟨f,hf,x,hx,rfl⟩:=LK hw;obtain⟨k,hk⟩:=aiW (p:=fun g=>di g==di f) hf (by simp);have hk':=hk;rw[List.findIdx?_eq_some_iff_getElem]at hk';obtain⟨hlt,h1,-⟩:=hk';obtain⟨i,hi,rfl⟩:=jZ hf;have e:k=i:=az9 (aAa hF) (by simpa using hlt) (by simpa using hi) (by
  have:di l[k]=di l[i]:=by simpa using h1
  simp[dK,hlt,hi,this])
 subst e;obtain⟨j,hj⟩:=aiW (p:=fun y=>y.Name==x.Name) hx (by simp);refine⟨(l[k].Funcs.getD j aD.zero).aI,?_⟩
 show iP l (di l[k]) x.Name=_
 unfold iP;rw[hk];simp only[getD_lt hlt,hj]
end M
namespace M
open Go.V (inB cA ae bS)
def bX{α:Type}(mk:Int->α->Int×α):Int->List α->Int×List α
 |k,[]=>(k,[])
 |k,x::r=>((bX mk (mk k x).1 r).1,(mk k x).2::(bX mk (mk k x).1 r).2)
theorem nA{α:Type}(mk:Int->α->Int×α):∀(k:Int)(l:List α),(bX mk k l).2.length=l.length
 |k,[]=>rfl
 |k,x::r=>by simp[bX,nA mk _ r]
theorem O2{α:Type}{F:Nat->Int->Int->List α->Option (Int×List α)}{mk:Int->α->Int×α}(a:List α)(ha:a.length<=1048576)(I:Nat->Int->Prop)(d:α)
 (step:∀f k i (l:List α),∀h:i<a.length,i<l.length->l.getD i d=a[i]->I i k->F (f+1) k (i:Int) l=F f (mk k a[i]).1 ((i+1:Nat):Int) (l.set i (mk k a[i]).2)/\I (i+1) (mk k a[i]).1)
 (stop:∀f k (l:List α),l.length=a.length->F (f+1) k (a.length:Int) l=some (k,l)) (k0:Int) (h0:I 0 k0):F ae k0 0 a=some (bX mk k0 a):=by
 have key:∀f i k (l:List α),i<=a.length->a.length-i<f->l.length=a.length->(∀j,i<=j->l[j]?=a[j]?)->I i k->F f k (i:Int) l=some ((bX mk k (a.drop i)).1,l.take i++(bX mk k (a.drop i)).2):=by
  intro f
  induction f with
  |zero=>intro i k l h1 h2;omega
  |succ f ih=>
   intro i k l h1 h2 hl hj hI;rcases cJ i a.length with hi|hi
   ·have hg:l.getD i d=a[i]:=by rw[dK,hj i (cr _),cw hi];rfl
    obtain⟨e,hI'⟩:=step f k i l hi (by omega) hg hI;rw[e,ih (i+1) _ _ (by omega) (by omega) (by simpa using hl) (fun j hj'=>by rw[gu,ax (by omega)];exact hj j (by omega)) hI',eD hi];simp only[bX];congr 2;rw[kK,List.getElem?_set_self (by omega),List.take_set_of_le (cr _)];simp
   ·have:i=a.length:=by omega
    subst this;rw[stop f k l hl,gG,<-hl,uk];simp[bX]
 have:=key ae 0 k0 a (cU _) (by have:=bS;omega) rfl (fun _ _=>rfl) h0;simpa using this
theorem O3{α E:Type}{F:Nat->Int->Int->Option (Int⊕E)}{mk:Int->α->Int×α}{fin:Int->E}(a:List α)(ha:a.length<=1048576)(I:Nat->Int->Prop)(d:α)(k0:Int)(h0:I 0 k0)
 (step:∀f k i (y:α),∀h:i<a.length,((bX mk k0 a).2).getD i d=y->y=(mk k a[i]).2->I i k->F (f+1) k (i:Int)=F f (mk k a[i]).1 ((i+1:Nat):Int)/\I (i+1) (mk k a[i]).1)
 (stop:∀f k,F (f+1) k (a.length:Int)=some (.inr (fin k))):F ae k0 0=some (.inr (fin (bX mk k0 a).1)):=by
 have key:∀f i k,i<=a.length->a.length-i<f->(bX mk k0 a).2.drop i=(bX mk k (a.drop i)).2->(bX mk k0 a).1=(bX mk k (a.drop i)).1->I i k->F f k (i:Int)=some (.inr (fin (bX mk k (a.drop i)).1)):=by
  intro f
  induction f with
  |zero=>intro i k h1 h2;omega
  |succ f ih=>
   intro i k h1 h2 hd hk hI;rcases cJ i a.length with hi|hi
   ·have hlen:=nA mk k0 a;have hi':i<(bX mk k0 a).2.length:=by omega
    have hd':=hd;rw[eD hi,bX,eD hi']at hd;have hg:((bX mk k0 a).2).getD i d=(mk k a[i]).2:=by
     rw[getD_lt hi'];exact(List.cons.inj hd).1
    obtain⟨e,hI'⟩:=step f k i _ hi rfl hg hI;rw[e,ih (i+1) _ (by omega) (by omega) (List.cons.inj hd).2 (by rw[hk,eD hi,bX]) hI',eD hi,bX]
   ·have:i=a.length:=by omega
    subst this;rw[stop,gG];rfl
 have:=key ae 0 k0 (cU _) (by have:=bS;omega) rfl rfl h0;simpa using this
end M
namespace M
open Go.V (inB cA ae bS)
noncomputable def mS(k:Int)(_:List UInt8):Int×List UInt8:=(k+1,mT k)
theorem zc(l:List (List UInt8))(k:Int):k<=(bX mS k l).1/\(bX mS k l).1=k+(l.length:Int):=by
 induction l generalizing k with
 |nil=>simp[bX]
 |cons x r ih=>have:=ih (k+1);simp only[bX,mS,cD]at*;omega
theorem O4(a:List (List UInt8))(ha:a.length<=1048576)(k:Int)(h0:0<=k)(h1:k<=100000000000):M.jG k a=some (bX mS k a):=by
 unfold M.jG;rw[O2 (F:=M.qe) (mk:=mS) a ha (fun i q=>q=k+(i:Int)) [] (fun f q i l hi hl hg hI=>by
  subst hI;rw[M.qe];have hmt:=fD (k:=k+(i:Int)) (by omega) (by omega);have hlt:decide ((i:Int)<((l.length:Nat):Int))=true:=by rw[bu];omega
  have hin:inB (i:Int) l.length=true:=by rw[bz];simpa using hl
  simp only[hlt,hin,hmt,bn,aG,bj,aS,bf,aZ,bE hi (cu ha)];have hw:Go.IntKind.wrap .i64 (k+(i:Int)+1)=k+(i:Int)+1:=wrap_i64 (by omega) (by omega);rw[hw];exact⟨rfl,by simp[mS];omega⟩) (fun f q l hl=>by rw[M.qe];simp[hl]) k (by simp)]
mutual
noncomputable def dR:Int->aa->Int×aa
 |k,.mk _ _ ls ks=>((nB (bX mS (k+1+1) ls).1 ks).1,.mk k (mT (k+1)) (bX mS (k+1+1) ls).2 (nB (bX mS (k+1+1) ls).1 ks).2)
noncomputable def nB:Int->List aa->Int×List aa
 |k,[]=>(k,[])
 |k,x::r=>((nB (dR k x).1 r).1,(dR k x).2::(nB (dR k x).1 r).2)
end
theorem O5:∀(k:Int)(l:List aa),nB k l=bX dR k l
 |k,[]=>by simp only[nB,bX]
 |k,x::r=>by simp only[nB,bX,O5]
theorem wP(k:Int)(a:aa):dR k a=((bX dR (bX mS (k+1+1) a.bF).1 a.Kids).1,.mk k (mT (k+1)) (bX mS (k+1+1) a.bF).2 (bX dR (bX mS (k+1+1) a.bF).1 a.Kids).2):=by
 cases a;simp only[dR,O5];rfl
mutual
theorem Ku:∀(x:aa)(k:Int),k<=(dR k x).1/\(dR k x).1<=k+2+2*(x.sz:Int)
 |.mk a b ls ks,k=>by
   have h1:=zc ls (k+1+1);have h2:=O6 ks (bX mS (k+1+1) ls).1;have h3:=bW List.length ls;have h4:=aa.Oc ks;simp only[dR,aa.sz];omega
theorem O6:∀(l:List aa)(k:Int),k<=(nB k l).1/\(nB k l).1<=k+2*(aB aa.sz l:Int)
 |[],k=>by simp[nB,aB]
 |x::r,k=>by
  have h1:=Ku x k;have h2:=O6 r (dR k x).1;simp only[nB,aB];omega
end
theorem aAc(l:List aa)(k:Int):k<=(bX dR k l).1/\(bX dR k l).1<=k+2*(aB aa.sz l:Int):=by
 rw[<-O5];exact O6 l k
theorem O7:∀(n:Nat)(a:List aa)(k:Int),aB aa.sz a<n->aB aa.sz a<=1048576->0<=k->k+2*(aB aa.sz a:Int)<=100000000000->M.oy n k a=some (bX dR k a)
 |0,a,k,h,_,_,_=>by omega
 |n+1,a,k,h,hz,h0,h1=>by
  have hlen:=bW aa.sz a
  show M.yp (M.oy n) k a=_
  unfold M.yp;rw[O2 (F:=M.ox (M.oy n)) (mk:=dR) a (by omega) (fun i q=>0<=q/\q+2*(aB aa.sz (a.drop i):Int)<=100000000000) aa.zero (fun f q i l hi hl hg hI=>by
   rw[eD hi,aB]at hI;have hle:=Ku a[i] q;have hmem:=da aa.sz a a[i] (bK hi);have hpos:=pn aa.sz a a[i] (bK hi);have hs:=aa.bL a[i];have hll:=bW List.length a[i].bF;have hkk:=bW aa.sz a[i].Kids;have hms:=zc a[i].bF (q+1+1);rw[M.ox];have hlt:decide ((i:Int)<((l.length:Nat):Int))=true:=by rw[bu];omega
   have hin:inB (i:Int) l.length=true:=by rw[bz];simpa using hl
   have w1:Go.IntKind.wrap .i64 (q+1)=q+1:=wrap_i64 (by omega) (by omega);have w2:Go.IntKind.wrap .i64 (q+1+1)=q+1+1:=wrap_i64 (by omega) (by omega);have e1:=fD (k:=q+1) (by omega) (by omega);have e2:=O4 a[i].bF (by omega) (q+1+1) (by omega) (by omega);have e3:=O7 n a[i].Kids (bX mS (q+1+1) a[i].bF).1 (by omega) (by omega) (by omega) (by omega);refine⟨?_,by omega,by omega⟩;simp only[hlt,hin,bn,aG,bj,aS,mB,hl,im,hg,w1,w2,aa.p1,aa.p2,aa.p3,aa.p4,e1,e2,e3,bf,aZ,bE hi (cu (show a.length<=1048576 by omega)),List.set_set];rw[wP]) (fun f q l hl=>by rw[M.ox];simp[hl]) k ⟨h0,by simpa using h1⟩]
theorem aAd(a:List aa)(k:Int)(hz:aB aa.sz a<=1048576)(h0:0<=k)(h1:k<=1000000000):M.oz k a=some (bX dR k a):=
 O7 _ a k (by have:=bS;omega) hz h0 (by omega)
theorem O8(a:List (List UInt8))(ha:a.length<=1048576)(k:Int)(h0:0<=k)(h1:k<=100000000000):M.qg (bX mS k a).2 k=some (bX mS k a).1:=by
 unfold M.qg;rw[O3 (F:=M.vn (bX mS k a).2) (mk:=mS) (fin:=id) a ha (fun i q=>q=k+(i:Int)) [] k (by simp) (fun f q i y hi e1 e2 hI=>by
  subst hI;subst e2;rw[M.vn];have hmt:=fD (k:=k+(i:Int)) (by omega) (by omega);have hlt:decide ((i:Int)<(((bX mS k a).2.length:Nat):Int))=true:=by rw[bu,nA];omega
  have hin:inB (i:Int) (bX mS k a).2.length=true:=by rw[bz,nA];simpa using hi
  have hw:Go.IntKind.wrap .i64 (k+(i:Int)+1)=k+(i:Int)+1:=wrap_i64 (by omega) (by omega);simp only[hlt,hin,hmt,e1,mS,bn,aG,bM,bj,aS,bf,aZ,bE hi (cu ha),js,dE,hw];exact⟨trivial,by omega⟩) (fun f q=>by rw[M.vn];simp[nA])]
 rfl
theorem aiX(k:Int)(a:aa):(dR k a).2.Kind=k:=by rw[wP];rfl
theorem aiY(k:Int)(a:aa):(dR k a).2.Name=mT (k+1):=by rw[wP];rfl
theorem aiZ(k:Int)(a:aa):(dR k a).2.bF=(bX mS (k+1+1) a.bF).2:=by rw[wP];rfl
theorem ai0(k:Int)(a:aa):(dR k a).2.Kids=(bX dR (bX mS (k+1+1) a.bF).1 a.Kids).2:=by rw[wP];rfl
theorem Kv(k:Int)(a:aa):(dR k a).1=(bX dR (bX mS (k+1+1) a.bF).1 a.Kids).1:=by rw[wP]
theorem tD{n:Int}(h:0<=n):decide (n<0)=false:=by rw[ew];omega
theorem O9:∀(n:Nat)(a:List aa)(k:Int),aB aa.sz a<n->aB aa.sz a<=1048576->0<=k->k+2*(aB aa.sz a:Int)<=100000000000->M.vv n (bX dR k a).2 k=some (bX dR k a).1
 |0,a,k,h,_,_,_=>by omega
 |n+1,a,k,h,hz,h0,h1=>by
  have hlen:=bW aa.sz a
  show M.IC (M.vv n) (bX dR k a).2 k=_
  unfold M.IC;rw[O3 (F:=M.vu (M.vv n) (bX dR k a).2) (mk:=dR) (fin:=id) a (by omega) (fun i q=>0<=q/\q+2*(aB aa.sz (a.drop i):Int)<=100000000000) aa.zero k ⟨h0,by simpa using h1⟩ (fun f q i y hi e1 e2 hI=>by
   subst e2;rw[eD hi,aB]at hI;have hle:=Ku a[i] q;have hmem:=da aa.sz a a[i] (bK hi);have hpos:=pn aa.sz a a[i] (bK hi);have hs:=aa.bL a[i];have hll:=bW List.length a[i].bF;have hkk:=bW aa.sz a[i].Kids;have hms:=zc a[i].bF (q+1+1);rw[M.vu];have hlt:decide ((i:Int)<(((bX dR k a).2.length:Nat):Int))=true:=by rw[bu,nA];omega
   have hin:inB (i:Int) (bX dR k a).2.length=true:=by rw[bz,nA];simpa using hi
   have w1:Go.IntKind.wrap .i64 (q+1)=q+1:=wrap_i64 (by omega) (by omega);have w2:Go.IntKind.wrap .i64 (q+1+1)=q+1+1:=wrap_i64 (by omega) (by omega);have m1:=fD (k:=q+1) (by omega) (by omega);have m2:=O8 a[i].bF (by omega) (q+1+1) (by omega) (by omega);have m3:=O9 n a[i].Kids (bX mS (q+1+1) a[i].bF).1 (by omega) (by omega) (by omega) (by omega);have n1:=tD (n:=(bX mS (q+1+1) a[i].bF).1) (by omega);have n2:=tD (n:=(bX dR (bX mS (q+1+1) a[i].bF).1 a[i].Kids).1) (by rw[<-Kv];omega);refine⟨?_,by omega,by omega⟩;simp only[hlt,hin,e1,bn,aG,bM,bj,aS,aiX,aiY,aiZ,ai0,w1,w2,m1,m2,m3,n1,n2,bf,aZ,bE hi (cu (show a.length<=1048576 by omega)),js,bne_self_eq_false,dE,db];rw[Kv]) (fun f q=>by rw[M.vu];simp[nA])]
  rfl
theorem aAe(a:List aa)(k:Int)(hz:aB aa.sz a<=1048576)(h0:0<=k)(h1:k<=1000000000):M.vx (bX dR k a).2 k=some (bX dR k a).1:=
 O9 _ a k (by have:=bS;omega) hz h0 (by omega)
end M
namespace M
open Go.V (inB cA ae bS)
noncomputable def hU(k:Int)(p:al):Int×al:=((dR (k+1) p.aI).1,al.mk (mT k) (dR (k+1) p.aI).2)
theorem Pe(x:al)(k:Int):k<=(hU k x).1/\(hU k x).1<=k+3*((x.sz+1:Nat):Int):=by
 have h:=Ku x.aI (k+1);have hs:=al.bL x;unfold hU;simp only[];omega
theorem ai1:∀(l:List al)(k:Int),k<=(bX hU k l).1/\(bX hU k l).1<=k+3*(aB al.sz l:Int)
 |[],k=>by simp[bX,aB]
 |x::r,k=>by
  have h1:=Pe x k;have h2:=ai1 r (hU k x).1;simp only[bX,aB];omega
theorem aAf(a:List al)(k:Int)(hz:aB al.sz a<=1048576)(h0:0<=k)(h1:k<=1000000000):M.qf k a=some (bX hU k a):=by
 have hlen:=bW al.sz a;unfold M.qf;rw[O2 (F:=M.oC) (mk:=hU) a (by omega) (fun i q=>0<=q/\q+3*(aB al.sz (a.drop i):Int)<=100000000000) al.zero (fun f q i l hi hl hg hI=>by
  rw[eD hi,aB]at hI;have hle:=Pe a[i] q;have hmem:=da al.sz a a[i] (bK hi);have hps:=al.bL a[i];have hs:=aa.bL a[i].aI;have hll:=bW List.length a[i].aI.bF;have hkk:=bW aa.sz a[i].aI.Kids;have hms:=zc a[i].aI.bF (q+1+1+1);rw[M.oC];have hlt:decide ((i:Int)<((l.length:Nat):Int))=true:=by rw[bu];omega
  have hin:inB (i:Int) l.length=true:=by rw[bz];simpa using hl
  have w1:Go.IntKind.wrap .i64 (q+1)=q+1:=wrap_i64 (by omega) (by omega);have w2:Go.IntKind.wrap .i64 (q+1+1)=q+1+1:=wrap_i64 (by omega) (by omega);have w3:Go.IntKind.wrap .i64 (q+1+1+1)=q+1+1+1:=wrap_i64 (by omega) (by omega);have e0:=fD (k:=q) (by omega) (by omega);have e1:=fD (k:=q+1+1) (by omega) (by omega);have e2:=O4 a[i].aI.bF (by omega) (q+1+1+1) (by omega) (by omega);have e3:=O7 ae a[i].aI.Kids (bX mS (q+1+1+1) a[i].aI.bF).1 (by have:=bS;omega) (by omega) (by omega) (by omega);have e3':M.oz (bX mS (q+1+1+1) a[i].aI.bF).1 a[i].aI.Kids=_:=e3;refine⟨?_,by omega,by omega⟩;simp only[hlt,hin,bn,aG,bj,aS,mB,hl,im,hg,w1,w2,w3,aa.ai,aa.p1,aa.p2,aa.p3,aa.p4,e0,e1,e2,e3',bf,aZ,bE hi (cu (show a.length<=1048576 by omega)),List.set_set];unfold hU;rw[wP]) (fun f q l hl=>by rw[M.oC];simp[hl]) k ⟨h0,by simp only[fW];omega⟩]
theorem aAg(a:List al)(k:Int)(hz:aB al.sz a<=1048576)(h0:0<=k)(h1:k<=1000000000):M.CQ (bX hU k a).2 k=some (bX hU k a).1:=by
 have hlen:=bW al.sz a;unfold M.CQ;rw[O3 (F:=M.vy (bX hU k a).2) (mk:=hU) (fin:=id) a (by omega) (fun i q=>0<=q/\q+3*(aB al.sz (a.drop i):Int)<=100000000000) al.zero k ⟨h0,by simp only[fW];omega⟩ (fun f q i y hi e1 e2 hI=>by
  subst e2;rw[eD hi,aB]at hI;have hle:=Pe a[i] q;have hmem:=da al.sz a a[i] (bK hi);have hps:=al.bL a[i];have hs:=aa.bL a[i].aI;have hll:=bW List.length a[i].aI.bF;have hkk:=bW aa.sz a[i].aI.Kids;have hms:=zc a[i].aI.bF (q+1+1+1);rw[M.vy];have hlt:decide ((i:Int)<(((bX hU k a).2.length:Nat):Int))=true:=by rw[bu,nA];omega
  have hin:inB (i:Int) (bX hU k a).2.length=true:=by rw[bz,nA];simpa using hi
  have w1:Go.IntKind.wrap .i64 (q+1)=q+1:=wrap_i64 (by omega) (by omega);have w2:Go.IntKind.wrap .i64 (q+1+1)=q+1+1:=wrap_i64 (by omega) (by omega);have w3:Go.IntKind.wrap .i64 (q+1+1+1)=q+1+1+1:=wrap_i64 (by omega) (by omega);have m0:=fD (k:=q) (by omega) (by omega);have m1:=fD (k:=q+1+1) (by omega) (by omega);have m2:=O8 a[i].aI.bF (by omega) (q+1+1+1) (by omega) (by omega);have m3:=O9 ae a[i].aI.Kids (bX mS (q+1+1+1) a[i].aI.bF).1 (by have:=bS;omega) (by omega) (by omega) (by omega);have m3':M.vx (bX dR (bX mS (q+1+1+1) a[i].aI.bF).1 a[i].aI.Kids).2 (bX mS (q+1+1+1) a[i].aI.bF).1=_:=m3;have n1:=tD (n:=(bX mS (q+1+1+1) a[i].aI.bF).1) (by omega);have n2:=tD (n:=(bX dR (bX mS (q+1+1+1) a[i].aI.bF).1 a[i].aI.Kids).1) (by rw[<-Kv (q+1)];unfold hU at hle;simp only[]at hle;omega);have pN:(hU q a[i]).2.Name=mT q:=rfl;have pT:(hU q a[i]).2.aI=(dR (q+1) a[i].aI).2:=rfl;refine⟨?_,by omega,by omega⟩;simp only[hlt,hin,e1,pN,pT,bn,aG,bM,bj,aS,aiX,aiY,aiZ,ai0,w1,w2,w3,m0,m1,m2,m3',n1,n2,bf,aZ,bE hi (cu (show a.length<=1048576 by omega)),js,bne_self_eq_false,dE,db];unfold hU;rw[Kv]) (fun f q=>by rw[M.vy];simp[nA])]
 rfl
theorem aAi(t:aa)(h:t.sz<=1048576)(k0:Int)(a0:0<=k0)(a1:k0<=900000000):∃(k:Int)(ls:List (List UInt8))(ks:List aa),M.CO t.Kind t.Name k0 t.bF t.Kids=some (k,ls,ks)/\M.CU (aa.mk t.Kind t.Name ls ks) k0=some k/\0<=k:=by
 have hs:=aa.bL t;have hll:=bW List.length t.bF;have hkk:=bW aa.sz t.Kids;have hms:=zc t.bF k0;have m1:=O4 t.bF (by omega) k0 (by omega) (by omega);have m2:=aAd t.Kids (bX mS k0 t.bF).1 (by omega) (by omega) (by omega);have h1:=O8 t.bF (by omega) k0 (by omega) (by omega);have h2:=aAe t.Kids (bX mS k0 t.bF).1 (by omega) (by omega) (by omega);have hle:=aAc t.Kids (bX mS k0 t.bF).1;refine⟨(bX dR (bX mS k0 t.bF).1 t.Kids).1,(bX mS k0 t.bF).2,(bX dR (bX mS k0 t.bF).1 t.Kids).2,?_,?_,by omega⟩
 ·unfold M.CO;simp only[m1,m2,aZ,bf,aS,aG]
 ·unfold M.CU;simp only[aa.p3,aa.p4,h1,h2,aZ,bf,aS,tD (show(0:Int)<=(bX mS k0 t.bF).1 by omega),tD (show(0:Int)<=(bX dR (bX mS k0 t.bF).1 t.Kids).1 by omega),aG,bM]
theorem aAj(f:av)(h:f.sz<=1048576):∃(k:Int)(ps:List al)(ls:List (List UInt8))(ks:List aa),M.CP f.Result.Kind f.Result.Name f.Async 1 f.Params f.Result.bF f.Result.Kids=some (k,ps,ls,ks)/\M.CV (av.mk ps (aa.mk f.Result.Kind f.Result.Name ls ks) f.Async) 1=some k/\0<=k:=by
 rw[av.bL]at h;have hle:=ai1 f.Params 1;have m1:=aAf f.Params 1 (by omega) (by omega) (by omega);have h1:=aAg f.Params 1 (by omega) (by omega) (by omega);obtain⟨k,ls,ks,a1,a2,a3⟩:=aAi f.Result (by omega) (bX hU 1 f.Params).1 (by omega) (by omega);refine⟨k,(bX hU 1 f.Params).2,ls,ks,?_,?_,a3⟩
 ·unfold M.CP;simp only[m1,a1,aZ,bf,aS,aG]
 ·unfold M.CV;simp only[h1,aa.ai,a2,aZ,bf,aS,tD (show(0:Int)<=(bX hU 1 f.Params).1 by omega),tD a3,aG,bM]
end M
namespace M
open Go.V (inB cA ae bS)
theorem ai2{α:Type}(l:List α):(l.map fun x=>[x]).flatten=l:=by have:=ri (fun x:α=>x) l;simpa using this
theorem push_id{α Y:Type}{F:Nat->Int->List α->Option Y}{h:List α->Option Y}(l:List α)(hn:l.length<=1048576)
 (step:∀f k out,∀hk:k<l.length,decide (out.length+1<=1073741824)=true->F (f+1) (k:Int) out=F f ((k+1:Nat):Int) (out++[l[k]]))
 (stop:∀f out,F (f+1) (l.length:Int) out=h out):F ae 0 []=h l:=by
 have e:=Ag (F:=F) (h:=h) (fun x=>[x]) l hn [] (fun f k out hk ho=>step f k out hk (by rw[ho,ai2];refine Fv ?_;simp;omega)) stop;rw[ai2]at e;simpa using e
theorem ai3:∀(m:Nat)(t:aa),t.sz<m->t.sz<=1048576->M.sy m t=some (t.Kind,t.Name,t.bF,t.Kids)
 |0,t,h,_=>by omega
 |m+1,t,h,hN=>by
  have hs:=aa.bL t;have hkk:=bW aa.sz t.Kids;have hll:=bW List.length t.bF
  show M.Iu (M.sy m) t=_
  unfold M.Iu;have e1:M.CE (M.sy m) t.Kids=some t.Kids:=by
   unfold M.CE;rw[push_id (F:=M.vp (M.sy m) t.Kids (t.Kids.length:Int)) (h:=some) t.Kids (by omega) (fun f k out hk hc=>by
    have hmem:=da aa.sz t.Kids t.Kids[k] (bK hk);have hpos:=pn aa.sz t.Kids t.Kids[k] (bK hk);rw[M.vp];have e:=ai3 m t.Kids[k] (by omega) (by omega);simp only[aa.ai,bU,hk,bD,aG,bn,getD_lt hk,e,bz,bf,aZ,aa.eta,cD,dj,dN,hc,bj,aS,bE hk (cu (show t.Kids.length<=1048576 by omega))]) (fun f out=>by rw[M.vp];simp)]
  have e2:M.sx t.bF=some t.bF:=by
   unfold M.sx;rw[jt (by omega)];rfl
  simp only[e1,e2,bf,aZ,bj,aS,aG]
theorem ai4(t:aa)(h:t.sz<=1048576):M.CG t=some (t.Kind,t.Name,t.bF,t.Kids):=
 ai3 _ t (by have:=bS;omega) h
theorem ai5(t:aa)(h:t.sz<=1048576):M.rO t=some t:=OR ae t (by have:=bS;omega) h
theorem Pg(f:av)(h:f.sz<=1048576):M.Ci f=some f:=by
 have hs:=av.bL f;have hp:=bW al.sz f.Params;have e0:=ai5 f.Result (by omega);have e:=push_id (F:=fun g k out=>M.oD 0 [] false f.Result.Kind f.Result.Name f.Result.bF f.Result.Kids f.Async [] [] [] g k f out) (h:=fun out=>some (0,[],false,f.Result.Kind,f.Result.Name,f.Result.bF,f.Result.Kids,f.Async,[],[],[],out)) f.Params (by omega) (fun g k out hk hc=>by
  have hmem:=da al.sz f.Params f.Params[k] (bK hk);have hq:=al.bL f.Params[k]
  show M.oD 0 [] false f.Result.Kind f.Result.Name f.Result.bF f.Result.Kids f.Async [] [] [] (g+1) (k:Int) f out=_
  rw[M.oD];have e:=ai5 f.Params[k].aI (by omega);have eta:al.mk f.Params[k].Name f.Params[k].aI=f.Params[k]:=rfl;simp only[aa.ai,av.ai,bU,hk,bD,aG,bn,getD_lt hk,e,eta,bz,bf,aZ,cD,dj,dN,hc,bj,aS,bE hk (cu (show f.Params.length<=1048576 by omega))]) (fun g out=>by
  show M.oD 0 [] false f.Result.Kind f.Result.Name f.Result.bF f.Result.Kids f.Async [] [] [] (g+1) (f.Params.length:Int) f out=_
  rw[M.oD];simp)
 have e':M.oD 0 [] false f.Result.Kind f.Result.Name f.Result.bF f.Result.Kids f.Async [] [] [] ae 0 f []=_:=e;unfold M.Ci;simp only[aa.ai,av.ai,e0,e',bf,aZ,aS,aG]
 try (cases f with|mk p r a=>cases r;rfl)
theorem aAk(f:av)(h:f.sz<=1048576):M.CM f=some (f.Result.Kind,f.Result.Name,f.Async,f.Params,f.Result.bF,f.Result.Kids):=by
 have hs:=av.bL f;have hp:=bW al.sz f.Params;have e0:=ai4 f.Result (by omega);have e:=push_id (F:=M.vt f.Params (f.Params.length:Int) 0 [] false f.Result.Kind f.Result.Name f.Async [] [] [] f.Result.bF f.Result.Kids) (h:=fun out=>some (0,[],false,f.Result.Kind,f.Result.Name,f.Async,[],[],[],out,f.Result.bF,f.Result.Kids)) f.Params (by omega) (fun g k out hk hc=>by
  have hmem:=da al.sz f.Params f.Params[k] (bK hk);have hq:=al.bL f.Params[k];rw[M.vt];have e:=ai4 f.Params[k].aI (by omega);have eta:al.mk f.Params[k].Name f.Params[k].aI=f.Params[k]:=rfl;simp only[aa.ai,aa.eta,bU,hk,bD,aG,bn,getD_lt hk,e,eta,bz,bf,aZ,cD,dj,dN,hc,bj,aS,bE hk (cu (show f.Params.length<=1048576 by omega))]) (fun g out=>by rw[M.vt];simp)
 unfold M.CM;simp only[aa.ai,e0,e,bf,aZ,aS,aG]
def zF:av:=av.mk [] (aa.mk 0 [] [] []) false
def mC(o:Option av):av×Bool:=match o with
 |some t=>(t,true)
 |none=>(zF,false)
theorem Ph(j:Nat):decide (((j:Nat):Int)<0)=false:=by rw[ew];omega
theorem ai6(f:ar)(n:List UInt8)(h:f.Funcs.length<=1048576):M.Cj f n=some (iT (f.Funcs.findIdx? fun x=>x.Name==n)):=by
 have e:=ft (p:=fun c:aD=>c.Name==n) (F:=M.vo n f) (e:=()) (fun k=>k) f.Funcs (by omega) (fun g k hk=>by
  rw[M.vo];simp only[getD_lt hk,bn,bz,bU,hk,bD,aG,bj,aS,bE hk (cu h)]) (fun g=>by rw[M.vo];simp)
 unfold M.Cj iT;rw[e];cases f.Funcs.findIdx? fun c=>c.Name==n<;>rfl
theorem aAl{l:List ar}(h:aB ar.sz l<=1048576)(a b:List UInt8):M.Cm l a b=some (mC (iP l a b)):=by
 unfold M.Cm iP;rw[Sj h a];cases hk:l.findIdx? fun f=>di f==a with
 |none=>simp[iT,mC,zF]
 |some k=>
  have hlt:k<l.length:=kH hk;have hs:=me h (bK hlt);have e0:decide ((k:Int)<0)=false:=Ph k;cases hj:l[k].Funcs.findIdx? fun x=>x.Name==b with
  |none=>
   have e2:decide ((-1:Int)<0)=true:=rfl;simp only[iT,aZ,bf,bn,getD_lt hlt,ai6 _ b hs.2.1,hj,e0,e2,bz,hlt,bD,bj,aS,cC,gm,pO,aG,mC,zF]
  |some j=>
   have hjl:j<l[k].Funcs.length:=kH hj;have e2:decide ((j:Int)<0)=false:=Ph j;simp only[iT,aZ,bf,bn,getD_lt hlt,getD_lt hjl,ai6 _ b hs.2.1,hj,hjl,e0,e2,bz,hlt,bD,bj,aS,cC,gm,mf,aG,bM,mC,av.ai];have nk:¬((k:Int)<0):=by omega
   try simp[nk]
theorem aAm(f:ar)(n:List UInt8)(h:f.Funcs.length<=1048576):M.CH f n=some (mC (match f.Funcs.findIdx? fun x=>x.Name==n with
 |none=>none
 |some j=>some (f.Funcs.getD j aD.zero).aI)):=by
 have e:=ft (p:=fun c:aD=>c.Name==n) (F:=M.vq f.Funcs n (f.Funcs.length:Int)) (e:=()) (fun k=>k) f.Funcs (by omega) (fun g k hk=>by
  rw[M.vq];simp only[getD_lt hk,bn,bz,bU,hk,bD,aG,bj,aS,bE hk (cu h)]) (fun g=>by rw[M.vq];simp)
 unfold M.CH M.Ix;rw[e];cases hj:f.Funcs.findIdx? fun c=>c.Name==n with
 |none=>rfl
 |some j=>
  have hjl:j<f.Funcs.length:=kH hj;simp[mC,Ph,hjl,av.ai,bz]
theorem aAn{l:List ar}(h:aB ar.sz l<=1048576)(a b:List UInt8):M.CJ l a b=some (mC (iP l a b)):=by
 unfold M.CJ iP;rw[R9 h a];cases hk:l.findIdx? fun f=>di f==a with
 |none=>rfl
 |some k=>
  have hlt:k<l.length:=kH hk;have hs:=me h (bK hlt);simp only[getD_lt hlt,aAm _ b hs.2.1,aZ,bf,av.ai,dE,bM,aS,db,aG]
  try rfl
theorem Pj{l:List ar}(h:aB ar.sz l<=1048576){a b:List UInt8}{t:av}(e:iP l a b=some t):t.sz<=1048576:=by
 unfold iP at e;cases hk:l.findIdx? fun f=>di f==a with
 |none=>rw[hk]at e;cases e
 |some k=>
  have hlt:k<l.length:=kH hk;have hs:=me h (bK hlt);rw[hk]at e;simp only[getD_lt hlt]at e;cases hj:l[k].Funcs.findIdx? fun x=>x.Name==b with
  |none=>rw[hj]at e;cases e
  |some j=>
   have hjl:j<l[k].Funcs.length:=kH hj;rw[hj]at e;simp only[getD_lt hjl,aA]at e;subst e;exact hs.2.2 _ (bK hjl)
theorem azR{l:List ar}(h:aB ar.sz l<=1048576)(a b:List UInt8):(mC (iP l a b)).1.sz<=1048576:=by
 cases e:iP l a b with
 |none=>exact cU _
 |some t=>exact Pj h e
end M
namespace M
open Go.V (inB cA ae bS)
def pz(c:aX)(a b:List UInt8):Option Nat:=c.bV.findIdx? fun x=>x.aQ==a&&x.Func==b
def aAo(c:aX)(w:List UInt8):Option Nat:=c.cg.findIdx? fun x=>x.Import==w
def Pl:List UInt8×av×Bool:=([],zF,false)
def ai7:bh×av×Bool:=(bh.mk [] [] [],zF,false)
theorem aAp{c:aX}(h:(mj c==[])=true):fO c.ay=true/\fO c.bP=true/\mN c=true/\md c=true:=by
 revert h
 unfold mj;cases dn c.Name
 ·exact fun h=>Bool.noConfusion (show false=true from h)
 cases ml c.Version
 ·exact fun h=>Bool.noConfusion (show false=true from h)
 cases fO c.ay
 ·exact fun h=>Bool.noConfusion (show false=true from h)
 cases fO c.bP
 ·exact fun h=>Bool.noConfusion (show false=true from h)
 cases xA c
 ·exact fun h=>Bool.noConfusion (show false=true from h)
 cases rm c.Module
 ·exact fun h=>Bool.noConfusion (show false=true from h)
 cases rl c
 ·exact fun h=>Bool.noConfusion (show false=true from h)
 cases mN c
 ·exact fun h=>Bool.noConfusion (show false=true from h)
 cases md c
 ·exact fun h=>Bool.noConfusion (show false=true from h)
 exact fun _=>⟨rfl,rfl,rfl,rfl⟩
theorem aDK{c:aX}(hE:fO c.ay=true)(hL:md c=true){x:bh}(hx:x∈c.cg):∃t,iP c.ay x.aQ x.Func=some t:=by
 unfold md at hL;simp only[bJ,dx]at hL;obtain⟨w,hw,e⟩:=LH hL.1 hL.2 _ hx;unfold mc at e;simp only[bJ,dx]at e;obtain⟨t,ht⟩:=aAb hE hw;rw[<-e.1.1,<-e.1.2]at ht;exact⟨t,ht⟩
noncomputable def kZ(c:aX)(a b:List UInt8):List UInt8×av×Bool:=if mj c==[]then(match iP c.bP a b,pz c a b with
 |some t,some j=>((c.bV.getD j bk.zero).Core,t,true)
 |_,_=>Pl)else Pl
theorem ai8:zF.sz=0:=rfl
theorem aDL{c:aX}(hc:hC c)(a:List UInt8):M.ahh c a=some (match aAo c a with
 |some j=>(c.cg.getD j bh.zero,(mC (iP c.ay (c.cg.getD j bh.zero).aQ (c.cg.getD j bh.zero).Func)).1,true)
 |none=>ai7):=by
 have hl:=cN (bW bh.sz c.cg) hc.Fp;have e:=ft (p:=fun x:bh=>x.Import==a) (F:=M.agU a c.cg (c.cg.length:Int) c (bh.mk [] [] []) 0 [] false [] [] []) (e:=(bh.mk [] [] [],0,[],false,[],[],[])) (fun k=>(true,c.cg.getD k.toNat bh.zero,(mC (iP c.ay (c.cg.getD k.toNat bh.zero).aQ (c.cg.getD k.toNat bh.zero).Func)).1)) c.cg (by omega) (fun f k hk=>by
  rw[M.agU];simp only[getD_lt hk,aAn hc.gi,av.ai,bn,bz,bU,hk,bD,aG,bj,aS,bE hk (cu hl),aZ,bf]) (fun f=>by rw[M.agU];simp)
 unfold M.ahh aAo;rw[e];cases c.cg.findIdx? fun x=>x.Import==a
 ·rfl
 ·try simp only[av.ai,bn]
theorem aDM{c:aX}(hc:hC c)(a:List UInt8):M.agW a c=some (match aAo c a with
 |some j=>(c.cg.getD j bh.zero,(mC (iP c.ay (c.cg.getD j bh.zero).aQ (c.cg.getD j bh.zero).Func)).1,(mC (iP c.ay (c.cg.getD j bh.zero).aQ (c.cg.getD j bh.zero).Func)).2,c)
 |none=>(bh.mk [] [] [],zF,false,c)):=by
 have hl:=cN (bW bh.sz c.cg) hc.Fp;have e:=ft (p:=fun x:bh=>x.Import==a) (F:=M.acg a c (bh.mk [] [] []) 0 [] false [] [] [])
  (e:=(c.Name,c.Version,c.ay,c.bP,c.Encoding,c.fu,c.Module.dm,c.Module.ay,c.Module.aP,c.bV,c.cg,c.Builtins,bh.mk [] [] [],0,[],false,[],[],[]))
  (fun k=>((mC (iP c.ay (c.cg.getD k.toNat bh.zero).aQ (c.cg.getD k.toNat bh.zero).Func)).2,c.Name,c.Version,c.ay,c.bP,c.Encoding,c.fu,c.Module.dm,c.Module.ay,c.Module.aP,c.bV,c.cg,c.Builtins,c.cg.getD k.toNat bh.zero,(mC (iP c.ay (c.cg.getD k.toNat bh.zero).aQ (c.cg.getD k.toNat bh.zero).Func)).1)) c.cg (by omega) (fun f k hk=>by
  rw[M.acg];simp only[getD_lt hk,aAl hc.gi,av.ai,bn,bz,bU,hk,bD,aG,bj,aS,bE hk (cu hl),aZ,bf]) (fun f=>by rw[M.acg];simp)
 unfold M.agW aAo;rw[e];cases c.cg.findIdx? fun x=>x.Import==a
 ·rfl
 ·try simp only[av.ai,bn]
noncomputable def aDe(c:aX)(a:List UInt8):bh×av×Bool:=if mj c==[]then(match aAo c a with
 |some j=>(c.cg.getD j bh.zero,(mC (iP c.ay (c.cg.getD j bh.zero).aQ (c.cg.getD j bh.zero).Func)).1,true)
 |none=>ai7)else ai7
theorem aDN{c:aX}(hc:hC c)(a:List UInt8):(aDe c a).2.1.sz<=1048576/\(aDe c a).1.sz<=1048576:=by
 unfold aDe;split
 ·cases h:aAo c a with
  |none=>exact⟨cU _,cU _⟩
  |some j=>
   have hj:j<c.cg.length:=kH h;have hm:=da bh.sz c.cg _ (bK hj);have:=hc.Fp;refine⟨azR hc.gi _ _,?_⟩;simp only[getD_lt hj];omega
 ·exact⟨cU _,cU _⟩
theorem aDO{c:aX}(hc:hC c)(a:List UInt8):M.ahg c a=some (aDe c a):=by
 unfold M.ahg aDe;rw[amr hc,aDM hc];cases hf:mj c==[]
 ·rfl
 ·cases hx:aAo c a with
  |none=>simp only[aZ,bf,av.ai,Pg zF (by rw[ai8];omega),dE,bM,aS,aG,pt];try rfl
  |some j=>
   obtain⟨hI,-,-,hW⟩:=aAp hf;have hj:j<c.cg.length:=kH hx;obtain⟨t,hT⟩:=aDK hI hW (bK hj);simp only[getD_lt hj,hT,mC,aZ,bf,av.ai,Pg t (Pj hc.gi hT),dE,bM,aS,aG,pt]
theorem aDP{c:aX}(hc:hC c)(a:List UInt8):M.ahi c a=some ((aDe c a).1,(aDe c a).2.1.Result.Kind,(aDe c a).2.1.Result.Name,(aDe c a).2.1.Async,(aDe c a).2.2,(aDe c a).2.1.Params,(aDe c a).2.1.Result.bF,(aDe c a).2.1.Result.Kids):=by
 unfold M.ahi aDe;rw[ams hc,aDL hc];cases hf:mj c==[]
 ·rfl
 ·cases hx:aAo c a with
  |none=>rfl
  |some j=>
   simp only[aZ,bf,av.ai,aAk _ (azR hc.gi _ _),dE,bM,aS,db,aG,pt]
theorem aDQ(x:aX)(a:List UInt8)(hx:x.Ok):M.ahj x a=some true:=by
 unfold M.ahj;rw[ayi x 1048576 hx (by omega) (by omega)];by_cases ha:((1048576:Int)<((a.length:Nat):Int))
 ·rw[jt ha];rfl
 rw[ly ha];by_cases h1:(x.sz:Int)<=1048576
 ·have h:x.sz<=1048576:=by omega
  have n1:¬(1048576-(x.sz:Int)<0):=by omega
  have hc:=hC.of h;have er:=aDP hc a;have es:=aDO hc a;have hz:=aDN hc a;generalize aDe x a=r at er es hz;obtain⟨core,f,ok⟩:=r;obtain⟨k,w,em,hk⟩:=az8 x h x.Name x.Version x.Encoding x.fu x.Module.dm;obtain⟨q,ps,ls,ks,m1,m2,m3⟩:=aAj f hz.1;have ef:av.mk f.Params f.Result f.Async=f:=rfl;have e3:=aha f hz.1;have e4:=axT core hz.2;have n2:¬(k<0):=by omega
  have n3:¬(q<0):=by omega
  rw[aF h1];simp only[ayj x h,aR.eta,aX.eta,er,es,av.ai,aa.eta,ef,e3,e4,ayk x h,em,m1,m2,aZ,bf,n1,n2,n3,nX,bM,aS,db,bj,aG,js,bne_self_eq_false,dE,wq,mf,mg,cC]
 ·rw[ax h1];simp
end M
