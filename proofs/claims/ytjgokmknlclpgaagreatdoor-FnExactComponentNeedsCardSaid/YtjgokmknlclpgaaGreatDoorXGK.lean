/-
  RUNNING NUMBERS: that marking ends, and how far the numbers go.
-/
import Derived.Test.YtjgokmknlclpgaaGreatDoorXEC
set_option linter.unusedVariables false
set_option linter.unusedSimpArgs false
namespace M
open Go.V (inB yx az bU)
def Mk{β:Type}(n:Nat)(k:Int)(o:Option (Int×β)):Prop:=∃k' l,o=some (k',l)/\k<=k'/\k'<=k+8*(n:Int)
theorem DF{α:Type}{l:List α}{i:Nat}(h:i<l.length)(x d:α):(l.set i x).getD i d=x:=by
 rw[xA,List.getElem?_set_self h];rfl
theorem Jd{α:Type}{F:Nat->Int->Int->List α->Option (Int×List α)}{c:α->Nat}(a:List α)(ha:eF c a<=1048576)(d:α)
 (step:∀f k (i:Nat) (l:List α),∀h:i<a.length,decide ((i:Int)<((l.length:Nat):Int))=true->inB (i:Int) l.length=true->i<l.length->l.getD i d=a[i]->Go.IntKind.wrap .i64 ((i:Int)+1)=((i+1:Nat):Int)->0<=k->k+8*(c a[i]+1:Int)<=100000000000->c a[i]<=1048576->
   ∃k',(∃x,F (f+1) k (i:Int) l=F f k' ((i+1:Nat):Int) (l.set i x))/\k<=k'/\k'<=k+8*(c a[i]+1:Int))
 (stop:∀f k (l:List α),l.length=a.length->F (f+1) k (a.length:Int) l=some (k,l)) (k0:Int) (h0:0<=k0) (h1:k0+8*(eF c a:Int)<=100000000000):Mk (eF c a) k0 (F az k0 0 a):=by
 have hlen:=dh c a;have key:∀f i k (l:List α),i<=a.length->a.length-i<f->l.length=a.length->(∀j,i<=j->l[j]?=a[j]?)->0<=k->k+8*(eF c (a.drop i):Int)<=100000000000->Mk (eF c (a.drop i)) k (F f k (i:Int) l):=by
  intro f
  induction f with
  |zero=>intro i k l h1 h2;omega
  |succ f ih=>
   intro i k l h1 h2 hl hj hk hb;rcases kF i a.length with hi|hi
   ·have hg:l.getD i d=a[i]:=by rw[xA,hj i (iM _),wH hi];rfl
    have hm:=eY c a a[i] (gp hi);rw[jb hi,eF]at hb;obtain⟨k',⟨x,e⟩,g1,g2⟩:=step f k i l hi (by rw[jX];omega) (by rw[bn];simpa [hl]using hi) (by omega) hg (dB hi (dO (by omega))) hk (by omega) (by omega);obtain⟨k2,l2,e2,g3,g4⟩:=ih (i+1) k' (l.set i x) (by omega) (by omega) (by simpa using hl) (fun j hj'=>by rw[Nr,bu (by omega)];exact hj j (by omega)) (by omega) (by omega);rw[jb hi,eF];exact⟨k2,l2,by rw[e,e2],by omega,by omega⟩
   ·have:i=a.length:=by omega
    subst this;exact⟨k,l,stop f k l hl,Int.le_refl _,by omega⟩
 have:=key az 0 k0 a (oG _) (by have:=bU;omega) rfl (fun _ _=>rfl) h0 (by simpa using h1);simpa using this
theorem aDo{n:Nat}(h:n<10):Go.IntKind.wrap .u8 (Go.IntKind.wrap .i64 ((48:Int)+(n:Int)))=((48+n:Nat):Int):=by
 rw[wrap_i64 (by omega) (by omega)];have:∀m:Fin 10,Go.IntKind.wrap .u8 ((48:Int)+((m.val:Nat):Int))=((48+m.val:Nat):Int):=by decide
 exact this ⟨n,h⟩
theorem axf{n:Nat}(h:n<10):Go.V.apM ((48+n:Nat):Int)=true:=by
 unfold Go.V.apM;simp only[lS,jX];omega
theorem afy:∀(j f k:Nat)(out:List UInt8),k<10^j->j<f->k<4611686018427387904->out.length+j<=1000->∃s,M.wQ f (k:Int) out=some s/\s.length<=out.length+j
 |j,0,k,out,_,h,_,_=>by omega
 |0,f+1,k,out,h1,h2,h3,h4=>by
  have:k=0:=by simpa using h1
  subst this;exact⟨out,by rw[M.wQ];simp,iM _⟩
 |j+1,f+1,k,out,h1,h2,h3,h4=>by
  rw[M.wQ];rcases agM k with h0|h0
  ·subst h0;exact⟨out,by simp,by omega⟩
  ·have hd:decide ((0:Int)<(k:Int))=true:=by rw[jX];omega
   have e3:Int.tmod (k:Int) 10=((k%10:Nat):Int):=(Int.ofNat_tmod k 10).symm;have e4:Go.IntKind.wrap .i64 (Int.tdiv (k:Int) 10)=((k/10:Nat):Int):=by
    rw[show Int.tdiv (k:Int) 10=((k/10:Nat):Int)from(Int.ofNat_tdiv k 10).symm,wrap_i64 (by omega) (by omega)]
   have hm:k%10<10:=Nat.mod_lt _ (by decide);obtain⟨s,g1,g2⟩:=afy j f (k/10) ([Go.V.asV ((48+k%10:Nat):Int)]++out) (by rw[Nat.pow_succ]at h1;omega) (by omega) (by omega) (by simp;omega);refine⟨s,?_,by simp at g2;omega⟩;simp only[hd,e3,e4,aDo hm,axf hm,bQ,YY,List.map_nil];rw[ui (by simp;omega)];exact g1
theorem axg(k:Int)(h0:0<=k)(h1:k<=1000000000000):∃s,M.dV k=some s:=by
 obtain⟨n,rfl⟩:=az2 h0;unfold M.dV;by_cases hz:(n:Int)<=0
 ·rw[ahb hz];exact⟨_,rfl⟩
 ·rw[ajQ hz];obtain⟨s,e,hl⟩:=afy 13 az n [] (by omega) (by have:=bU;omega) (by omega) (by simp);rw[e];simp only[gG];rw[ui (by simp at hl⊢;omega)];exact⟨_,rfl⟩
noncomputable def mT(k:Int):List UInt8:=(M.dV k).getD Inhabited.default
theorem DI{k:Int}(h0:0<=k)(h1:k<=1000000000000):M.dV k=some (mT k):=by
 obtain⟨s,e⟩:=axg k h0 h1;unfold mT;rw[e];rfl
theorem up{k:Int}(h0:0<=k)(h1:k<=1000000000000):Go.IntKind.wrap .i64 (k+1)=k+1:=wrap_i64 (by omega) (by omega)
theorem three:((3:Int) !=0)=true:=rfl
theorem axh(a:List (List UInt8))(ha:a.length<=1048576)(k:Int)(h0:0<=k)(h1:k<=100000000000):M.jm k a=some (k+(a.length:Int),(List.range a.length).map fun j:Nat=>mT (k+(j:Int))):=by
 have key:∀f i (l:List (List UInt8)),i<=a.length->a.length-i<f->l.length=a.length->(∀j,j<i->l[j]?=some (mT (k+(j:Int))))->M.sH f (k+(i:Int)) (i:Int) l=some (k+(a.length:Int),(List.range a.length).map fun j:Nat=>mT (k+(j:Int))):=by
  intro f
  induction f with
  |zero=>intro i l h1 h2;omega
  |succ f ih=>
   intro i l h1 h2 hl hj;rw[M.sH];rcases kF i a.length with hi|hi
   ·have hmt:=DI (k:=k+(i:Int)) (by omega) (by omega);have hlt:decide ((i:Int)<((l.length:Nat):Int))=true:=by rw[jX];omega
    have hin:inB (i:Int) l.length=true:=by rw[bn];simpa [hl]using hi
    have hw:Go.IntKind.wrap .i64 (k+(i:Int)+1)=k+((i+1:Nat):Int):=by rw[up (by omega) (by omega)];omega
    simp only[hlt,hin,hmt,kE,bQ,dY,jg,jY,jR,dB hi (dO ha),hw];exact ih (i+1) _ (by omega) (by omega) (by simpa using hl) fun j hj'=>by
     rw[Nr];rcases kF j i with g|g
     ·rw[bu (by omega)];exact hj j g
     ·have:i=j:=by omega
      subst this;rw[bI rfl,bI (by omega)]
   ·have:i=a.length:=by omega
    subst this;have hf:decide ((a.length:Int)<((l.length:Nat):Int))=false:=by rw[AO];omega
    rw[hf,gG];have:l=(List.range a.length).map fun j:Nat=>mT (k+(j:Int)):=by
     apply awZ;intro j;rcases kF j a.length with g|g
     ·rw[hj j g];simp[g]
     ·rw[ap8 (by omega),ap8 (by simpa using g)]
    rw[this]
 have:=key az 0 a (oG _) (by have:=bU;omega) rfl (fun j h=>absurd h (ach _));unfold M.jm;have e:k+((0:Nat):Int)=k:=by simp
 rw[e]at this;have e0:((0:Nat):Int)=0:=rfl;rw[e0]at this;rw[this]
theorem ajc(a:List (List UInt8))(ha:eF List.length a<=1048576)(k:Int)(h0:0<=k)(h1:k<=100000000000):Mk (eF List.length a) k (M.jm k a):=by
 have:=dh List.length a;exact⟨_,_,axh a (by omega) k h0 h1,by omega,by omega⟩
theorem aDp(n:Nat)(hn:n<=1048576)(k:Int)(h0:0<=k)(h1:k<=100000000000):M.Dv ((List.range n).map fun j:Nat=>mT (k+(j:Int))) k=some (k+(n:Int)):=by
 have key:∀f i,i<=n->n-i<f->M.sK ((List.range n).map fun j:Nat=>mT (k+(j:Int))) f (k+(i:Int)) (i:Int)=some (.inr (k+(n:Int))):=by
  intro f
  induction f with
  |zero=>intro i h1 h2;omega
  |succ f ih=>
   intro i h1 h2;rw[M.sK];rcases kF i n with hi|hi
   ·have hmt:=DI (k:=k+(i:Int)) (by omega) (by omega);have hlen:((List.range n).map fun j:Nat=>mT (k+(j:Int))).length=n:=by simp
    have hlt:decide ((i:Int)<((n:Nat):Int))=true:=by rw[jX];omega
    have hin:inB (i:Int) n=true:=by rw[bn];simpa using hi
    have hg:((List.range n).map fun j:Nat=>mT (k+(j:Int))).getD i []=mT (k+(i:Int)):=by rw[getD_lt (by omega)];simp
    have hw:Go.IntKind.wrap .i64 (k+(i:Int)+1)=k+((i+1:Nat):Int):=by rw[up (by omega) (by omega)];omega
    simp only[hlen,hlt,hin,hmt,hg,kE,bQ,gG,dY,jg,jY,jR,dB hi (dO hn),aoD,Ad,hw];exact ih (i+1) (by omega) (by omega)
   ·have:i=n:=by omega
    subst this;simp
 have:=key az 0 (oG _) (by have:=bU;omega);unfold M.Dv;have e:k+((0:Nat):Int)=k:=by simp
 have e0:((0:Nat):Int)=0:=rfl;rw[e,e0]at this;rw[this]
end M
namespace M
open Go.V (inB yx az bU)
theorem ae.p1(a b c d):(ae.mk a b c d).Kind=a:=rfl
theorem ae.p2(a b c d):(ae.mk a b c d).Name=b:=rfl
theorem ae.p3(a b c d):(ae.mk a b c d).dP=c:=rfl
theorem ae.p4(a b c d):(ae.mk a b c d).Kids=d:=rfl
theorem atK:∀(n:Nat)(a:List ae)(k:Int),eF ae.sz a<n->eF ae.sz a<=1048576->0<=k->k+8*(eF ae.sz a:Int)<=100000000000->Mk (eF ae.sz a) k (M.wR n k a)
 |0,a,k,h,_,_,_=>by omega
 |n+1,a,k,h,hz,h0,h1=>by
  obtain⟨k',l',e,g⟩:=Jd (F:=M.tu (M.wR n)) a hz ae.zero (fun f q i l hi hlt hin hl hg hw hq hb hc=>by
   have hs:=ae.dN a[i];have hpos:=WG ae.sz a a[i] (gp hi);obtain⟨k1,l1,e1,a1,b1⟩:=ajc a[i].dP (by omega) (q+1+1) (by omega) (by omega);obtain⟨k2,l2,e2,a2,b2⟩:=atK n a[i].Kids k1 (by omega) (by omega) (by omega) (by omega);refine⟨k2,Exists.intro ?x ?h,by omega,by omega⟩
   rotate_left
   rw[M.tu];simp only[hlt,hin,kE,bQ,dY,jg,DF,hl,WI,hg,up hq (show q<=1000000000000 by omega),up (show 0<=q+1 by omega) (by omega),ae.p1,ae.p2,ae.p3,ae.p4,DI (show 0<=q+1 by omega) (by omega),e1,e2,jY,jR,hw,List.set_set];rfl) (fun f q l hl=>by rw[M.tu];simp[hl]) k h0 h1
  show Mk _ k (M.IY (M.wR n) k a)
  unfold M.IY;rw[e];exact⟨_,_,rfl,g⟩
theorem aqy(a:List ae)(k:Int)(hz:eF ae.sz a<=1048576)(h0:0<=k)(h1:k+8*(eF ae.sz a:Int)<=100000000000):Mk (eF ae.sz a) k (M.ED k a):=
 atK az a k (by have:=bU;omega) hz h0 h1
theorem ayP(a:List ay)(k:Int)(hz:eF ay.sz a<=1048576)(h0:0<=k)(h1:k+8*(eF ay.sz a:Int)<=100000000000):Mk (eF ay.sz a) k (M.F8 k a):=by
 obtain⟨k',l',e,g⟩:=Jd (F:=M.qH) a hz ay.zero (fun f q i l hi hlt hin hl hg hw hq hb hc=>by
  have hs:=ay.dN a[i];have ht:=ae.dN a[i].aZ;obtain⟨k1,l1,e1,a1,b1⟩:=ajc a[i].aZ.dP (by omega) (q+1+1+1) (by omega) (by omega);obtain⟨k2,l2,e2,a2,b2⟩:=aqy a[i].aZ.Kids k1 (by omega) (by omega) (by omega);refine⟨k2,Exists.intro ?x ?h,by omega,by omega⟩
  rotate_left
  rw[M.qH];simp only[hlt,hin,kE,bQ,dY,jg,DF,hl,WI,hg,jY,jR,hw,List.set_set,ae.p1,ae.p2,ae.p3,ae.p4,ae.aF,up (show 0<=q by omega) (by omega),up (show 0<=q+1 by omega) (by omega),up (show 0<=q+1+1 by omega) (by omega),DI (show 0<=q by omega) (by omega),DI (show 0<=q+1+1 by omega) (by omega),e1,e2];rfl) (fun f q l hl=>by rw[M.qH];simp[hl]) k h0 h1
 unfold M.F8;rw[e];exact⟨_,_,rfl,g⟩
theorem ayQ(a:List aQ)(k:Int)(hz:eF aQ.sz a<=1048576)(h0:0<=k)(h1:k+8*(eF aQ.sz a:Int)<=100000000000):Mk (eF aQ.sz a) k (M.JM k a):=by
 obtain⟨k',l',e,g⟩:=Jd (F:=M.tC) a hz aQ.zero (fun f q i l hi hlt hin hl hg hw hq hb hc=>by
  have hs:=aQ.dN a[i];have hf:=ah.dN a[i].aZ;have ht:=ae.dN a[i].aZ.Result;obtain⟨k0,l0,e0,a0,b0⟩:=ayP a[i].aZ.Params (q+1) (by omega) (by omega) (by omega);obtain⟨k1,l1,e1,a1,b1⟩:=ajc a[i].aZ.Result.dP (by omega) (k0+1+1) (by omega) (by omega);obtain⟨k2,l2,e2,a2,b2⟩:=aqy a[i].aZ.Result.Kids k1 (by omega) (by omega) (by omega);refine⟨k2+1,Exists.intro ?x ?h,by omega,by omega⟩
  rotate_left
  rw[M.tC];simp only[hlt,hin,kE,bQ,dY,jg,DF,hl,WI,hg,jY,jR,hw,List.set_set,ae.p1,ae.p2,ae.p3,ae.p4,ae.aF,ah.aF,three,up (show 0<=q by omega) (by omega),up (show 0<=k0 by omega) (by omega),up (show 0<=k0+1 by omega) (by omega),up (show 0<=k2 by omega) (by omega),DI (show 0<=q by omega) (by omega),DI (show 0<=k0+1 by omega) (by omega),e0,e1,e2];rfl) (fun f q l hl=>by rw[M.tC];simp[hl]) k h0 h1
 unfold M.JM;rw[e];exact⟨_,_,rfl,g⟩
theorem aqz(a:List aI)(k:Int)(hz:eF aI.sz a<=1048576)(h0:0<=k)(h1:k+8*(eF aI.sz a:Int)<=100000000000):Mk (eF aI.sz a) k (M.EE k a):=by
 obtain⟨k',l',e,g⟩:=Jd (F:=M.tH) a hz aI.zero (fun f q i l hi hlt hin hl hg hw hq hb hc=>by
  have hs:=aI.dN a[i];obtain⟨k1,l1,e1,a1,b1⟩:=ajc a[i].aT (by omega) (q+1+1+1) (by omega) (by omega);obtain⟨k2,l2,e2,a2,b2⟩:=ayQ a[i].Funcs k1 (by omega) (by omega) (by omega);refine⟨k2,Exists.intro ?x ?h,by omega,by omega⟩
  rotate_left
  rw[M.tH];simp only[hlt,hin,kE,bQ,dY,jg,DF,hl,WI,hg,jY,jR,hw,List.set_set,up (show 0<=q by omega) (by omega),up (show 0<=q+1 by omega) (by omega),up (show 0<=q+1+1 by omega) (by omega),DI (show 0<=q by omega) (by omega),DI (show 0<=q+1 by omega) (by omega),DI (show 0<=q+1+1 by omega) (by omega),e1,e2];rfl) (fun f q l hl=>by rw[M.tH];simp[hl]) k h0 h1
 unfold M.EE;rw[e];exact⟨_,_,rfl,g⟩
theorem ayR(a:List aB)(k:Int)(hz:eF aB.sz a<=1048576)(h0:0<=k)(h1:k+8*(eF aB.sz a:Int)<=100000000000):Mk (eF aB.sz a) k (M.Du k a):=by
 obtain⟨k',l',e,g⟩:=Jd (F:=M.nX) a hz aB.zero (fun f q i l hi hlt hin hl hg hw hq hb hc=>by
  refine⟨q+1+1+1,Exists.intro ?x ?h,by omega,by omega⟩
  rotate_left
  rw[M.nX];simp only[hlt,hin,kE,bQ,dY,jg,DF,hl,WI,hg,jY,jR,hw,List.set_set,three,up (show 0<=q by omega) (by omega),up (show 0<=q+1 by omega) (by omega),up (show 0<=q+1+1 by omega) (by omega),DI (show 0<=q by omega) (by omega)];rfl) (fun f q l hl=>by rw[M.nX];simp[hl]) k h0 h1
 unfold M.Du;rw[e];exact⟨_,_,rfl,g⟩
theorem ayS(a:List bK)(k:Int)(hz:eF bK.sz a<=1048576)(h0:0<=k)(h1:k+8*(eF bK.sz a:Int)<=100000000000):Mk (eF bK.sz a) k (M.OY k a):=by
 obtain⟨k',l',e,g⟩:=Jd (F:=M.wS) a hz bK.zero (fun f q i l hi hlt hin hl hg hw hq hb hc=>by
  refine⟨q+1+1,Exists.intro ?x ?h,by omega,by omega⟩
  rotate_left
  rw[M.wS];simp only[hlt,hin,kE,bQ,dY,jg,DF,hl,WI,hg,jY,jR,hw,List.set_set,up (show 0<=q by omega) (by omega),up (show 0<=q+1 by omega) (by omega)];rfl) (fun f q l hl=>by rw[M.wS];simp[hl]) k h0 h1
 unfold M.OY;rw[e];exact⟨_,_,rfl,g⟩
theorem ayT(a:List aH)(k:Int)(hz:eF aH.sz a<=1048576)(h0:0<=k)(h1:k+8*(eF aH.sz a:Int)<=100000000000):Mk (eF aH.sz a) k (M.JO k a):=by
 obtain⟨k',l',e,g⟩:=Jd (F:=M.tJ) a hz aH.zero (fun f q i l hi hlt hin hl hg hw hq hb hc=>by
  have hs:=aH.dN a[i];obtain⟨k1,l1,e1,a1,b1⟩:=ayS a[i].Code (q+1+1+1+1) (by omega) (by omega) (by omega);refine⟨k1,Exists.intro ?x ?h,by omega,by omega⟩
  rotate_left
  rw[M.tJ];simp only[hlt,hin,kE,bQ,dY,jg,DF,hl,WI,hg,jY,jR,hw,List.set_set,three,up (show 0<=q by omega) (by omega),up (show 0<=q+1 by omega) (by omega),up (show 0<=q+1+1 by omega) (by omega),up (show 0<=q+1+1+1 by omega) (by omega),DI (show 0<=q by omega) (by omega),e1];rfl) (fun f q l hl=>by rw[M.tJ];simp[hl]) k h0 h1
 unfold M.JO;rw[e];exact⟨_,_,rfl,g⟩
theorem ayU(a:List dn)(k:Int)(hz:eF dn.sz a<=1048576)(h0:0<=k)(h1:k+8*(eF dn.sz a:Int)<=100000000000):Mk (eF dn.sz a) k (M.JP k a):=by
 obtain⟨k',l',e,g⟩:=Jd (F:=M.tK) a hz dn.zero (fun f q i l hi hlt hin hl hg hw hq hb hc=>by
  refine⟨q+1+1+1,Exists.intro ?x ?h,by omega,by omega⟩
  rotate_left
  rw[M.tK];simp only[hlt,hin,kE,bQ,dY,jg,DF,hl,WI,hg,jY,jR,hw,List.set_set,up (show 0<=q by omega) (by omega),up (show 0<=q+1 by omega) (by omega),up (show 0<=q+1+1 by omega) (by omega),DI (show 0<=q by omega) (by omega),DI (show 0<=q+1 by omega) (by omega),DI (show 0<=q+1+1 by omega) (by omega)];rfl) (fun f q l hl=>by rw[M.tK];simp[hl]) k h0 h1
 unfold M.JP;rw[e];exact⟨_,_,rfl,g⟩
theorem ayV(a:List bF)(k:Int)(hz:eF bF.sz a<=1048576)(h0:0<=k)(h1:k+8*(eF bF.sz a:Int)<=100000000000):Mk (eF bF.sz a) k (M.Gi k a):=by
 obtain⟨k',l',e,g⟩:=Jd (F:=M.qI) a hz bF.zero (fun f q i l hi hlt hin hl hg hw hq hb hc=>by
  refine⟨q+1+1+1,Exists.intro ?x ?h,by omega,by omega⟩
  rotate_left
  rw[M.qI];simp only[hlt,hin,kE,bQ,dY,jg,DF,hl,WI,hg,jY,jR,hw,List.set_set,up (show 0<=q by omega) (by omega),up (show 0<=q+1 by omega) (by omega),up (show 0<=q+1+1 by omega) (by omega),DI (show 0<=q by omega) (by omega),DI (show 0<=q+1 by omega) (by omega),DI (show 0<=q+1+1 by omega) (by omega)];rfl) (fun f q l hl=>by rw[M.qI];simp[hl]) k h0 h1
 unfold M.Gi;rw[e];exact⟨_,_,rfl,g⟩
theorem ayW(a:List aN)(k:Int)(hz:eF aN.sz a<=1048576)(h0:0<=k)(h1:k+8*(eF aN.sz a:Int)<=100000000000):Mk (eF aN.sz a) k (M.Bv k a):=by
 obtain⟨k',l',e,g⟩:=Jd (F:=M.mZ) a hz aN.zero (fun f q i l hi hlt hin hl hg hw hq hb hc=>by
  refine⟨q+1+1+1+1,Exists.intro ?x ?h,by omega,by omega⟩
  rotate_left
  rw[M.mZ];simp only[hlt,hin,kE,bQ,dY,jg,DF,hl,WI,hg,jY,jR,hw,List.set_set,up (show 0<=q by omega) (by omega),up (show 0<=q+1 by omega) (by omega),up (show 0<=q+1+1 by omega) (by omega),up (show 0<=q+1+1+1 by omega) (by omega),DI (show 0<=q+1 by omega) (by omega),DI (show 0<=q+1+1 by omega) (by omega),DI (show 0<=q+1+1+1 by omega) (by omega)];rfl) (fun f q l hl=>by rw[M.mZ];simp[hl]) k h0 h1
 unfold M.Bv;rw[e];exact⟨_,_,rfl,g⟩
theorem aBu(c:aA)(h:c.sz<=1048576)(a b:List UInt8)(x y z:Int):∃k r,M.zM a b x y z 1 c.aj c.bT c.Module.aj c.Module.bz c.gW c.dI c.Builtins=some (k,r)/\0<=k:=by
 have hs:=aA.dN c;have hm:=aK.dN c.Module;obtain⟨k0,l0,e0,a0,b0⟩:=aqz c.aj 1 (by omega) (by omega) (by omega);obtain⟨k1,l1,e1,a1,b1⟩:=aqz c.bT k0 (by omega) (by omega) (by omega);obtain⟨k2,l2,e2,a2,b2⟩:=ayR c.Module.aj k1 (by omega) (by omega) (by omega);obtain⟨k3,l3,e3,a3,b3⟩:=ayT c.Module.bz k2 (by omega) (by omega) (by omega);obtain⟨k4,l4,e4,a4,b4⟩:=ayU c.gW k3 (by omega) (by omega) (by omega);obtain⟨k5,l5,e5,a5,b5⟩:=ayV c.dI k4 (by omega) (by omega) (by omega);obtain⟨k6,l6,e6,a6,b6⟩:=ayW c.Builtins k5 (by omega) (by omega) (by omega);refine⟨k6, ?r, ?h,by omega⟩
 rotate_left
 unfold M.zM M.MM;simp only[e0,e1,e2,e3,e4,e5,e6,jR,jY,dY,jg,bQ];rfl
end M
namespace M
open Go.V (inB yx az bU)
theorem foldl_map{l:List aI}:∀(a:List (List UInt8)),l.foldl (fun a x=>a++[jy x]) a=a++l.map jy:=by
 induction l with
 |nil=>intro a;simp
 |cons x r ih=>intro a;rw[List.foldl_cons,ih];simp
theorem aFi(l:List aI)(h:eF aI.sz l<=1048576):M.JK l=some (l.map jy):=by
 have hn:=dh aI.sz l;have e:=acP (F:=M.tq l (l.length:Int)) (g:=fun a x=>a++[jy x]) (h:=fun a=>a) l (by omega) (fun k a=>a.length=k) (fun f k a hk hI=>by
  have hx:=eY aI.sz l l[k] (gp hk);rw[M.tq];have hb:decide (a.length+[(Option.getD (M.lD l[k]) Inhabited.default)].length<=1073741824)=true:=by rw[jX,List.length_singleton];omega
  refine⟨?_,by simpa using hI⟩;simp only[getD_lt hk,kE,bn,gZ,hk,eG,bQ,dY,jg,hb];simp only[aoo l[k] (by omega),jR,jY,bQ,dB hk (dO (by omega))];rfl) (fun f a hI=>by rw[M.tq];simp) [] rfl
 rw[foldl_map]at e;unfold M.JK;rw[e];rfl
theorem aFj(l:List aI)(h:eF aI.sz l<=1048576):M.OT l=some (l.map jy):=by
 have hn:=dh aI.sz l;have e:=acP (F:=M.wP l) (g:=fun a x=>a++[jy x]) (h:=fun a=>a) l (by omega) (fun k a=>a.length=k) (fun f k a hk hI=>by
  have hx:=eY aI.sz l l[k] (gp hk);rw[M.wP];have hb:decide (a.length+[(Option.getD (M.jS l[k]) Inhabited.default)].length<=1073741824)=true:=by rw[jX,List.length_singleton];omega
  refine⟨?_,by simpa using hI⟩;simp only[getD_lt hk,kE,bn,gZ,hk,eG,bQ,dY,jg,hb];simp only[acO l[k] (by omega),jR,jY,bQ,dB hk (dO (by omega))];rfl) (fun f a hI=>by rw[M.wP];simp) [] rfl
 rw[foldl_map]at e;unfold M.OT;rw[e];rfl
theorem aFk(a:List (List UInt8))(hn:a.length<=1048576):M.pI a a=some true:=by
 unfold M.pI;refine KY (F:=M.kW a a) a hn (fun f k hk=>?_) (fun f=>?_)
 ·rw[M.kW];simp[hk,getD_lt hk,dB hk (dO hn)]
 ·rw[M.kW];simp
theorem aG4(x:aA)(hx:x.Ok):M.agL x=some true:=by
 unfold M.agL;rw[au8 x 1048576 hx (by omega) (by omega)];by_cases h1:(x.sz:Int)<=1048576
 ·have h:x.sz<=1048576:=by omega
  have n1:¬(1048576-(x.sz:Int)<0):=by omega
  have hc:=CSz.of h;have hl:=dh aI.sz x.aj;have hh:=hc.Kz;obtain⟨r,hr,er,es⟩:∃r:List (List UInt8),r.length<=1048576/\M.amA x=some r/\M.ajf x=some r:=by
   unfold M.amA M.ajf;rw[aIN hc,aIM hc,aFi _ hh,aFj _ hh];cases afL x==[]
   ·exact⟨[],by simp,rfl,rfl⟩
   ·exact⟨x.aj.map jy,by rw[xE];omega,rfl,rfl⟩
  obtain⟨k,w,em,hk⟩:=aBu x h x.Name x.Version x.Encoding x.kY x.Module.jI;have n2:¬(k<0):=by omega
  have n3:¬(1+((r.length:Nat):Int)<0):=by omega
  rw[bI h1];simp only[au9 x h,aK.eta,aA.eta,er,es,aFk r hr,ava x h,em,axh r hr 1 (by omega) (by omega),aDp r.length hr 1 (by omega) (by omega),jR,jY,n1,n2,n3,ad4,gG,jg,pq,dY,bQ,aoD,bne_self_eq_false,Ad,apW,aoH,am9,jc]
 ·rw[bu h1];simp
end M
