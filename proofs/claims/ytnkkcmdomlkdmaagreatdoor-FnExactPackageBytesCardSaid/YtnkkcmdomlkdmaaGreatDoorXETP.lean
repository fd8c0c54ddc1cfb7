/-
  NAMES AND TYPES: what is right, in plain Lean.
-/
import Derived.Test.YtnkkcmdomlkdmaaGreatDoorXEplA
import Derived.Test.YtnkkcmdomlkdmaaGreatDoorXEFH
set_option linter.unusedVariables false
namespace M
open Go.V (inB cJ af bU)
def rz(c:UInt8):Bool:=decide ((97:Int)<=((c.toNat:Nat):Int))&&decide (((c.toNat:Nat):Int)<=122)
def Qu(c:UInt8):Bool:=decide ((48:Int)<=((c.toNat:Nat):Int))&&decide (((c.toNat:Nat):Int)<=57)
def uD(c:UInt8):Bool:=((c.toNat:Nat):Int)==45
def rA(s:List UInt8)(k:Nat):Bool:=rz (s.getD k 0)||(decide (0<k)&&((Qu (s.getD k 0)||uD (s.getD k 0))&& !(uD (s.getD k 0)&&uD (s.getD (k-1) 0))))
def dj(s:List UInt8):Bool:=(List.range s.length).all (rA s)&&((decide (1<=s.length)&&decide (s.length<=12))&& !uD (s.getD (s.length-1) 0))
def ov(l:List (List UInt8)):Bool:=(decide (1<=l.length)&&decide (l.length<=16))&&(nodupB l&&l.all dj)
mutual
def dT:aa->Nat
 |.mk _ _ _ kids=>1+dx kids
def dx:List aa->Nat
 |[]=>0
 |x::r=>dT x+dx r
end
mutual
def ix:aa->Nat
 |.mk _ _ _ kids=>1+kT kids
def kT:List aa->Nat
 |[]=>0
 |x::r=>max (ix x) (kT r)
end
mutual
def ia(p:Int->Bool):aa->Bool
 |.mk k _ _ kids=>p k||lO p kids
def lO(p:Int->Bool):List aa->Bool
 |[]=>false
 |x::r=>ia p x||lO p r
end
theorem rk(t:aa):dT t=1+dx t.Kids:=by cases t;rfl
theorem Qv(t:aa):ix t=1+kT t.Kids:=by cases t;rfl
theorem akA(p:Int->Bool)(t:aa):ia p t=(p t.Kind||lO p t.Kids):=by cases t;rfl
theorem Qw(p:Int->Bool):∀l,lO p l=l.any (ia p)
 |[]=>rfl
 |x::r=>by rw[lO,List.any_cons,Qw p r]
def gk(t:aa):Bool:=t.Kind==1
def qD(t:aa):Bool:=(t.Kind==20)||(t.Kind==21)
def GL(t:aa):Bool:=decide ((16:Int)<=t.Kind)&&decide (t.Kind<=19)
def A3(t:aa):Bool:=
 if t.Kind=12\/t.Kind=13 then(t.Kids.length==1)&& !t.Kids.any gk
 else if t.Kind=14 then t.Kids.length==2
 else if t.Kind=15 then(decide (1<=t.Kids.length)&&decide (t.Kids.length<=6))&& !t.Kids.any gk
 else if t.Kind=16 then(t.Kids.length==t.cn.length)&& !t.Kids.any gk
 else if t.Kind=17 then t.Kids.length==t.cn.length
 else if t.Kind=22\/t.Kind=23 then(t.Kids.length==1)&& !lO (fun k=>k==21) t.Kids
 else(decide ((1:Int)<=t.Kind)&&decide (t.Kind<=23))&&(t.Kids.length==0)
def mY(t:aa):Bool:=
 ((if GL t then ov t.cn else t.cn.length==0)&&(if qD t then dj t.Name else t.Name==[]))&&A3 t
mutual
def dF:aa->Bool
 |.mk k n l kids=>mY (.mk k n l kids)&&xH kids
def xH:List aa->Bool
 |[]=>true
 |x::r=>dF x&&xH r
end
theorem qC(t:aa):dF t=(mY t&&xH t.Kids):=by cases t;rfl
theorem u7:∀l,xH l=l.all dF
 |[]=>rfl
 |x::r=>by rw[xH,xC,u7 r]
def fZ(t:aa):Bool:=(decide (ix t<=4)&&decide (dT t<=24))&&dF t
theorem P5:∀(l:List aa)(x:aa),x∈l->dT x<=dx l
 |y::r,x,h=>by
  rcases gz.1 h with rfl|h
  ·simp only[dx];omega
  ·have:=P5 r x h;simp only[dx];omega
theorem akB:∀l:List aa,l.length<=dx l
 |[]=>eL _
 |x::r=>by have:=akB r;simp only[dx,aZ,rk x];omega
theorem xt{l:List aa}{k:Nat}(h:k<l.length):dx (l.drop k)=dT l[k]+dx (l.drop (k+1)):=by rw[fa h];rfl
theorem akC{l:List aa}{k:Nat}(h:k<l.length):kT (l.drop k)=max (ix l[k]) (kT (l.drop (k+1))):=by rw[fa h];rfl
theorem akD(t:aa):1<=ix t:=by rw[Qv];omega
end M
set_option linter.unusedSimpArgs false
namespace M
open Go.V (inB cJ af bU)
theorem iQ{n:Nat}(h:n<=1048576):n<af:=by have:=bU;omega
theorem um{k n:Nat}(h0:0<k)(h:k<=n)(hn:n<2^62):Go.IntKind.wrap .i64 ((k:Int)-1)=((k-1:Nat):Int):=by
 rw[wrap_i64 (by omega) (by omega)];omega
theorem sw(s:List UInt8)(hs:s.length<=1048576):M.kg s=some (dj s):=by
 unfold M.kg;rw[l7 (p:=rA s) (F:=M.tZ s (s.length:Int)) (e:=s) (b:=false) s.length (by omega) (fun f k hk=>by
  rw[M.tZ];simp only[bz,bn,bH,hk,bj,cr,cg,az,aQ,bo hk (cu hs),rA,rz,Qu,uD,lx];generalize decide ((97:Int)<=(((s.getD k 0).toNat:Nat):Int))=a1;generalize decide ((((s.getD k 0).toNat:Nat):Int)<=122)=a2;generalize decide ((48:Int)<=(((s.getD k 0).toNat:Nat):Int))=a3;generalize decide ((((s.getD k 0).toNat:Nat):Int)<=57)=a4;generalize ((((s.getD k 0).toNat:Nat):Int)==45)=a5;rcases lK k with h0|h0
  ·subst h0;cases a1<;>cases a2<;>cases a3<;>cases a4<;>cases a5<;>simp
  ·have e0:((k:Int)==0)=false:=by rw[d6];omega
   have hk1:k-1<s.length:=by omega
   simp only[e0,um h0 (sd hk) (cu hs),bz,bn,hk1,h0,bj];generalize ((((s.getD (k-1) 0).toNat:Nat):Int)==45)=a6;cases a1<;>cases a2<;>cases a3<;>cases a4<;>cases a5<;>cases a6<;>simp) (fun f=>by rw[M.tZ];simp)]
 unfold dj;cases hall:(List.range s.length).all (rA s)
 ·simp
 ·simp only[fJ,lx,az];rcases lK s.length with h0|h0
  ·simp[h0]
  ·have h1:s.length-1<s.length:=by omega
   have e1:decide ((1:Int)<=((s.length:Nat):Int))=decide (1<=s.length):=by simp only[ka];omega
   have e2:decide (((s.length:Nat):Int)<=12)=decide (s.length<=12):=by simp only[ka];omega
   simp only[um h0 (eL _) (cu hs),bz,bn,h1,bj,cg,aQ,cr,e1,e2,uD]
theorem su(s:List UInt8)(hs:s.length<=1048576):M.kf s=some (dj s):=by
 unfold M.kf;rcases lK s.length with h0|h0
 ·have:s=[]:=fD h0;subst this;rfl
 have h1:s.length-1<s.length:=by omega
 simp only[um h0 (eL _) (cu hs),bz,bn,h1,Int.toNat_zero,bj,cg,aQ,cr];have hz:inB (0:Int) s.length=true:=by
  show inB ((0:Nat):Int) s.length=true
  rw[bn];simpa using h0
 simp only[hz,cg,aQ,cr];have e1:decide (((s.length:Nat):Int)<1)= !decide (1<=s.length):=by rw[<-pj];simp only[ka];omega
 have e2:decide ((12:Int)<((s.length:Nat):Int))= !decide (s.length<=12):=by rw[<-pj];simp only[ka];omega
 have e3:decide ((((s.getD 0 0).toNat:Nat):Int)<97)= !decide ((97:Int)<=(((s.getD 0 0).toNat:Nat):Int)):=by rw[<-pj];simp only[ka];omega
 have e4:decide ((122:Int)<(((s.getD 0 0).toNat:Nat):Int))= !decide ((((s.getD 0 0).toNat:Nat):Int)<=122):=by rw[<-pj];simp only[ka];omega
 rw[e1,e2,e3,e4];by_cases hlow:rz (s.getD 0 0)=true
 ·have hl:=hlow;simp only[rz,bD]at hl;rw[l7 (p:=rA s) (F:=M.wP s) (e:=()) (b:=false) s.length (by omega) (fun f k hk=>by
   rw[M.wP];have f1:decide ((((s.getD k 0).toNat:Nat):Int)<97)= !decide ((97:Int)<=(((s.getD k 0).toNat:Nat):Int)):=by rw[<-pj];simp only[ka];omega
   have f2:decide ((122:Int)<(((s.getD k 0).toNat:Nat):Int))= !decide ((((s.getD k 0).toNat:Nat):Int)<=122):=by rw[<-pj];simp only[ka];omega
   have f3:decide ((((s.getD k 0).toNat:Nat):Int)<48)= !decide ((48:Int)<=(((s.getD k 0).toNat:Nat):Int)):=by rw[<-pj];simp only[ka];omega
   have f4:decide ((57:Int)<(((s.getD k 0).toNat:Nat):Int))= !decide ((((s.getD k 0).toNat:Nat):Int)<=57):=by rw[<-pj];simp only[ka];omega
   simp only[bz,bn,bH,hk,bj,cr,cg,az,aQ,bo hk (cu hs),rA,rz,Qu,uD,lx,f1,f2,f3,f4];have dash:rz (s.getD k 0)=true->((((s.getD k 0).toNat:Nat):Int)==45)=false:=fun h=>by
    simp only[rz,bD,bw]at h;rw[d6];omega
   simp only[rz]at dash;rcases lK k with k0|k0
   ·subst k0;rw[hl.1,hl.2]at*;simp only[bJ]at dash;rw[dash trivial];simp
   ·have hk1:k-1<s.length:=by omega
    simp only[um k0 (sd hk) (cu hs),bz,bn,hk1,k0,bj];generalize ((((s.getD (k-1) 0).toNat:Nat):Int)==45)=a6
    revert dash
    generalize decide ((97:Int)<=(((s.getD k 0).toNat:Nat):Int))=a1;generalize decide ((((s.getD k 0).toNat:Nat):Int)<=122)=a2;generalize decide ((48:Int)<=(((s.getD k 0).toNat:Nat):Int))=a3;generalize decide ((((s.getD k 0).toNat:Nat):Int)<=57)=a4;generalize ((((s.getD k 0).toNat:Nat):Int)==45)=a5;intro dash;cases a1<;>cases a2<;>cases a3<;>cases a4<;>cases a5<;>cases a6<;>simp at dash⊢) (fun f=>by rw[M.wP];simp)]
  rw[hl.1,hl.2];unfold dj uD;cases (List.range s.length).all (rA s)<;>cases decide (1<=s.length)<;>cases decide (s.length<=12)<;>cases ((((s.getD (s.length-1) 0).toNat:Nat):Int)==45)<;>rfl
 ·have hno:dj s=false:=by
   unfold dj;have:(List.range s.length).all (rA s)=false:=by
    rw[List.all_eq_false];refine⟨0,by simpa using h0,?_⟩;simp only[sk]at hlow;simp only[rA,hlow];intro h;cases h
   rw[this];rfl
  rw[hno];simp only[sk]at hlow;simp only[rz]at hlow;cases h3:decide ((97:Int)<=(((s.getD 0 0).toNat:Nat):Int))<;>cases h4:decide ((((s.getD 0 0).toNat:Nat):Int)<=122)<;>rw[h3,h4]at hlow<;>simp at hlow⊢
end M
namespace M
open Go.V (inB cJ af bU)
theorem nodup_range(l:List (List UInt8)):(List.range l.length).all (fun i=>(List.range i).all fun k=> !(l.getD k []==l.getD i []))=nodupB l:=by
 rw[gv,yD,List.Nodup,xz];simp only[dr,FA,fj,d6];constructor
 ·intro h i j hi hj hij e;have:=h j hj i hij;rw[getD_lt hi,getD_lt hj]at this;exact this e
 ·intro h i hi k hk e;rw[getD_lt hi,getD_lt (by omega)]at e;exact h k i (by omega) hi hk e
theorem Fv{α:Type}(p:α->Bool)(l:List α)(d:α):(List.range l.length).all (fun i=>p (l.getD i d))=l.all p:=by
 rw[gv];simp only[dr,FA];constructor
 ·intro h x hx;obtain⟨i,hi,rfl⟩:=iy hx;have:=h i hi
  rwa [getD_lt hi]at this
 ·intro h i hi;rw[getD_lt hi];exact h _ (bA hi)
theorem Ft{α:Type}(p q:α->Bool)(l:List α):l.all (fun x=>p x&&q x)=(l.all p&&l.all q):=by
 induction l with
 |nil=>rfl
 |cons x r ih=>simp only[xC,ih];cases p x<;>cases q x<;>cases r.all p<;>cases r.all q<;>rfl
theorem aCR(l:List (List UInt8))(h:aK List.length l<=1048576):M.Eu l=some (ov l):=by
 have hl:=cq (bW List.length l) h;unfold M.Eu;have e1:decide (((l.length:Nat):Int)<1)= !decide (1<=l.length):=by rw[<-pj];simp only[ka];omega
 have e2:decide ((16:Int)<((l.length:Nat):Int))= !decide (l.length<=16):=by rw[<-pj];simp only[ka];omega
 rw[e1,e2,l7 (p:=fun i=>dj (l.getD i [])&&(List.range i).all fun k=> !(l.getD k []==l.getD i [])) (F:=fun f i=>M.qU f l i) (e:=()) (b:=false) l.length (by omega) (fun f k hk=>by
  show M.qU (f+1) l (k:Int)=_
  rw[M.qU];have hn:(l.getD k []).length<=1048576:=by rw[getD_lt hk];exact cq (aC List.length _ _ (bA hk)) h
  have inner:M.tP l (k:Int) af 0=some (if(List.range k).all (fun j=> !(l.getD j []==l.getD k []))then .inr (l,(k:Int))else .inl false):=
   l7 (p:=fun j=> !(l.getD j []==l.getD k [])) (F:=M.tP l (k:Int)) (e:=(l,(k:Int))) (b:=false) k (by omega) (fun f j hj=>by
    rw[M.tP];have hj':j<l.length:=by omega
    simp only[bz,bn,bH,hj,hk,hj',bj,cr,cg,az,aQ,bo hj (by omega:k<2^62)];cases l.getD j []==l.getD k []<;>rfl) (fun f=>by rw[M.tP];simp)
  simp only[bz,bn,bH,hk,bj,cr,cg,az,aQ,bo hk (by omega:l.length<2^62),su _ hn,inner,aR,aT];cases dj (l.getD k [])<;>cases (List.range k).all (fun j=> !(l.getD j []==l.getD k []))<;>simp[bo hk (by omega:l.length<2^62)]) (fun f=>by
  show M.qU (f+1) l (l.length:Int)=_
  rw[M.qU];simp)]
 unfold ov;rw[Ft,Fv,nodup_range];cases decide (1<=l.length)<;>cases decide (l.length<=16)<;>cases l.all dj<;>cases nodupB l<;>rfl
theorem aCS(l:List (List UInt8))(h:aK List.length l<=1048576):M.EB l=some (ov l):=by
 have hl:=cq (bW List.length l) h;have c1:∀s:List UInt8,s.length<=1048576->M.Ez s=some (!dj s):=fun s hs=>by
  unfold M.Ez;rw[sw s hs];rfl
 have cf:M.EA l=some (l.any fun s=> !dj s):=by
  have e:=f5 (p:=fun s=> !dj s) (F:=M.wS l (l.length:Int)) (e:=()) (fun k=>k) l (by omega) (fun f k hk=>by
   rw[M.wS];have hn:l[k].length<=1048576:=cq (aC List.length _ _ (bA hk)) h;simp only[getD_lt hk,bz,bn,bH,hk,bj,cr,cg,az,aQ,bo hk (by omega:l.length<2^62),c1 _ hn,aR,aT]) (fun f=>by rw[M.wS];simp)
  unfold M.EA M.KQ;rw[e,jN];cases l.findIdx? (fun s=> !dj s)<;>simp
 unfold M.EB;rw[cf,Hh l hl];have e1:decide ((1:Int)<=((l.length:Nat):Int))=decide (1<=l.length):=by simp only[ka];omega
 have e2:decide (((l.length:Nat):Int)<=16)=decide (l.length<=16):=by simp only[ka];omega
 have e3:(l.any fun s=> !dj s)= !l.all dj:=by rw[iE]
 unfold ov;simp only[aT,cg,aQ,cr,aR,e1,e2,e3,Aj];cases decide (1<=l.length)<;>cases decide (l.length<=16)<;>cases l.all dj<;>cases nodupB l<;>rfl
end M
namespace M
open Go.V (inB cJ af bU)
theorem ot{α:Type}{f:α->Nat}{l:List α}{N:Nat}(h:aK f l<=N){x:α}(hx:x∈l):f x<=N:=cq (aC f l x hx) h
theorem aa.vc{a:aa}{N:Nat}(h:a.sz<=N):aK List.length a.cn<=N:=by rw[aa.bI]at h;omega
theorem aa.qE{a:aa}{N:Nat}(h:a.sz<=N):a.Name.length<=N:=by rw[aa.bI]at h;omega
theorem aa.sc{a:aa}{N:Nat}(h:a.sz<=N):aK aa.sz a.Kids<=N:=by rw[aa.bI]at h;omega
theorem aa.kd{a:aa}{N:Nat}(h:a.sz<=N):a.Kids.length<=N:=cq (bW _ _) (aa.sc h)
theorem aa.aCT{a:aa}{N:Nat}(h:a.sz<=N):a.cn.length<=N:=cq (bW _ _) (aa.vc h)
theorem aa.il{a x:aa}(h:x∈a.Kids):x.sz<a.sz:=by
 rw[aa.bI a];have:=zP aa.sz _ _ h;omega
theorem aCU(t:aa)(h:t.sz<=1048576):M.wQ t=some (t.Kids.any gk):=by
 have hl:=aa.kd h;have e:=f5 (p:=gk) (F:=fun f i=>M.pQ f i t) (e:=()) (fun _=>true) t.Kids (by omega) (fun f k hk=>by
  show M.pQ (f+1) (k:Int) t=_
  rw[M.pQ];simp only[aa.aj,getD_lt hk,bz,bn,bH,hk,bj,cr,cg,az,aQ,bo hk (by omega:t.Kids.length<2^62),gk]) (fun f=>by
  show M.pQ (f+1) _ t=_
  rw[M.pQ];simp)
 unfold M.wQ;rw[aa.aj,jN];have e':M.pQ af 0 t=_:=e;rw[e'];cases t.Kids.findIdx? gk<;>simp
theorem LI(lo hi:Int):∀(m:Nat)(t:aa),t.sz<m->t.sz<=1048576->M.mc m t lo hi=some (ia (fun k=>decide (lo<=k)&&decide (k<=hi)) t)
 |0,t,h,_=>absurd h (hC _)
 |m+1,t,h,hN=>by
  have hl:=aa.kd hN;have e:=f5 (p:=ia (fun k=>decide (lo<=k)&&decide (k<=hi))) (F:=fun f i=>M.pS (M.mc m) lo hi f i t) (e:=()) (fun _=>true) t.Kids (by omega) (fun f k hk=>by
   show M.pS (M.mc m) lo hi (f+1) (k:Int) t=_
   rw[M.pS];have hx:=aa.il (bA hk);simp only[aa.aj,getD_lt hk,LI lo hi m t.Kids[k] (by omega) (by omega),bz,bn,bH,hk,bj,cr,cg,az,aQ,bo hk (by omega:t.Kids.length<2^62),aR,aT]) (fun f=>by
   show M.pS (M.mc m) lo hi (f+1) _ t=_
   rw[M.pS];simp)
  show M.KA (M.mc m) t lo hi=_
  unfold M.KA;have e':M.pS (M.mc m) lo hi af 0 t=_:=e;rw[aa.aj,e',akA,Qw,jN];cases (decide (lo<=t.Kind)&&decide (t.Kind<=hi))<;>cases t.Kids.findIdx? (ia fun k=>decide (lo<=k)&&decide (k<=hi))<;>simp
theorem aCV(l:List Int)(v:Int)(hl:l.length<2^62):M.ED l v=some (l.any fun x=>v==x):=by
 have e:=f5 (p:=fun x=>v==x) (F:=M.wU l v (l.length:Int)) (e:=()) (fun k=>k) l hl (fun f k hk=>by
  rw[M.wU];simp only[getD_lt hk,bz,bn,bH,hk,bj,cr,cg,az,aQ,bo hk hl]) (fun f=>by rw[M.wU];simp)
 unfold M.ED M.KW;rw[e,jN];cases l.findIdx? (fun x=>v==x)<;>simp
theorem LJ(ks:List Int)(hk:ks.length<2^62):∀(m:Nat)(t:aa),t.sz<m->t.sz<=1048576->M.mJ m t ks=some (ia (fun k=>ks.any fun x=>k==x) t)
 |0,t,h,_=>absurd h (hC _)
 |m+1,t,h,hN=>by
  have hl:=aa.kd hN;have e:=f5 (p:=ia (fun k=>ks.any fun x=>k==x)) (F:=M.wV (M.mJ m) t.Kids ks (t.Kids.length:Int)) (e:=()) (fun k=>k) t.Kids (by omega) (fun f k hk'=>by
   rw[M.wV];have hx:=aa.il (bA hk');have c:M.EE (M.mJ m) t.Kids[k] ks=some (ia (fun k=>ks.any fun x=>k==x) t.Kids[k]):=by
    unfold M.EE;simp only[aa.aj,LJ ks hk m t.Kids[k] (by omega) (by omega)];rfl
   simp only[aa.aj,getD_lt hk',c,bz,bn,bH,hk',bj,cr,cg,az,aQ,bo hk' (by omega:t.Kids.length<2^62),aR,aT]) (fun f=>by
   rw[M.wV];simp)
  have e2:M.EF (M.mJ m) t.Kids ks=some (t.Kids.any (ia (fun k=>ks.any fun x=>k==x))):=by
   unfold M.EF M.KY;rw[e,jN];cases t.Kids.findIdx? (ia (fun k=>ks.any fun x=>k==x))<;>simp
  show M.KZ (M.mJ m) t ks=_
  unfold M.KZ;rw[e2,aCV ks _ hk,akA,Qw];simp
theorem Qx:∀(l:List aa),(∀x∈l,dT x<=x.sz+1)->dx l<=aK aa.sz l
 |[],_=>eL _
 |x::r,h=>by
  have:=Qx r fun y hy=>h y (mX _ hy)
  have:=h x (om ..);simp only[dx,aK];omega
theorem akE:∀(n:Nat)(t:aa),t.sz<n->dT t<=t.sz+1
 |0,t,h=>absurd h (hC _)
 |n+1,t,h=>by
  have:=Qx t.Kids fun x hx=>akE n x (by have:=aa.il hx;omega)
  rw[rk,aa.bI];omega
theorem Fq(t:aa):dT t<=t.sz+1:=akE _ t (sj _)
theorem Fp{l:List aa}{N:Nat}(h:aK aa.sz l<=N):dx l<=N:=cq (Qx l fun x _=>Fq x) h
theorem aAo(l:List aa)(k:Nat):dx (l.take k)<=dx l:=by
 have:∀(a b:List aa),dx (a++b)=dx a+dx b:=fun a b=>by
  induction a with
  |nil=>simp[dx]
  |cons x r ih=>simp only[jB,dx,ih];omega
 have h:=this (l.take k) (l.drop k);rw[List.take_append_drop]at h;omega
theorem akF:∀(m:Nat)(t:aa),t.sz<m->t.sz<=1048576->M.tY m t=some ((dT t:Nat):Int)
 |0,t,h,_=>absurd h (hC _)
 |m+1,t,h,hN=>by
  have hl:=aa.kd hN;have hs:=Fp (aa.sc hN);have key:∀f k (a:Nat),k<=t.Kids.length->t.Kids.length-k<f->a+dx (t.Kids.drop k)<=1048577->M.tX (M.tY m) t.Kids (t.Kids.length:Int) f (a:Int) (k:Int)=some (((a+dx (t.Kids.drop k):Nat)):Int):=by
   intro f
   induction f with
   |zero=>intro k a h1 h2;omega
   |succ f ih=>
    intro k a h1 h2 h3;rcases cG k t.Kids.length with hk|hk
    ·rw[M.tX];have hx:=aa.il (bA hk);rw[xt hk]at h3⊢;have hw:Go.IntKind.wrap .i64 ((a:Int)+((dT t.Kids[k]:Nat):Int))=((a+dT t.Kids[k]:Nat):Int):=by rw[wrap_i64 (by omega) (by omega)];omega
     simp only[aa.aj,getD_lt hk,akF m t.Kids[k] (by omega) (by omega),bz,bn,bH,hk,bj,cr,az,aQ,bo hk (by omega:t.Kids.length<2^62),aR,aT,hw];rw[ih (k+1) _ (by omega) (by omega) (by omega)];congr 1;omega
    ·have:k=t.Kids.length:=by omega
     subst this;rw[M.tX];simp[eB,dx]
  show M.KI (M.tY m) t=_
  unfold M.KI;have e:=key af 0 1 (cZ _) (by have:=bU;omega) (by simp only[gP];omega);have e':M.tX (M.tY m) t.Kids (t.Kids.length:Int) af 1 0=_:=e;rw[e',rk];rfl
theorem akG:∀(m:Nat)(t:aa)(L:Nat),L<m->L<=100->t.sz<=1048576->M.tV m t (L:Int)=some ((min (ix t) (L+1):Nat):Int)
 |0,t,L,h,_,_=>absurd h (hC _)
 |m+1,t,L,h,hL,hN=>by
  have hl:=aa.kd hN
  show M.KF (M.tV m) t (L:Int)=_
  unfold M.KF;cases L with
  |zero=>
   have:=akD t;rw[show min (ix t) (0+1)=1 by omega];rfl
  |succ L=>
   have hw0:Go.IntKind.wrap .i64 (((L+1:Nat):Int)-1)=(L:Int):=by rw[wrap_i64 (by omega) (by omega)];omega
   have key:∀f k (a:Nat),k<=t.Kids.length->t.Kids.length-k<f->M.tU (M.tV m) ((L+1:Nat):Int) t.Kids (t.Kids.length:Int) f (a:Int) (k:Int)=some ((max a (min (kT (t.Kids.drop k)) (L+1)):Nat):Int):=by
    intro f
    induction f with
    |zero=>intro k a h1 h2;omega
    |succ f ih=>
     intro k a h1 h2;rcases cG k t.Kids.length with hk|hk
     ·rw[M.tU];have hx:=aa.il (bA hk);simp only[aa.aj,getD_lt hk,hw0,akG m t.Kids[k] L (by omega) (by omega) (by omega),bz,bn,bH,hk,bj,cr,az,aQ,bo hk (by omega:t.Kids.length<2^62),aR,aT];have hm:(bif decide (a<min (ix t.Kids[k]) (L+1))then((min (ix t.Kids[k]) (L+1):Nat):Int)else(a:Int))=((max a (min (ix t.Kids[k]) (L+1)):Nat):Int):=by
       by_cases hc:a<min (ix t.Kids[k]) (L+1)
       ·simp only[hc,bj,cr];omega
       ·simp only[hc,m9,ef];omega
      rw[hm,ih (k+1) _ (by omega) (by omega),akC hk];congr 1;omega
     ·have:k=t.Kids.length:=by omega
      subst this;rw[M.tU];simp[eB,kT]
   have e:=key af 0 0 (cZ _) (by have:=bU;omega);have e':M.tU (M.tV m) ((L+1:Nat):Int) t.Kids (t.Kids.length:Int) af 0 0=_:=e;have d:(((L+1:Nat):Int)==0)=false:=by rw[d6];omega
   rw[d,e',Qv];simp only[ef,gP];rw[wrap_i64 (by omega) (by omega)];congr 1;omega
end M
namespace M
open Go.V (inB cJ af bU)
def rB(d:Nat)(t:aa):Int×Int:=if d+ix t<=5/\dT t<=24 then(((ix t:Nat):Int),((dT t:Nat):Int))else(5,25)
theorem akH:∀(m d:Nat)(t:aa),d<=5->6<=m+d->t.sz<=1048576->M.tO m t (d:Int)=some (rB d t)
 |0,d,t,h1,h2,_=>by omega
 |m+1,d,t,h1,h2,hN=>by
  have hl:=aa.kd hN;have hdp:=akD t
  show M.Kv (M.tO m) t (d:Int)=_
  unfold M.Kv;by_cases h5:d=5
  ·subst h5;have:rB 5 t=(5,25):=by unfold rB;rw[aw (by omega)]
   rw[this];rfl
  have d4:decide ((4:Int)<(d:Int))=false:=by rw[cm];omega
  by_cases hZ:24<t.Kids.length
  ·have:rB d t=(5,25):=by
    unfold rB;have:=akB t.Kids;rw[aw (by rw[rk];omega)]
   rw[this,d4];have:decide ((24:Int)<((t.Kids.length:Nat):Int))=true:=by rw[bw];omega
   rw[this];rfl
  have d24:decide ((24:Int)<((t.Kids.length:Nat):Int))=false:=by rw[cm];omega
  have hw:Go.IntKind.wrap .i64 ((d:Int)+1)=((d+1:Nat):Int):=by rw[wrap_i64 (by omega) (by omega)];omega
  have mx:∀a b:Nat,M.nr (a:Int) (b:Int)=some ((max a b:Nat):Int):=fun a b=>by
   unfold M.nr;by_cases hc:b<a
   ·have:decide ((b:Int)<(a:Int))=true:=by rw[bw];omega
    rw[this];simp only[cr];congr 1;omega
   ·have:decide ((b:Int)<(a:Int))=false:=by rw[cm];omega
    rw[this];simp only[ef];congr 1;omega
  have key:∀f k (a p:Nat),k<=t.Kids.length->t.Kids.length-k<f->p<=24->M.tN (M.tO m) (d:Int) f (a:Int) (p:Int) (k:Int) t=
   some (if d+1+kT (t.Kids.drop k)<=5/\p+dx (t.Kids.drop k)<=24 then .inr (((max a (kT (t.Kids.drop k)):Nat):Int),((p+dx (t.Kids.drop k):Nat):Int))else .inl (5,25)):=by
   intro f
   induction f with
   |zero=>intro k a p h1 h2;omega
   |succ f ih=>
    intro k a p h1 h2 h3;rcases cG k t.Kids.length with hk|hk
    ·rw[M.tN];have hx:=aa.il (bA hk);have hc:=akH m (d+1) t.Kids[k] (by omega) (by omega) (by omega);rw[akC hk,xt hk];simp only[aa.aj,getD_lt hk,hw,hc,bz,bn,bH,hk,bj,cr,az,aQ,bo hk (by omega:t.Kids.length<2^62),aR,aT];unfold rB;by_cases hv:d+1+ix t.Kids[k]<=5/\dT t.Kids[k]<=24
     ·rw[cz hv];have hw2:Go.IntKind.wrap .i64 ((p:Int)+((dT t.Kids[k]:Nat):Int))=((p+dT t.Kids[k]:Nat):Int):=by rw[wrap_i64 (by omega) (by omega)];omega
      dsimp only;rw[hw2,mx];by_cases hp:24<p+dT t.Kids[k]
      ·have:decide ((24:Int)<((p+dT t.Kids[k]:Nat):Int))=true:=by rw[bw];omega
       rw[this,aw (by omega)];simp
      ·have:decide ((24:Int)<((p+dT t.Kids[k]:Nat):Int))=false:=by rw[cm];omega
       rw[this];simp only[ef,aT,az,cr,aR];rw[ih (k+1) _ _ (by omega) (by omega) (by omega)];have e1:(d+1+kT (t.Kids.drop (k+1))<=5/\p+dT t.Kids[k]+dx (t.Kids.drop (k+1))<=24)↔(d+1+max (ix t.Kids[k]) (kT (t.Kids.drop (k+1)))<=5/\p+(dT t.Kids[k]+dx (t.Kids.drop (k+1)))<=24):=by omega
       by_cases hq:d+1+kT (t.Kids.drop (k+1))<=5/\p+dT t.Kids[k]+dx (t.Kids.drop (k+1))<=24
       ·rw[cz hq,cz (e1.1 hq)];congr 3
        ·omega
        ·omega
       ·rw[aw hq,aw (fun h=>hq (e1.2 h))]
     ·rw[aw hv,aw (by omega)];have hw2:Go.IntKind.wrap .i64 ((p:Int)+25)=(p:Int)+25:=wrap_i64 (by omega) (by omega);have mx5:M.nr (a:Int) 5=some ((max a 5:Nat):Int):=mx a 5;dsimp only;rw[hw2,mx5];have:decide ((24:Int)<(p:Int)+25)=true:=by rw[bw];omega
      rw[this];simp
    ·have:k=t.Kids.length:=by omega
     subst this;rw[M.tN,eB];have hq:d+1+kT []<=5/\p+dx []<=24:=⟨by show d+1+0<=5;omega,by show p+0<=24;omega⟩;rw[cz hq];simp[kT,dx]
  have e:=key af 0 0 1 (cZ _) (by have:=bU;omega) (by omega);have e':M.tN (M.tO m) (d:Int) af 0 1 0 t=_:=e;rw[aa.aj,d4,d24,e'];simp only[gP,uA,ef];unfold rB;rw[Qv,rk];by_cases hq:d+1+kT t.Kids<=5/\1+dx t.Kids<=24
  ·rw[cz hq,cz (by omega)];simp only;congr 2;rw[wrap_i64 (by omega) (by omega)];omega
  ·rw[aw hq,aw (by omega)]
theorem akI{p:Int->Bool}{l:List aa}(h:l.length=1):ia p (l.getD 0 aa.zero)=lO p l:=by
 match l,h with
 |[x],_=>simp[lO]
theorem zO{p q:Int->Bool}(h:∀k,p k=q k):ia p=ia q:=by
 have:p=q:=funext h;rw[this]
theorem b21(k:Int):(decide ((21:Int)<=k)&&decide (k<=21))=(k==21):=by
 rw[gv];simp only[bD,bw,hU];omega
theorem Ac(n m:Nat):(((n:Nat):Int)==((m:Nat):Int))=(n==m):=by
 rw[gv];simp only[hU];omega
theorem akK(n:Nat):(((n:Nat):Int)==1)=(n==1):=Ac n 1
theorem akL(n:Nat):(((n:Nat):Int)==2)=(n==2):=Ac n 2
theorem akM(n:Nat):(((n:Nat):Int)==0)=(n==0):=Ac n 0
theorem Qy(n:Nat):inB (0:Int) n=decide (0<n):=bn 0 n
theorem aCY(t:aa)(h:t.sz<=1048576):M.Ew t=some (mY t):=by
 have hn:=su t.Name (aa.qE h);have hb:=aCR t.cn (aa.vc h);have hu:=aCU t h;have hh:t.Kids.length=1->M.ki (M.aa.re (List.getD t.Kids 0 aa.zero)) 21 21=some (lO (fun k=>k==21) t.Kids):=fun h1=>by
  have hx:(t.Kids.getD 0 aa.zero).sz<t.sz:=by
   rw[getD_lt (by omega)];exact aa.il (bA _)
  rw[aa.aj,show M.ki=M.mc af from rfl,LI 21 21 af _ (iQ (by omega)) (by omega),zO b21,akI h1]
 unfold M.Ew;simp only[aa.aj,hn,hb,hu,aR,aT,cg,aQ,az,cr,akK,akL,akM,Ac,Qy,Int.toNat_zero];unfold mY A3;have e0:decide ((0:Int)<((t.cn.length:Nat):Int))= !(t.cn.length==0):=by
  rw[gv];simp only[bw,fj,d6];omega
 have e1:decide ((1:Int)<=((t.Kids.length:Nat):Int))=decide (1<=t.Kids.length):=by simp only[ka];omega
 have e2:decide (((t.Kids.length:Nat):Int)<=6)=decide (t.Kids.length<=6):=by simp only[ka];omega
 rw[e0,e1,e2];have gm:ov t.cn=true->(t.cn.length==0)=false:=fun h=>by
  simp only[ov,bD,bw]at h;rw[d6];omega
 have gn:dj t.Name=true->(t.Name==[])=false:=fun h=>by
  simp only[dj,bD,bw]at h;rw[d6];intro e;rw[e]at h;simp at h
 unfold qD GL;have hz:t.Kids.length=1->decide (0<t.Kids.length)=true:=fun h1=>by rw[h1];rfl
 have hl1:(t.Kids.length==1)=true->t.Kids.length=1:=fun h1=>by simpa using h1
 have hbr:(t.Kids.length==1)=true->M.ki (M.aa.re (List.getD t.Kids 0 aa.zero)) 21 21=some (lO (fun k=>k==21) t.Kids)/\decide (0<t.Kids.length)=true:=fun h1=>⟨hh (hl1 h1),hz (hl1 h1)⟩
 clear hn hb hu hh hz hl1;simp only[aa.aj]at hbr⊢;generalize hK:t.Kind=K;generalize (t.Name==[])=nn at gn⊢;generalize dj t.Name=no at gn⊢;generalize ov t.cn=lo at gm⊢;generalize (t.cn.length==0)=ll at gm⊢;generalize M.ki (List.getD t.Kids 0 aa.zero) 21 21=o at hbr⊢;generalize decide (0<t.Kids.length)=z at hbr⊢;generalize (t.Kids.length==1)=l1 at hbr⊢;generalize lO (fun k=>k==21) t.Kids=kh at hbr⊢;generalize t.Kids.any gk=au;generalize (t.Kids.length==2)=l2;generalize (t.Kids.length==0)=l0;generalize (t.Kids.length==t.cn.length)=lk;generalize decide (1<=t.Kids.length)=ge;generalize decide (t.Kids.length<=6)=le;clear hK h e0 e1 e2;by_cases h12:K=12
 ·subst h12;cases l1
  ·cases no<;>cases nn<;>simp at gn<;>cases lo<;>cases ll<;>simp at gm<;>simp
  ·obtain⟨rfl,rfl⟩:=hbr rfl;cases no<;>cases nn<;>simp at gn<;>cases lo<;>cases ll<;>simp at gm<;>simp
 by_cases h13:K=13
 ·subst h13;cases l1
  ·cases no<;>cases nn<;>simp at gn<;>cases lo<;>cases ll<;>simp at gm<;>simp
  ·obtain⟨rfl,rfl⟩:=hbr rfl;cases no<;>cases nn<;>simp at gn<;>cases lo<;>cases ll<;>simp at gm<;>simp
 by_cases xI:K=14
 ·subst xI;cases l1
  ·cases no<;>cases nn<;>simp at gn<;>cases lo<;>cases ll<;>simp at gm<;>simp
  ·obtain⟨rfl,rfl⟩:=hbr rfl;cases no<;>cases nn<;>simp at gn<;>cases lo<;>cases ll<;>simp at gm<;>simp
 by_cases h15:K=15
 ·subst h15;cases l1
  ·cases no<;>cases nn<;>simp at gn<;>cases lo<;>cases ll<;>simp at gm<;>simp
  ·obtain⟨rfl,rfl⟩:=hbr rfl;cases no<;>cases nn<;>simp at gn<;>cases lo<;>cases ll<;>simp at gm<;>simp
 by_cases h16:K=16
 ·subst h16;cases l1
  ·cases no<;>cases nn<;>simp at gn<;>cases lo<;>cases ll<;>simp at gm<;>simp
  ·obtain⟨rfl,rfl⟩:=hbr rfl;cases no<;>cases nn<;>simp at gn<;>cases lo<;>cases ll<;>simp at gm<;>simp
 by_cases h17:K=17
 ·subst h17;cases l1
  ·cases no<;>cases nn<;>simp at gn<;>cases lo<;>cases ll<;>simp at gm<;>simp
  ·obtain⟨rfl,rfl⟩:=hbr rfl;cases no<;>cases nn<;>simp at gn<;>cases lo<;>cases ll<;>simp at gm<;>simp
 by_cases h18:K=18
 ·subst h18;cases l1
  ·cases no<;>cases nn<;>simp at gn<;>cases lo<;>cases ll<;>simp at gm<;>simp
  ·obtain⟨rfl,rfl⟩:=hbr rfl;cases no<;>cases nn<;>simp at gn<;>cases lo<;>cases ll<;>simp at gm<;>simp
 by_cases h19:K=19
 ·subst h19;cases l1
  ·cases no<;>cases nn<;>simp at gn<;>cases lo<;>cases ll<;>simp at gm<;>simp
  ·obtain⟨rfl,rfl⟩:=hbr rfl;cases no<;>cases nn<;>simp at gn<;>cases lo<;>cases ll<;>simp at gm<;>simp
 by_cases h20:K=20
 ·subst h20;cases l1
  ·cases no<;>cases nn<;>simp at gn<;>cases lo<;>cases ll<;>simp at gm<;>simp
  ·obtain⟨rfl,rfl⟩:=hbr rfl;cases no<;>cases nn<;>simp at gn<;>cases lo<;>cases ll<;>simp at gm<;>simp
 by_cases h21:K=21
 ·subst h21;cases l1
  ·cases no<;>cases nn<;>simp at gn<;>cases lo<;>cases ll<;>simp at gm<;>simp
  ·obtain⟨rfl,rfl⟩:=hbr rfl;cases no<;>cases nn<;>simp at gn<;>cases lo<;>cases ll<;>simp at gm<;>simp
 by_cases h22:K=22
 ·subst h22;cases l1
  ·cases no<;>cases nn<;>simp at gn<;>cases lo<;>cases ll<;>simp at gm<;>simp
  ·obtain⟨rfl,rfl⟩:=hbr rfl;cases no<;>cases nn<;>simp at gn<;>cases lo<;>cases ll<;>simp at gm<;>simp
 by_cases h23:K=23
 ·subst h23;cases l1
  ·cases no<;>cases nn<;>simp at gn<;>cases lo<;>cases ll<;>simp at gm<;>simp
  ·obtain⟨rfl,rfl⟩:=hbr rfl;cases no<;>cases nn<;>simp at gn<;>cases lo<;>cases ll<;>simp at gm<;>simp
 have q1:(K==20)=false:=by simpa using h20
 have q2:(K==21)=false:=by simpa using h21
 have q3:(decide ((16:Int)<=K)&&decide (K<=19))=false:=by
  rw[kR];simp only[ne_eq,bD,bw];omega
 have q4:(K==12)=false:=by simpa using h12
 have q5:(K==13)=false:=by simpa using h13
 have q6:(K==14)=false:=by simpa using xI
 have q7:(K==15)=false:=by simpa using h15
 have q8:(K==16)=false:=by simpa using h16
 have q9:(K==17)=false:=by simpa using h17
 have q10:(K==22)=false:=by simpa using h22
 have q11:(K==23)=false:=by simpa using h23
 simp only[q1,q2,q3,q4,q5,q6,q7,q8,q9,q10,q11,h12,h13,xI,h15,h16,h17,h22,h23,or_self,gU];cases nn<;>cases ll<;>simp
end M
namespace M
open Go.V (inB cJ af bU)
theorem akN:∀(m:Nat)(t:aa),t.sz<m->t.sz<=1048576->M.pU m t=some (dF t)
 |0,t,h,_=>absurd h (hC _)
 |m+1,t,h,hN=>by
  have hl:=aa.kd hN;have e:=ng (p:=dF) (F:=fun f i=>M.pT (M.pU m) f i t) (e:=()) (b:=false) t.Kids (by omega) (fun f k hk=>by
   show M.pT (M.pU m) (f+1) (k:Int) t=_
   rw[M.pT];have hx:=aa.il (bA hk);simp only[aa.aj,getD_lt hk,akN m t.Kids[k] (by omega) (by omega),bz,bn,bH,hk,bj,cr,cg,az,aQ,bo hk (by omega:t.Kids.length<2^62),aR,aT];cases dF t.Kids[k]<;>rfl) (fun f=>by
   show M.pT (M.pU m) (f+1) _ t=_
   rw[M.pT];simp)
  show M.KC (M.pU m) t=_
  unfold M.KC;have e':M.pT (M.pU m) af 0 t=_:=e;rw[aa.aj,aCY t hN,e',qC,u7];cases mY t<;>cases t.Kids.all dF<;>simp
theorem Qz(t:aa)(h:t.sz<=1048576):M.sJ t=some (fZ t):=by
 unfold M.sJ;have e1:M.KD t=some (dF t):=akN af t (iQ h) h;have e2:M.Kw t 1=some (rB 1 t):=akH af 1 t (by omega) (by have:=bU;omega) h;simp only[aa.aj,e1,e2,aR,aT,cg,aQ,cr];unfold fZ rB;by_cases hq:1+ix t<=5/\dT t<=24
 ·rw[cz hq];have a1:decide (((ix t:Nat):Int)<=4)=decide (ix t<=4):=by simp only[ka];omega
  have a2:decide (((dT t:Nat):Int)<=24)=decide (dT t<=24):=by simp only[ka];omega
  dsimp only;rw[a1,a2]
 ·rw[aw hq];have:(decide (ix t<=4)&&decide (dT t<=24))=false:=by
   rw[kR];simp only[ne_eq,bD,bw];omega
  rw[this];rfl
theorem aCZ(t:aa)(h:t.sz<=1048576):M.CY t=some (fZ t):=by
 unfold M.CY;simp only[aa.aj,Qz t h];rfl
end M
namespace M
open Go.V (inB cJ af bU)
theorem aC0(l:List aa)(hl:l.length<=1048576):M.EC l=some (l.any gk):=by
 have e:=f5 (p:=gk) (F:=M.wT l (l.length:Int)) (e:=()) (fun k=>k) l (by omega) (fun f k hk=>by
  rw[M.wT];simp only[getD_lt hk,bz,bn,bH,hk,bj,cr,cg,az,aQ,bo hk (by omega:l.length<2^62)];rfl) (fun f=>by rw[M.wT];simp)
 unfold M.EC M.KU;rw[e,jN];cases l.findIdx? gk<;>simp
theorem aC1(t:aa)(h:t.sz<=1048576)(n:Nat):M.ua t (n:Int)=some ((t.Kids.length==n)&& !t.Kids.any gk):=by
 unfold M.ua;rw[aC0 t.Kids (aa.kd h)];simp only[aT,cg,aQ,cr,aR,Ac]
theorem aC2(t:aa)(h:t.sz<=1048576)(rec:aa->Option Bool)(b:Bool)(hb:M.zC rec t.Kids=some (!b)):M.EG rec t=some (b&&mY t):=by
 have hn:=sw t.Name (aa.qE h);have hlab:=aCS t.cn (aa.vc h);have hk:=aC1 t h;have hk1:M.ua t 1=some ((t.Kids.length==1)&& !t.Kids.any gk):=hk 1;have hh:t.Kids.length=1->M.kN (M.aa.re (List.getD t.Kids 0 aa.zero)) [21]=some (lO (fun k=>k==21) t.Kids):=fun h1=>by
  have hx:(t.Kids.getD 0 aa.zero).sz<t.sz:=by
   rw[getD_lt (by omega)];exact aa.il (bA _)
  have e:ia (fun k=>[(21:Int)].any fun x=>k==x)=ia (fun k=>k==21):=zO fun k=>by simp
  rw[aa.aj,show M.kN=M.mJ af from rfl,LJ [21] (by simp) af _ (iQ (by omega)) (by omega),e,akI h1]
 unfold M.EG;simp only[aa.aj,hb,hn,hlab,hk,hk1,aR,aT,cg,aQ,az,cr,akK,akL,akM,Ac,Qy,Int.toNat_zero];unfold mY A3;have e0:decide ((0:Int)<((t.cn.length:Nat):Int))= !(t.cn.length==0):=by
  rw[gv];simp only[bw,fj,d6];omega
 have e1:decide ((1:Int)<=((t.Kids.length:Nat):Int))=decide (1<=t.Kids.length):=by simp only[ka];omega
 have e2:decide (((t.Kids.length:Nat):Int)<=6)=decide (t.Kids.length<=6):=by simp only[ka];omega
 rw[e0,e1,e2];unfold qD GL;have hz:t.Kids.length=1->decide (0<t.Kids.length)=true:=fun h1=>by rw[h1];rfl
 have hl1:(t.Kids.length==1)=true->t.Kids.length=1:=fun h1=>by simpa using h1
 have hbr:(t.Kids.length==1)=true->M.kN (M.aa.re (List.getD t.Kids 0 aa.zero)) [21]=some (lO (fun k=>k==21) t.Kids)/\decide (0<t.Kids.length)=true:=fun h1=>⟨hh (hl1 h1),hz (hl1 h1)⟩
 clear hn hlab hk hk1 hh hz hl1 hb;simp only[aa.aj]at hbr⊢;generalize hK:t.Kind=K;generalize (t.Name==[])=nn;generalize dj t.Name=no;generalize ov t.cn=lo;generalize (t.cn.length==0)=ll;generalize M.kN (List.getD t.Kids 0 aa.zero) [21]=o at hbr⊢;generalize decide (0<t.Kids.length)=z at hbr⊢;generalize (t.Kids.length==1)=l1 at hbr⊢;generalize lO (fun k=>k==21) t.Kids=kh at hbr⊢;generalize t.Kids.any gk=au;generalize (t.Kids.length==2)=l2;generalize (t.Kids.length==0)=l0;have akO:(t.Kids.length==t.Kids.length)=true:=by simp
 rw[akO];generalize (t.Kids.length==t.cn.length)=lk;generalize decide (1<=t.Kids.length)=ge;generalize decide (t.Kids.length<=6)=le;clear hK h e0 e1 e2 akO;cases b
 ·simp
 by_cases h12:K=12
 ·subst h12;cases l1
  ·cases no<;>cases nn<;>cases lo<;>cases ll<;>simp
  ·obtain⟨rfl,rfl⟩:=hbr rfl;cases no<;>cases nn<;>cases lo<;>cases ll<;>simp
 by_cases h13:K=13
 ·subst h13;cases l1
  ·cases no<;>cases nn<;>cases lo<;>cases ll<;>simp
  ·obtain⟨rfl,rfl⟩:=hbr rfl;cases no<;>cases nn<;>cases lo<;>cases ll<;>simp
 by_cases xI:K=14
 ·subst xI;cases l1
  ·cases no<;>cases nn<;>cases lo<;>cases ll<;>simp
  ·obtain⟨rfl,rfl⟩:=hbr rfl;cases no<;>cases nn<;>cases lo<;>cases ll<;>simp
 by_cases h15:K=15
 ·subst h15;cases l1
  ·cases no<;>cases nn<;>cases lo<;>cases ll<;>simp
  ·obtain⟨rfl,rfl⟩:=hbr rfl;cases no<;>cases nn<;>cases lo<;>cases ll<;>simp
 by_cases h16:K=16
 ·subst h16;cases l1
  ·cases no<;>cases nn<;>cases lo<;>cases ll<;>simp
  ·obtain⟨rfl,rfl⟩:=hbr rfl;cases no<;>cases nn<;>cases lo<;>cases ll<;>simp
 by_cases h17:K=17
 ·subst h17;cases l1
  ·cases no<;>cases nn<;>cases lo<;>cases ll<;>simp
  ·obtain⟨rfl,rfl⟩:=hbr rfl;cases no<;>cases nn<;>cases lo<;>cases ll<;>simp
 by_cases h18:K=18
 ·subst h18;cases l1
  ·cases no<;>cases nn<;>cases lo<;>cases ll<;>simp
  ·obtain⟨rfl,rfl⟩:=hbr rfl;cases no<;>cases nn<;>cases lo<;>cases ll<;>simp
 by_cases h19:K=19
 ·subst h19;cases l1
  ·cases no<;>cases nn<;>cases lo<;>cases ll<;>simp
  ·obtain⟨rfl,rfl⟩:=hbr rfl;cases no<;>cases nn<;>cases lo<;>cases ll<;>simp
 by_cases h20:K=20
 ·subst h20;cases l1
  ·cases no<;>cases nn<;>cases lo<;>cases ll<;>simp
  ·obtain⟨rfl,rfl⟩:=hbr rfl;cases no<;>cases nn<;>cases lo<;>cases ll<;>simp
 by_cases h21:K=21
 ·subst h21;cases l1
  ·cases no<;>cases nn<;>cases lo<;>cases ll<;>simp
  ·obtain⟨rfl,rfl⟩:=hbr rfl;cases no<;>cases nn<;>cases lo<;>cases ll<;>simp
 by_cases h22:K=22
 ·subst h22;cases l1
  ·cases no<;>cases nn<;>cases lo<;>cases ll<;>simp
  ·obtain⟨rfl,rfl⟩:=hbr rfl;cases no<;>cases nn<;>cases lo<;>cases ll<;>simp
 by_cases h23:K=23
 ·subst h23;cases l1
  ·cases no<;>cases nn<;>cases lo<;>cases ll<;>simp
  ·obtain⟨rfl,rfl⟩:=hbr rfl;cases no<;>cases nn<;>cases lo<;>cases ll<;>simp
 have q1:(K==20)=false:=by simpa using h20
 have q2:(K==21)=false:=by simpa using h21
 have q3:(decide ((16:Int)<=K)&&decide (K<=19))=false:=by
  rw[kR];simp only[ne_eq,bD,bw];omega
 have q4:(K==12)=false:=by simpa using h12
 have q5:(K==13)=false:=by simpa using h13
 have q6:(K==14)=false:=by simpa using xI
 have q7:(K==15)=false:=by simpa using h15
 have q8:(K==16)=false:=by simpa using h16
 have q9:(K==17)=false:=by simpa using h17
 have q10:(K==22)=false:=by simpa using h22
 have q11:(K==23)=false:=by simpa using h23
 simp only[q1,q2,q3,q4,q5,q6,q7,q8,q9,q10,q11,h12,h13,xI,h15,h16,h17,h22,h23,or_self,gU];cases nn<;>cases ll<;>simp
theorem akP:∀(m:Nat)(t:aa),t.sz<m->t.sz<=1048576->M.qV m t=some (dF t)
 |0,t,h,_=>absurd h (hC _)
 |m+1,t,h,hN=>by
  have hl:=aa.kd hN;have e:=f5 (p:=fun x=> !dF x) (F:=M.wR (M.qV m) t.Kids (t.Kids.length:Int)) (e:=()) (fun k=>k) t.Kids (by omega) (fun f k hk=>by
   rw[M.wR];have hx:=aa.il (bA hk);have c:M.Ey (M.qV m) t.Kids[k]=some (!dF t.Kids[k]):=by
    unfold M.Ey;simp only[aa.aj,akP m t.Kids[k] (by omega) (by omega)];rfl
   simp only[aa.aj,getD_lt hk,c,bz,bn,bH,hk,bj,cr,cg,az,aQ,bo hk (by omega:t.Kids.length<2^62),aR,aT]) (fun f=>by
   rw[M.wR];simp)
  have e2:M.zC (M.qV m) t.Kids=some (!xH t.Kids):=by
   unfold M.zC M.KN;have e3:(!xH t.Kids)=t.Kids.any fun x=> !dF x:=by rw[u7,iE]
   rw[e,e3,jN];cases t.Kids.findIdx? (fun x=> !dF x)<;>simp
  show M.EG (M.qV m) t=_
  rw[aC2 t hN _ _ e2,qC,Bool.and_comm]
theorem akQ(t:aa)(h:t.sz<=1048576):M.xc t=some (fZ t):=by
 unfold M.xc;have e1:M.K0 t=some (dF t):=akP af t (iQ h) h;have e2:M.KG t 4=some ((min (ix t) 5:Nat):Int):=akG af t 4 (by have:=bU;omega) (by omega) h;have e3:M.KJ t=some ((dT t:Nat):Int):=akF af t (iQ h) h;simp only[aa.aj,e1,e2,e3,aR,aT,cg,aQ,cr];have a1:decide (((min (ix t) 5:Nat):Int)<=4)=decide (ix t<=4):=by simp only[ka];omega
 have a2:decide (((dT t:Nat):Int)<=24)=decide (dT t<=24):=by simp only[ka];omega
 rw[a1,a2];rfl
end M
namespace M
open Go.V (inB cJ af bU)
def iJ:List Int->List Int->List Int
 |[],b=>b
 |x::a,[]=>x::a
 |x::a,y::b=>max x y::iJ a b
theorem LW(a:List Int):iJ a []=a:=by cases a<;>rfl
theorem LX:∀a b:List Int,(iJ a b).length=max a.length b.length
 |[],b=>by simp[iJ]
 |x::a,[]=>by simp[iJ]
 |x::a,y::b=>by simp only[iJ,aZ,LX a b];omega
def ones(l:List Int):Prop:=∀x∈l,x=1\/x=2
theorem QA:∀a b:List Int,ones a->ones b->ones (iJ a b)
 |[],b,_,h=>h
 |x::a,[],h,_=>h
 |x::a,y::b,ha,hb=>by
  intro z hz;rcases gz.1 hz with rfl|hz
  ·have:=ha x (om ..);have:=hb y (om ..);omega
  ·exact QA a b (fun w hw=>ha w (mX _ hw)) (fun w hw=>hb w (mX _ hw)) z hz
theorem QB{a b:List Int}(ha:ones a)(hb:ones b):ones (a++b):=fun x hx=>(dB.1 hx).elim (ha x) (hb x)
mutual
def fO:aa->List Int
 |.mk k n l kids=>
   if k=1 then[]else if k=9 then[2]else if k=11\/k=12 then[1,1]
   else if k=15\/k=16 then fE kids
   else if k=13 then 1::uE kids
   else if k=14\/k=17 then 1::jD [] kids else[1]
def fE:List aa->List Int
 |[]=>[]
 |x::r=>fO x++fE r
def uE:List aa->List Int
 |[]=>[]
 |x::_=>fO x
def jD(a:List Int):List aa->List Int
 |[]=>a
 |x::r=>jD (iJ a (fO x)) r
end
theorem jE(t:aa):fO t=(if t.Kind=1 then[]else if t.Kind=9 then[2]else if t.Kind=11\/t.Kind=12 then[1,1]
 else if t.Kind=15\/t.Kind=16 then fE t.Kids
 else if t.Kind=13 then 1::uE t.Kids
 else if t.Kind=14\/t.Kind=17 then 1::jD [] t.Kids else[1]):=by cases t;rw[fO];rfl
theorem akR:∀l:List aa,(∀x∈l,ones (fO x))->ones (fE l)
 |[],_=>fun x hx=>by simp[fE]at hx
 |x::r,h=>by
  rw[fE];exact QB (h x (om ..)) (akR r fun y hy=>h y (mX _ hy))
theorem akS:∀(l:List aa)(a:List Int),ones a->(∀x∈l,ones (fO x))->ones (jD a l)
 |[],a,ha,_=>ha
 |x::r,a,ha,h=>akS r _ (QA _ _ ha (h x (om ..))) fun y hy=>h y (mX _ hy)
theorem akT:∀(n:Nat)(t:aa),t.sz<n->ones (fO t)
 |0,t,h=>absurd h (hC _)
 |n+1,t,h=>by
  have hk:∀x∈t.Kids,ones (fO x):=fun x hx=>akT n x (by have:=aa.il hx;omega)
  have h0:ones []:=fun x hx=>by simp at hx
  have h1:ones [1]:=fun x hx=>by simp at hx;exact .inl hx
  rw[jE];by_cases q1:t.Kind=1
  ·rw[cz q1];exact h0
  rw[aw q1];by_cases q2:t.Kind=9
  ·rw[cz q2];intro x hx;simp at hx;exact .inr hx
  rw[aw q2];by_cases q3:t.Kind=11\/t.Kind=12
  ·rw[cz q3];intro x hx;simp at hx;exact .inl hx
  rw[aw q3];by_cases q4:t.Kind=15\/t.Kind=16
  ·rw[cz q4];exact akR _ hk
  rw[aw q4];by_cases q5:t.Kind=13
  ·rw[cz q5];refine QB h1 (b:=uE t.Kids) ?_;cases hks:t.Kids with
   |nil=>exact h0
   |cons x r=>exact hk x (by rw[hks];exact om ..)
  rw[aw q5];by_cases q6:t.Kind=14\/t.Kind=17
  ·rw[cz q6];exact QB h1 (akS _ _ h0 hk)
  rw[aw q6];exact h1
theorem akU(t:aa):ones (fO t):=akT _ t (sj _)
theorem akV:∀l:List aa,(∀x∈l,(fO x).length<=2*dT x)->(fE l).length<=2*dx l
 |[],_=>eL _
 |x::r,h=>by
  have:=akV r fun y hy=>h y (mX _ hy)
  have:=h x (om ..);simp only[fE,dx,bq];omega
theorem LY:∀(l:List aa)(a:List Int),(∀x∈l,(fO x).length<=2*dT x)->(jD a l).length<=a.length+2*dx l
 |[],a,_=>by simp[jD]
 |x::r,a,h=>by
  have h1:=LY r (iJ a (fO x)) fun y hy=>h y (mX _ hy)
  have:=h x (om ..);rw[LX]at h1;simp only[jD,dx];omega
theorem akW:∀(n:Nat)(t:aa),t.sz<n->(fO t).length<=2*dT t
 |0,t,h=>absurd h (hC _)
 |n+1,t,h=>by
  have hk:∀x∈t.Kids,(fO x).length<=2*dT x:=fun x hx=>akW n x (by have:=aa.il hx;omega)
  have a1:=akV _ hk;have a2:=LY _ [] hk;have a3:(uE t.Kids).length<=2*dx t.Kids:=by
   cases hks:t.Kids with
   |nil=>simp[uE]
   |cons x r=>
    have:=hk x (by rw[hks];exact om ..);simp only[uE,dx];omega
  rw[jE,rk]
  repeat' split
  all_goals simp only[aZ,bS]at*
  all_goals omega
theorem Ad(t:aa):(fO t).length<=2*dT t:=akW _ t (sj _)
theorem akX{l:List aa}{k:Nat}(h:k<l.length):fE (l.drop k)=fO l[k]++fE (l.drop (k+1)):=by rw[fa h];rfl
theorem akY{l:List aa}{k:Nat}(a:List Int)(h:k<l.length):jD a (l.drop k)=jD (iJ a (fO l[k])) (l.drop (k+1)):=by rw[fa h];rfl
theorem akZ{a b:List Int}{k:Nat}(ha:k<a.length)(hb:k<b.length):iJ (a.drop k) (b.drop k)=max a[k] b[k]::iJ (a.drop (k+1)) (b.drop (k+1)):=by rw[fa ha,fa hb];rfl
theorem aC3(a b:List Int)(ha:a.length<=4194304)(hb:b.length<=4194304):M.C0 a b=some (iJ a b):=by
 have key:∀f k (o:List Int),k<=max a.length b.length->max a.length b.length-k<f->o.length=k->M.pC a b f (k:Int) o=some (o++iJ (a.drop k) (b.drop k)):=by
  intro f
  induction f with
  |zero=>intro k o h1 h2;omega
  |succ f ih=>
   intro k o h1 h2 h3;rcases cG k (max a.length b.length)with hk|hk
   ·rw[M.pC];have hw:Go.IntKind.wrap .i64 ((k:Int)+1)=((k+1:Nat):Int):=bo hk (by omega);rcases cG k b.length with hkb|hkb
    ·have c1:decide (((b.length:Nat):Int)<=(k:Int))=false:=by simp only[cm];omega
     rcases cG k a.length with hka|hka
     ·have c2:decide (((a.length:Nat):Int)<=(k:Int))=false:=by simp only[cm];omega
      have hm:M.nr a[k] b[k]=some (max a[k] b[k]):=by
       unfold M.nr;rcases Int.lt_or_le b[k] a[k]with h|h
       ·rw[du h,cr];congr 1;omega
       ·rw[eD (by omega),ef];congr 1;omega
      simp only[c1,c2,getD_lt hka,getD_lt hkb,hm,bz,bn,bH,hka,hkb,bj,cg,cr,ef,az,aQ,aR,aT,hw,h3,aZ,bS];rw[show decide (k+(0+1)<=1073741824)=true by simp only[bw];omega,cr,ih (k+1) _ (by omega) (by omega) (by simp[h3]),akZ hka hkb];simp
     ·have c2:decide (((a.length:Nat):Int)<=(k:Int))=true:=by simp only[bw];omega
      simp only[c1,c2,getD_lt hkb,bz,bn,bH,hkb,bj,sf,cr,ef,az,aQ,hw,h3,aZ,bS];rw[show decide (k+(0+1)<=1073741824)=true by simp only[bw];omega,cr,ih (k+1) _ (by omega) (by omega) (by simp[h3]),jf hka,jf (by omega:a.length<=k+1),fa hkb];simp[iJ]
    ·have c1:decide (((b.length:Nat):Int)<=(k:Int))=true:=by simp only[bw];omega
     have hka:k<a.length:=by omega
     simp only[c1,getD_lt hka,bz,bn,bH,hka,bj,cg,cr,ef,az,aQ,hw,h3,aZ,bS];rw[show decide (k+(0+1)<=1073741824)=true by simp only[bw];omega,cr,ih (k+1) _ (by omega) (by omega) (by simp[h3]),jf hkb,jf (by omega:b.length<=k+1),fa hka,LW,LW];simp
   ·rw[M.pC];have n1:¬(k:Int)<((a.length:Nat):Int):=by omega
    have n2:¬(k:Int)<((b.length:Nat):Int):=by omega
    simp only[n1,n2,m9,uA,ef];rw[jf (by omega:a.length<=k),jf (by omega:b.length<=k)];simp[iJ]
 unfold M.C0;have e:=key af 0 [] (cZ _) (by have:=bU;omega) rfl;have e':M.pC a b af 0 []=_:=e;rw[e'];rfl
theorem aC4(a b:List Int)(ha:a.length<=4194304)(hb:b.length<=4194304)(oa:ones a)(ob:ones b):M.Dw a b=some (iJ a b):=by
 have key:∀f k (o:List Int),k<=max a.length b.length->max a.length b.length-k<f->o.length=k->M.sY a b ((max a.length b.length:Nat):Int) f (k:Int) o=some (o++iJ (a.drop k) (b.drop k)):=by
  intro f
  induction f with
  |zero=>intro k o h1 h2;omega
  |succ f ih=>
   intro k o h1 h2 h3;rcases cG k (max a.length b.length)with hk|hk
   ·rw[M.sY];have hw:Go.IntKind.wrap .i64 ((k:Int)+1)=((k+1:Nat):Int):=bo hk (by omega);have c0:decide ((k:Int)<((max a.length b.length:Nat):Int))=true:=by simp only[bw];omega
    rw[c0,cr];have hd:decide (o.length+([(1:Int)]:List Int).length<=1073741824)=true:=by simp only[bw,aZ,bS];omega
    rcases cG k b.length with hkb|hkb
    ·have vb:=ob b[k] (bA hkb);rcases cG k a.length with hka|hka
     ·have va:=oa a[k] (bA hka);simp only[getD_lt hka,getD_lt hkb,bz,bn,bH,hka,hkb,bj,cg,az,aQ,hw,aZ,bS];simp only[aZ,bS]at hd;rw[hd];have hm:(bif(a[k]==2)||(b[k]==2)then(2:Int)else 1)=max a[k] b[k]:=by
       rcases va with va|va<;>rcases vb with vb|vb<;>rw[va,vb]<;>decide
      rw[hm];have hg:((true|| !((a[k]==(2:Int))||(b[k]==2)))&&(true||((a[k]==(2:Int))||(b[k]==2))))=true:=by simp
      simp only[cg,bJ,cr];rw[ih (k+1) _ (by omega) (by omega) (by simp[h3]),akZ hka hkb];simp
     ·have na:¬(k<a.length):=by omega
      simp only[getD_lt hkb,bz,bn,bH,hkb,na,bj,m9,cg,az,aQ,Ai,nN,sf,rq,hw,aZ,bS];simp only[aZ,bS]at hd;rw[hd];have hm:(bif(b[k]==2)then(2:Int)else 1)=b[k]:=by
       rcases vb with vb|vb<;>rw[vb]<;>decide
      rw[hm];simp;rw[show((k:Nat):Int)+1=((k+1:Nat):Int)from rfl,ih (k+1) _ (by omega) (by omega) (by simp[h3]),jf hka,jf (by omega:a.length<=k+1),fa hkb];simp[iJ]
    ·have hka:k<a.length:=by omega
     have va:=oa a[k] (bA hka);have nb:¬(k<b.length):=by omega
     simp only[getD_lt hka,bz,bn,bH,hka,nb,bj,m9,cg,az,aQ,Ai,Bool.and_false,nN,kJ,sf,rq,hw,aZ,bS];simp only[aZ,bS]at hd;rw[hd];have hm:(bif(a[k]==2)then(2:Int)else 1)=a[k]:=by
      rcases va with va|va<;>rw[va]<;>decide
     rw[hm];simp;rw[show((k:Nat):Int)+1=((k+1:Nat):Int)from rfl,ih (k+1) _ (by omega) (by omega) (by simp[h3]),jf hkb,jf (by omega:b.length<=k+1),fa hka,LW,LW];simp
   ·rw[M.sY];have n1:decide ((k:Int)<((max a.length b.length:Nat):Int))=false:=by simp only[cm];omega
    rw[n1,ef,jf (by omega:a.length<=k),jf (by omega:b.length<=k)];simp[iJ]
 unfold M.Dw;have hmx:(bif decide (((a.length:Nat):Int)<((b.length:Nat):Int))then((b.length:Nat):Int)else((a.length:Nat):Int))=((max a.length b.length:Nat):Int):=by
  rcases cG a.length b.length with h|h
  ·rw[du (by omega),cr];omega
  ·rw[eD (by omega),ef];omega
 rw[hmx];have e:=key af 0 [] (cZ _) (by have:=bU;omega) rfl;have e':M.sY a b ((max a.length b.length:Nat):Int) af 0 []=_:=e;rw[e'];rfl
end M
namespace M
open Go.V (inB cJ af bU)
def dQ(t:aa):List aa:=if t.Kind=13 then[.mk 1 [] [] [],t.Kids.getD 0 aa.zero]else t.Kids
theorem FK{t:aa}(h:dF t=true)(hk:t.Kind=13):0<t.Kids.length:=by
 rw[qC]at h;have h1:mY t=true:=by rw[bD]at h;exact h.1
 unfold mY A3 at h1;rw[cz (.inr hk:t.Kind=12\/t.Kind=13)]at h1;simp only[bD,hU]at h1;omega
theorem LZ{t:aa}(h:dF t=true):∀x∈t.Kids,dF x=true:=by
 rw[qC,bD,u7,dr]at h;exact h.2
theorem ak0(t:aa)(h:dF t=true)(hk:t.Kind=13\/t.Kind=14\/t.Kind=17):M.CZ t=some (dQ t):=by
 unfold M.CZ dQ;by_cases h13:t.Kind=13
 ·have hp:=FK h h13;rw[cz h13];simp only[aa.aj,h13,Qy,hp,bj,aQ,cr,Int.toNat_zero,mA]
 ·rw[aw h13];rcases hk with hk|hk|hk
  ·exact absurd hk h13
  ·rw[hk];rfl
  ·rw[hk];rfl
theorem aC5(t:aa)(h:dF t=true)(hk:t.Kind=13\/t.Kind=14\/t.Kind=17):M.It t=some (dQ t):=ak0 t h hk
theorem ak1{t:aa}(h:dF t=true)(hk:t.Kind=13\/t.Kind=14\/t.Kind=17):∀x∈dQ t,dF x=true:=by
 unfold dQ;by_cases h13:t.Kind=13
 ·have hp:=FK h h13;rw[cz h13,getD_lt hp];intro x hx;rcases gz.1 hx with rfl|hx
  ·decide
  ·rcases gz.1 hx with rfl|hx
   ·exact LZ h _ (bA _)
   ·simp at hx
 ·rw[aw h13];exact LZ h
theorem ak2{t:aa}(h:dF t=true)(hk:t.Kind=13\/t.Kind=14\/t.Kind=17):∀x∈dQ t,x.sz<t.sz:=by
 unfold dQ;by_cases h13:t.Kind=13
 ·have hp:=FK h h13;rw[cz h13,getD_lt hp];have hg:(t.Kids[0]).sz<t.sz:=aa.il (bA _);intro x hx;rcases gz.1 hx with rfl|hx
  ·have:(aa.mk 1 [] [] []).sz=0:=by rw[aa.bI];rfl
   omega
  ·rcases gz.1 hx with rfl|hx
   ·exact hg
   ·simp at hx
 ·rw[aw h13];exact fun x hx=>aa.il hx
theorem ak3{t:aa}(h:dF t=true)(hk:t.Kind=13\/t.Kind=14\/t.Kind=17):fO t=1::jD [] (dQ t):=by
 unfold dQ;rw[jE];by_cases h13:t.Kind=13
 ·have hp:=FK h h13;rw[cz h13,getD_lt hp];have q1:¬t.Kind=1:=by omega
  have q2:¬t.Kind=9:=by omega
  have q3:¬(t.Kind=11\/t.Kind=12):=by omega
  have q4:¬(t.Kind=15\/t.Kind=16):=by omega
  rw[aw q1,aw q2,aw q3,aw q4,cz h13];have hu:fO (.mk 1 [] [] [])=[]:=by rw[jE];rfl
  have:∀(l:List aa)(hl:0<l.length),uE l=jD [] [.mk 1 [] [] [],l[0]]:=fun l hl=>by
   cases l with
   |nil=>simp at hl
   |cons x r=>simp only[uE,jD,hu,List.getElem_cons_zero,iJ]
  rw[this _ hp]
 ·rw[aw h13];have hk':t.Kind=14\/t.Kind=17:=by omega
  have q1:¬t.Kind=1:=by omega
  have q2:¬t.Kind=9:=by omega
  have q3:¬(t.Kind=11\/t.Kind=12):=by omega
  have q4:¬(t.Kind=15\/t.Kind=16):=by omega
  rw[aw q1,aw q2,aw q3,aw q4,aw h13,cz hk']
theorem ak4{t:aa}(h:dF t=true)(hk:t.Kind=13\/t.Kind=14\/t.Kind=17)(hN:t.sz<=1048576):dx (dQ t)<=1048580/\(dQ t).length<=1048576+2:=by
 have h1:=Fp (aa.sc hN);have h2:=aa.kd hN;unfold dQ;by_cases h13:t.Kind=13
 ·have hp:=FK h h13;rw[cz h13,getD_lt hp];have h3:=P5 t.Kids t.Kids[0] (bA _);have:dT (.mk 1 [] [] [])=1:=by rw[rk];rfl
  simp only[dx,this,aZ,bS];omega
 ·rw[aw h13];omega
theorem ak5(K:Int){P:Prop}(h1:K=1->P)(h9:K=9->P)(h11:K=11->P)(h12:K=12->P)(h15:K=15->P)(h16:K=16->P)
 (hc:(K=13\/K=14\/K=17)->P) (he:(K≠1/\K≠9/\K≠11/\K≠12/\K≠15/\K≠16/\K≠13/\K≠14/\K≠17)->P):P:=by
 by_cases q1:K=1
 ·exact h1 q1
 by_cases q2:K=9
 ·exact h9 q2
 by_cases q3:K=11
 ·exact h11 q3
 by_cases q4:K=12
 ·exact h12 q4
 by_cases q5:K=15
 ·exact h15 q5
 by_cases q6:K=16
 ·exact h16 q6
 by_cases q7:K=13\/K=14\/K=17
 ·exact hc q7
 ·exact he ⟨q1,q2,q3,q4,q5,q6,by omega,by omega,by omega⟩
theorem ak6(n:Nat)(rec:List aa->Option (List Int))(hr:∀ts,aK aa.sz ts<n->ts.length<=1048576->aK aa.sz ts<=1048576->(∀x∈ts,dF x=true)->rec ts=some (fE ts)):
 ∀(m:Nat)(t:aa),t.sz<m->t.sz<n->t.sz<=1048576->dF t=true->M.sN rec m t=some (fO t)
 |0,t,h,_,_,_=>absurd h (hC _)
 |m+1,t,h,hn,hN,hs=>by
  have hka:rec t.Kids=some (fE t.Kids):=hr _ (by rw[aa.bI]at hn;omega) (aa.kd hN) (aa.sc hN) (LZ hs)
  show M.HT rec (M.sN rec m) t=_
  unfold M.HT;refine ak5 t.Kind ?_ ?_ ?_ ?_ ?_ ?_ ?_ ?_
  ·intro hk;rw[jE];simp only[hk];rfl
  ·intro hk;rw[jE];simp only[hk];rfl
  ·intro hk;rw[jE];simp only[hk];rfl
  ·intro hk;rw[jE];simp only[hk];rfl
  ·intro hk;rw[jE];simp only[hk,hka];rfl
  ·intro hk;rw[jE];simp only[hk,hka];rfl
  ·intro hk;obtain⟨hsum,hlen⟩:=ak4 hs hk hN;have hcs:=ak1 hs hk;have hcz:=ak2 hs hk;have key:∀f k (a:List Int),k<=(dQ t).length->(dQ t).length-k<f->a.length+2*dx ((dQ t).drop k)<=2097160->M.sL (M.sN rec m) (dQ t) f (k:Int) a=some (jD a ((dQ t).drop k)):=by
    intro f
    induction f with
    |zero=>intro k a h1 h2;omega
    |succ f ih=>
     intro k a h1 h2 h3;rcases cG k (dQ t).length with hk'|hk'
     ·rw[M.sL];have hm:=bA hk';have hz:=hcz _ hm;have hfl:=Ad (dQ t)[k];rw[xt hk']at h3;have hj:=aC3 a (fO (dQ t)[k]) (by omega) (by omega);simp only[aa.aj,getD_lt hk',ak6 n rec hr m (dQ t)[k] (by omega) (by omega) (by omega) (hcs _ hm),bz,bn,bH,hk',bj,cr,az,aQ,bo hk' (by omega:(dQ t).length<2^62),aR,aT,hj];rw[ih (k+1) _ (by omega) (by omega) (by rw[LX];omega),akY a hk']
     ·have:k=(dQ t).length:=by omega
      subst this;rw[M.sL];simp[eB,jD]
   have e:=key af 0 [] (cZ _) (by have:=bU;omega) (by simp only[gP,bS];omega);have e':M.sL (M.sN rec m) (dQ t) af 0 []=_:=e;rw[gP]at e';have hjl:=LY (dQ t) [] (fun x _=>Ad x);have hd:decide (([(1:Int)]:List Int).length+(jD [] (dQ t)).length<=1073741824)=true:=by simp only[bw,aZ,bS]at*;omega
   rw[ak3 hs hk];have hce:=ak0 t hs hk;simp only[aa.aj,hce,aR,e',hd,aT,bJ];rcases hk with hk|hk|hk<;>rw[hk]<;>rfl
  ·rintro ⟨q1,q2,q3,q4,q5,q6,q7,q8,q9⟩
   rw[jE,aw q1,aw q2,aw (by omega),aw (by omega),aw q7,aw (by omega)];have b1:(t.Kind==1)=false:=by simpa using q1
   have b2:(t.Kind==9)=false:=by simpa using q2
   have b3:(t.Kind==11)=false:=by simpa using q3
   have b4:(t.Kind==12)=false:=by simpa using q4
   have b5:(t.Kind==15)=false:=by simpa using q5
   have b6:(t.Kind==16)=false:=by simpa using q6
   have b7:(t.Kind==13)=false:=by simpa using q7
   have b8:(t.Kind==14)=false:=by simpa using q8
   have b9:(t.Kind==17)=false:=by simpa using q9
   simp only[b1,b2,b3,b4,b5,b6,b7,b8,b9,ef]
theorem ak7:∀(n:Nat)(ts:List aa),aK aa.sz ts<n->ts.length<=1048576->aK aa.sz ts<=1048576->(∀x∈ts,dF x=true)->M.qO n ts=some (fE ts)
 |0,ts,h,_,_,_=>absurd h (hC _)
 |n+1,ts,h,hl,hN,hs=>by
  have hsum:=Fp hN;have key:∀f k (a:List Int),k<=ts.length->ts.length-k<f->a.length+2*dx (ts.drop k)<=2097160->M.sO (M.qO n) ts f (k:Int) a=some (a++fE (ts.drop k)):=by
   intro f
   induction f with
   |zero=>intro k a h1 h2;omega
   |succ f ih=>
    intro k a h1 h2 h3;rcases cG k ts.length with hk|hk
    ·rw[M.sO];have hm:=bA hk;have hz:=zP aa.sz _ _ hm;have hfl:=Ad ts[k];rw[xt hk]at h3;have hf:M.HU (M.qO n) ts[k]=some (fO ts[k]):=ak6 n _ (fun ts h1 h2 h3 h4=>ak7 n ts h1 h2 h3 h4) af _ (iQ (by omega)) (by omega) (by omega) (hs _ hm);have hd:decide (a.length+(fO ts[k]).length<=1073741824)=true:=by simp only[bw];omega
     simp only[aa.aj,getD_lt hk,hf,bz,bn,bH,hk,bj,cr,az,aQ,bo hk (by omega:ts.length<2^62),aR,aT,hd];rw[ih (k+1) _ (by omega) (by omega) (by rw[bq];omega),akX hk,ib]
    ·have:k=ts.length:=by omega
     subst this;rw[M.sO];simp[eB,fE]
  show M.HW (M.qO n) ts=_
  unfold M.HW;have e:=key af 0 [] (cZ _) (by have:=bU;omega) (by simp only[gP,bS];omega);have e':M.sO (M.qO n) ts af 0 []=_:=e;rw[e'];rfl
theorem ak8(n:Nat)(rec:List aa->Option (List Int))(hr:∀ts,aK aa.sz ts<n->ts.length<=1048576->aK aa.sz ts<=1048576->(∀x∈ts,dF x=true)->rec ts=some (fE ts)):
 ∀(m:Nat)(t:aa),t.sz<m->t.sz<n->t.sz<=1048576->dF t=true->M.s6 rec m t=some (fO t)
 |0,t,h,_,_,_=>absurd h (hC _)
 |m+1,t,h,hn,hN,hs=>by
  have hka:rec t.Kids=some (fE t.Kids):=hr _ (by rw[aa.bI]at hn;omega) (aa.kd hN) (aa.sc hN) (LZ hs)
  show M.Iy rec (M.s6 rec m) t=_
  unfold M.Iy;refine ak5 t.Kind ?_ ?_ ?_ ?_ ?_ ?_ ?_ ?_
  ·intro hk;rw[jE];simp only[hk];rfl
  ·intro hk;rw[jE];simp only[hk];rfl
  ·intro hk;rw[jE];simp only[hk];rfl
  ·intro hk;rw[jE];simp only[hk];rfl
  ·intro hk;rw[jE];simp only[hk,hka];rfl
  ·intro hk;rw[jE];simp only[hk,hka];rfl
  ·intro hk;obtain⟨hsum,hlen⟩:=ak4 hs hk hN;have hcs:=ak1 hs hk;have hcz:=ak2 hs hk;have key:∀f k (a:List Int),k<=(dQ t).length->(dQ t).length-k<f->a.length+2*dx ((dQ t).drop k)<=2097160->ones a->M.sZ (M.s6 rec m) (dQ t) ((dQ t).length:Int) f (k:Int) a=some (jD a ((dQ t).drop k)):=by
    intro f
    induction f with
    |zero=>intro k a h1 h2;omega
    |succ f ih=>
     intro k a h1 h2 h3 h4;rcases cG k (dQ t).length with hk'|hk'
     ·rw[M.sZ];have hm:=bA hk';have hz:=hcz _ hm;have hfl:=Ad (dQ t)[k];rw[xt hk']at h3;have hj:=aC4 a (fO (dQ t)[k]) (by omega) (by omega) h4 (akU _);simp only[aa.aj,getD_lt hk',ak8 n rec hr m (dQ t)[k] (by omega) (by omega) (by omega) (hcs _ hm),bz,bn,bH,hk',bj,cr,az,aQ,bo hk' (by omega:(dQ t).length<2^62),aR,aT,hj];rw[ih (k+1) _ (by omega) (by omega) (by rw[LX];omega) (QA _ _ h4 (akU _)),akY a hk']
     ·have:k=(dQ t).length:=by omega
      subst this;rw[M.sZ];simp[eB,jD]
   have e:=key af 0 [] (cZ _) (by have:=bU;omega) (by simp only[gP,bS];omega) (fun x hx=>by simp at hx);have e':M.sZ (M.s6 rec m) (dQ t) ((dQ t).length:Int) af 0 []=_:=e;rw[gP]at e';have hjl:=LY (dQ t) [] (fun x _=>Ad x);have hd:decide (([(1:Int)]:List Int).length+(jD [] (dQ t)).length<=1073741824)=true:=by simp only[bw,aZ,bS]at*;omega
   rw[ak3 hs hk];have hce:=aC5 t hs hk;simp only[aa.aj,hce,aR,e',hd,aT,bJ];rcases hk with hk|hk|hk<;>rw[hk]<;>rfl
  ·rintro ⟨q1,q2,q3,q4,q5,q6,q7,q8,q9⟩
   rw[jE,aw q1,aw q2,aw (by omega),aw (by omega),aw q7,aw (by omega)];have b1:(t.Kind==1)=false:=by simpa using q1
   have b2:(t.Kind==9)=false:=by simpa using q2
   have b3:(t.Kind==11)=false:=by simpa using q3
   have b4:(t.Kind==12)=false:=by simpa using q4
   have b5:(t.Kind==15)=false:=by simpa using q5
   have b6:(t.Kind==16)=false:=by simpa using q6
   have b7:(t.Kind==13)=false:=by simpa using q7
   have b8:(t.Kind==14)=false:=by simpa using q8
   have b9:(t.Kind==17)=false:=by simpa using q9
   simp only[b1,b2,b3,b4,b5,b6,b7,b8,b9,ef]
theorem ak9:∀(n:Nat)(ts:List aa),aK aa.sz ts<n->ts.length<=1048576->aK aa.sz ts<=1048576->(∀x∈ts,dF x=true)->M.qP n ts=some (fE ts)
 |0,ts,h,_,_,_=>absurd h (hC _)
 |n+1,ts,h,hl,hN,hs=>by
  have hsum:=Fp hN;have key:∀f k (a:List Int),k<=ts.length->ts.length-k<f->a.length+2*dx (ts.drop k)<=2097160->M.s7 (M.qP n) ts (ts.length:Int) f (k:Int) a=some (a++fE (ts.drop k)):=by
   intro f
   induction f with
   |zero=>intro k a h1 h2;omega
   |succ f ih=>
    intro k a h1 h2 h3;rcases cG k ts.length with hk|hk
    ·rw[M.s7];have hm:=bA hk;have hz:=zP aa.sz _ _ hm;have hfl:=Ad ts[k];rw[xt hk]at h3;have hf:M.Iz (M.qP n) ts[k]=some (fO ts[k]):=ak8 n _ (fun ts h1 h2 h3 h4=>ak9 n ts h1 h2 h3 h4) af _ (iQ (by omega)) (by omega) (by omega) (hs _ hm);have hd:decide (a.length+(fO ts[k]).length<=1073741824)=true:=by simp only[bw];omega
     simp only[aa.aj,getD_lt hk,hf,bz,bn,bH,hk,bj,cr,az,aQ,bo hk (by omega:ts.length<2^62),aR,aT,hd];rw[ih (k+1) _ (by omega) (by omega) (by rw[bq];omega),akX hk,ib]
    ·have:k=ts.length:=by omega
     subst this;rw[M.s7];simp[eB,fE]
  show M.IB (M.qP n) ts=_
  unfold M.IB;have e:=key af 0 [] (cZ _) (by have:=bU;omega) (by simp only[gP,bS];omega);have e':M.s7 (M.qP n) ts (ts.length:Int) af 0 []=_:=e;rw[e'];rfl
end M
namespace M
open Go.V (inB cJ af bU)
theorem ar.uk{a:ar}{N:Nat}(h:a.sz<=N):a.aF.sz<=N:=by rw[ar.bI]at h;omega
theorem ar.qE{a:ar}{N:Nat}(h:a.sz<=N):a.Name.length<=N:=by rw[ar.bI]at h;omega
def lp(p:ar):Bool:= !((!dj p.Name|| !fZ p.aF)||gk p.aF)
def ip(f:aJ):Bool:=((decide (f.Params.length<=6)&&(f.Params.all lp&&nodupB (f.Params.map ar.Name)))&&fZ f.Result)&& !ia (fun k=>k==21) f.Result
theorem aC6(n:Nat):decide ((6:Int)<((n:Nat):Int))= !decide (n<=6):=by
 rw[gv];simp only[fj,bw,cm];omega
theorem aAz(f:aJ)(h:f.sz<=1048576):M.EZ f=some (ip f):=by
 rw[aJ.bI]at h;have hl:f.Params.length<=1048576:=cq (bW ar.sz f.Params) (by omega);have key:∀g k,k<=f.Params.length->f.Params.length-k<g->M.uh f.Params f.Params (f.Params.length:Int) g (k:Int) ((f.Params.take k).map ar.Name)=some (if(f.Params.drop k).all lp then .inr (f.Params,f.Params.map ar.Name)else .inl false):=by
  intro g
  induction g with
  |zero=>intro k h1 h2;omega
  |succ g ih=>
   intro k h1 h2;rcases cG k f.Params.length with hk|hk
   ·rw[M.uh];have hm:=aC ar.sz _ _ (bA hk);have hnm:=sw f.Params[k].Name (ar.qE (N:=1048576) (by omega));have hty:=akQ f.Params[k].aF (ar.uk (N:=1048576) (by omega));have hd:decide ((((f.Params.take k).map ar.Name).length+([f.Params[k].Name]:List (List UInt8)).length)<=1073741824)=true:=by
     simp only[bw,dC,gZ,aZ,bS];omega
    have ht:(f.Params.take k).map ar.Name++[f.Params[k].Name]=(f.Params.take (k+1)).map ar.Name:=by
     rw[l6,xx,bG hk];rfl
    have hu:(f.Params[k].aF.Kind==1)=gk f.Params[k].aF:=rfl;simp only[aa.aj,getD_lt hk,hnm,hty,bz,bn,bH,hk,bj,cr,az,aQ,bo hk (by omega:f.Params.length<2^62),aR,aT,cg,hd,ht,hu];rw[ih (k+1) (by omega) (by omega),fa hk,xC];rw[show lp f.Params[k]= !((!dj f.Params[k].Name|| !fZ f.Params[k].aF)||gk f.Params[k].aF)from rfl];cases (!dj f.Params[k].Name|| !fZ f.Params[k].aF)||gk f.Params[k].aF<;>simp
   ·have:k=f.Params.length:=by omega
    subst this;rw[M.uh];simp
 have e:=key af 0 (cZ _) (by have:=bU;omega);have e':M.uh f.Params f.Params (f.Params.length:Int) af 0 []=_:=e;have hd:=Hh (f.Params.map ar.Name) (by rw[dC];exact hl);have e6:decide (((f.Params.length:Nat):Int)<=6)=decide (f.Params.length<=6):=by simp only[ka];omega
 have hp:M.EY f.Params=some (decide (f.Params.length<=6)&&(f.Params.all lp&&nodupB (f.Params.map ar.Name))):=by
  unfold M.EY;rw[e',gP];cases f.Params.all lp
  ·simp
  ·simp only[fJ,hd,e6,aT,aR,cg,az,cr]
 have hr:=akQ f.Result (by omega);have e21:ia (fun k=>[(21:Int)].any fun x=>k==x)=ia (fun k=>k==21):=zO fun k=>by simp
 have hh:M.kN f.Result [21]=some (ia (fun k=>k==21) f.Result):=by
  rw[show M.kN=M.mJ af from rfl,LJ [21] (by simp) af _ (iQ (by omega)) (by omega),e21]
 unfold M.EZ;simp only[aa.aj,hp,hr,hh,aT,aR,cg,az,cr];rfl
theorem aAx(f:aJ)(h:f.sz<=1048576):M.EP f=some (ip f):=by
 rw[aJ.bI]at h;have hl:f.Params.length<=1048576:=cq (bW ar.sz f.Params) (by omega);have hin:∀i (hi:i<f.Params.length),M.pY (i:Int) af 0 f f.Params[i]=some (if(List.range i).all (fun k=> !((f.Params.getD k ar.zero).Name==f.Params[i].Name))then .inr ((i:Int),f)else .inl false):=fun i hi=>
  l7 (p:=fun k=> !((f.Params.getD k ar.zero).Name==f.Params[i].Name)) (F:=fun g k=>M.pY (i:Int) g k f f.Params[i]) (e:=((i:Int),f)) (b:=false) i (by omega) (fun g k hk=>by
   show M.pY (i:Int) (g+1) (k:Int) f f.Params[i]=_
   rw[M.pY];have hk':k<f.Params.length:=by omega
   simp only[aJ.aj,ar.aj,getD_lt hk',bz,bn,bH,hk,hk',bj,cr,aQ,bo hk (by omega:i<2^62)];cases (f.Params[k].Name==f.Params[i].Name)<;>rfl) (fun g=>by
   show M.pY (i:Int) (g+1) (i:Int) f f.Params[i]=_
   rw[M.pY];simp[aJ.aj])
 have hout:M.pZ af 0 f=some (if(List.range f.Params.length).all (fun i=>lp (f.Params.getD i ar.zero)&&(List.range i).all (fun k=> !((f.Params.getD k ar.zero).Name==(f.Params.getD i ar.zero).Name)))then .inr ()else .inl false):=
  l7 (p:=fun i=>lp (f.Params.getD i ar.zero)&&(List.range i).all (fun k=> !((f.Params.getD k ar.zero).Name==(f.Params.getD i ar.zero).Name))) (F:=fun g k=>M.pZ g k f) (e:=()) (b:=false) f.Params.length (by omega) (fun g k hk=>by
   show M.pZ (g+1) (k:Int) f=_
   rw[M.pZ];have hm:=aC ar.sz _ _ (bA hk);have hnm:=su f.Params[k].Name (ar.qE (N:=1048576) (by omega));have hty:=Qz f.Params[k].aF (ar.uk (N:=1048576) (by omega));have hu:(f.Params[k].aF.Kind==1)=gk f.Params[k].aF:=rfl;simp only[aa.aj,aJ.aj,ar.aj,getD_lt hk,hnm,hty,hin k hk,bz,bn,bH,hk,bj,cr,az,aQ,aR,aT,cg,hu];rw[show lp f.Params[k]= !((!dj f.Params[k].Name|| !fZ f.Params[k].aF)||gk f.Params[k].aF)from rfl];cases (!dj f.Params[k].Name|| !fZ f.Params[k].aF)||gk f.Params[k].aF
   ·cases (List.range k).all (fun k_1=> !((f.Params.getD k_1 ar.zero).Name==f.Params[k].Name))
    ·simp
    ·simp[bo hk (by omega:f.Params.length<2^62)]
   ·simp) (fun g=>by
   show M.pZ (g+1) (f.Params.length:Int) f=_
   rw[M.pZ];simp)
 have hsp:(List.range f.Params.length).all (fun i=>lp (f.Params.getD i ar.zero)&&(List.range i).all (fun k=> !((f.Params.getD k ar.zero).Name==(f.Params.getD i ar.zero).Name)))=(f.Params.all lp&&nodupB (f.Params.map ar.Name)):=by
  rw[Ft,Fv,<-nodup_range (f.Params.map ar.Name),dC];have hg:∀k,(f.Params.map ar.Name).getD k []=(f.Params.getD k ar.zero).Name:=fun k=>by
   rw[aH,aH,fL];cases f.Params[k]?<;>rfl
  simp only[hg]
 have hr:=Qz f.Result (by omega);have hh:M.ki f.Result 21 21=some (ia (fun k=>k==21) f.Result):=by
  rw[show M.ki=M.mc af from rfl,LI 21 21 af _ (iQ (by omega)) (by omega)];rw[zO (fun k=>b21 k)]
 unfold M.EP;rw[hsp]at hout;simp only[aa.aj,aJ.aj,hr,hh,hout,aC6,aT,aR,cg,az,aQ,cr];unfold ip;cases decide (f.Params.length<=6)<;>cases fZ f.Result<;>cases ia (fun k=>k==21) f.Result<;>cases (f.Params.all lp&&nodupB (f.Params.map ar.Name))<;>simp
end M
namespace M
open Go.V (inB cJ af bU)
theorem ala:∀(m:Nat)(t:aa),t.sz<m->t.sz<=1048576->M.sG m t=some t
 |0,t,h,_=>absurd h (hC _)
 |m+1,t,h,hN=>by
  have hl:=aa.kd hN;have hlb:=aa.aCT hN;have key:∀f k,k<=t.Kids.length->t.Kids.length-k<f->M.sF (M.sG m) (0:Int) [] t.Kind t.Name [] [] ([]++t.cn) f (k:Int) t (t.Kids.take k)=some ((0:Int),[],t.Kind,t.Name,[],[],t.cn,t.Kids):=by
   intro f
   induction f with
   |zero=>intro k h1 h2;omega
   |succ f ih=>
    intro k h1 h2;rcases cG k t.Kids.length with hk|hk
    ·rw[M.sF];have hx:=aa.il (bA hk);have hd:decide (((t.Kids.take k).length+([t.Kids[k]]:List aa).length)<=1073741824)=true:=by
      simp only[bw,gZ,aZ,bS];omega
     have ht:t.Kids.take k++[t.Kids[k]]=t.Kids.take (k+1):=by
      rw[l6,bG hk];rfl
     simp only[aa.aj,getD_lt hk,ala m t.Kids[k] (by omega) (by omega),bz,bn,bH,hk,bj,cr,az,aQ,bo hk (by omega:t.Kids.length<2^62),aR,aT,hd,ht];exact ih (k+1) (by omega) (by omega)
    ·have:k=t.Kids.length:=by omega
     subst this;rw[M.sF];simp
  show M.HE (M.sG m) t=_
  unfold M.HE;have e:=key af 0 (cZ _) (by have:=bU;omega);have e':M.sF (M.sG m) (0:Int) [] t.Kind t.Name [] [] ([]++t.cn) af 0 t []=_:=e;have hd:decide (0+t.cn.length<=1073741824)=true:=by simp only[bw];omega
  simp only[aa.aj,e',hd,bJ,cr];cases t;rfl
def gp(f:aJ):List aa:=f.Params.map ar.aF
theorem alb{f:aJ}:aK aa.sz (gp f)<=aK ar.sz f.Params:=by
 unfold gp
 induction f.Params with
 |nil=>exact eL _
 |cons x r ih=>have:=ar.bI x;simp only[fB,aK];omega
theorem alc(l:List ar)(k:Nat)(hk:k<l.length):(l.take k).map ar.aF++[l[k].aF]=(l.take (k+1)).map ar.aF:=by
 rw[l6,xx,bG hk];rfl
theorem aC8(f:aJ)(h:f.sz<=1048576):M.CX f=some (gp f):=by
 rw[aJ.bI]at h;have hl:f.Params.length<=1048576:=cq (bW ar.sz f.Params) (by omega);have key:∀g k,k<=f.Params.length->f.Params.length-k<g->M.sH g (k:Int) f ((f.Params.take k).map ar.aF)=some (gp f):=by
  intro g
  induction g with
  |zero=>intro k h1 h2;omega
  |succ g ih=>
   intro k h1 h2;rcases cG k f.Params.length with hk|hk
   ·rw[M.sH];have hm:=aC ar.sz _ _ (bA hk);have ho:M.HG f.Params[k].aF=some f.Params[k].aF:=ala af _ (iQ (ar.uk (N:=1048576) (by omega))) (ar.uk (N:=1048576) (by omega));have hd:decide ((((f.Params.take k).map ar.aF).length+([f.Params[k].aF]:List aa).length)<=1073741824)=true:=by
     simp only[bw,dC,gZ,aZ,bS];omega
    simp only[aa.aj,aJ.aj,getD_lt hk,ho,bz,bn,bH,hk,bj,cr,az,aQ,bo hk (by omega:f.Params.length<2^62),aR,aT,hd,alc _ k hk];exact ih (k+1) (by omega) (by omega)
   ·have:k=f.Params.length:=by omega
    subst this;rw[M.sH];simp[gp]
 have e:=key af 0 (cZ _) (by have:=bU;omega);have e':M.sH af 0 f []=_:=e;unfold M.CX;simp only[aJ.aj,e']
theorem aC9(f:aJ)(h:f.sz<=1048576):M.qQ f=some (gp f):=by
 rw[aJ.bI]at h;have hl:f.Params.length<=1048576:=cq (bW ar.sz f.Params) (by omega);have key:∀g k,k<=f.Params.length->f.Params.length-k<g->M.nE f.Params (f.Params.length:Int) g (k:Int) ((f.Params.take k).map ar.aF)=some (gp f):=by
  intro g
  induction g with
  |zero=>intro k h1 h2;omega
  |succ g ih=>
   intro k h1 h2;rcases cG k f.Params.length with hk|hk
   ·rw[M.nE];have hd:decide ((((f.Params.take k).map ar.aF).length+([f.Params[k].aF]:List aa).length)<=1073741824)=true:=by
     simp only[bw,dC,gZ,aZ,bS];omega
    simp only[aa.aj,getD_lt hk,bz,bn,bH,hk,bj,cr,az,aQ,bo hk (by omega:f.Params.length<2^62),hd,alc _ k hk];exact ih (k+1) (by omega) (by omega)
   ·have:k=f.Params.length:=by omega
    subst this;rw[M.nE];simp[gp]
 have e:=key af 0 (cZ _) (by have:=bU;omega);have e':M.nE f.Params (f.Params.length:Int) af 0 []=_:=e;unfold M.qQ;simp only[e']
theorem aDa(ts:List aa)(h:aK aa.sz ts<=1048576)(hl:ts.length<=6)(ho:∀x∈ts,fZ x=true):M.yR ts=some true:=by
 have e:=ng (p:=fZ) (F:=M.vT ts) (e:=ts) (b:=false) ts (by omega) (fun f k hk=>by
  rw[M.vT];have hm:=aC aa.sz _ _ (bA hk);have hZ:decide ((k:Int)<=24)=true:=by simp only[bw];omega
  simp only[aa.aj,getD_lt hk,aCZ ts[k] (by omega),bz,bn,bH,hk,hZ,bj,cr,az,aQ,bJ,bo hk (by omega:ts.length<2^62),aR,aT];cases fZ ts[k]<;>rfl) (fun f=>by rw[M.vT];simp)
 have hall:ts.all fZ=true:=dr.2 ho;unfold M.yR;rw[e,hall,cz rfl];have:decide (((ts.length:Nat):Int)<=24)=true:=by simp only[bw];omega
 simp only[this]
theorem ald{f:aJ}(h:ip f=true):(gp f).length<=6/\∀x∈gp f,fZ x=true:=by
 unfold ip at h;simp only[bD,bw]at h;obtain⟨⟨⟨h6,hall,_⟩,_⟩,_⟩:=h;refine⟨by unfold gp;rw[dC];exact h6,?_⟩;intro x hx;obtain⟨p,hp,rfl⟩:=qh.1 hx;have:=dr.1 hall p hp;unfold lp at this;simp only[fj,lj,Bool.not_eq_false']at this;exact this.1.2
theorem ale{t:aa}(h:fZ t=true):dF t=true:=by
 unfold fZ at h;rw[bD]at h;exact h.2
def ir(f:aJ):Int×Bool×Bool:=
 if ip f=true then((if decide ((8:Int)<((fE (gp f)).length:Int))=true then 1 else((fE (gp f)).length:Int)), !(gk f.Result),true)else(0,false,false)
theorem UZ{f:aJ}(h:f.sz<=1048576)(hok:ip f=true):M.px f=some ((ir f).1,(ir f).2.1):=by
 have hsz:aK aa.sz (gp f)<=1048576:=by have:=alb (f:=f);rw[aJ.bI]at h;omega
 obtain⟨h6,ho⟩:=ald hok;have hfl:M.ze (gp f)=some (fE (gp f)):=ak9 af _ (iQ hsz) (by omega) hsz fun x hx=>ale (ho x hx)
 have hc:M.px f=some ((if decide ((8:Int)<((fE (gp f)).length:Int))=true then 1 else((fE (gp f)).length:Int)), !(gk f.Result)):=by
  unfold M.px M.ID M.IC;simp only[aJ.aj,aC9 f h,aR,hfl,aT,bJ,cr];generalize decide ((8:Int)<((fE (gp f)).length:Int))=q;cases q<;>simp[gk]
 rw[hc];unfold ir;rw[cz hok]
theorem UT{f:aJ}(h:f.sz<=1048576)(hok:ip f=true):M.sP f=some ((ir f).1,(ir f).2.1):=by
 have hsz:aK aa.sz (gp f)<=1048576:=by have:=alb (f:=f);rw[aJ.bI]at h;omega
 obtain⟨h6,ho⟩:=ald hok;have hfl:M.C2 (gp f)=some (fE (gp f)):=ak7 af _ (iQ hsz) (by omega) hsz fun x hx=>ale (ho x hx)
 have h9:=aDa (gp f) hsz h6 ho;have hc:M.sP f=some ((if decide ((8:Int)<((fE (gp f)).length:Int))=true then 1 else((fE (gp f)).length:Int)), !(gk f.Result)):=by
  unfold M.sP M.HZ M.HY;simp only[aJ.aj,aC8 f h,aR,hfl,h9,aT,bJ,cr,cg,az,eH,ef,lx,sf];generalize decide ((8:Int)<((fE (gp f)).length:Int))=q;cases q<;>simp[gk]
 rw[hc];unfold ir;rw[cz hok]
end M
