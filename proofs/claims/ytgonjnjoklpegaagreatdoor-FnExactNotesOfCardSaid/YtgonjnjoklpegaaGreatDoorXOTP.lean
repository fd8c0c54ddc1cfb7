/-
  NAMES AND TYPES: what is right, in plain Lean.
-/
import Derived.Test.YtgonjnjoklpegaaGreatDoorXOpl4
import Derived.Test.YtgonjnjoklpegaaGreatDoorXONH
set_option linter.unusedVariables false
namespace M
open Go.V (inB cu al cE)
def me(c:UInt8):Bool:=decide ((97:Int)<=((c.toNat:Nat):Int))&&decide (((c.toNat:Nat):Int)<=122)
def DX(c:UInt8):Bool:=decide ((48:Int)<=((c.toNat:Nat):Int))&&decide (((c.toNat:Nat):Int)<=57)
def nV(c:UInt8):Bool:=((c.toNat:Nat):Int)==45
def mf(s:List UInt8)(k:Nat):Bool:=me (s.getD k 0)||(decide (0<k)&&((DX (s.getD k 0)||nV (s.getD k 0))&& !(nV (s.getD k 0)&&nV (s.getD (k-1) 0))))
def eX(s:List UInt8):Bool:=(List.range s.length).all (mf s)&&((decide (1<=s.length)&&decide (s.length<=12))&& !nV (s.getD (s.length-1) 0))
def mg(l:List (List UInt8)):Bool:=(decide (1<=l.length)&&decide (l.length<=16))&&(nodupB l&&l.all eX)
mutual
def dX:aa->Nat
 |.mk _ _ _ kids=>1+fh kids
def fh:List aa->Nat
 |[]=>0
 |x::r=>dX x+fh r
end
mutual
def eY:aa->Nat
 |.mk _ _ _ kids=>1+hZ kids
def hZ:List aa->Nat
 |[]=>0
 |x::r=>max (eY x) (hZ r)
end
mutual
def fJ(p:Int->Bool):aa->Bool
 |.mk k _ _ kids=>p k||iG p kids
def iG(p:Int->Bool):List aa->Bool
 |[]=>false
 |x::r=>fJ p x||iG p r
end
theorem vS(t:aa):dX t=1+fh t.Kids:=by cases t;rfl
theorem DY(t:aa):eY t=1+hZ t.Kids:=by cases t;rfl
theorem O0(p:Int->Bool)(t:aa):fJ p t=(p t.Kind||iG p t.Kids):=by cases t;rfl
theorem DZ(p:Int->Bool):∀l,iG p l=l.any (fJ p)
 |[]=>rfl
 |x::r=>by rw[iG,List.any_cons,DZ p r]
def fi(t:aa):Bool:=t.Kind==1
def D1(t:aa):Bool:=(t.Kind==20)||(t.Kind==21)
def D2(t:aa):Bool:=decide ((16:Int)<=t.Kind)&&decide (t.Kind<=19)
def yZ(t:aa):Bool:=
 if t.Kind=12\/t.Kind=13 then(t.Kids.length==1)&& !t.Kids.any fi
 else if t.Kind=14 then t.Kids.length==2
 else if t.Kind=15 then(decide (1<=t.Kids.length)&&decide (t.Kids.length<=6))&& !t.Kids.any fi
 else if t.Kind=16 then(t.Kids.length==t.bK.length)&& !t.Kids.any fi
 else if t.Kind=17 then t.Kids.length==t.bK.length
 else if t.Kind=22\/t.Kind=23 then(t.Kids.length==1)&& !iG (fun k=>k==21) t.Kids
 else(decide ((1:Int)<=t.Kind)&&decide (t.Kind<=23))&&(t.Kids.length==0)
def nW(t:aa):Bool:=
 ((if D2 t then mg t.bK else t.bK.length==0)&&(if D1 t then eX t.Name else t.Name==[]))&&yZ t
mutual
def ei:aa->Bool
 |.mk k n l kids=>nW (.mk k n l kids)&&qo kids
def qo:List aa->Bool
 |[]=>true
 |x::r=>ei x&&qo r
end
theorem vT(t:aa):ei t=(nW t&&qo t.Kids):=by cases t;rfl
theorem vU:∀l,qo l=l.all ei
 |[]=>rfl
 |x::r=>by rw[qo,jc,vU r]
def jz(t:aa):Bool:=(decide (eY t<=4)&&decide (dX t<=24))&&ei t
theorem O1:∀l:List aa,l.length<=fh l
 |[]=>bu _
 |x::r=>by have:=O1 r;simp only[fh,cV,vS x];omega
theorem O2{l:List aa}{k:Nat}(h:k<l.length):fh (l.drop k)=dX l[k]+fh (l.drop (k+1)):=by rw[jP h];rfl
theorem O3{l:List aa}{k:Nat}(h:k<l.length):hZ (l.drop k)=max (eY l[k]) (hZ (l.drop (k+1))):=by rw[jP h];rfl
theorem O4(t:aa):1<=eY t:=by rw[DY];omega
end M
set_option linter.unusedSimpArgs false
namespace M
open Go.V (inB cu al cE)
theorem jZ{n:Nat}(h:n<=1048576):n<al:=by have:=cE;omega
theorem y8{k n:Nat}(h0:0<k)(h:k<=n)(hn:n<2^62):Go.IntKind.wrap .i64 ((k:Int)-1)=((k-1:Nat):Int):=by
 rw[wrap_i64 (by omega) (by omega)];omega
theorem O5(s:List UInt8)(hs:s.length<=1048576):M.nz s=some (eX s):=by
 unfold M.nz;rw[kX (p:=mf s) (F:=M.ny s (s.length:Int)) (e:=s) (b:=false) s.length (by omega) (fun f k hk=>by
  rw[M.ny];simp only[bY,cg,cX,hk,cz,aT,bZ,bU,bX,bM hk (dj hs),mf,me,DX,nV,fK];generalize decide ((97:Int)<=(((s.getD k 0).toNat:Nat):Int))=a1;generalize decide ((((s.getD k 0).toNat:Nat):Int)<=122)=a2;generalize decide ((48:Int)<=(((s.getD k 0).toNat:Nat):Int))=a3;generalize decide ((((s.getD k 0).toNat:Nat):Int)<=57)=a4;generalize ((((s.getD k 0).toNat:Nat):Int)==45)=a5;rcases iz k with h0|h0
  ·subst h0;cases a1<;>cases a2<;>cases a3<;>cases a4<;>cases a5<;>simp
  ·have e0:((k:Int)==0)=false:=by rw[gZ];omega
   have hk1:k-1<s.length:=by omega
   simp only[e0,y8 h0 (Nat.le_of_lt hk) (dj hs),bY,cg,hk1,h0,cz];generalize ((((s.getD (k-1) 0).toNat:Nat):Int)==45)=a6;cases a1<;>cases a2<;>cases a3<;>cases a4<;>cases a5<;>cases a6<;>simp) (fun f=>by rw[M.ny];simp)]
 unfold eX;cases hall:(List.range s.length).all (mf s)
 ·simp
 ·simp only[dC,fK,bU];rcases iz s.length with h0|h0
  ·simp[h0]
  ·have h1:s.length-1<s.length:=by omega
   have e1:decide ((1:Int)<=((s.length:Nat):Int))=decide (1<=s.length):=by simp only[ej];omega
   have e2:decide (((s.length:Nat):Int)<=12)=decide (s.length<=12):=by simp only[ej];omega
   simp only[y8 h0 (bu _) (dj hs),bY,cg,h1,cz,bZ,bX,aT,e1,e2,nV]
theorem O6(s:List UInt8)(hs:s.length<=1048576):M.nk s=some (eX s):=by
 unfold M.nk;rcases iz s.length with h0|h0
 ·have:s=[]:=iW h0;subst this;rfl
 have h1:s.length-1<s.length:=by omega
 simp only[y8 h0 (bu _) (dj hs),bY,cg,h1,Int.toNat_zero,cz,bZ,bX,aT];have hz:inB (0:Int) s.length=true:=by
  show inB ((0:Nat):Int) s.length=true
  rw[cg];simpa using h0
 simp only[hz,bZ,bX,aT];have e1:decide (((s.length:Nat):Int)<1)= !decide (1<=s.length):=by rw[<-ia];simp only[ej];omega
 have e2:decide ((12:Int)<((s.length:Nat):Int))= !decide (s.length<=12):=by rw[<-ia];simp only[ej];omega
 have e3:decide ((((s.getD 0 0).toNat:Nat):Int)<97)= !decide ((97:Int)<=(((s.getD 0 0).toNat:Nat):Int)):=by rw[<-ia];simp only[ej];omega
 have e4:decide ((122:Int)<(((s.getD 0 0).toNat:Nat):Int))= !decide ((((s.getD 0 0).toNat:Nat):Int)<=122):=by rw[<-ia];simp only[ej];omega
 rw[e1,e2,e3,e4];by_cases hlow:me (s.getD 0 0)=true
 ·have hl:=hlow;simp only[me,bc]at hl;rw[kX (p:=mf s) (F:=M.pG s) (e:=()) (b:=false) s.length (by omega) (fun f k hk=>by
   rw[M.pG];have f1:decide ((((s.getD k 0).toNat:Nat):Int)<97)= !decide ((97:Int)<=(((s.getD k 0).toNat:Nat):Int)):=by rw[<-ia];simp only[ej];omega
   have f2:decide ((122:Int)<(((s.getD k 0).toNat:Nat):Int))= !decide ((((s.getD k 0).toNat:Nat):Int)<=122):=by rw[<-ia];simp only[ej];omega
   have f3:decide ((((s.getD k 0).toNat:Nat):Int)<48)= !decide ((48:Int)<=(((s.getD k 0).toNat:Nat):Int)):=by rw[<-ia];simp only[ej];omega
   have f4:decide ((57:Int)<(((s.getD k 0).toNat:Nat):Int))= !decide ((((s.getD k 0).toNat:Nat):Int)<=57):=by rw[<-ia];simp only[ej];omega
   simp only[bY,cg,cX,hk,cz,aT,bZ,bU,bX,bM hk (dj hs),mf,me,DX,nV,fK,f1,f2,f3,f4];have dash:me (s.getD k 0)=true->((((s.getD k 0).toNat:Nat):Int)==45)=false:=fun h=>by
    simp only[me,bc,bP]at h;rw[gZ];omega
   simp only[me]at dash;rcases iz k with k0|k0
   ·subst k0;rw[hl.1,hl.2]at*;simp only[cI]at dash;rw[dash trivial];simp
   ·have hk1:k-1<s.length:=by omega
    simp only[y8 k0 (Nat.le_of_lt hk) (dj hs),bY,cg,hk1,k0,cz];generalize ((((s.getD (k-1) 0).toNat:Nat):Int)==45)=a6
    revert dash
    generalize decide ((97:Int)<=(((s.getD k 0).toNat:Nat):Int))=a1;generalize decide ((((s.getD k 0).toNat:Nat):Int)<=122)=a2;generalize decide ((48:Int)<=(((s.getD k 0).toNat:Nat):Int))=a3;generalize decide ((((s.getD k 0).toNat:Nat):Int)<=57)=a4;generalize ((((s.getD k 0).toNat:Nat):Int)==45)=a5;intro dash;cases a1<;>cases a2<;>cases a3<;>cases a4<;>cases a5<;>cases a6<;>simp at dash⊢) (fun f=>by rw[M.pG];simp)]
  rw[hl.1,hl.2];unfold eX nV;cases (List.range s.length).all (mf s)<;>cases decide (1<=s.length)<;>cases decide (s.length<=12)<;>cases ((((s.getD (s.length-1) 0).toNat:Nat):Int)==45)<;>rfl
 ·have hno:eX s=false:=by
   unfold eX;have:(List.range s.length).all (mf s)=false:=by
    rw[List.all_eq_false];refine⟨0,by simpa using h0,?_⟩;simp only[qp]at hlow;simp only[mf,hlow];intro h;cases h
   rw[this];rfl
  rw[hno];simp only[qp]at hlow;simp only[me]at hlow;cases h3:decide ((97:Int)<=(((s.getD 0 0).toNat:Nat):Int))<;>cases h4:decide ((((s.getD 0 0).toNat:Nat):Int)<=122)<;>rw[h3,h4]at hlow<;>simp at hlow⊢
end M
namespace M
open Go.V (inB cu al cE)
theorem nodup_range(l:List (List UInt8)):(List.range l.length).all (fun i=>(List.range i).all fun k=> !(l.getD k []==l.getD i []))=nodupB l:=by
 rw[jd,D3,List.Nodup,tV];simp only[dW,nX,eZ,gZ];constructor
 ·intro h i j hi hj hij e;have:=h j hj i hij;rw[getD_lt hi,getD_lt hj]at this;exact this e
 ·intro h i hi k hk e;rw[getD_lt hi,getD_lt (by omega)]at e;exact h k i (by omega) hi hk e
theorem acM{α:Type}(p:α->Bool)(l:List α)(d:α):(List.range l.length).all (fun i=>p (l.getD i d))=l.all p:=by
 rw[jd];simp only[dW,nX];constructor
 ·intro h x hx;obtain⟨i,hi,rfl⟩:=kY hx;have:=h i hi
  rwa [getD_lt hi]at this
 ·intro h i hi;rw[getD_lt hi];exact h _ (ca hi)
theorem acN{α:Type}(p q:α->Bool)(l:List α):l.all (fun x=>p x&&q x)=(l.all p&&l.all q):=by
 induction l with
 |nil=>rfl
 |cons x r ih=>simp only[jc,ih];cases p x<;>cases q x<;>cases r.all p<;>cases r.all q<;>rfl
theorem acO(l:List (List UInt8))(h:aF List.length l<=1048576):M.sc l=some (mg l):=by
 have hl:=eU (da List.length l) h;unfold M.sc;have e1:decide (((l.length:Nat):Int)<1)= !decide (1<=l.length):=by rw[<-ia];simp only[ej];omega
 have e2:decide ((16:Int)<((l.length:Nat):Int))= !decide (l.length<=16):=by rw[<-ia];simp only[ej];omega
 rw[e1,e2,kX (p:=fun i=>eX (l.getD i [])&&(List.range i).all fun k=> !(l.getD k []==l.getD i [])) (F:=fun f i=>M.lS f l i) (e:=()) (b:=false) l.length (by omega) (fun f k hk=>by
  show M.lS (f+1) l (k:Int)=_
  rw[M.lS];have hn:(l.getD k []).length<=1048576:=by rw[getD_lt hk];exact eU (dQ List.length _ _ (ca hk)) h
  have inner:M.nq l (k:Int) al 0=some (if(List.range k).all (fun j=> !(l.getD j []==l.getD k []))then .inr (l,(k:Int))else .inl false):=
   kX (p:=fun j=> !(l.getD j []==l.getD k [])) (F:=M.nq l (k:Int)) (e:=(l,(k:Int))) (b:=false) k (by omega) (fun f j hj=>by
    rw[M.nq];have hj':j<l.length:=by omega
    simp only[bY,cg,cX,hj,hk,hj',cz,aT,bZ,bU,bX,bM hj (by omega:k<2^62)];cases l.getD j []==l.getD k []<;>rfl) (fun f=>by rw[M.nq];simp)
  simp only[bY,cg,cX,hk,cz,aT,bZ,bU,bX,bM hk (by omega:l.length<2^62),O6 _ hn,inner,bH,bQ];cases eX (l.getD k [])<;>cases (List.range k).all (fun j=> !(l.getD j []==l.getD k []))<;>simp[bM hk (by omega:l.length<2^62)]) (fun f=>by
  show M.lS (f+1) l (l.length:Int)=_
  rw[M.lS];simp)]
 unfold mg;rw[acN,acM,nodup_range];cases decide (1<=l.length)<;>cases decide (l.length<=16)<;>cases l.all eX<;>cases nodupB l<;>rfl
theorem acP(l:List (List UInt8))(h:aF List.length l<=1048576):M.so l=some (mg l):=by
 have hl:=eU (da List.length l) h;have c1:∀s:List UInt8,s.length<=1048576->M.sk s=some (!eX s):=fun s hs=>by
  unfold M.sk;rw[O5 s hs];rfl
 have cf:M.sn l=some (l.any fun s=> !eX s):=by
  have e:=i5 (p:=fun s=> !eX s) (F:=M.pJ l (l.length:Int)) (e:=()) (fun k=>k) l (by omega) (fun f k hk=>by
   rw[M.pJ];have hn:l[k].length<=1048576:=eU (dQ List.length _ _ (ca hk)) h;simp only[getD_lt hk,bY,cg,cX,hk,cz,aT,bZ,bU,bX,bM hk (by omega:l.length<2^62),c1 _ hn,bH,bQ]) (fun f=>by rw[M.pJ];simp)
  unfold M.sn M.vu;rw[e,jA];cases l.findIdx? (fun s=> !eX s)<;>simp
 unfold M.so;rw[cf,acQ l hl];have e1:decide ((1:Int)<=((l.length:Nat):Int))=decide (1<=l.length):=by simp only[ej];omega
 have e2:decide (((l.length:Nat):Int)<=16)=decide (l.length<=16):=by simp only[ej];omega
 have e3:(l.any fun s=> !eX s)= !l.all eX:=by rw[tW]
 unfold mg;simp only[bQ,bZ,bX,aT,bH,e1,e2,e3,Bool.not_not];cases decide (1<=l.length)<;>cases decide (l.length<=16)<;>cases l.all eX<;>cases nodupB l<;>rfl
end M
namespace M
open Go.V (inB cu al cE)
theorem O7{α:Type}{f:α->Nat}{l:List α}{N:Nat}(h:aF f l<=N){x:α}(hx:x∈l):f x<=N:=eU (dQ f l x hx) h
theorem aa.D4{a:aa}{N:Nat}(h:a.sz<=N):aF List.length a.bK<=N:=by rw[aa.cy]at h;omega
theorem aa.O8{a:aa}{N:Nat}(h:a.sz<=N):a.Name.length<=N:=by rw[aa.cy]at h;omega
theorem aa.y9{a:aa}{N:Nat}(h:a.sz<=N):aF aa.sz a.Kids<=N:=by rw[aa.cy]at h;omega
theorem aa.ib{a:aa}{N:Nat}(h:a.sz<=N):a.Kids.length<=N:=eU (da _ _) (aa.y9 h)
theorem aa.acR{a:aa}{N:Nat}(h:a.sz<=N):a.bK.length<=N:=eU (da _ _) (aa.D4 h)
theorem aa.ic{a x:aa}(h:x∈a.Kids):x.sz<a.sz:=by
 rw[aa.cy a];have:=lL aa.sz _ _ h;omega
theorem acS(t:aa)(h:t.sz<=1048576):M.nr t=some (t.Kids.any fi):=by
 have hl:=aa.ib h;have e:=i5 (p:=fi) (F:=fun f i=>M.kz f i t) (e:=()) (fun _=>true) t.Kids (by omega) (fun f k hk=>by
  show M.kz (f+1) (k:Int) t=_
  rw[M.kz];simp only[aa.aE,getD_lt hk,bY,cg,cX,hk,cz,aT,bZ,bU,bX,bM hk (by omega:t.Kids.length<2^62),fi]) (fun f=>by
  show M.kz (f+1) _ t=_
  rw[M.kz];simp)
 unfold M.nr;rw[aa.aE,jA];have e':M.kz al 0 t=_:=e;rw[e'];cases t.Kids.findIdx? fi<;>simp
theorem D5(lo hi:Int):∀(m:Nat)(t:aa),t.sz<m->t.sz<=1048576->M.jY m t lo hi=some (fJ (fun k=>decide (lo<=k)&&decide (k<=hi)) t)
 |0,t,h,_=>absurd h (i4 _)
 |m+1,t,h,hN=>by
  have hl:=aa.ib hN;have e:=i5 (p:=fJ (fun k=>decide (lo<=k)&&decide (k<=hi))) (F:=fun f i=>M.kB (M.jY m) lo hi f i t) (e:=()) (fun _=>true) t.Kids (by omega) (fun f k hk=>by
   show M.kB (M.jY m) lo hi (f+1) (k:Int) t=_
   rw[M.kB];have hx:=aa.ic (ca hk);simp only[aa.aE,getD_lt hk,D5 lo hi m t.Kids[k] (by omega) (by omega),bY,cg,cX,hk,cz,aT,bZ,bU,bX,bM hk (by omega:t.Kids.length<2^62),bH,bQ]) (fun f=>by
   show M.kB (M.jY m) lo hi (f+1) _ t=_
   rw[M.kB];simp)
  show M.vm (M.jY m) t lo hi=_
  unfold M.vm;have e':M.kB (M.jY m) lo hi al 0 t=_:=e;rw[aa.aE,e',O0,DZ,jA];cases (decide (lo<=t.Kind)&&decide (t.Kind<=hi))<;>cases t.Kids.findIdx? (fJ fun k=>decide (lo<=k)&&decide (k<=hi))<;>simp
theorem O9(l:List Int)(v:Int)(hl:l.length<2^62):M.lX l v=some (l.any fun x=>v==x):=by
 have e:=i5 (p:=fun x=>v==x) (F:=M.pL l v (l.length:Int)) (e:=()) (fun k=>k) l hl (fun f k hk=>by
  rw[M.pL];simp only[getD_lt hk,bY,cg,cX,hk,cz,aT,bZ,bU,bX,bM hk hl]) (fun f=>by rw[M.pL];simp)
 unfold M.lX M.vB;rw[e,jA];cases l.findIdx? (fun x=>v==x)<;>simp
theorem D6(ks:List Int)(hk:ks.length<2^62):∀(m:Nat)(t:aa),t.sz<m->t.sz<=1048576->M.kF m t ks=some (fJ (fun k=>ks.any fun x=>k==x) t)
 |0,t,h,_=>absurd h (i4 _)
 |m+1,t,h,hN=>by
  have hl:=aa.ib hN;have e:=i5 (p:=fJ (fun k=>ks.any fun x=>k==x)) (F:=M.pM (M.kF m) t.Kids ks (t.Kids.length:Int)) (e:=()) (fun k=>k) t.Kids (by omega) (fun f k hk'=>by
   rw[M.pM];have hx:=aa.ic (ca hk');have c:M.sr (M.kF m) t.Kids[k] ks=some (fJ (fun k=>ks.any fun x=>k==x) t.Kids[k]):=by
    unfold M.sr;simp only[aa.aE,D6 ks hk m t.Kids[k] (by omega) (by omega)];rfl
   simp only[aa.aE,getD_lt hk',c,bY,cg,cX,hk',cz,aT,bZ,bU,bX,bM hk' (by omega:t.Kids.length<2^62),bH,bQ]) (fun f=>by
   rw[M.pM];simp)
  have e2:M.su (M.kF m) t.Kids ks=some (t.Kids.any (fJ (fun k=>ks.any fun x=>k==x))):=by
   unfold M.su M.vC;rw[e,jA];cases t.Kids.findIdx? (fJ (fun k=>ks.any fun x=>k==x))<;>simp
  show M.vD (M.kF m) t ks=_
  unfold M.vD;rw[e2,O9 ks _ hk,O0,DZ];simp
theorem D7:∀(l:List aa),(∀x∈l,dX x<=x.sz+1)->fh l<=aF aa.sz l
 |[],_=>bu _
 |x::r,h=>by
  have:=D7 r fun y hy=>h y (tX _ hy)
  have:=h x (D8 ..);simp only[fh,aF];omega
theorem Pe:∀(n:Nat)(t:aa),t.sz<n->dX t<=t.sz+1
 |0,t,h=>absurd h (i4 _)
 |n+1,t,h=>by
  have:=D7 t.Kids fun x hx=>Pe n x (by have:=aa.ic hx;omega)
  rw[vS,aa.cy];omega
theorem acT(t:aa):dX t<=t.sz+1:=Pe _ t (Nat.lt_succ_self _)
theorem acU{l:List aa}{N:Nat}(h:aF aa.sz l<=N):fh l<=N:=eU (D7 l fun x _=>acT x) h
theorem Pg:∀(m:Nat)(t:aa),t.sz<m->t.sz<=1048576->M.nw m t=some ((dX t:Nat):Int)
 |0,t,h,_=>absurd h (i4 _)
 |m+1,t,h,hN=>by
  have hl:=aa.ib hN;have hs:=acU (aa.y9 hN);have key:∀f k (a:Nat),k<=t.Kids.length->t.Kids.length-k<f->a+fh (t.Kids.drop k)<=1048577->M.nu (M.nw m) t.Kids (t.Kids.length:Int) f (a:Int) (k:Int)=some (((a+fh (t.Kids.drop k):Nat)):Int):=by
   intro f
   induction f with
   |zero=>intro k a h1 h2;omega
   |succ f ih=>
    intro k a h1 h2 h3;rcases cM k t.Kids.length with hk|hk
    ·rw[M.nu];have hx:=aa.ic (ca hk);rw[O2 hk]at h3⊢;have hw:Go.IntKind.wrap .i64 ((a:Int)+((dX t.Kids[k]:Nat):Int))=((a+dX t.Kids[k]:Nat):Int):=by rw[wrap_i64 (by omega) (by omega)];omega
     simp only[aa.aE,getD_lt hk,Pg m t.Kids[k] (by omega) (by omega),bY,cg,cX,hk,cz,aT,bU,bX,bM hk (by omega:t.Kids.length<2^62),bH,bQ,hw];rw[ih (k+1) _ (by omega) (by omega) (by omega)];congr 1;omega
    ·have:k=t.Kids.length:=by omega
     subst this;rw[M.nu];simp[jQ,fh]
  show M.vp (M.nw m) t=_
  unfold M.vp;have e:=key al 0 1 (ew _) (by have:=cE;omega) (by simp only[ix];omega);have e':M.nu (M.nw m) t.Kids (t.Kids.length:Int) al 1 0=_:=e;rw[e',vS];rfl
theorem Ph:∀(m:Nat)(t:aa)(L:Nat),L<m->L<=100->t.sz<=1048576->M.nt m t (L:Int)=some ((min (eY t) (L+1):Nat):Int)
 |0,t,L,h,_,_=>absurd h (i4 _)
 |m+1,t,L,h,hL,hN=>by
  have hl:=aa.ib hN
  show M.vo (M.nt m) t (L:Int)=_
  unfold M.vo;cases L with
  |zero=>
   have:=O4 t;rw[show min (eY t) (0+1)=1 by omega];rfl
  |succ L=>
   have hw0:Go.IntKind.wrap .i64 (((L+1:Nat):Int)-1)=(L:Int):=by rw[wrap_i64 (by omega) (by omega)];omega
   have key:∀f k (a:Nat),k<=t.Kids.length->t.Kids.length-k<f->M.ns (M.nt m) ((L+1:Nat):Int) t.Kids (t.Kids.length:Int) f (a:Int) (k:Int)=some ((max a (min (hZ (t.Kids.drop k)) (L+1)):Nat):Int):=by
    intro f
    induction f with
    |zero=>intro k a h1 h2;omega
    |succ f ih=>
     intro k a h1 h2;rcases cM k t.Kids.length with hk|hk
     ·rw[M.ns];have hx:=aa.ic (ca hk);simp only[aa.aE,getD_lt hk,hw0,Ph m t.Kids[k] L (by omega) (by omega) (by omega),bY,cg,cX,hk,cz,aT,bU,bX,bM hk (by omega:t.Kids.length<2^62),bH,bQ];have hm:(bif decide (a<min (eY t.Kids[k]) (L+1))then((min (eY t.Kids[k]) (L+1):Nat):Int)else(a:Int))=((max a (min (eY t.Kids[k]) (L+1)):Nat):Int):=by
       by_cases hc:a<min (eY t.Kids[k]) (L+1)
       ·simp only[hc,cz,aT];omega
       ·simp only[hc,vf,bF];omega
      rw[hm,ih (k+1) _ (by omega) (by omega),O3 hk];congr 1;omega
     ·have:k=t.Kids.length:=by omega
      subst this;rw[M.ns];simp[jQ,hZ]
   have e:=key al 0 0 (ew _) (by have:=cE;omega);have e':M.ns (M.nt m) ((L+1:Nat):Int) t.Kids (t.Kids.length:Int) al 0 0=_:=e;have d:(((L+1:Nat):Int)==0)=false:=by rw[gZ];omega
   rw[d,e',DY];simp only[bF,ix];rw[wrap_i64 (by omega) (by omega)];congr 1;omega
end M
namespace M
open Go.V (inB cu al cE)
def mh(d:Nat)(t:aa):Int×Int:=if d+eY t<=5/\dX t<=24 then(((eY t:Nat):Int),((dX t:Nat):Int))else(5,25)
theorem Pj:∀(m d:Nat)(t:aa),d<=5->6<=m+d->t.sz<=1048576->M.nj m t (d:Int)=some (mh d t)
 |0,d,t,h1,h2,_=>by omega
 |m+1,d,t,h1,h2,hN=>by
  have hl:=aa.ib hN;have hdp:=O4 t
  show M.vl (M.nj m) t (d:Int)=_
  unfold M.vl;by_cases h5:d=5
  ·subst h5;have:mh 5 t=(5,25):=by unfold mh;rw[ax (by omega)]
   rw[this];rfl
  have d4:decide ((4:Int)<(d:Int))=false:=by rw[iD];omega
  by_cases h24:24<t.Kids.length
  ·have:mh d t=(5,25):=by
    unfold mh;have:=O1 t.Kids;rw[ax (by rw[vS];omega)]
   rw[this,d4];have:decide ((24:Int)<((t.Kids.length:Nat):Int))=true:=by rw[bP];omega
   rw[this];rfl
  have d24:decide ((24:Int)<((t.Kids.length:Nat):Int))=false:=by rw[iD];omega
  have hw:Go.IntKind.wrap .i64 ((d:Int)+1)=((d+1:Nat):Int):=by rw[wrap_i64 (by omega) (by omega)];omega
  have mx:∀a b:Nat,M.ng (a:Int) (b:Int)=some ((max a b:Nat):Int):=fun a b=>by
   unfold M.ng;by_cases hc:b<a
   ·have:decide ((b:Int)<(a:Int))=true:=by rw[bP];omega
    rw[this];simp only[aT];congr 1;omega
   ·have:decide ((b:Int)<(a:Int))=false:=by rw[iD];omega
    rw[this];simp only[bF];congr 1;omega
  have key:∀f k (a p:Nat),k<=t.Kids.length->t.Kids.length-k<f->p<=24->M.ni (M.nj m) (d:Int) f (a:Int) (p:Int) (k:Int) t=
   some (if d+1+hZ (t.Kids.drop k)<=5/\p+fh (t.Kids.drop k)<=24 then .inr (((max a (hZ (t.Kids.drop k)):Nat):Int),((p+fh (t.Kids.drop k):Nat):Int))else .inl (5,25)):=by
   intro f
   induction f with
   |zero=>intro k a p h1 h2;omega
   |succ f ih=>
    intro k a p h1 h2 h3;rcases cM k t.Kids.length with hk|hk
    ·rw[M.ni];have hx:=aa.ic (ca hk);have hc:=Pj m (d+1) t.Kids[k] (by omega) (by omega) (by omega);rw[O3 hk,O2 hk];simp only[aa.aE,getD_lt hk,hw,hc,bY,cg,cX,hk,cz,aT,bU,bX,bM hk (by omega:t.Kids.length<2^62),bH,bQ];unfold mh;by_cases hv:d+1+eY t.Kids[k]<=5/\dX t.Kids[k]<=24
     ·rw[aC hv];have hw2:Go.IntKind.wrap .i64 ((p:Int)+((dX t.Kids[k]:Nat):Int))=((p+dX t.Kids[k]:Nat):Int):=by rw[wrap_i64 (by omega) (by omega)];omega
      dsimp only;rw[hw2,mx];by_cases hp:24<p+dX t.Kids[k]
      ·have:decide ((24:Int)<((p+dX t.Kids[k]:Nat):Int))=true:=by rw[bP];omega
       rw[this,ax (by omega)];simp
      ·have:decide ((24:Int)<((p+dX t.Kids[k]:Nat):Int))=false:=by rw[iD];omega
       rw[this];simp only[bF,bQ,bU,aT,bH];rw[ih (k+1) _ _ (by omega) (by omega) (by omega)];have e1:(d+1+hZ (t.Kids.drop (k+1))<=5/\p+dX t.Kids[k]+fh (t.Kids.drop (k+1))<=24)↔(d+1+max (eY t.Kids[k]) (hZ (t.Kids.drop (k+1)))<=5/\p+(dX t.Kids[k]+fh (t.Kids.drop (k+1)))<=24):=by omega
       by_cases hq:d+1+hZ (t.Kids.drop (k+1))<=5/\p+dX t.Kids[k]+fh (t.Kids.drop (k+1))<=24
       ·rw[aC hq,aC (e1.1 hq)];congr 3
        ·omega
        ·omega
       ·rw[ax hq,ax (fun h=>hq (e1.2 h))]
     ·rw[ax hv,ax (by omega)];have hw2:Go.IntKind.wrap .i64 ((p:Int)+25)=(p:Int)+25:=wrap_i64 (by omega) (by omega);have mx5:M.ng (a:Int) 5=some ((max a 5:Nat):Int):=mx a 5;dsimp only;rw[hw2,mx5];have:decide ((24:Int)<(p:Int)+25)=true:=by rw[bP];omega
      rw[this];simp
    ·have:k=t.Kids.length:=by omega
     subst this;rw[M.ni,jQ];have hq:d+1+hZ []<=5/\p+fh []<=24:=⟨by show d+1+0<=5;omega,by show p+0<=24;omega⟩;rw[aC hq];simp[hZ,fh]
  have e:=key al 0 0 1 (ew _) (by have:=cE;omega) (by omega);have e':M.ni (M.nj m) (d:Int) al 0 1 0 t=_:=e;rw[aa.aE,d4,d24,e'];simp only[ix,fO,bF];unfold mh;rw[DY,vS];by_cases hq:d+1+hZ t.Kids<=5/\1+fh t.Kids<=24
  ·rw[aC hq,aC (by omega)];simp only;congr 2;rw[wrap_i64 (by omega) (by omega)];omega
  ·rw[ax hq,ax (by omega)]
theorem Pl{p:Int->Bool}{l:List aa}(h:l.length=1):fJ p (l.getD 0 aa.zero)=iG p l:=by
 match l,h with
 |[x],_=>simp[iG]
theorem D9{p q:Int->Bool}(h:∀k,p k=q k):fJ p=fJ q:=by
 have:p=q:=funext h;rw[this]
theorem b21(k:Int):(decide ((21:Int)<=k)&&decide (k<=21))=(k==21):=by
 rw[jd];simp only[bc,bP,iH];omega
theorem tY(n m:Nat):(((n:Nat):Int)==((m:Nat):Int))=(n==m):=by
 rw[jd];simp only[iH];omega
theorem Pm(n:Nat):(((n:Nat):Int)==1)=(n==1):=tY n 1
theorem Pn(n:Nat):(((n:Nat):Int)==2)=(n==2):=tY n 2
theorem Po(n:Nat):(((n:Nat):Int)==0)=(n==0):=tY n 0
theorem Pq(n:Nat):inB (0:Int) n=decide (0<n):=cg 0 n
theorem acY(t:aa)(h:t.sz<=1048576):M.se t=some (nW t):=by
 have hn:=O6 t.Name (aa.O8 h);have hb:=acO t.bK (aa.D4 h);have hu:=acS t h;have hh:t.Kids.length=1->M.kC (M.aa.re (List.getD t.Kids 0 aa.zero)) 21 21=some (iG (fun k=>k==21) t.Kids):=fun h1=>by
  have hx:(t.Kids.getD 0 aa.zero).sz<t.sz:=by
   rw[getD_lt (by omega)];exact aa.ic (ca _)
  rw[aa.aE,show M.kC=M.jY al from rfl,D5 21 21 al _ (jZ (by omega)) (by omega),D9 b21,Pl h1]
 unfold M.se;simp only[aa.aE,hn,hb,hu,bH,bQ,bZ,bX,bU,aT,Pm,Pn,Po,tY,Pq,Int.toNat_zero];unfold nW yZ;have e0:decide ((0:Int)<((t.bK.length:Nat):Int))= !(t.bK.length==0):=by
  rw[jd];simp only[bP,eZ,gZ];omega
 have e1:decide ((1:Int)<=((t.Kids.length:Nat):Int))=decide (1<=t.Kids.length):=by simp only[ej];omega
 have e2:decide (((t.Kids.length:Nat):Int)<=6)=decide (t.Kids.length<=6):=by simp only[ej];omega
 rw[e0,e1,e2];have ez:mg t.bK=true->(t.bK.length==0)=false:=fun h=>by
  simp only[mg,bc,bP]at h;rw[gZ];omega
 have eA:eX t.Name=true->(t.Name==[])=false:=fun h=>by
  simp only[eX,bc,bP]at h;rw[gZ];intro e;rw[e]at h;simp at h
 unfold D1 D2;have hz:t.Kids.length=1->decide (0<t.Kids.length)=true:=fun h1=>by rw[h1];rfl
 have hl1:(t.Kids.length==1)=true->t.Kids.length=1:=fun h1=>by simpa using h1
 have hbr:(t.Kids.length==1)=true->M.kC (M.aa.re (List.getD t.Kids 0 aa.zero)) 21 21=some (iG (fun k=>k==21) t.Kids)/\decide (0<t.Kids.length)=true:=fun h1=>⟨hh (hl1 h1),hz (hl1 h1)⟩
 clear hn hb hu hh hz hl1;simp only[aa.aE]at hbr⊢;generalize hK:t.Kind=K;generalize (t.Name==[])=nn at eA⊢;generalize eX t.Name=no at eA⊢;generalize mg t.bK=lo at ez⊢;generalize (t.bK.length==0)=ll at ez⊢;generalize M.kC (List.getD t.Kids 0 aa.zero) 21 21=o at hbr⊢;generalize decide (0<t.Kids.length)=z at hbr⊢;generalize (t.Kids.length==1)=l1 at hbr⊢;generalize iG (fun k=>k==21) t.Kids=kh at hbr⊢;generalize t.Kids.any fi=au;generalize (t.Kids.length==2)=l2;generalize (t.Kids.length==0)=l0;generalize (t.Kids.length==t.bK.length)=lk;generalize decide (1<=t.Kids.length)=ge;generalize decide (t.Kids.length<=6)=le;clear hK h e0 e1 e2;by_cases h12:K=12
 ·subst h12;cases l1
  ·cases no<;>cases nn<;>simp at eA<;>cases lo<;>cases ll<;>simp at ez<;>simp
  ·obtain⟨rfl,rfl⟩:=hbr rfl;cases no<;>cases nn<;>simp at eA<;>cases lo<;>cases ll<;>simp at ez<;>simp
 by_cases h13:K=13
 ·subst h13;cases l1
  ·cases no<;>cases nn<;>simp at eA<;>cases lo<;>cases ll<;>simp at ez<;>simp
  ·obtain⟨rfl,rfl⟩:=hbr rfl;cases no<;>cases nn<;>simp at eA<;>cases lo<;>cases ll<;>simp at ez<;>simp
 by_cases fS:K=14
 ·subst fS;cases l1
  ·cases no<;>cases nn<;>simp at eA<;>cases lo<;>cases ll<;>simp at ez<;>simp
  ·obtain⟨rfl,rfl⟩:=hbr rfl;cases no<;>cases nn<;>simp at eA<;>cases lo<;>cases ll<;>simp at ez<;>simp
 by_cases h15:K=15
 ·subst h15;cases l1
  ·cases no<;>cases nn<;>simp at eA<;>cases lo<;>cases ll<;>simp at ez<;>simp
  ·obtain⟨rfl,rfl⟩:=hbr rfl;cases no<;>cases nn<;>simp at eA<;>cases lo<;>cases ll<;>simp at ez<;>simp
 by_cases h16:K=16
 ·subst h16;cases l1
  ·cases no<;>cases nn<;>simp at eA<;>cases lo<;>cases ll<;>simp at ez<;>simp
  ·obtain⟨rfl,rfl⟩:=hbr rfl;cases no<;>cases nn<;>simp at eA<;>cases lo<;>cases ll<;>simp at ez<;>simp
 by_cases h17:K=17
 ·subst h17;cases l1
  ·cases no<;>cases nn<;>simp at eA<;>cases lo<;>cases ll<;>simp at ez<;>simp
  ·obtain⟨rfl,rfl⟩:=hbr rfl;cases no<;>cases nn<;>simp at eA<;>cases lo<;>cases ll<;>simp at ez<;>simp
 by_cases h18:K=18
 ·subst h18;cases l1
  ·cases no<;>cases nn<;>simp at eA<;>cases lo<;>cases ll<;>simp at ez<;>simp
  ·obtain⟨rfl,rfl⟩:=hbr rfl;cases no<;>cases nn<;>simp at eA<;>cases lo<;>cases ll<;>simp at ez<;>simp
 by_cases h19:K=19
 ·subst h19;cases l1
  ·cases no<;>cases nn<;>simp at eA<;>cases lo<;>cases ll<;>simp at ez<;>simp
  ·obtain⟨rfl,rfl⟩:=hbr rfl;cases no<;>cases nn<;>simp at eA<;>cases lo<;>cases ll<;>simp at ez<;>simp
 by_cases h20:K=20
 ·subst h20;cases l1
  ·cases no<;>cases nn<;>simp at eA<;>cases lo<;>cases ll<;>simp at ez<;>simp
  ·obtain⟨rfl,rfl⟩:=hbr rfl;cases no<;>cases nn<;>simp at eA<;>cases lo<;>cases ll<;>simp at ez<;>simp
 by_cases h21:K=21
 ·subst h21;cases l1
  ·cases no<;>cases nn<;>simp at eA<;>cases lo<;>cases ll<;>simp at ez<;>simp
  ·obtain⟨rfl,rfl⟩:=hbr rfl;cases no<;>cases nn<;>simp at eA<;>cases lo<;>cases ll<;>simp at ez<;>simp
 by_cases h22:K=22
 ·subst h22;cases l1
  ·cases no<;>cases nn<;>simp at eA<;>cases lo<;>cases ll<;>simp at ez<;>simp
  ·obtain⟨rfl,rfl⟩:=hbr rfl;cases no<;>cases nn<;>simp at eA<;>cases lo<;>cases ll<;>simp at ez<;>simp
 by_cases h23:K=23
 ·subst h23;cases l1
  ·cases no<;>cases nn<;>simp at eA<;>cases lo<;>cases ll<;>simp at ez<;>simp
  ·obtain⟨rfl,rfl⟩:=hbr rfl;cases no<;>cases nn<;>simp at eA<;>cases lo<;>cases ll<;>simp at ez<;>simp
 have q1:(K==20)=false:=by simpa using h20
 have q2:(K==21)=false:=by simpa using h21
 have q3:(decide ((16:Int)<=K)&&decide (K<=19))=false:=by
  rw[za];simp only[ne_eq,bc,bP];omega
 have q4:(K==12)=false:=by simpa using h12
 have q5:(K==13)=false:=by simpa using h13
 have q6:(K==14)=false:=by simpa using fS
 have q7:(K==15)=false:=by simpa using h15
 have q8:(K==16)=false:=by simpa using h16
 have q9:(K==17)=false:=by simpa using h17
 have q10:(K==22)=false:=by simpa using h22
 have q11:(K==23)=false:=by simpa using h23
 simp only[q1,q2,q3,q4,q5,q6,q7,q8,q9,q10,q11,h12,h13,fS,h15,h16,h17,h22,h23,or_self,dN];cases nn<;>cases ll<;>simp
end M
namespace M
open Go.V (inB cu al cE)
theorem Pv:∀(m:Nat)(t:aa),t.sz<m->t.sz<=1048576->M.kE m t=some (ei t)
 |0,t,h,_=>absurd h (i4 _)
 |m+1,t,h,hN=>by
  have hl:=aa.ib hN;have e:=vV (p:=ei) (F:=fun f i=>M.kD (M.kE m) f i t) (e:=()) (b:=false) t.Kids (by omega) (fun f k hk=>by
   show M.kD (M.kE m) (f+1) (k:Int) t=_
   rw[M.kD];have hx:=aa.ic (ca hk);simp only[aa.aE,getD_lt hk,Pv m t.Kids[k] (by omega) (by omega),bY,cg,cX,hk,cz,aT,bZ,bU,bX,bM hk (by omega:t.Kids.length<2^62),bH,bQ];cases ei t.Kids[k]<;>rfl) (fun f=>by
   show M.kD (M.kE m) (f+1) _ t=_
   rw[M.kD];simp)
  show M.vn (M.kE m) t=_
  unfold M.vn;have e':M.kD (M.kE m) al 0 t=_:=e;rw[aa.aE,acY t hN,e',vT,vU];cases nW t<;>cases t.Kids.all ei<;>simp
theorem Px(t:aa)(h:t.sz<=1048576):M.nA t=some (jz t):=by
 unfold M.nA;have e1:M.xY t=some (ei t):=Pv al t (jZ h) h;have e2:M.xP t 1=some (mh 1 t):=Pj al 1 t (by omega) (by have:=cE;omega) h;simp only[aa.aE,e1,e2,bH,bQ,bZ,bX,aT];unfold jz mh;by_cases hq:1+eY t<=5/\dX t<=24
 ·rw[aC hq];have a1:decide (((eY t:Nat):Int)<=4)=decide (eY t<=4):=by simp only[ej];omega
  have a2:decide (((dX t:Nat):Int)<=24)=decide (dX t<=24):=by simp only[ej];omega
  dsimp only;rw[a1,a2]
 ·rw[ax hq];have:(decide (eY t<=4)&&decide (dX t<=24))=false:=by
   rw[za];simp only[ne_eq,bc,bP];omega
  rw[this];rfl
theorem acZ(t:aa)(h:t.sz<=1048576):M.sy t=some (jz t):=by
 unfold M.sy;simp only[aa.aE,Px t h];rfl
end M
namespace M
open Go.V (inB cu al cE)
theorem ac0(l:List aa)(hl:l.length<=1048576):M.sq l=some (l.any fi):=by
 have e:=i5 (p:=fi) (F:=M.pK l (l.length:Int)) (e:=()) (fun k=>k) l (by omega) (fun f k hk=>by
  rw[M.pK];simp only[getD_lt hk,bY,cg,cX,hk,cz,aT,bZ,bU,bX,bM hk (by omega:l.length<2^62)];rfl) (fun f=>by rw[M.pK];simp)
 unfold M.sq M.vA;rw[e,jA];cases l.findIdx? fi<;>simp
theorem ac1(t:aa)(h:t.sz<=1048576)(n:Nat):M.lW t (n:Int)=some ((t.Kids.length==n)&& !t.Kids.any fi):=by
 unfold M.lW;rw[ac0 t.Kids (aa.ib h)];simp only[bQ,bZ,bX,aT,bH,tY]
theorem ac2(t:aa)(h:t.sz<=1048576)(rec:aa->Option Bool)(b:Bool)(hb:M.pI rec t.Kids=some (!b)):M.sw rec t=some (b&&nW t):=by
 have hn:=O5 t.Name (aa.O8 h);have hlab:=acP t.bK (aa.D4 h);have hk:=ac1 t h;have hk1:M.lW t 1=some ((t.Kids.length==1)&& !t.Kids.any fi):=hk 1;have hh:t.Kids.length=1->M.kG (M.aa.re (List.getD t.Kids 0 aa.zero)) [21]=some (iG (fun k=>k==21) t.Kids):=fun h1=>by
  have hx:(t.Kids.getD 0 aa.zero).sz<t.sz:=by
   rw[getD_lt (by omega)];exact aa.ic (ca _)
  have e:fJ (fun k=>[(21:Int)].any fun x=>k==x)=fJ (fun k=>k==21):=D9 fun k=>by simp
  rw[aa.aE,show M.kG=M.kF al from rfl,D6 [21] (by simp) al _ (jZ (by omega)) (by omega),e,Pl h1]
 unfold M.sw;simp only[aa.aE,hb,hn,hlab,hk,hk1,bH,bQ,bZ,bX,bU,aT,Pm,Pn,Po,tY,Pq,Int.toNat_zero];unfold nW yZ;have e0:decide ((0:Int)<((t.bK.length:Nat):Int))= !(t.bK.length==0):=by
  rw[jd];simp only[bP,eZ,gZ];omega
 have e1:decide ((1:Int)<=((t.Kids.length:Nat):Int))=decide (1<=t.Kids.length):=by simp only[ej];omega
 have e2:decide (((t.Kids.length:Nat):Int)<=6)=decide (t.Kids.length<=6):=by simp only[ej];omega
 rw[e0,e1,e2];unfold D1 D2;have hz:t.Kids.length=1->decide (0<t.Kids.length)=true:=fun h1=>by rw[h1];rfl
 have hl1:(t.Kids.length==1)=true->t.Kids.length=1:=fun h1=>by simpa using h1
 have hbr:(t.Kids.length==1)=true->M.kG (M.aa.re (List.getD t.Kids 0 aa.zero)) [21]=some (iG (fun k=>k==21) t.Kids)/\decide (0<t.Kids.length)=true:=fun h1=>⟨hh (hl1 h1),hz (hl1 h1)⟩
 clear hn hlab hk hk1 hh hz hl1 hb;simp only[aa.aE]at hbr⊢;generalize hK:t.Kind=K;generalize (t.Name==[])=nn;generalize eX t.Name=no;generalize mg t.bK=lo;generalize (t.bK.length==0)=ll;generalize M.kG (List.getD t.Kids 0 aa.zero) [21]=o at hbr⊢;generalize decide (0<t.Kids.length)=z at hbr⊢;generalize (t.Kids.length==1)=l1 at hbr⊢;generalize iG (fun k=>k==21) t.Kids=kh at hbr⊢;generalize t.Kids.any fi=au;generalize (t.Kids.length==2)=l2;generalize (t.Kids.length==0)=l0;have Py:(t.Kids.length==t.Kids.length)=true:=by simp
 rw[Py];generalize (t.Kids.length==t.bK.length)=lk;generalize decide (1<=t.Kids.length)=ge;generalize decide (t.Kids.length<=6)=le;clear hK h e0 e1 e2 Py;cases b
 ·simp
 by_cases h12:K=12
 ·subst h12;cases l1
  ·cases no<;>cases nn<;>cases lo<;>cases ll<;>simp
  ·obtain⟨rfl,rfl⟩:=hbr rfl;cases no<;>cases nn<;>cases lo<;>cases ll<;>simp
 by_cases h13:K=13
 ·subst h13;cases l1
  ·cases no<;>cases nn<;>cases lo<;>cases ll<;>simp
  ·obtain⟨rfl,rfl⟩:=hbr rfl;cases no<;>cases nn<;>cases lo<;>cases ll<;>simp
 by_cases fS:K=14
 ·subst fS;cases l1
  ·cases no<;>cases nn<;>cases lo<;>cases ll<;>simp
  ·obtain⟨rfl,rfl⟩:=hbr rfl;cases no<;>cases nn<;>cases lo<;>cases ll<;>simp
 by_cases h15:K=15
 ·subst h15;cases l1
  ·cases no<;>cases nn<;>cases lo<;>cases ll<;>simp
  ·obtain⟨rfl,rfl⟩:=hbr rfl;cases no<;>cases nn<;>cases lo<;>cases ll<;>simp
 by_cases h16:K=16
 ·subst h16;cases l1
  ·cases no<;>cases nn<;>cases lo<;>cases ll<;>simp
  ·obtain⟨rfl,rfl⟩:=hbr rfl;cases no<;>cases nn<;>cases lo<;>cases ll<;>simp
 by_cases h17:K=17
 ·subst h17;cases l1
  ·cases no<;>cases nn<;>cases lo<;>cases ll<;>simp
  ·obtain⟨rfl,rfl⟩:=hbr rfl;cases no<;>cases nn<;>cases lo<;>cases ll<;>simp
 by_cases h18:K=18
 ·subst h18;cases l1
  ·cases no<;>cases nn<;>cases lo<;>cases ll<;>simp
  ·obtain⟨rfl,rfl⟩:=hbr rfl;cases no<;>cases nn<;>cases lo<;>cases ll<;>simp
 by_cases h19:K=19
 ·subst h19;cases l1
  ·cases no<;>cases nn<;>cases lo<;>cases ll<;>simp
  ·obtain⟨rfl,rfl⟩:=hbr rfl;cases no<;>cases nn<;>cases lo<;>cases ll<;>simp
 by_cases h20:K=20
 ·subst h20;cases l1
  ·cases no<;>cases nn<;>cases lo<;>cases ll<;>simp
  ·obtain⟨rfl,rfl⟩:=hbr rfl;cases no<;>cases nn<;>cases lo<;>cases ll<;>simp
 by_cases h21:K=21
 ·subst h21;cases l1
  ·cases no<;>cases nn<;>cases lo<;>cases ll<;>simp
  ·obtain⟨rfl,rfl⟩:=hbr rfl;cases no<;>cases nn<;>cases lo<;>cases ll<;>simp
 by_cases h22:K=22
 ·subst h22;cases l1
  ·cases no<;>cases nn<;>cases lo<;>cases ll<;>simp
  ·obtain⟨rfl,rfl⟩:=hbr rfl;cases no<;>cases nn<;>cases lo<;>cases ll<;>simp
 by_cases h23:K=23
 ·subst h23;cases l1
  ·cases no<;>cases nn<;>cases lo<;>cases ll<;>simp
  ·obtain⟨rfl,rfl⟩:=hbr rfl;cases no<;>cases nn<;>cases lo<;>cases ll<;>simp
 have q1:(K==20)=false:=by simpa using h20
 have q2:(K==21)=false:=by simpa using h21
 have q3:(decide ((16:Int)<=K)&&decide (K<=19))=false:=by
  rw[za];simp only[ne_eq,bc,bP];omega
 have q4:(K==12)=false:=by simpa using h12
 have q5:(K==13)=false:=by simpa using h13
 have q6:(K==14)=false:=by simpa using fS
 have q7:(K==15)=false:=by simpa using h15
 have q8:(K==16)=false:=by simpa using h16
 have q9:(K==17)=false:=by simpa using h17
 have q10:(K==22)=false:=by simpa using h22
 have q11:(K==23)=false:=by simpa using h23
 simp only[q1,q2,q3,q4,q5,q6,q7,q8,q9,q10,q11,h12,h13,fS,h15,h16,h17,h22,h23,or_self,dN];cases nn<;>cases ll<;>simp
theorem Pz:∀(m:Nat)(t:aa),t.sz<m->t.sz<=1048576->M.lY m t=some (ei t)
 |0,t,h,_=>absurd h (i4 _)
 |m+1,t,h,hN=>by
  have hl:=aa.ib hN;have e:=i5 (p:=fun x=> !ei x) (F:=M.pH (M.lY m) t.Kids (t.Kids.length:Int)) (e:=()) (fun k=>k) t.Kids (by omega) (fun f k hk=>by
   rw[M.pH];have hx:=aa.ic (ca hk);have c:M.sj (M.lY m) t.Kids[k]=some (!ei t.Kids[k]):=by
    unfold M.sj;simp only[aa.aE,Pz m t.Kids[k] (by omega) (by omega)];rfl
   simp only[aa.aE,getD_lt hk,c,bY,cg,cX,hk,cz,aT,bZ,bU,bX,bM hk (by omega:t.Kids.length<2^62),bH,bQ]) (fun f=>by
   rw[M.pH];simp)
  have e2:M.pI (M.lY m) t.Kids=some (!qo t.Kids):=by
   unfold M.pI M.vq;have e3:(!qo t.Kids)=t.Kids.any fun x=> !ei x:=by rw[vU,tW]
   rw[e,e3,jA];cases t.Kids.findIdx? (fun x=> !ei x)<;>simp
  show M.sw (M.lY m) t=_
  rw[ac2 t hN _ _ e2,vT,Bool.and_comm]
theorem ac3(t:aa)(h:t.sz<=1048576):M.sH t=some (jz t):=by
 unfold M.sH;have e1:M.ye t=some (ei t):=Pz al t (jZ h) h;have e2:M.x3 t 4=some ((min (eY t) 5:Nat):Int):=Ph al t 4 (by have:=cE;omega) (by omega) h;have e3:M.x5 t=some ((dX t:Nat):Int):=Pg al t (jZ h) h;simp only[aa.aE,e1,e2,e3,bH,bQ,bZ,bX,aT];have a1:decide (((min (eY t) 5:Nat):Int)<=4)=decide (eY t<=4):=by simp only[ej];omega
 have a2:decide (((dX t:Nat):Int)<=24)=decide (dX t<=24):=by simp only[ej];omega
 rw[a1,a2];rfl
end M
