/-
  NAMES AND TYPES: what is right, in plain Lean.
-/
import Derived.Test.YtbeijibjinbgcaaGreatDoorXHplA
import Derived.Test.YtbeijibjinbgcaaGreatDoorXHZH
set_option linter.unusedVariables false
namespace M
open Go.V (inB cC an cJ)
def mQ(c:UInt8):Bool:=decide ((97:Int)<=((c.toNat:Nat):Int))&&decide (((c.toNat:Nat):Int)<=122)
def DT(c:UInt8):Bool:=decide ((48:Int)<=((c.toNat:Nat):Int))&&decide (((c.toNat:Nat):Int)<=57)
def oz(c:UInt8):Bool:=((c.toNat:Nat):Int)==45
def mR(s:List UInt8)(k:Nat):Bool:=mQ (s.getD k 0)||(decide (0<k)&&((DT (s.getD k 0)||oz (s.getD k 0))&& !(oz (s.getD k 0)&&oz (s.getD (k-1) 0))))
def fw(s:List UInt8):Bool:=(List.range s.length).all (mR s)&&((decide (1<=s.length)&&decide (s.length<=12))&& !oz (s.getD (s.length-1) 0))
def mS(l:List (List UInt8)):Bool:=(decide (1<=l.length)&&decide (l.length<=16))&&(nodupB l&&l.all fw)
mutual
def ek:aa->Nat
 |.mk _ _ _ kids=>1+fK kids
def fK:List aa->Nat
 |[]=>0
 |x::r=>ek x+fK r
end
mutual
def fx:aa->Nat
 |.mk _ _ _ kids=>1+iR kids
def iR:List aa->Nat
 |[]=>0
 |x::r=>max (fx x) (iR r)
end
mutual
def gm(p:Int->Bool):aa->Bool
 |.mk k _ _ kids=>p k||je p kids
def je(p:Int->Bool):List aa->Bool
 |[]=>false
 |x::r=>gm p x||je p r
end
theorem xi(t:aa):ek t=1+fK t.Kids:=by cases t;rfl
theorem DU(t:aa):fx t=1+iR t.Kids:=by cases t;rfl
theorem KY(p:Int->Bool)(t:aa):gm p t=(p t.Kind||je p t.Kids):=by cases t;rfl
theorem DV(p:Int->Bool):∀l,je p l=l.any (gm p)
 |[]=>rfl
 |x::r=>by rw[je,List.any_cons,DV p r]
def fL(t:aa):Bool:=t.Kind==1
def DW(t:aa):Bool:=(t.Kind==20)||(t.Kind==21)
def DX(t:aa):Bool:=decide ((16:Int)<=t.Kind)&&decide (t.Kind<=19)
def zA(t:aa):Bool:=
 if t.Kind=12\/t.Kind=13 then(t.Kids.length==1)&& !t.Kids.any fL
 else if t.Kind=14 then t.Kids.length==2
 else if t.Kind=15 then(decide (1<=t.Kids.length)&&decide (t.Kids.length<=6))&& !t.Kids.any fL
 else if t.Kind=16 then(t.Kids.length==t.bY.length)&& !t.Kids.any fL
 else if t.Kind=17 then t.Kids.length==t.bY.length
 else if t.Kind=22\/t.Kind=23 then(t.Kids.length==1)&& !je (fun k=>k==21) t.Kids
 else(decide ((1:Int)<=t.Kind)&&decide (t.Kind<=23))&&(t.Kids.length==0)
def oC(t:aa):Bool:=
 ((if DX t then mS t.bY else t.bY.length==0)&&(if DW t then fw t.Name else t.Name==[]))&&zA t
mutual
def eG:aa->Bool
 |.mk k n l kids=>oC (.mk k n l kids)&&qF kids
def qF:List aa->Bool
 |[]=>true
 |x::r=>eG x&&qF r
end
theorem xj(t:aa):eG t=(oC t&&qF t.Kids):=by cases t;rfl
theorem xk:∀l,qF l=l.all eG
 |[]=>rfl
 |x::r=>by rw[qF,mD,xk r]
def j6(t:aa):Bool:=(decide (fx t<=4)&&decide (ek t<=24))&&eG t
theorem KZ:∀l:List aa,l.length<=fK l
 |[]=>cH _
 |x::r=>by have:=KZ r;simp only[fK,cr,xi x];omega
theorem K0{l:List aa}{k:Nat}(h:k<l.length):fK (l.drop k)=ek l[k]+fK (l.drop (k+1)):=by rw[jZ h];rfl
theorem K1{l:List aa}{k:Nat}(h:k<l.length):iR (l.drop k)=max (fx l[k]) (iR (l.drop (k+1))):=by rw[jZ h];rfl
theorem K2(t:aa):1<=fx t:=by rw[DU];omega
end M
set_option linter.unusedSimpArgs false
namespace M
open Go.V (inB cC an cJ)
theorem kL{n:Nat}(h:n<=1048576):n<an:=by have:=cJ;omega
theorem zB{k n:Nat}(h0:0<k)(h:k<=n)(hn:n<2^62):Go.IntKind.wrap .i64 ((k:Int)-1)=((k-1:Nat):Int):=by
 rw[wrap_i64 (by omega) (by omega)];omega
theorem K3(s:List UInt8)(hs:s.length<=1048576):M.oD s=some (fw s):=by
 unfold M.oD;rw[lI (p:=mR s) (F:=M.oG s (s.length:Int)) (e:=s) (b:=false) s.length (by omega) (fun f k hk=>by
  rw[M.oG];simp only[bV,ct,dY,hk,cI,aE,cQ,bJ,aD,bN hk (dP hs),mR,mQ,DT,oz,gn];generalize decide ((97:Int)<=(((s.getD k 0).toNat:Nat):Int))=a1;generalize decide ((((s.getD k 0).toNat:Nat):Int)<=122)=a2;generalize decide ((48:Int)<=(((s.getD k 0).toNat:Nat):Int))=a3;generalize decide ((((s.getD k 0).toNat:Nat):Int)<=57)=a4;generalize ((((s.getD k 0).toNat:Nat):Int)==45)=a5;rcases gJ k with h0|h0
  ·subst h0;cases a1<;>cases a2<;>cases a3<;>cases a4<;>cases a5<;>simp
  ·have e0:((k:Int)==0)=false:=by rw[ed];omega
   have hk1:k-1<s.length:=by omega
   simp only[e0,zB h0 (Nat.le_of_lt hk) (dP hs),bV,ct,hk1,h0,cI];generalize ((((s.getD (k-1) 0).toNat:Nat):Int)==45)=a6;cases a1<;>cases a2<;>cases a3<;>cases a4<;>cases a5<;>cases a6<;>simp) (fun f=>by rw[M.oG];simp)]
 unfold fw;cases hall:(List.range s.length).all (mR s)
 ·simp
 ·simp only[dZ,gn,bJ];rcases gJ s.length with h0|h0
  ·simp[h0]
  ·have h1:s.length-1<s.length:=by omega
   have e1:decide ((1:Int)<=((s.length:Nat):Int))=decide (1<=s.length):=by simp only[cP];omega
   have e2:decide (((s.length:Nat):Int)<=12)=decide (s.length<=12):=by simp only[cP];omega
   simp only[zB h0 (cH _) (dP hs),bV,ct,h1,cI,cQ,aD,aE,e1,e2,oz]
theorem K4(s:List UInt8)(hs:s.length<=1048576):M.oH s=some (fw s):=by
 unfold M.oH;rcases gJ s.length with h0|h0
 ·have:s=[]:=ja h0;subst this;rfl
 have h1:s.length-1<s.length:=by omega
 simp only[zB h0 (cH _) (dP hs),bV,ct,h1,Int.toNat_zero,cI,cQ,aD,aE];have hz:inB (0:Int) s.length=true:=by
  show inB ((0:Nat):Int) s.length=true
  rw[ct];simpa using h0
 simp only[hz,cQ,aD,aE];have e1:decide (((s.length:Nat):Int)<1)= !decide (1<=s.length):=by rw[<-hQ];simp only[cP];omega
 have e2:decide ((12:Int)<((s.length:Nat):Int))= !decide (s.length<=12):=by rw[<-hQ];simp only[cP];omega
 have e3:decide ((((s.getD 0 0).toNat:Nat):Int)<97)= !decide ((97:Int)<=(((s.getD 0 0).toNat:Nat):Int)):=by rw[<-hQ];simp only[cP];omega
 have e4:decide ((122:Int)<(((s.getD 0 0).toNat:Nat):Int))= !decide ((((s.getD 0 0).toNat:Nat):Int)<=122):=by rw[<-hQ];simp only[cP];omega
 rw[e1,e2,e3,e4];by_cases hlow:mQ (s.getD 0 0)=true
 ·have hl:=hlow;simp only[mQ,bk]at hl;rw[lI (p:=mR s) (F:=M.qG s) (e:=()) (b:=false) s.length (by omega) (fun f k hk=>by
   rw[M.qG];have f1:decide ((((s.getD k 0).toNat:Nat):Int)<97)= !decide ((97:Int)<=(((s.getD k 0).toNat:Nat):Int)):=by rw[<-hQ];simp only[cP];omega
   have f2:decide ((122:Int)<(((s.getD k 0).toNat:Nat):Int))= !decide ((((s.getD k 0).toNat:Nat):Int)<=122):=by rw[<-hQ];simp only[cP];omega
   have f3:decide ((((s.getD k 0).toNat:Nat):Int)<48)= !decide ((48:Int)<=(((s.getD k 0).toNat:Nat):Int)):=by rw[<-hQ];simp only[cP];omega
   have f4:decide ((57:Int)<(((s.getD k 0).toNat:Nat):Int))= !decide ((((s.getD k 0).toNat:Nat):Int)<=57):=by rw[<-hQ];simp only[cP];omega
   simp only[bV,ct,dY,hk,cI,aE,cQ,bJ,aD,bN hk (dP hs),mR,mQ,DT,oz,gn,f1,f2,f3,f4];have dash:mQ (s.getD k 0)=true->((((s.getD k 0).toNat:Nat):Int)==45)=false:=fun h=>by
    simp only[mQ,bk,bC]at h;rw[ed];omega
   simp only[mQ]at dash;rcases gJ k with k0|k0
   ·subst k0;rw[hl.1,hl.2]at*;simp only[bn]at dash;rw[dash trivial];simp
   ·have hk1:k-1<s.length:=by omega
    simp only[zB k0 (Nat.le_of_lt hk) (dP hs),bV,ct,hk1,k0,cI];generalize ((((s.getD (k-1) 0).toNat:Nat):Int)==45)=a6
    revert dash
    generalize decide ((97:Int)<=(((s.getD k 0).toNat:Nat):Int))=a1;generalize decide ((((s.getD k 0).toNat:Nat):Int)<=122)=a2;generalize decide ((48:Int)<=(((s.getD k 0).toNat:Nat):Int))=a3;generalize decide ((((s.getD k 0).toNat:Nat):Int)<=57)=a4;generalize ((((s.getD k 0).toNat:Nat):Int)==45)=a5;intro dash;cases a1<;>cases a2<;>cases a3<;>cases a4<;>cases a5<;>cases a6<;>simp at dash⊢) (fun f=>by rw[M.qG];simp)]
  rw[hl.1,hl.2];unfold fw oz;cases (List.range s.length).all (mR s)<;>cases decide (1<=s.length)<;>cases decide (s.length<=12)<;>cases ((((s.getD (s.length-1) 0).toNat:Nat):Int)==45)<;>rfl
 ·have hno:fw s=false:=by
   unfold fw;have:(List.range s.length).all (mR s)=false:=by
    rw[List.all_eq_false];refine⟨0,by simpa using h0,?_⟩;simp only[qH]at hlow;simp only[mR,hlow];intro h;cases h
   rw[this];rfl
  rw[hno];simp only[qH]at hlow;simp only[mQ]at hlow;cases h3:decide ((97:Int)<=(((s.getD 0 0).toNat:Nat):Int))<;>cases h4:decide ((((s.getD 0 0).toNat:Nat):Int)<=122)<;>rw[h3,h4]at hlow<;>simp at hlow⊢
end M
namespace M
open Go.V (inB cC an cJ)
theorem nodup_range(l:List (List UInt8)):(List.range l.length).all (fun i=>(List.range i).all fun k=> !(l.getD k []==l.getD i []))=nodupB l:=by
 rw[eu,DY,List.Nodup,tI];simp only[dW,mK,eQ,ed];constructor
 ·intro h i j hi hj hij e;have:=h j hj i hij;rw[getD_lt hi,getD_lt hj]at this;exact this e
 ·intro h i hi k hk e;rw[getD_lt hi,getD_lt (by omega)]at e;exact h k i (by omega) hi hk e
theorem Za{α:Type}(p:α->Bool)(l:List α)(d:α):(List.range l.length).all (fun i=>p (l.getD i d))=l.all p:=by
 rw[eu];simp only[dW,mK];constructor
 ·intro h x hx;obtain⟨i,hi,rfl⟩:=jx hx;have:=h i hi
  rwa [getD_lt hi]at this
 ·intro h i hi;rw[getD_lt hi];exact h _ (cn hi)
theorem Zb{α:Type}(p q:α->Bool)(l:List α):l.all (fun x=>p x&&q x)=(l.all p&&l.all q):=by
 induction l with
 |nil=>rfl
 |cons x r ih=>simp only[mD,ih];cases p x<;>cases q x<;>cases r.all p<;>cases r.all q<;>rfl
theorem Zc(l:List (List UInt8))(h:aR List.length l<=1048576):M.tJ l=some (mS l):=by
 have hl:=fh (di List.length l) h;unfold M.tJ;have e1:decide (((l.length:Nat):Int)<1)= !decide (1<=l.length):=by rw[<-hQ];simp only[cP];omega
 have e2:decide ((16:Int)<((l.length:Nat):Int))= !decide (l.length<=16):=by rw[<-hQ];simp only[cP];omega
 rw[e1,e2,lI (p:=fun i=>fw (l.getD i [])&&(List.range i).all fun k=> !(l.getD k []==l.getD i [])) (F:=fun f i=>M.akp f l i) (e:=()) (b:=false) l.length (by omega) (fun f k hk=>by
  show M.akp (f+1) l (k:Int)=_
  rw[M.akp];have hn:(l.getD k []).length<=1048576:=by rw[getD_lt hk];exact fh (dX List.length _ _ (cn hk)) h
  have inner:M.oI l (k:Int) an 0=some (if(List.range k).all (fun j=> !(l.getD j []==l.getD k []))then .inr (l,(k:Int))else .inl false):=
   lI (p:=fun j=> !(l.getD j []==l.getD k [])) (F:=M.oI l (k:Int)) (e:=(l,(k:Int))) (b:=false) k (by omega) (fun f j hj=>by
    rw[M.oI];have hj':j<l.length:=by omega
    simp only[bV,ct,dY,hj,hk,hj',cI,aE,cQ,bJ,aD,bN hj (by omega:k<2^62)];cases l.getD j []==l.getD k []<;>rfl) (fun f=>by rw[M.oI];simp)
  simp only[bV,ct,dY,hk,cI,aE,cQ,bJ,aD,bN hk (by omega:l.length<2^62),K4 _ hn,inner,aQ,bf];cases fw (l.getD k [])<;>cases (List.range k).all (fun j=> !(l.getD j []==l.getD k []))<;>simp[bN hk (by omega:l.length<2^62)]) (fun f=>by
  show M.akp (f+1) l (l.length:Int)=_
  rw[M.akp];simp)]
 unfold mS;rw[Zb,Za,nodup_range];cases decide (1<=l.length)<;>cases decide (l.length<=16)<;>cases l.all fw<;>cases nodupB l<;>rfl
theorem Zd(l:List (List UInt8))(h:aR List.length l<=1048576):M.tK l=some (mS l):=by
 have hl:=fh (di List.length l) h;have c1:∀s:List UInt8,s.length<=1048576->M.tL s=some (!fw s):=fun s hs=>by
  unfold M.tL;rw[K3 s hs];rfl
 have cf:M.tM l=some (l.any fun s=> !fw s):=by
  have e:=jE (p:=fun s=> !fw s) (F:=M.qI l (l.length:Int)) (e:=()) (fun k=>k) l (by omega) (fun f k hk=>by
   rw[M.qI];have hn:l[k].length<=1048576:=fh (dX List.length _ _ (cn hk)) h;simp only[getD_lt hk,bV,ct,dY,hk,cI,aE,cQ,bJ,aD,bN hk (by omega:l.length<2^62),c1 _ hn,aQ,bf]) (fun f=>by rw[M.qI];simp)
  unfold M.tM M.xl;rw[e,jF];cases l.findIdx? (fun s=> !fw s)<;>simp
 unfold M.tK;rw[cf,Ze l hl];have e1:decide ((1:Int)<=((l.length:Nat):Int))=decide (1<=l.length):=by simp only[cP];omega
 have e2:decide (((l.length:Nat):Int)<=16)=decide (l.length<=16):=by simp only[cP];omega
 have e3:(l.any fun s=> !fw s)= !l.all fw:=by rw[tN]
 unfold mS;simp only[bf,cQ,aD,aE,aQ,e1,e2,e3,Bool.not_not];cases decide (1<=l.length)<;>cases decide (l.length<=16)<;>cases l.all fw<;>cases nodupB l<;>rfl
end M
namespace M
open Go.V (inB cC an cJ)
theorem K5{α:Type}{f:α->Nat}{l:List α}{N:Nat}(h:aR f l<=N){x:α}(hx:x∈l):f x<=N:=fh (dX f l x hx) h
theorem aa.DZ{a:aa}{N:Nat}(h:a.sz<=N):aR List.length a.bY<=N:=by rw[aa.cT]at h;omega
theorem aa.K6{a:aa}{N:Nat}(h:a.sz<=N):a.Name.length<=N:=by rw[aa.cT]at h;omega
theorem aa.zC{a:aa}{N:Nat}(h:a.sz<=N):aR aa.sz a.Kids<=N:=by rw[aa.cT]at h;omega
theorem aa.iv{a:aa}{N:Nat}(h:a.sz<=N):a.Kids.length<=N:=fh (di _ _) (aa.zC h)
theorem aa.Kv{a:aa}{N:Nat}(h:a.sz<=N):a.bY.length<=N:=fh (di _ _) (aa.DZ h)
theorem aa.iw{a x:aa}(h:x∈a.Kids):x.sz<a.sz:=by
 rw[aa.cT a];have:=oa aa.sz _ _ h;omega
theorem Zf(t:aa)(h:t.sz<=1048576):M.oJ t=some (t.Kids.any fL):=by
 have hl:=aa.iv h;have e:=jE (p:=fL) (F:=fun f i=>M.lJ f i t) (e:=()) (fun _=>true) t.Kids (by omega) (fun f k hk=>by
  show M.lJ (f+1) (k:Int) t=_
  rw[M.lJ];simp only[aa.aG,getD_lt hk,bV,ct,dY,hk,cI,aE,cQ,bJ,aD,bN hk (by omega:t.Kids.length<2^62),fL]) (fun f=>by
  show M.lJ (f+1) _ t=_
  rw[M.lJ];simp)
 unfold M.oJ;rw[aa.aG,jF];have e':M.lJ an 0 t=_:=e;rw[e'];cases t.Kids.findIdx? fL<;>simp
theorem D1(lo hi:Int):∀(m:Nat)(t:aa),t.sz<m->t.sz<=1048576->M.kM m t lo hi=some (gm (fun k=>decide (lo<=k)&&decide (k<=hi)) t)
 |0,t,h,_=>absurd h (lx _)
 |m+1,t,h,hN=>by
  have hl:=aa.iv hN;have e:=jE (p:=gm (fun k=>decide (lo<=k)&&decide (k<=hi))) (F:=fun f i=>M.lK (M.kM m) lo hi f i t) (e:=()) (fun _=>true) t.Kids (by omega) (fun f k hk=>by
   show M.lK (M.kM m) lo hi (f+1) (k:Int) t=_
   rw[M.lK];have hx:=aa.iw (cn hk);simp only[aa.aG,getD_lt hk,D1 lo hi m t.Kids[k] (by omega) (by omega),bV,ct,dY,hk,cI,aE,cQ,bJ,aD,bN hk (by omega:t.Kids.length<2^62),aQ,bf]) (fun f=>by
   show M.lK (M.kM m) lo hi (f+1) _ t=_
   rw[M.lK];simp)
  show M.xm (M.kM m) t lo hi=_
  unfold M.xm;have e':M.lK (M.kM m) lo hi an 0 t=_:=e;rw[aa.aG,e',KY,DV,jF];cases (decide (lo<=t.Kind)&&decide (t.Kind<=hi))<;>cases t.Kids.findIdx? (gm fun k=>decide (lo<=k)&&decide (k<=hi))<;>simp
theorem K7(l:List Int)(v:Int)(hl:l.length<2^62):M.kN l v=some (l.any fun x=>v==x):=by
 have e:=jE (p:=fun x=>v==x) (F:=M.qJ l v (l.length:Int)) (e:=()) (fun k=>k) l hl (fun f k hk=>by
  rw[M.qJ];simp only[getD_lt hk,bV,ct,dY,hk,cI,aE,cQ,bJ,aD,bN hk hl]) (fun f=>by rw[M.qJ];simp)
 unfold M.kN M.xo;rw[e,jF];cases l.findIdx? (fun x=>v==x)<;>simp
theorem D2(ks:List Int)(hk:ks.length<2^62):∀(m:Nat)(t:aa),t.sz<m->t.sz<=1048576->M.lL m t ks=some (gm (fun k=>ks.any fun x=>k==x) t)
 |0,t,h,_=>absurd h (lx _)
 |m+1,t,h,hN=>by
  have hl:=aa.iv hN;have e:=jE (p:=gm (fun k=>ks.any fun x=>k==x)) (F:=M.qK (M.lL m) t.Kids ks (t.Kids.length:Int)) (e:=()) (fun k=>k) t.Kids (by omega) (fun f k hk'=>by
   rw[M.qK];have hx:=aa.iw (cn hk');have c:M.tO (M.lL m) t.Kids[k] ks=some (gm (fun k=>ks.any fun x=>k==x) t.Kids[k]):=by
    unfold M.tO;simp only[aa.aG,D2 ks hk m t.Kids[k] (by omega) (by omega)];rfl
   simp only[aa.aG,getD_lt hk',c,bV,ct,dY,hk',cI,aE,cQ,bJ,aD,bN hk' (by omega:t.Kids.length<2^62),aQ,bf]) (fun f=>by
   rw[M.qK];simp)
  have e2:M.tP (M.lL m) t.Kids ks=some (t.Kids.any (gm (fun k=>ks.any fun x=>k==x))):=by
   unfold M.tP M.xp;rw[e,jF];cases t.Kids.findIdx? (gm (fun k=>ks.any fun x=>k==x))<;>simp
  show M.xq (M.lL m) t ks=_
  unfold M.xq;rw[e2,K7 ks _ hk,KY,DV];simp
theorem D3:∀(l:List aa),(∀x∈l,ek x<=x.sz+1)->fK l<=aR aa.sz l
 |[],_=>cH _
 |x::r,h=>by
  have:=D3 r fun y hy=>h y (tQ _ hy)
  have:=h x (lD ..);simp only[fK,aR];omega
theorem K8:∀(n:Nat)(t:aa),t.sz<n->ek t<=t.sz+1
 |0,t,h=>absurd h (lx _)
 |n+1,t,h=>by
  have:=D3 t.Kids fun x hx=>K8 n x (by have:=aa.iw hx;omega)
  rw[xi,aa.cT];omega
theorem Zg(t:aa):ek t<=t.sz+1:=K8 _ t (Nat.lt_succ_self _)
theorem Zh{l:List aa}{N:Nat}(h:aR aa.sz l<=N):fK l<=N:=fh (D3 l fun x _=>Zg x) h
theorem K9:∀(m:Nat)(t:aa),t.sz<m->t.sz<=1048576->M.oK m t=some ((ek t:Nat):Int)
 |0,t,h,_=>absurd h (lx _)
 |m+1,t,h,hN=>by
  have hl:=aa.iv hN;have hs:=Zh (aa.zC hN);have key:∀f k (a:Nat),k<=t.Kids.length->t.Kids.length-k<f->a+fK (t.Kids.drop k)<=1048577->M.oL (M.oK m) t.Kids (t.Kids.length:Int) f (a:Int) (k:Int)=some (((a+fK (t.Kids.drop k):Nat)):Int):=by
   intro f
   induction f with
   |zero=>intro k a h1 h2;omega
   |succ f ih=>
    intro k a h1 h2 h3;rcases fY k t.Kids.length with hk|hk
    ·rw[M.oL];have hx:=aa.iw (cn hk);rw[K0 hk]at h3⊢;have hw:Go.IntKind.wrap .i64 ((a:Int)+((ek t.Kids[k]:Nat):Int))=((a+ek t.Kids[k]:Nat):Int):=by rw[wrap_i64 (by omega) (by omega)];omega
     simp only[aa.aG,getD_lt hk,K9 m t.Kids[k] (by omega) (by omega),bV,ct,dY,hk,cI,aE,bJ,aD,bN hk (by omega:t.Kids.length<2^62),aQ,bf,hw];rw[ih (k+1) _ (by omega) (by omega) (by omega)];congr 1;omega
    ·have:k=t.Kids.length:=by omega
     subst this;rw[M.oL];simp[jC,fK]
  show M.xr (M.oK m) t=_
  unfold M.xr;have e:=key an 0 1 (dJ _) (by have:=cJ;omega) (by simp only[iy];omega);have e':M.oL (M.oK m) t.Kids (t.Kids.length:Int) an 1 0=_:=e;rw[e',xi];rfl
theorem La:∀(m:Nat)(t:aa)(L:Nat),L<m->L<=100->t.sz<=1048576->M.oM m t (L:Int)=some ((min (fx t) (L+1):Nat):Int)
 |0,t,L,h,_,_=>absurd h (lx _)
 |m+1,t,L,h,hL,hN=>by
  have hl:=aa.iv hN
  show M.xt (M.oM m) t (L:Int)=_
  unfold M.xt;cases L with
  |zero=>
   have:=K2 t;rw[show min (fx t) (0+1)=1 by omega];rfl
  |succ L=>
   have hw0:Go.IntKind.wrap .i64 (((L+1:Nat):Int)-1)=(L:Int):=by rw[wrap_i64 (by omega) (by omega)];omega
   have key:∀f k (a:Nat),k<=t.Kids.length->t.Kids.length-k<f->M.oN (M.oM m) ((L+1:Nat):Int) t.Kids (t.Kids.length:Int) f (a:Int) (k:Int)=some ((max a (min (iR (t.Kids.drop k)) (L+1)):Nat):Int):=by
    intro f
    induction f with
    |zero=>intro k a h1 h2;omega
    |succ f ih=>
     intro k a h1 h2;rcases fY k t.Kids.length with hk|hk
     ·rw[M.oN];have hx:=aa.iw (cn hk);simp only[aa.aG,getD_lt hk,hw0,La m t.Kids[k] L (by omega) (by omega) (by omega),bV,ct,dY,hk,cI,aE,bJ,aD,bN hk (by omega:t.Kids.length<2^62),aQ,bf];have hm:(bif decide (a<min (fx t.Kids[k]) (L+1))then((min (fx t.Kids[k]) (L+1):Nat):Int)else(a:Int))=((max a (min (fx t.Kids[k]) (L+1)):Nat):Int):=by
       by_cases hc:a<min (fx t.Kids[k]) (L+1)
       ·simp only[hc,cI,aE];omega
       ·simp only[hc,HO,aZ];omega
      rw[hm,ih (k+1) _ (by omega) (by omega),K1 hk];congr 1;omega
     ·have:k=t.Kids.length:=by omega
      subst this;rw[M.oN];simp[jC,iR]
   have e:=key an 0 0 (dJ _) (by have:=cJ;omega);have e':M.oN (M.oM m) ((L+1:Nat):Int) t.Kids (t.Kids.length:Int) an 0 0=_:=e;have d:(((L+1:Nat):Int)==0)=false:=by rw[ed];omega
   rw[d,e',DU];simp only[aZ,iy];rw[wrap_i64 (by omega) (by omega)];congr 1;omega
end M
namespace M
open Go.V (inB cC an cJ)
def mU(d:Nat)(t:aa):Int×Int:=if d+fx t<=5/\ek t<=24 then(((fx t:Nat):Int),((ek t:Nat):Int))else(5,25)
theorem Lc:∀(m d:Nat)(t:aa),d<=5->6<=m+d->t.sz<=1048576->M.oO m t (d:Int)=some (mU d t)
 |0,d,t,h1,h2,_=>by omega
 |m+1,d,t,h1,h2,hN=>by
  have hl:=aa.iv hN;have hdp:=K2 t
  show M.xu (M.oO m) t (d:Int)=_
  unfold M.xu;by_cases h5:d=5
  ·subst h5;have:mU 5 t=(5,25):=by unfold mU;rw[bF (by omega)]
   rw[this];rfl
  have d4:decide ((4:Int)<(d:Int))=false:=by rw[fO];omega
  by_cases h24:24<t.Kids.length
  ·have:mU d t=(5,25):=by
    unfold mU;have:=KZ t.Kids;rw[bF (by rw[xi];omega)]
   rw[this,d4];have:decide ((24:Int)<((t.Kids.length:Nat):Int))=true:=by rw[bC];omega
   rw[this];rfl
  have Zi:decide ((24:Int)<((t.Kids.length:Nat):Int))=false:=by rw[fO];omega
  have hw:Go.IntKind.wrap .i64 ((d:Int)+1)=((d+1:Nat):Int):=by rw[wrap_i64 (by omega) (by omega)];omega
  have mx:∀a b:Nat,M.oP (a:Int) (b:Int)=some ((max a b:Nat):Int):=fun a b=>by
   unfold M.oP;by_cases hc:b<a
   ·have:decide ((b:Int)<(a:Int))=true:=by rw[bC];omega
    rw[this];simp only[aE];congr 1;omega
   ·have:decide ((b:Int)<(a:Int))=false:=by rw[fO];omega
    rw[this];simp only[aZ];congr 1;omega
  have key:∀f k (a p:Nat),k<=t.Kids.length->t.Kids.length-k<f->p<=24->M.oQ (M.oO m) (d:Int) f (a:Int) (p:Int) (k:Int) t=
   some (if d+1+iR (t.Kids.drop k)<=5/\p+fK (t.Kids.drop k)<=24 then .inr (((max a (iR (t.Kids.drop k)):Nat):Int),((p+fK (t.Kids.drop k):Nat):Int))else .inl (5,25)):=by
   intro f
   induction f with
   |zero=>intro k a p h1 h2;omega
   |succ f ih=>
    intro k a p h1 h2 h3;rcases fY k t.Kids.length with hk|hk
    ·rw[M.oQ];have hx:=aa.iw (cn hk);have hc:=Lc m (d+1) t.Kids[k] (by omega) (by omega) (by omega);rw[K1 hk,K0 hk];simp only[aa.aG,getD_lt hk,hw,hc,bV,ct,dY,hk,cI,aE,bJ,aD,bN hk (by omega:t.Kids.length<2^62),aQ,bf];unfold mU;by_cases hv:d+1+fx t.Kids[k]<=5/\ek t.Kids[k]<=24
     ·rw[aF hv];have hw2:Go.IntKind.wrap .i64 ((p:Int)+((ek t.Kids[k]:Nat):Int))=((p+ek t.Kids[k]:Nat):Int):=by rw[wrap_i64 (by omega) (by omega)];omega
      dsimp only;rw[hw2,mx];by_cases hp:24<p+ek t.Kids[k]
      ·have:decide ((24:Int)<((p+ek t.Kids[k]:Nat):Int))=true:=by rw[bC];omega
       rw[this,bF (by omega)];simp
      ·have:decide ((24:Int)<((p+ek t.Kids[k]:Nat):Int))=false:=by rw[fO];omega
       rw[this];simp only[aZ,bf,bJ,aE,aQ];rw[ih (k+1) _ _ (by omega) (by omega) (by omega)];have e1:(d+1+iR (t.Kids.drop (k+1))<=5/\p+ek t.Kids[k]+fK (t.Kids.drop (k+1))<=24)↔(d+1+max (fx t.Kids[k]) (iR (t.Kids.drop (k+1)))<=5/\p+(ek t.Kids[k]+fK (t.Kids.drop (k+1)))<=24):=by omega
       by_cases hq:d+1+iR (t.Kids.drop (k+1))<=5/\p+ek t.Kids[k]+fK (t.Kids.drop (k+1))<=24
       ·rw[aF hq,aF (e1.1 hq)];congr 3
        ·omega
        ·omega
       ·rw[bF hq,bF (fun h=>hq (e1.2 h))]
     ·rw[bF hv,bF (by omega)];have hw2:Go.IntKind.wrap .i64 ((p:Int)+25)=(p:Int)+25:=wrap_i64 (by omega) (by omega);have Zj:M.oP (a:Int) 5=some ((max a 5:Nat):Int):=mx a 5;dsimp only;rw[hw2,Zj];have:decide ((24:Int)<(p:Int)+25)=true:=by rw[bC];omega
      rw[this];simp
    ·have:k=t.Kids.length:=by omega
     subst this;rw[M.oQ,jC];have hq:d+1+iR []<=5/\p+fK []<=24:=⟨by show d+1+0<=5;omega,by show p+0<=24;omega⟩;rw[aF hq];simp[iR,fK]
  have e:=key an 0 0 1 (dJ _) (by have:=cJ;omega) (by omega);have e':M.oQ (M.oO m) (d:Int) an 0 1 0 t=_:=e;rw[aa.aG,d4,Zi,e'];simp only[iy,kB,aZ];unfold mU;rw[DU,xi];by_cases hq:d+1+iR t.Kids<=5/\1+fK t.Kids<=24
  ·rw[aF hq,aF (by omega)];simp only;congr 2;rw[wrap_i64 (by omega) (by omega)];omega
  ·rw[bF hq,bF (by omega)]
theorem Ld{p:Int->Bool}{l:List aa}(h:l.length=1):gm p (l.getD 0 aa.zero)=je p l:=by
 match l,h with
 |[x],_=>simp[je]
theorem D5{p q:Int->Bool}(h:∀k,p k=q k):gm p=gm q:=by
 have:p=q:=funext h;rw[this]
theorem Zk(k:Int):(decide ((21:Int)<=k)&&decide (k<=21))=(k==21):=by
 rw[eu];simp only[bk,bC,jc];omega
theorem tR(n m:Nat):(((n:Nat):Int)==((m:Nat):Int))=(n==m):=by
 rw[eu];simp only[jc];omega
theorem Le(n:Nat):(((n:Nat):Int)==1)=(n==1):=tR n 1
theorem Lh(n:Nat):(((n:Nat):Int)==2)=(n==2):=tR n 2
theorem Lj(n:Nat):(((n:Nat):Int)==0)=(n==0):=tR n 0
theorem Ll(n:Nat):inB (0:Int) n=decide (0<n):=ct 0 n
theorem Zl(t:aa)(h:t.sz<=1048576):M.tU t=some (oC t):=by
 have hn:=K4 t.Name (aa.K6 h);have hb:=Zc t.bY (aa.DZ h);have hu:=Zf t h;have hh:t.Kids.length=1->M.lM (M.aa.re (List.getD t.Kids 0 aa.zero)) 21 21=some (je (fun k=>k==21) t.Kids):=fun h1=>by
  have hx:(t.Kids.getD 0 aa.zero).sz<t.sz:=by
   rw[getD_lt (by omega)];exact aa.iw (cn _)
  rw[aa.aG,show M.lM=M.kM an from rfl,D1 21 21 an _ (kL (by omega)) (by omega),D5 Zk,Ld h1]
 unfold M.tU;simp only[aa.aG,hn,hb,hu,aQ,bf,cQ,aD,bJ,aE,Le,Lh,Lj,tR,Ll,Int.toNat_zero];unfold oC zA;have e0:decide ((0:Int)<((t.bY.length:Nat):Int))= !(t.bY.length==0):=by
  rw[eu];simp only[bC,eQ,ed];omega
 have e1:decide ((1:Int)<=((t.Kids.length:Nat):Int))=decide (1<=t.Kids.length):=by simp only[cP];omega
 have e2:decide (((t.Kids.length:Nat):Int)<=6)=decide (t.Kids.length<=6):=by simp only[cP];omega
 rw[e0,e1,e2];have eU:mS t.bY=true->(t.bY.length==0)=false:=fun h=>by
  simp only[mS,bk,bC]at h;rw[ed];omega
 have eV:fw t.Name=true->(t.Name==[])=false:=fun h=>by
  simp only[fw,bk,bC]at h;rw[ed];intro e;rw[e]at h;simp at h
 unfold DW DX;have hz:t.Kids.length=1->decide (0<t.Kids.length)=true:=fun h1=>by rw[h1];rfl
 have hl1:(t.Kids.length==1)=true->t.Kids.length=1:=fun h1=>by simpa using h1
 have hbr:(t.Kids.length==1)=true->M.lM (M.aa.re (List.getD t.Kids 0 aa.zero)) 21 21=some (je (fun k=>k==21) t.Kids)/\decide (0<t.Kids.length)=true:=fun h1=>⟨hh (hl1 h1),hz (hl1 h1)⟩
 clear hn hb hu hh hz hl1;simp only[aa.aG]at hbr⊢;generalize hK:t.Kind=K;generalize (t.Name==[])=nn at eV⊢;generalize fw t.Name=no at eV⊢;generalize mS t.bY=lo at eU⊢;generalize (t.bY.length==0)=ll at eU⊢;generalize M.lM (List.getD t.Kids 0 aa.zero) 21 21=o at hbr⊢;generalize decide (0<t.Kids.length)=z at hbr⊢;generalize (t.Kids.length==1)=l1 at hbr⊢;generalize je (fun k=>k==21) t.Kids=kh at hbr⊢;generalize t.Kids.any fL=au;generalize (t.Kids.length==2)=l2;generalize (t.Kids.length==0)=l0;generalize (t.Kids.length==t.bY.length)=lk;generalize decide (1<=t.Kids.length)=ge;generalize decide (t.Kids.length<=6)=le;clear hK h e0 e1 e2;by_cases h12:K=12
 ·subst h12;cases l1
  ·cases no<;>cases nn<;>simp at eV<;>cases lo<;>cases ll<;>simp at eU<;>simp
  ·obtain⟨rfl,rfl⟩:=hbr rfl;cases no<;>cases nn<;>simp at eV<;>cases lo<;>cases ll<;>simp at eU<;>simp
 by_cases h13:K=13
 ·subst h13;cases l1
  ·cases no<;>cases nn<;>simp at eV<;>cases lo<;>cases ll<;>simp at eU<;>simp
  ·obtain⟨rfl,rfl⟩:=hbr rfl;cases no<;>cases nn<;>simp at eV<;>cases lo<;>cases ll<;>simp at eU<;>simp
 by_cases gK:K=14
 ·subst gK;cases l1
  ·cases no<;>cases nn<;>simp at eV<;>cases lo<;>cases ll<;>simp at eU<;>simp
  ·obtain⟨rfl,rfl⟩:=hbr rfl;cases no<;>cases nn<;>simp at eV<;>cases lo<;>cases ll<;>simp at eU<;>simp
 by_cases h15:K=15
 ·subst h15;cases l1
  ·cases no<;>cases nn<;>simp at eV<;>cases lo<;>cases ll<;>simp at eU<;>simp
  ·obtain⟨rfl,rfl⟩:=hbr rfl;cases no<;>cases nn<;>simp at eV<;>cases lo<;>cases ll<;>simp at eU<;>simp
 by_cases h16:K=16
 ·subst h16;cases l1
  ·cases no<;>cases nn<;>simp at eV<;>cases lo<;>cases ll<;>simp at eU<;>simp
  ·obtain⟨rfl,rfl⟩:=hbr rfl;cases no<;>cases nn<;>simp at eV<;>cases lo<;>cases ll<;>simp at eU<;>simp
 by_cases h17:K=17
 ·subst h17;cases l1
  ·cases no<;>cases nn<;>simp at eV<;>cases lo<;>cases ll<;>simp at eU<;>simp
  ·obtain⟨rfl,rfl⟩:=hbr rfl;cases no<;>cases nn<;>simp at eV<;>cases lo<;>cases ll<;>simp at eU<;>simp
 by_cases h18:K=18
 ·subst h18;cases l1
  ·cases no<;>cases nn<;>simp at eV<;>cases lo<;>cases ll<;>simp at eU<;>simp
  ·obtain⟨rfl,rfl⟩:=hbr rfl;cases no<;>cases nn<;>simp at eV<;>cases lo<;>cases ll<;>simp at eU<;>simp
 by_cases h19:K=19
 ·subst h19;cases l1
  ·cases no<;>cases nn<;>simp at eV<;>cases lo<;>cases ll<;>simp at eU<;>simp
  ·obtain⟨rfl,rfl⟩:=hbr rfl;cases no<;>cases nn<;>simp at eV<;>cases lo<;>cases ll<;>simp at eU<;>simp
 by_cases h20:K=20
 ·subst h20;cases l1
  ·cases no<;>cases nn<;>simp at eV<;>cases lo<;>cases ll<;>simp at eU<;>simp
  ·obtain⟨rfl,rfl⟩:=hbr rfl;cases no<;>cases nn<;>simp at eV<;>cases lo<;>cases ll<;>simp at eU<;>simp
 by_cases h21:K=21
 ·subst h21;cases l1
  ·cases no<;>cases nn<;>simp at eV<;>cases lo<;>cases ll<;>simp at eU<;>simp
  ·obtain⟨rfl,rfl⟩:=hbr rfl;cases no<;>cases nn<;>simp at eV<;>cases lo<;>cases ll<;>simp at eU<;>simp
 by_cases h22:K=22
 ·subst h22;cases l1
  ·cases no<;>cases nn<;>simp at eV<;>cases lo<;>cases ll<;>simp at eU<;>simp
  ·obtain⟨rfl,rfl⟩:=hbr rfl;cases no<;>cases nn<;>simp at eV<;>cases lo<;>cases ll<;>simp at eU<;>simp
 by_cases h23:K=23
 ·subst h23;cases l1
  ·cases no<;>cases nn<;>simp at eV<;>cases lo<;>cases ll<;>simp at eU<;>simp
  ·obtain⟨rfl,rfl⟩:=hbr rfl;cases no<;>cases nn<;>simp at eV<;>cases lo<;>cases ll<;>simp at eU<;>simp
 have q1:(K==20)=false:=by simpa using h20
 have q2:(K==21)=false:=by simpa using h21
 have q3:(decide ((16:Int)<=K)&&decide (K<=19))=false:=by
  rw[tg];simp only[ne_eq,bk,bC];omega
 have q4:(K==12)=false:=by simpa using h12
 have q5:(K==13)=false:=by simpa using h13
 have q6:(K==14)=false:=by simpa using gK
 have q7:(K==15)=false:=by simpa using h15
 have q8:(K==16)=false:=by simpa using h16
 have q9:(K==17)=false:=by simpa using h17
 have q10:(K==22)=false:=by simpa using h22
 have q11:(K==23)=false:=by simpa using h23
 simp only[q1,q2,q3,q4,q5,q6,q7,q8,q9,q10,q11,h12,h13,gK,h15,h16,h17,h22,h23,or_self,i9];cases nn<;>cases ll<;>simp
end M
namespace M
open Go.V (inB cC an cJ)
theorem Lm:∀(m:Nat)(t:aa),t.sz<m->t.sz<=1048576->M.lN m t=some (eG t)
 |0,t,h,_=>absurd h (lx _)
 |m+1,t,h,hN=>by
  have hl:=aa.iv hN;have e:=xx (p:=eG) (F:=fun f i=>M.lO (M.lN m) f i t) (e:=()) (b:=false) t.Kids (by omega) (fun f k hk=>by
   show M.lO (M.lN m) (f+1) (k:Int) t=_
   rw[M.lO];have hx:=aa.iw (cn hk);simp only[aa.aG,getD_lt hk,Lm m t.Kids[k] (by omega) (by omega),bV,ct,dY,hk,cI,aE,cQ,bJ,aD,bN hk (by omega:t.Kids.length<2^62),aQ,bf];cases eG t.Kids[k]<;>rfl) (fun f=>by
   show M.lO (M.lN m) (f+1) _ t=_
   rw[M.lO];simp)
  show M.xy (M.lN m) t=_
  unfold M.xy;have e':M.lO (M.lN m) an 0 t=_:=e;rw[aa.aG,Zl t hN,e',xj,xk];cases oC t<;>cases t.Kids.all eG<;>simp
theorem Ln(t:aa)(h:t.sz<=1048576):M.oR t=some (j6 t):=by
 unfold M.oR;have e1:M.zD t=some (eG t):=Lm an t (kL h) h;have e2:M.zE t 1=some (mU 1 t):=Lc an 1 t (by omega) (by have:=cJ;omega) h;simp only[aa.aG,e1,e2,aQ,bf,cQ,aD,aE];unfold j6 mU;by_cases hq:1+fx t<=5/\ek t<=24
 ·rw[aF hq];have a1:decide (((fx t:Nat):Int)<=4)=decide (fx t<=4):=by simp only[cP];omega
  have a2:decide (((ek t:Nat):Int)<=24)=decide (ek t<=24):=by simp only[cP];omega
  dsimp only;rw[a1,a2]
 ·rw[bF hq];have:(decide (fx t<=4)&&decide (ek t<=24))=false:=by
   rw[tg];simp only[ne_eq,bk,bC];omega
  rw[this];rfl
theorem Zm(t:aa)(h:t.sz<=1048576):M.tV t=some (j6 t):=by
 unfold M.tV;simp only[aa.aG,Ln t h];rfl
end M
namespace M
open Go.V (inB cC an cJ)
theorem Zn(l:List aa)(hl:l.length<=1048576):M.tW l=some (l.any fL):=by
 have e:=jE (p:=fL) (F:=M.qL l (l.length:Int)) (e:=()) (fun k=>k) l (by omega) (fun f k hk=>by
  rw[M.qL];simp only[getD_lt hk,bV,ct,dY,hk,cI,aE,cQ,bJ,aD,bN hk (by omega:l.length<2^62)];rfl) (fun f=>by rw[M.qL];simp)
 unfold M.tW M.xz;rw[e,jF];cases l.findIdx? fL<;>simp
theorem Zo(t:aa)(h:t.sz<=1048576)(n:Nat):M.mV t (n:Int)=some ((t.Kids.length==n)&& !t.Kids.any fL):=by
 unfold M.mV;rw[Zn t.Kids (aa.iv h)];simp only[bf,cQ,aD,aE,aQ,tR]
theorem Zp(t:aa)(h:t.sz<=1048576)(rec:aa->Option Bool)(b:Bool)(hb:M.qM rec t.Kids=some (!b)):M.tX rec t=some (b&&oC t):=by
 have hn:=K3 t.Name (aa.K6 h);have hlab:=Zd t.bY (aa.DZ h);have hk:=Zo t h;have hk1:M.mV t 1=some ((t.Kids.length==1)&& !t.Kids.any fL):=hk 1;have hh:t.Kids.length=1->M.lP (M.aa.re (List.getD t.Kids 0 aa.zero)) [21]=some (je (fun k=>k==21) t.Kids):=fun h1=>by
  have hx:(t.Kids.getD 0 aa.zero).sz<t.sz:=by
   rw[getD_lt (by omega)];exact aa.iw (cn _)
  have e:gm (fun k=>[(21:Int)].any fun x=>k==x)=gm (fun k=>k==21):=D5 fun k=>by simp
  rw[aa.aG,show M.lP=M.lL an from rfl,D2 [21] (by simp) an _ (kL (by omega)) (by omega),e,Ld h1]
 unfold M.tX;simp only[aa.aG,hb,hn,hlab,hk,hk1,aQ,bf,cQ,aD,bJ,aE,Le,Lh,Lj,tR,Ll,Int.toNat_zero];unfold oC zA;have e0:decide ((0:Int)<((t.bY.length:Nat):Int))= !(t.bY.length==0):=by
  rw[eu];simp only[bC,eQ,ed];omega
 have e1:decide ((1:Int)<=((t.Kids.length:Nat):Int))=decide (1<=t.Kids.length):=by simp only[cP];omega
 have e2:decide (((t.Kids.length:Nat):Int)<=6)=decide (t.Kids.length<=6):=by simp only[cP];omega
 rw[e0,e1,e2];unfold DW DX;have hz:t.Kids.length=1->decide (0<t.Kids.length)=true:=fun h1=>by rw[h1];rfl
 have hl1:(t.Kids.length==1)=true->t.Kids.length=1:=fun h1=>by simpa using h1
 have hbr:(t.Kids.length==1)=true->M.lP (M.aa.re (List.getD t.Kids 0 aa.zero)) [21]=some (je (fun k=>k==21) t.Kids)/\decide (0<t.Kids.length)=true:=fun h1=>⟨hh (hl1 h1),hz (hl1 h1)⟩
 clear hn hlab hk hk1 hh hz hl1 hb;simp only[aa.aG]at hbr⊢;generalize hK:t.Kind=K;generalize (t.Name==[])=nn;generalize fw t.Name=no;generalize mS t.bY=lo;generalize (t.bY.length==0)=ll;generalize M.lP (List.getD t.Kids 0 aa.zero) [21]=o at hbr⊢;generalize decide (0<t.Kids.length)=z at hbr⊢;generalize (t.Kids.length==1)=l1 at hbr⊢;generalize je (fun k=>k==21) t.Kids=kh at hbr⊢;generalize t.Kids.any fL=au;generalize (t.Kids.length==2)=l2;generalize (t.Kids.length==0)=l0;have Lo:(t.Kids.length==t.Kids.length)=true:=by simp
 rw[Lo];generalize (t.Kids.length==t.bY.length)=lk;generalize decide (1<=t.Kids.length)=ge;generalize decide (t.Kids.length<=6)=le;clear hK h e0 e1 e2 Lo;cases b
 ·simp
 by_cases h12:K=12
 ·subst h12;cases l1
  ·cases no<;>cases nn<;>cases lo<;>cases ll<;>simp
  ·obtain⟨rfl,rfl⟩:=hbr rfl;cases no<;>cases nn<;>cases lo<;>cases ll<;>simp
 by_cases h13:K=13
 ·subst h13;cases l1
  ·cases no<;>cases nn<;>cases lo<;>cases ll<;>simp
  ·obtain⟨rfl,rfl⟩:=hbr rfl;cases no<;>cases nn<;>cases lo<;>cases ll<;>simp
 by_cases gK:K=14
 ·subst gK;cases l1
  ·cases no<;>cases nn<;>cases lo<;>cases ll<;>simp
  ·obtain⟨rfl,rfl⟩:=hbr rfl;cases no<;>cases nn<;>cases lo<;>cases ll<;>simp
 by_cases h15:K=15
 ·subst h15;cases l1
  ·cases no<;>cases nn<;>cases lo<;>cases ll<;>simp
  ·obtain⟨rfl,rfl⟩:=hbr rfl;cases no<;>cases nn<;>cases lo<;>cases ll<;>simp
 by_cases h16:K=16
 ·subst h16;cases l1
  ·cases no<;>cases nn<;>cases lo<;>cases ll<;>simp
  ·obtain⟨rfl,rfl⟩:=hbr rfl;cases no<;>cases nn<;>cases lo<;>cases ll<;>simp
 by_cases h17:K=17
 ·subst h17;cases l1
  ·cases no<;>cases nn<;>cases lo<;>cases ll<;>simp
  ·obtain⟨rfl,rfl⟩:=hbr rfl;cases no<;>cases nn<;>cases lo<;>cases ll<;>simp
 by_cases h18:K=18
 ·subst h18;cases l1
  ·cases no<;>cases nn<;>cases lo<;>cases ll<;>simp
  ·obtain⟨rfl,rfl⟩:=hbr rfl;cases no<;>cases nn<;>cases lo<;>cases ll<;>simp
 by_cases h19:K=19
 ·subst h19;cases l1
  ·cases no<;>cases nn<;>cases lo<;>cases ll<;>simp
  ·obtain⟨rfl,rfl⟩:=hbr rfl;cases no<;>cases nn<;>cases lo<;>cases ll<;>simp
 by_cases h20:K=20
 ·subst h20;cases l1
  ·cases no<;>cases nn<;>cases lo<;>cases ll<;>simp
  ·obtain⟨rfl,rfl⟩:=hbr rfl;cases no<;>cases nn<;>cases lo<;>cases ll<;>simp
 by_cases h21:K=21
 ·subst h21;cases l1
  ·cases no<;>cases nn<;>cases lo<;>cases ll<;>simp
  ·obtain⟨rfl,rfl⟩:=hbr rfl;cases no<;>cases nn<;>cases lo<;>cases ll<;>simp
 by_cases h22:K=22
 ·subst h22;cases l1
  ·cases no<;>cases nn<;>cases lo<;>cases ll<;>simp
  ·obtain⟨rfl,rfl⟩:=hbr rfl;cases no<;>cases nn<;>cases lo<;>cases ll<;>simp
 by_cases h23:K=23
 ·subst h23;cases l1
  ·cases no<;>cases nn<;>cases lo<;>cases ll<;>simp
  ·obtain⟨rfl,rfl⟩:=hbr rfl;cases no<;>cases nn<;>cases lo<;>cases ll<;>simp
 have q1:(K==20)=false:=by simpa using h20
 have q2:(K==21)=false:=by simpa using h21
 have q3:(decide ((16:Int)<=K)&&decide (K<=19))=false:=by
  rw[tg];simp only[ne_eq,bk,bC];omega
 have q4:(K==12)=false:=by simpa using h12
 have q5:(K==13)=false:=by simpa using h13
 have q6:(K==14)=false:=by simpa using gK
 have q7:(K==15)=false:=by simpa using h15
 have q8:(K==16)=false:=by simpa using h16
 have q9:(K==17)=false:=by simpa using h17
 have q10:(K==22)=false:=by simpa using h22
 have q11:(K==23)=false:=by simpa using h23
 simp only[q1,q2,q3,q4,q5,q6,q7,q8,q9,q10,q11,h12,h13,gK,h15,h16,h17,h22,h23,or_self,i9];cases nn<;>cases ll<;>simp
theorem Lp:∀(m:Nat)(t:aa),t.sz<m->t.sz<=1048576->M.mW m t=some (eG t)
 |0,t,h,_=>absurd h (lx _)
 |m+1,t,h,hN=>by
  have hl:=aa.iv hN;have e:=jE (p:=fun x=> !eG x) (F:=M.qN (M.mW m) t.Kids (t.Kids.length:Int)) (e:=()) (fun k=>k) t.Kids (by omega) (fun f k hk=>by
   rw[M.qN];have hx:=aa.iw (cn hk);have c:M.tY (M.mW m) t.Kids[k]=some (!eG t.Kids[k]):=by
    unfold M.tY;simp only[aa.aG,Lp m t.Kids[k] (by omega) (by omega)];rfl
   simp only[aa.aG,getD_lt hk,c,bV,ct,dY,hk,cI,aE,cQ,bJ,aD,bN hk (by omega:t.Kids.length<2^62),aQ,bf]) (fun f=>by
   rw[M.qN];simp)
  have e2:M.qM (M.mW m) t.Kids=some (!qF t.Kids):=by
   unfold M.qM M.xA;have e3:(!qF t.Kids)=t.Kids.any fun x=> !eG x:=by rw[xk,tN]
   rw[e,e3,jF];cases t.Kids.findIdx? (fun x=> !eG x)<;>simp
  show M.tX (M.mW m) t=_
  rw[Zp t hN _ _ e2,xj,Bool.and_comm]
theorem Zq(t:aa)(h:t.sz<=1048576):M.tZ t=some (j6 t):=by
 unfold M.tZ;have e1:M.zF t=some (eG t):=Lp an t (kL h) h;have e2:M.zG t 4=some ((min (fx t) 5:Nat):Int):=La an t 4 (by have:=cJ;omega) (by omega) h;have e3:M.zH t=some ((ek t:Nat):Int):=K9 an t (kL h) h;simp only[aa.aG,e1,e2,e3,aQ,bf,cQ,aD,aE];have a1:decide (((min (fx t) 5:Nat):Int)<=4)=decide (fx t<=4):=by simp only[cP];omega
 have a2:decide (((ek t:Nat):Int)<=24)=decide (ek t<=24):=by simp only[cP];omega
 rw[a1,a2];rfl
end M
