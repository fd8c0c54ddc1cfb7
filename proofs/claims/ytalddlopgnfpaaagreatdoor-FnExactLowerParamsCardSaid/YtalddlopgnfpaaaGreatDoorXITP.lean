/-
  NAMES AND TYPES: what is right, in plain Lean.
-/
import Derived.Test.YtalddlopgnfpaaaGreatDoorXIplA
import Derived.Test.YtalddlopgnfpaaaGreatDoorXIGH
set_option linter.unusedVariables false
namespace M
open Go.V (inB bV ah cC)
def qz(c:UInt8):Bool:=decide ((97:Int)<=((c.toNat:Nat):Int))&&decide (((c.toNat:Nat):Int)<=122)
def K0(c:UInt8):Bool:=decide ((48:Int)<=((c.toNat:Nat):Int))&&decide (((c.toNat:Nat):Int)<=57)
def sU(c:UInt8):Bool:=((c.toNat:Nat):Int)==45
def qA(s:List UInt8)(k:Nat):Bool:=qz (s.getD k 0)||(decide (0<k)&&((K0 (s.getD k 0)||sU (s.getD k 0))&& !(sU (s.getD k 0)&&sU (s.getD (k-1) 0))))
def gI(s:List UInt8):Bool:=(List.range s.length).all (qA s)&&((decide (1<=s.length)&&decide (s.length<=12))&& !sU (s.getD (s.length-1) 0))
def oN(l:List (List UInt8)):Bool:=(decide (1<=l.length)&&decide (l.length<=16))&&(nodupB l&&l.all gI)
mutual
def dO:aa->Nat
 |.mk _ _ _ kids=>1+dF kids
def dF:List aa->Nat
 |[]=>0
 |x::r=>dO x+dF r
end
mutual
def gJ:aa->Nat
 |.mk _ _ _ kids=>1+kg kids
def kg:List aa->Nat
 |[]=>0
 |x::r=>max (gJ x) (kg r)
end
mutual
def jL(p:Int->Bool):aa->Bool
 |.mk k _ _ kids=>p k||kQ p kids
def kQ(p:Int->Bool):List aa->Bool
 |[]=>false
 |x::r=>jL p x||kQ p r
end
theorem vl(t:aa):dO t=1+dF t.Kids:=by cases t;rfl
theorem K1(t:aa):gJ t=1+kg t.Kids:=by cases t;rfl
theorem Yn(p:Int->Bool)(t:aa):jL p t=(p t.Kind||kQ p t.Kids):=by cases t;rfl
theorem K2(p:Int->Bool):∀l,kQ p l=l.any (jL p)
 |[]=>rfl
 |x::r=>by rw[kQ,List.any_cons,K2 p r]
def jd(t:aa):Bool:=t.Kind==1
def K3(t:aa):Bool:=(t.Kind==20)||(t.Kind==21)
def AX(t:aa):Bool:=decide ((16:Int)<=t.Kind)&&decide (t.Kind<=19)
def sK(t:aa):Bool:=
 if t.Kind=12\/t.Kind=13 then(t.Kids.length==1)&& !t.Kids.any jd
 else if t.Kind=14 then t.Kids.length==2
 else if t.Kind=15 then(decide (1<=t.Kids.length)&&decide (t.Kids.length<=6))&& !t.Kids.any jd
 else if t.Kind=16 then(t.Kids.length==t.bu.length)&& !t.Kids.any jd
 else if t.Kind=17 then t.Kids.length==t.bu.length
 else if t.Kind=22\/t.Kind=23 then(t.Kids.length==1)&& !kQ (fun k=>k==21) t.Kids
 else(decide ((1:Int)<=t.Kind)&&decide (t.Kind<=23))&&(t.Kids.length==0)
def jH(t:aa):Bool:=
 ((if AX t then oN t.bu else t.bu.length==0)&&(if K3 t then gI t.Name else t.Name==[]))&&sK t
mutual
def bj:aa->Bool
 |.mk k n l kids=>jH (.mk k n l kids)&&vm kids
def vm:List aa->Bool
 |[]=>true
 |x::r=>bj x&&vm r
end
theorem oM(t:aa):bj t=(jH t&&vm t.Kids):=by cases t;rfl
theorem yA:∀l,vm l=l.all bj
 |[]=>rfl
 |x::r=>by rw[vm,List.all_cons,yA r]
def fP(t:aa):Bool:=(decide (gJ t<=4)&&decide (dO t<=24))&&bj t
theorem Yo:∀(l:List aa)(x:aa),x∈l->dO x<=dF l
 |y::r,x,h=>by
  rcases dY.1 h with rfl|h
  ·simp only[dF];omega
  ·have:=Yo r x h;simp only[dF];omega
theorem Yp:∀l:List aa,l.length<=dF l
 |[]=>bg _
 |x::r=>by have:=Yp r;simp only[dF,bX,vl x];omega
theorem sR{l:List aa}{k:Nat}(h:k<l.length):dF (l.drop k)=dO l[k]+dF (l.drop (k+1)):=by rw[dZ h];rfl
theorem Yq{l:List aa}{k:Nat}(h:k<l.length):kg (l.drop k)=max (gJ l[k]) (kg (l.drop (k+1))):=by rw[dZ h];rfl
theorem Yr(t:aa):1<=gJ t:=by rw[K1];omega
end M
set_option linter.unusedSimpArgs false
namespace M
open Go.V (inB bV ah cC)
theorem eU{n:Nat}(h:n<=1048576):n<ah:=by have:=cC;omega
theorem Fz{k n:Nat}(h0:0<k)(h:k<=n)(hn:n<2^62):Go.IntKind.wrap .i64 ((k:Int)-1)=((k-1:Nat):Int):=by
 rw[wrap_i64 (by omega) (by omega)];omega
theorem Ys(s:List UInt8)(hs:s.length<=1048576):M.rE s=some (gI s):=by
 unfold M.rE;rw[sS (p:=qA s) (F:=M.rD s (s.length:Int)) (e:=s) (b:=false) s.length (by omega) (fun f k hk=>by
  rw[M.rD];simp only[bL,cq,cJ,hk,cn,aA,cD,bM,aO,cm hk (gU hs),qA,qz,K0,sU,kf];generalize decide ((97:Int)<=(((s.getD k 0).toNat:Nat):Int))=a1;generalize decide ((((s.getD k 0).toNat:Nat):Int)<=122)=a2;generalize decide ((48:Int)<=(((s.getD k 0).toNat:Nat):Int))=a3;generalize decide ((((s.getD k 0).toNat:Nat):Int)<=57)=a4;generalize ((((s.getD k 0).toNat:Nat):Int)==45)=a5;rcases jq k with h0|h0
  ·subst h0;cases a1<;>cases a2<;>cases a3<;>cases a4<;>cases a5<;>simp
  ·have e0:((k:Int)==0)=false:=by rw[kK];omega
   have hk1:k-1<s.length:=by omega
   simp only[e0,Fz h0 (Nat.le_of_lt hk) (gU hs),bL,cq,hk1,h0,cn];generalize ((((s.getD (k-1) 0).toNat:Nat):Int)==45)=a6;cases a1<;>cases a2<;>cases a3<;>cases a4<;>cases a5<;>cases a6<;>simp) (fun f=>by rw[M.rD];simp)]
 unfold gI;cases hall:(List.range s.length).all (qA s)
 ·simp
 ·simp only[fQ,kf,bM];rcases jq s.length with h0|h0
  ·simp[h0]
  ·have h1:s.length-1<s.length:=by omega
   have e1:decide ((1:Int)<=((s.length:Nat):Int))=decide (1<=s.length):=by simp only[gK];omega
   have e2:decide (((s.length:Nat):Int)<=12)=decide (s.length<=12):=by simp only[gK];omega
   simp only[Fz h0 (bg _) (gU hs),bL,cq,h1,cn,cD,aO,aA,e1,e2,sU]
theorem Yt(s:List UInt8)(hs:s.length<=1048576):M.rn s=some (gI s):=by
 unfold M.rn;rcases jq s.length with h0|h0
 ·have:s=[]:=iZ h0;subst this;rfl
 have h1:s.length-1<s.length:=by omega
 simp only[Fz h0 (bg _) (gU hs),bL,cq,h1,Int.toNat_zero,cn,cD,aO,aA];have hz:inB (0:Int) s.length=true:=by
  show inB ((0:Nat):Int) s.length=true
  rw[cq];simpa using h0
 simp only[hz,cD,aO,aA];have e1:decide (((s.length:Nat):Int)<1)= !decide (1<=s.length):=by rw[<-oY];simp only[gK];omega
 have e2:decide ((12:Int)<((s.length:Nat):Int))= !decide (s.length<=12):=by rw[<-oY];simp only[gK];omega
 have e3:decide ((((s.getD 0 0).toNat:Nat):Int)<97)= !decide ((97:Int)<=(((s.getD 0 0).toNat:Nat):Int)):=by rw[<-oY];simp only[gK];omega
 have e4:decide ((122:Int)<(((s.getD 0 0).toNat:Nat):Int))= !decide ((((s.getD 0 0).toNat:Nat):Int)<=122):=by rw[<-oY];simp only[gK];omega
 rw[e1,e2,e3,e4];by_cases hlow:qz (s.getD 0 0)=true
 ·have hl:=hlow;simp only[qz,aZ]at hl;rw[sS (p:=qA s) (F:=M.tY s) (e:=()) (b:=false) s.length (by omega) (fun f k hk=>by
   rw[M.tY];have f1:decide ((((s.getD k 0).toNat:Nat):Int)<97)= !decide ((97:Int)<=(((s.getD k 0).toNat:Nat):Int)):=by rw[<-oY];simp only[gK];omega
   have f2:decide ((122:Int)<(((s.getD k 0).toNat:Nat):Int))= !decide ((((s.getD k 0).toNat:Nat):Int)<=122):=by rw[<-oY];simp only[gK];omega
   have f3:decide ((((s.getD k 0).toNat:Nat):Int)<48)= !decide ((48:Int)<=(((s.getD k 0).toNat:Nat):Int)):=by rw[<-oY];simp only[gK];omega
   have f4:decide ((57:Int)<(((s.getD k 0).toNat:Nat):Int))= !decide ((((s.getD k 0).toNat:Nat):Int)<=57):=by rw[<-oY];simp only[gK];omega
   simp only[bL,cq,cJ,hk,cn,aA,cD,bM,aO,cm hk (gU hs),qA,qz,K0,sU,kf,f1,f2,f3,f4];have dash:qz (s.getD k 0)=true->((((s.getD k 0).toNat:Nat):Int)==45)=false:=fun h=>by
    simp only[qz,aZ,bh]at h;rw[kK];omega
   simp only[qz]at dash;rcases jq k with k0|k0
   ·subst k0;rw[hl.1,hl.2]at*;simp only[fF]at dash;rw[dash trivial];simp
   ·have hk1:k-1<s.length:=by omega
    simp only[Fz k0 (Nat.le_of_lt hk) (gU hs),bL,cq,hk1,k0,cn];generalize ((((s.getD (k-1) 0).toNat:Nat):Int)==45)=a6
    revert dash
    generalize decide ((97:Int)<=(((s.getD k 0).toNat:Nat):Int))=a1;generalize decide ((((s.getD k 0).toNat:Nat):Int)<=122)=a2;generalize decide ((48:Int)<=(((s.getD k 0).toNat:Nat):Int))=a3;generalize decide ((((s.getD k 0).toNat:Nat):Int)<=57)=a4;generalize ((((s.getD k 0).toNat:Nat):Int)==45)=a5;intro dash;cases a1<;>cases a2<;>cases a3<;>cases a4<;>cases a5<;>cases a6<;>simp at dash⊢) (fun f=>by rw[M.tY];simp)]
  rw[hl.1,hl.2];unfold gI sU;cases (List.range s.length).all (qA s)<;>cases decide (1<=s.length)<;>cases decide (s.length<=12)<;>cases ((((s.getD (s.length-1) 0).toNat:Nat):Int)==45)<;>rfl
 ·have hno:gI s=false:=by
   unfold gI;have:(List.range s.length).all (qA s)=false:=by
    rw[List.all_eq_false];refine⟨0,by simpa using h0,?_⟩;simp only[vn]at hlow;simp only[qA,hlow];intro h;cases h
   rw[this];rfl
  rw[hno];simp only[vn]at hlow;simp only[qz]at hlow;cases h3:decide ((97:Int)<=(((s.getD 0 0).toNat:Nat):Int))<;>cases h4:decide ((((s.getD 0 0).toNat:Nat):Int)<=122)<;>rw[h3,h4]at hlow<;>simp at hlow⊢
end M
namespace M
open Go.V (inB bV ah cC)
theorem nodup_range(l:List (List UInt8)):(List.range l.length).all (fun i=>(List.range i).all fun k=> !(l.getD k []==l.getD i []))=nodupB l:=by
 rw[sV,K4,List.Nodup,Bg];simp only[eP,yt,iv,kK];constructor
 ·intro h i j hi hj hij e;have:=h j hj i hij;rw[getD_lt hi,getD_lt hj]at this;exact this e
 ·intro h i hi k hk e;rw[getD_lt hi,getD_lt (by omega)]at e;exact h k i (by omega) hi hk e
theorem al5{α:Type}(p:α->Bool)(l:List α)(d:α):(List.range l.length).all (fun i=>p (l.getD i d))=l.all p:=by
 rw[sV];simp only[eP,yt];constructor
 ·intro h x hx;obtain⟨i,hi,rfl⟩:=oQ hx;have:=h i hi
  rwa [getD_lt hi]at this
 ·intro h i hi;rw[getD_lt hi];exact h _ (bn hi)
theorem al6{α:Type}(p q:α->Bool)(l:List α):l.all (fun x=>p x&&q x)=(l.all p&&l.all q):=by
 induction l with
 |nil=>rfl
 |cons x r ih=>simp only[List.all_cons,ih];cases p x<;>cases q x<;>cases r.all p<;>cases r.all q<;>rfl
theorem al7(l:List (List UInt8))(h:aR List.length l<=1048576):M.wk l=some (oN l):=by
 have hl:=eS (ed List.length l) h;unfold M.wk;have e1:decide (((l.length:Nat):Int)<1)= !decide (1<=l.length):=by rw[<-oY];simp only[gK];omega
 have e2:decide ((16:Int)<((l.length:Nat):Int))= !decide (l.length<=16):=by rw[<-oY];simp only[gK];omega
 rw[e1,e2,sS (p:=fun i=>gI (l.getD i [])&&(List.range i).all fun k=> !(l.getD k []==l.getD i [])) (F:=fun f i=>M.pG f l i) (e:=()) (b:=false) l.length (by omega) (fun f k hk=>by
  show M.pG (f+1) l (k:Int)=_
  rw[M.pG];have hn:(l.getD k []).length<=1048576:=by rw[getD_lt hk];exact eS (ij List.length _ _ (bn hk)) h
  have inner:M.rq l (k:Int) ah 0=some (if(List.range k).all (fun j=> !(l.getD j []==l.getD k []))then .inr (l,(k:Int))else .inl false):=
   sS (p:=fun j=> !(l.getD j []==l.getD k [])) (F:=M.rq l (k:Int)) (e:=(l,(k:Int))) (b:=false) k (by omega) (fun f j hj=>by
    rw[M.rq];have hj':j<l.length:=by omega
    simp only[bL,cq,cJ,hj,hk,hj',cn,aA,cD,bM,aO,cm hj (by omega:k<2^62)];cases l.getD j []==l.getD k []<;>rfl) (fun f=>by rw[M.rq];simp)
  simp only[bL,cq,cJ,hk,cn,aA,cD,bM,aO,cm hk (by omega:l.length<2^62),Yt _ hn,inner,aQ,aU];cases gI (l.getD k [])<;>cases (List.range k).all (fun j=> !(l.getD j []==l.getD k []))<;>simp[cm hk (by omega:l.length<2^62)]) (fun f=>by
  show M.pG (f+1) l (l.length:Int)=_
  rw[M.pG];simp)]
 unfold oN;rw[al6,al5,nodup_range];cases decide (1<=l.length)<;>cases decide (l.length<=16)<;>cases l.all gI<;>cases nodupB l<;>rfl
theorem al8(l:List (List UInt8))(h:aR List.length l<=1048576):M.wG l=some (oN l):=by
 have hl:=eS (ed List.length l) h;have c1:∀s:List UInt8,s.length<=1048576->M.wE s=some (!gI s):=fun s hs=>by
  unfold M.wE;rw[Ys s hs];rfl
 have cf:M.wF l=some (l.any fun s=> !gI s):=by
  have e:=sW (p:=fun s=> !gI s) (F:=M.uc l (l.length:Int)) (e:=()) (fun k=>k) l (by omega) (fun f k hk=>by
   rw[M.uc];have hn:l[k].length<=1048576:=eS (ij List.length _ _ (bn hk)) h;simp only[getD_lt hk,bL,cq,cJ,hk,cn,aA,cD,bM,aO,cm hk (by omega:l.length<2^62),c1 _ hn,aQ,aU]) (fun f=>by rw[M.uc];simp)
  unfold M.wF M.zJ;rw[e,sX];cases l.findIdx? (fun s=> !gI s)<;>simp
 unfold M.wG;rw[cf,al9 l hl];have e1:decide ((1:Int)<=((l.length:Nat):Int))=decide (1<=l.length):=by simp only[gK];omega
 have e2:decide (((l.length:Nat):Int)<=16)=decide (l.length<=16):=by simp only[gK];omega
 have e3:(l.any fun s=> !gI s)= !l.all gI:=by rw[Kz]
 unfold oN;simp only[aU,cD,aO,aA,aQ,e1,e2,e3,Bool.not_not];cases decide (1<=l.length)<;>cases decide (l.length<=16)<;>cases l.all gI<;>cases nodupB l<;>rfl
end M
namespace M
open Go.V (inB bV ah cC)
theorem oW{α:Type}{f:α->Nat}{l:List α}{N:Nat}(h:aR f l<=N){x:α}(hx:x∈l):f x<=N:=eS (ij f l x hx) h
theorem aa.K5{a:aa}{N:Nat}(h:a.sz<=N):aR List.length a.bu<=N:=by rw[aa.dW]at h;omega
theorem aa.Yu{a:aa}{N:Nat}(h:a.sz<=N):a.Name.length<=N:=by rw[aa.dW]at h;omega
theorem aa.ke{a:aa}{N:Nat}(h:a.sz<=N):aR aa.sz a.Kids<=N:=by rw[aa.dW]at h;omega
theorem aa.fw{a:aa}{N:Nat}(h:a.sz<=N):a.Kids.length<=N:=eS (ed _ _) (aa.ke h)
theorem aa.ama{a:aa}{N:Nat}(h:a.sz<=N):a.bu.length<=N:=eS (ed _ _) (aa.K5 h)
theorem aa.cX{a x:aa}(h:x∈a.Kids):x.sz<a.sz:=by
 rw[aa.dW a];have:=j5 aa.sz _ _ h;omega
theorem amb(t:aa)(h:t.sz<=1048576):M.ru t=some (t.Kids.any jd):=by
 have hl:=aa.fw h;have e:=sW (p:=jd) (F:=fun f i=>M.nE f i t) (e:=()) (fun _=>true) t.Kids (by omega) (fun f k hk=>by
  show M.nE (f+1) (k:Int) t=_
  rw[M.nE];simp only[aa.aP,getD_lt hk,bL,cq,cJ,hk,cn,aA,cD,bM,aO,cm hk (by omega:t.Kids.length<2^62),jd]) (fun f=>by
  show M.nE (f+1) _ t=_
  rw[M.nE];simp)
 unfold M.ru;rw[aa.aP,sX];have e':M.nE ah 0 t=_:=e;rw[e'];cases t.Kids.findIdx? jd<;>simp
theorem Yv(lo hi:Int):∀(m:Nat)(t:aa),t.sz<m->t.sz<=1048576->M.mH m t lo hi=some (jL (fun k=>decide (lo<=k)&&decide (k<=hi)) t)
 |0,t,h,_=>absurd h (en _)
 |m+1,t,h,hN=>by
  have hl:=aa.fw hN;have e:=sW (p:=jL (fun k=>decide (lo<=k)&&decide (k<=hi))) (F:=fun f i=>M.nF (M.mH m) lo hi f i t) (e:=()) (fun _=>true) t.Kids (by omega) (fun f k hk=>by
   show M.nF (M.mH m) lo hi (f+1) (k:Int) t=_
   rw[M.nF];have hx:=aa.cX (bn hk);simp only[aa.aP,getD_lt hk,Yv lo hi m t.Kids[k] (by omega) (by omega),bL,cq,cJ,hk,cn,aA,cD,bM,aO,cm hk (by omega:t.Kids.length<2^62),aQ,aU]) (fun f=>by
   show M.nF (M.mH m) lo hi (f+1) _ t=_
   rw[M.nF];simp)
  show M.zE (M.mH m) t lo hi=_
  unfold M.zE;have e':M.nF (M.mH m) lo hi ah 0 t=_:=e;rw[aa.aP,e',Yn,K2,sX];cases (decide (lo<=t.Kind)&&decide (t.Kind<=hi))<;>cases t.Kids.findIdx? (jL fun k=>decide (lo<=k)&&decide (k<=hi))<;>simp
theorem amc(l:List Int)(v:Int)(hl:l.length<2^62):M.wI l v=some (l.any fun x=>v==x):=by
 have e:=sW (p:=fun x=>v==x) (F:=M.ue l v (l.length:Int)) (e:=()) (fun k=>k) l hl (fun f k hk=>by
  rw[M.ue];simp only[getD_lt hk,bL,cq,cJ,hk,cn,aA,cD,bM,aO,cm hk hl]) (fun f=>by rw[M.ue];simp)
 unfold M.wI M.zN;rw[e,sX];cases l.findIdx? (fun x=>v==x)<;>simp
theorem Yw(ks:List Int)(hk:ks.length<2^62):∀(m:Nat)(t:aa),t.sz<m->t.sz<=1048576->M.nI m t ks=some (jL (fun k=>ks.any fun x=>k==x) t)
 |0,t,h,_=>absurd h (en _)
 |m+1,t,h,hN=>by
  have hl:=aa.fw hN;have e:=sW (p:=jL (fun k=>ks.any fun x=>k==x)) (F:=M.uf (M.nI m) t.Kids ks (t.Kids.length:Int)) (e:=()) (fun k=>k) t.Kids (by omega) (fun f k hk'=>by
   rw[M.uf];have hx:=aa.cX (bn hk');have c:M.wJ (M.nI m) t.Kids[k] ks=some (jL (fun k=>ks.any fun x=>k==x) t.Kids[k]):=by
    unfold M.wJ;simp only[aa.aP,Yw ks hk m t.Kids[k] (by omega) (by omega)];rfl
   simp only[aa.aP,getD_lt hk',c,bL,cq,cJ,hk',cn,aA,cD,bM,aO,cm hk' (by omega:t.Kids.length<2^62),aQ,aU]) (fun f=>by
   rw[M.uf];simp)
  have e2:M.wK (M.nI m) t.Kids ks=some (t.Kids.any (jL (fun k=>ks.any fun x=>k==x))):=by
   unfold M.wK M.zO;rw[e,sX];cases t.Kids.findIdx? (jL (fun k=>ks.any fun x=>k==x))<;>simp
  show M.zP (M.nI m) t ks=_
  unfold M.zP;rw[e2,amc ks _ hk,Yn,K2];simp
theorem K6:∀(l:List aa),(∀x∈l,dO x<=x.sz+1)->dF l<=aR aa.sz l
 |[],_=>bg _
 |x::r,h=>by
  have:=K6 r fun y hy=>h y (fL _ hy)
  have:=h x (ek ..);simp only[dF,aR];omega
theorem Yx:∀(n:Nat)(t:aa),t.sz<n->dO t<=t.sz+1
 |0,t,h=>absurd h (en _)
 |n+1,t,h=>by
  have:=K6 t.Kids fun x hx=>Yx n x (by have:=aa.cX hx;omega)
  rw[vl,aa.dW];omega
theorem KP(t:aa):dO t<=t.sz+1:=Yx _ t (sG _)
theorem yx{l:List aa}{N:Nat}(h:aR aa.sz l<=N):dF l<=N:=eS (K6 l fun x _=>KP x) h
theorem Yy:∀(m:Nat)(t:aa),t.sz<m->t.sz<=1048576->M.rA m t=some ((dO t:Nat):Int)
 |0,t,h,_=>absurd h (en _)
 |m+1,t,h,hN=>by
  have hl:=aa.fw hN;have hs:=yx (aa.ke hN);have key:∀f k (a:Nat),k<=t.Kids.length->t.Kids.length-k<f->a+dF (t.Kids.drop k)<=1048577->M.rz (M.rA m) t.Kids (t.Kids.length:Int) f (a:Int) (k:Int)=some (((a+dF (t.Kids.drop k):Nat)):Int):=by
   intro f
   induction f with
   |zero=>intro k a h1 h2;omega
   |succ f ih=>
    intro k a h1 h2 h3;rcases cO k t.Kids.length with hk|hk
    ·rw[M.rz];have hx:=aa.cX (bn hk);rw[sR hk]at h3⊢;have hw:Go.IntKind.wrap .i64 ((a:Int)+((dO t.Kids[k]:Nat):Int))=((a+dO t.Kids[k]:Nat):Int):=by rw[wrap_i64 (by omega) (by omega)];omega
     simp only[aa.aP,getD_lt hk,Yy m t.Kids[k] (by omega) (by omega),bL,cq,cJ,hk,cn,aA,bM,aO,cm hk (by omega:t.Kids.length<2^62),aQ,aU,hw];rw[ih (k+1) _ (by omega) (by omega) (by omega)];congr 1;omega
    ·have:k=t.Kids.length:=by omega
     subst this;rw[M.rz];simp[hC,dF]
  show M.zH (M.rA m) t=_
  unfold M.zH;have e:=key ah 0 1 (cU _) (by have:=cC;omega) (by simp only[ej];omega);have e':M.rz (M.rA m) t.Kids (t.Kids.length:Int) ah 1 0=_:=e;rw[e',vl];rfl
theorem Yz:∀(m:Nat)(t:aa)(L:Nat),L<m->L<=100->t.sz<=1048576->M.ry m t (L:Int)=some ((min (gJ t) (L+1):Nat):Int)
 |0,t,L,h,_,_=>absurd h (en _)
 |m+1,t,L,h,hL,hN=>by
  have hl:=aa.fw hN
  show M.zG (M.ry m) t (L:Int)=_
  unfold M.zG;cases L with
  |zero=>
   have:=Yr t;rw[show min (gJ t) (0+1)=1 by omega];rfl
  |succ L=>
   have hw0:Go.IntKind.wrap .i64 (((L+1:Nat):Int)-1)=(L:Int):=by rw[wrap_i64 (by omega) (by omega)];omega
   have key:∀f k (a:Nat),k<=t.Kids.length->t.Kids.length-k<f->M.rx (M.ry m) ((L+1:Nat):Int) t.Kids (t.Kids.length:Int) f (a:Int) (k:Int)=some ((max a (min (kg (t.Kids.drop k)) (L+1)):Nat):Int):=by
    intro f
    induction f with
    |zero=>intro k a h1 h2;omega
    |succ f ih=>
     intro k a h1 h2;rcases cO k t.Kids.length with hk|hk
     ·rw[M.rx];have hx:=aa.cX (bn hk);simp only[aa.aP,getD_lt hk,hw0,Yz m t.Kids[k] L (by omega) (by omega) (by omega),bL,cq,cJ,hk,cn,aA,bM,aO,cm hk (by omega:t.Kids.length<2^62),aQ,aU];have hm:(bif decide (a<min (gJ t.Kids[k]) (L+1))then((min (gJ t.Kids[k]) (L+1):Nat):Int)else(a:Int))=((max a (min (gJ t.Kids[k]) (L+1)):Nat):Int):=by
       by_cases hc:a<min (gJ t.Kids[k]) (L+1)
       ·simp only[hc,cn,aA];omega
       ·simp only[hc,vo,aT];omega
      rw[hm,ih (k+1) _ (by omega) (by omega),Yq hk];congr 1;omega
     ·have:k=t.Kids.length:=by omega
      subst this;rw[M.rx];simp[hC,kg]
   have e:=key ah 0 0 (cU _) (by have:=cC;omega);have e':M.rx (M.ry m) ((L+1:Nat):Int) t.Kids (t.Kids.length:Int) ah 0 0=_:=e;have d:(((L+1:Nat):Int)==0)=false:=by rw[kK];omega
   rw[d,e',K1];simp only[aT,ej];rw[wrap_i64 (by omega) (by omega)];congr 1;omega
end M
namespace M
open Go.V (inB bV ah cC)
def qB(d:Nat)(t:aa):Int×Int:=if d+gJ t<=5/\dO t<=24 then(((gJ t:Nat):Int),((dO t:Nat):Int))else(5,25)
theorem YA:∀(m d:Nat)(t:aa),d<=5->6<=m+d->t.sz<=1048576->M.rk m t (d:Int)=some (qB d t)
 |0,d,t,h1,h2,_=>by omega
 |m+1,d,t,h1,h2,hN=>by
  have hl:=aa.fw hN;have hdp:=Yr t
  show M.zD (M.rk m) t (d:Int)=_
  unfold M.zD;by_cases h5:d=5
  ·subst h5;have:qB 5 t=(5,25):=by unfold qB;rw[an (by omega)]
   rw[this];rfl
  have d4:decide ((4:Int)<(d:Int))=false:=by rw[lE];omega
  by_cases Yl:24<t.Kids.length
  ·have:qB d t=(5,25):=by
    unfold qB;have:=Yp t.Kids;rw[an (by rw[vl];omega)]
   rw[this,d4];have:decide ((24:Int)<((t.Kids.length:Nat):Int))=true:=by rw[bh];omega
   rw[this];rfl
  have d24:decide ((24:Int)<((t.Kids.length:Nat):Int))=false:=by rw[lE];omega
  have hw:Go.IntKind.wrap .i64 ((d:Int)+1)=((d+1:Nat):Int):=by rw[wrap_i64 (by omega) (by omega)];omega
  have mx:∀a b:Nat,M.gQ (a:Int) (b:Int)=some ((max a b:Nat):Int):=fun a b=>by
   unfold M.gQ;by_cases hc:b<a
   ·have:decide ((b:Int)<(a:Int))=true:=by rw[bh];omega
    rw[this];simp only[aA];congr 1;omega
   ·have:decide ((b:Int)<(a:Int))=false:=by rw[lE];omega
    rw[this];simp only[aT];congr 1;omega
  have key:∀f k (a p:Nat),k<=t.Kids.length->t.Kids.length-k<f->p<=24->M.rj (M.rk m) (d:Int) f (a:Int) (p:Int) (k:Int) t=
   some (if d+1+kg (t.Kids.drop k)<=5/\p+dF (t.Kids.drop k)<=24 then .inr (((max a (kg (t.Kids.drop k)):Nat):Int),((p+dF (t.Kids.drop k):Nat):Int))else .inl (5,25)):=by
   intro f
   induction f with
   |zero=>intro k a p h1 h2;omega
   |succ f ih=>
    intro k a p h1 h2 h3;rcases cO k t.Kids.length with hk|hk
    ·rw[M.rj];have hx:=aa.cX (bn hk);have hc:=YA m (d+1) t.Kids[k] (by omega) (by omega) (by omega);rw[Yq hk,sR hk];simp only[aa.aP,getD_lt hk,hw,hc,bL,cq,cJ,hk,cn,aA,bM,aO,cm hk (by omega:t.Kids.length<2^62),aQ,aU];unfold qB;by_cases hv:d+1+gJ t.Kids[k]<=5/\dO t.Kids[k]<=24
     ·rw[av hv];have hw2:Go.IntKind.wrap .i64 ((p:Int)+((dO t.Kids[k]:Nat):Int))=((p+dO t.Kids[k]:Nat):Int):=by rw[wrap_i64 (by omega) (by omega)];omega
      dsimp only;rw[hw2,mx];by_cases hp:24<p+dO t.Kids[k]
      ·have:decide ((24:Int)<((p+dO t.Kids[k]:Nat):Int))=true:=by rw[bh];omega
       rw[this,an (by omega)];simp
      ·have:decide ((24:Int)<((p+dO t.Kids[k]:Nat):Int))=false:=by rw[lE];omega
       rw[this];simp only[aT,aU,bM,aA,aQ];rw[ih (k+1) _ _ (by omega) (by omega) (by omega)];have e1:(d+1+kg (t.Kids.drop (k+1))<=5/\p+dO t.Kids[k]+dF (t.Kids.drop (k+1))<=24)↔(d+1+max (gJ t.Kids[k]) (kg (t.Kids.drop (k+1)))<=5/\p+(dO t.Kids[k]+dF (t.Kids.drop (k+1)))<=24):=by omega
       by_cases hq:d+1+kg (t.Kids.drop (k+1))<=5/\p+dO t.Kids[k]+dF (t.Kids.drop (k+1))<=24
       ·rw[av hq,av (e1.1 hq)];congr 3
        ·omega
        ·omega
       ·rw[an hq,an (fun h=>hq (e1.2 h))]
     ·rw[an hv,an (by omega)];have hw2:Go.IntKind.wrap .i64 ((p:Int)+25)=(p:Int)+25:=wrap_i64 (by omega) (by omega);have mx5:M.gQ (a:Int) 5=some ((max a 5:Nat):Int):=mx a 5;dsimp only;rw[hw2,mx5];have:decide ((24:Int)<(p:Int)+25)=true:=by rw[bh];omega
      rw[this];simp
    ·have:k=t.Kids.length:=by omega
     subst this;rw[M.rj,hC];have hq:d+1+kg []<=5/\p+dF []<=24:=⟨by show d+1+0<=5;omega,by show p+0<=24;omega⟩;rw[av hq];simp[kg,dF]
  have e:=key ah 0 0 1 (cU _) (by have:=cC;omega) (by omega);have e':M.rj (M.rk m) (d:Int) ah 0 1 0 t=_:=e;rw[aa.aP,d4,d24,e'];simp only[ej,ip,aT];unfold qB;rw[K1,vl];by_cases hq:d+1+kg t.Kids<=5/\1+dF t.Kids<=24
  ·rw[av hq,av (by omega)];simp only;congr 2;rw[wrap_i64 (by omega) (by omega)];omega
  ·rw[an hq,an (by omega)]
theorem YB{p:Int->Bool}{l:List aa}(h:l.length=1):jL p (l.getD 0 aa.zero)=kQ p l:=by
 match l,h with
 |[x],_=>simp[kQ]
theorem YC{p q:Int->Bool}(h:∀k,p k=q k):jL p=jL q:=by
 have:p=q:=funext h;rw[this]
theorem b21(k:Int):(decide ((21:Int)<=k)&&decide (k<=21))=(k==21):=by
 rw[sV];simp only[aZ,bh,kO];omega
theorem yB(n m:Nat):(((n:Nat):Int)==((m:Nat):Int))=(n==m):=by
 rw[sV];simp only[kO];omega
theorem YD(n:Nat):(((n:Nat):Int)==1)=(n==1):=yB n 1
theorem YE(n:Nat):(((n:Nat):Int)==2)=(n==2):=yB n 2
theorem YF(n:Nat):(((n:Nat):Int)==0)=(n==0):=yB n 0
theorem K7(n:Nat):inB (0:Int) n=decide (0<n):=cq 0 n
theorem amg(t:aa)(h:t.sz<=1048576):M.wq t=some (jH t):=by
 have hn:=Yt t.Name (aa.Yu h);have hb:=al7 t.bu (aa.K5 h);have hu:=amb t h;have hh:t.Kids.length=1->M.tZ (M.aa.re (List.getD t.Kids 0 aa.zero)) 21 21=some (kQ (fun k=>k==21) t.Kids):=fun h1=>by
  have hx:(t.Kids.getD 0 aa.zero).sz<t.sz:=by
   rw[getD_lt (by omega)];exact aa.cX (bn _)
  rw[aa.aP,show M.tZ=M.mH ah from rfl,Yv 21 21 ah _ (eU (by omega)) (by omega),YC b21,YB h1]
 unfold M.wq;simp only[aa.aP,hn,hb,hu,aQ,aU,cD,aO,bM,aA,YD,YE,YF,yB,K7,Int.toNat_zero];unfold jH sK;have e0:decide ((0:Int)<((t.bu.length:Nat):Int))= !(t.bu.length==0):=by
  rw[sV];simp only[bh,iv,kK];omega
 have e1:decide ((1:Int)<=((t.Kids.length:Nat):Int))=decide (1<=t.Kids.length):=by simp only[gK];omega
 have e2:decide (((t.Kids.length:Nat):Int)<=6)=decide (t.Kids.length<=6):=by simp only[gK];omega
 rw[e0,e1,e2];have fy:oN t.bu=true->(t.bu.length==0)=false:=fun h=>by
  simp only[oN,aZ,bh]at h;rw[kK];omega
 have fA:gI t.Name=true->(t.Name==[])=false:=fun h=>by
  simp only[gI,aZ,bh]at h;rw[kK];intro e;rw[e]at h;simp at h
 unfold K3 AX;have hz:t.Kids.length=1->decide (0<t.Kids.length)=true:=fun h1=>by rw[h1];rfl
 have hl1:(t.Kids.length==1)=true->t.Kids.length=1:=fun h1=>by simpa using h1
 have hbr:(t.Kids.length==1)=true->M.tZ (M.aa.re (List.getD t.Kids 0 aa.zero)) 21 21=some (kQ (fun k=>k==21) t.Kids)/\decide (0<t.Kids.length)=true:=fun h1=>⟨hh (hl1 h1),hz (hl1 h1)⟩
 clear hn hb hu hh hz hl1;simp only[aa.aP]at hbr⊢;generalize hK:t.Kind=K;generalize (t.Name==[])=nn at fA⊢;generalize gI t.Name=no at fA⊢;generalize oN t.bu=lo at fy⊢;generalize (t.bu.length==0)=ll at fy⊢;generalize M.tZ (List.getD t.Kids 0 aa.zero) 21 21=o at hbr⊢;generalize decide (0<t.Kids.length)=z at hbr⊢;generalize (t.Kids.length==1)=l1 at hbr⊢;generalize kQ (fun k=>k==21) t.Kids=kh at hbr⊢;generalize t.Kids.any jd=au;generalize (t.Kids.length==2)=l2;generalize (t.Kids.length==0)=l0;generalize (t.Kids.length==t.bu.length)=lk;generalize decide (1<=t.Kids.length)=ge;generalize decide (t.Kids.length<=6)=le;clear hK h e0 e1 e2;by_cases h12:K=12
 ·subst h12;cases l1
  ·cases no<;>cases nn<;>simp at fA<;>cases lo<;>cases ll<;>simp at fy<;>simp
  ·obtain⟨rfl,rfl⟩:=hbr rfl;cases no<;>cases nn<;>simp at fA<;>cases lo<;>cases ll<;>simp at fy<;>simp
 by_cases h13:K=13
 ·subst h13;cases l1
  ·cases no<;>cases nn<;>simp at fA<;>cases lo<;>cases ll<;>simp at fy<;>simp
  ·obtain⟨rfl,rfl⟩:=hbr rfl;cases no<;>cases nn<;>simp at fA<;>cases lo<;>cases ll<;>simp at fy<;>simp
 by_cases je:K=14
 ·subst je;cases l1
  ·cases no<;>cases nn<;>simp at fA<;>cases lo<;>cases ll<;>simp at fy<;>simp
  ·obtain⟨rfl,rfl⟩:=hbr rfl;cases no<;>cases nn<;>simp at fA<;>cases lo<;>cases ll<;>simp at fy<;>simp
 by_cases h15:K=15
 ·subst h15;cases l1
  ·cases no<;>cases nn<;>simp at fA<;>cases lo<;>cases ll<;>simp at fy<;>simp
  ·obtain⟨rfl,rfl⟩:=hbr rfl;cases no<;>cases nn<;>simp at fA<;>cases lo<;>cases ll<;>simp at fy<;>simp
 by_cases h16:K=16
 ·subst h16;cases l1
  ·cases no<;>cases nn<;>simp at fA<;>cases lo<;>cases ll<;>simp at fy<;>simp
  ·obtain⟨rfl,rfl⟩:=hbr rfl;cases no<;>cases nn<;>simp at fA<;>cases lo<;>cases ll<;>simp at fy<;>simp
 by_cases h17:K=17
 ·subst h17;cases l1
  ·cases no<;>cases nn<;>simp at fA<;>cases lo<;>cases ll<;>simp at fy<;>simp
  ·obtain⟨rfl,rfl⟩:=hbr rfl;cases no<;>cases nn<;>simp at fA<;>cases lo<;>cases ll<;>simp at fy<;>simp
 by_cases h18:K=18
 ·subst h18;cases l1
  ·cases no<;>cases nn<;>simp at fA<;>cases lo<;>cases ll<;>simp at fy<;>simp
  ·obtain⟨rfl,rfl⟩:=hbr rfl;cases no<;>cases nn<;>simp at fA<;>cases lo<;>cases ll<;>simp at fy<;>simp
 by_cases h19:K=19
 ·subst h19;cases l1
  ·cases no<;>cases nn<;>simp at fA<;>cases lo<;>cases ll<;>simp at fy<;>simp
  ·obtain⟨rfl,rfl⟩:=hbr rfl;cases no<;>cases nn<;>simp at fA<;>cases lo<;>cases ll<;>simp at fy<;>simp
 by_cases h20:K=20
 ·subst h20;cases l1
  ·cases no<;>cases nn<;>simp at fA<;>cases lo<;>cases ll<;>simp at fy<;>simp
  ·obtain⟨rfl,rfl⟩:=hbr rfl;cases no<;>cases nn<;>simp at fA<;>cases lo<;>cases ll<;>simp at fy<;>simp
 by_cases h21:K=21
 ·subst h21;cases l1
  ·cases no<;>cases nn<;>simp at fA<;>cases lo<;>cases ll<;>simp at fy<;>simp
  ·obtain⟨rfl,rfl⟩:=hbr rfl;cases no<;>cases nn<;>simp at fA<;>cases lo<;>cases ll<;>simp at fy<;>simp
 by_cases h22:K=22
 ·subst h22;cases l1
  ·cases no<;>cases nn<;>simp at fA<;>cases lo<;>cases ll<;>simp at fy<;>simp
  ·obtain⟨rfl,rfl⟩:=hbr rfl;cases no<;>cases nn<;>simp at fA<;>cases lo<;>cases ll<;>simp at fy<;>simp
 by_cases h23:K=23
 ·subst h23;cases l1
  ·cases no<;>cases nn<;>simp at fA<;>cases lo<;>cases ll<;>simp at fy<;>simp
  ·obtain⟨rfl,rfl⟩:=hbr rfl;cases no<;>cases nn<;>simp at fA<;>cases lo<;>cases ll<;>simp at fy<;>simp
 have q1:(K==20)=false:=by simpa using h20
 have q2:(K==21)=false:=by simpa using h21
 have q3:(decide ((16:Int)<=K)&&decide (K<=19))=false:=by
  rw[E4];simp only[ne_eq,aZ,bh];omega
 have q4:(K==12)=false:=by simpa using h12
 have q5:(K==13)=false:=by simpa using h13
 have q6:(K==14)=false:=by simpa using je
 have q7:(K==15)=false:=by simpa using h15
 have q8:(K==16)=false:=by simpa using h16
 have q9:(K==17)=false:=by simpa using h17
 have q10:(K==22)=false:=by simpa using h22
 have q11:(K==23)=false:=by simpa using h23
 simp only[q1,q2,q3,q4,q5,q6,q7,q8,q9,q10,q11,h12,h13,je,h15,h16,h17,h22,h23,or_self,fa];cases nn<;>cases ll<;>simp
end M
namespace M
open Go.V (inB bV ah cC)
theorem YG:∀(m:Nat)(t:aa),t.sz<m->t.sz<=1048576->M.nH m t=some (bj t)
 |0,t,h,_=>absurd h (en _)
 |m+1,t,h,hN=>by
  have hl:=aa.fw hN;have e:=KZ (p:=bj) (F:=fun f i=>M.nG (M.nH m) f i t) (e:=()) (b:=false) t.Kids (by omega) (fun f k hk=>by
   show M.nG (M.nH m) (f+1) (k:Int) t=_
   rw[M.nG];have hx:=aa.cX (bn hk);simp only[aa.aP,getD_lt hk,YG m t.Kids[k] (by omega) (by omega),bL,cq,cJ,hk,cn,aA,cD,bM,aO,cm hk (by omega:t.Kids.length<2^62),aQ,aU];cases bj t.Kids[k]<;>rfl) (fun f=>by
   show M.nG (M.nH m) (f+1) _ t=_
   rw[M.nG];simp)
  show M.zF (M.nH m) t=_
  unfold M.zF;have e':M.nG (M.nH m) ah 0 t=_:=e;rw[aa.aP,amg t hN,e',oM,yA];cases jH t<;>cases t.Kids.all bj<;>simp
theorem amh(t:aa)(h:t.sz<=1048576):M.wM t=some (fP t):=by
 unfold M.wM;have e1:M.CO t=some (bj t):=YG ah t (eU h) h;have e2:M.CG t 1=some (qB 1 t):=YA ah 1 t (by omega) (by have:=cC;omega) h;simp only[aa.aP,e1,e2,aQ,aU,cD,aO,aA];unfold fP qB;by_cases hq:1+gJ t<=5/\dO t<=24
 ·rw[av hq];have a1:decide (((gJ t:Nat):Int)<=4)=decide (gJ t<=4):=by simp only[gK];omega
  have a2:decide (((dO t:Nat):Int)<=24)=decide (dO t<=24):=by simp only[gK];omega
  dsimp only;rw[a1,a2]
 ·rw[an hq];have:(decide (gJ t<=4)&&decide (dO t<=24))=false:=by
   rw[E4];simp only[ne_eq,aZ,bh];omega
  rw[this];rfl
theorem alP(t:aa)(h:t.sz<=1048576):M.wN t=some (fP t):=by
 unfold M.wN;simp only[aa.aP,amh t h];rfl
end M
namespace M
open Go.V (inB bV ah cC)
theorem ami(l:List aa)(hl:l.length<=1048576):M.wH l=some (l.any jd):=by
 have e:=sW (p:=jd) (F:=M.ud l (l.length:Int)) (e:=()) (fun k=>k) l (by omega) (fun f k hk=>by
  rw[M.ud];simp only[getD_lt hk,bL,cq,cJ,hk,cn,aA,cD,bM,aO,cm hk (by omega:l.length<2^62)];rfl) (fun f=>by rw[M.ud];simp)
 unfold M.wH M.zM;rw[e,sX];cases l.findIdx? jd<;>simp
theorem amj(t:aa)(h:t.sz<=1048576)(n:Nat):M.pL t (n:Int)=some ((t.Kids.length==n)&& !t.Kids.any jd):=by
 unfold M.pL;rw[ami t.Kids (aa.fw h)];simp only[aU,cD,aO,aA,aQ,yB]
theorem amk(t:aa)(h:t.sz<=1048576)(rec:aa->Option Bool)(b:Bool)(hb:M.ub rec t.Kids=some (!b)):M.wL rec t=some (b&&jH t):=by
 have hn:=Ys t.Name (aa.Yu h);have hlab:=al8 t.bu (aa.K5 h);have hk:=amj t h;have hk1:M.pL t 1=some ((t.Kids.length==1)&& !t.Kids.any jd):=hk 1;have hh:t.Kids.length=1->M.ug (M.aa.re (List.getD t.Kids 0 aa.zero)) [21]=some (kQ (fun k=>k==21) t.Kids):=fun h1=>by
  have hx:(t.Kids.getD 0 aa.zero).sz<t.sz:=by
   rw[getD_lt (by omega)];exact aa.cX (bn _)
  have e:jL (fun k=>[(21:Int)].any fun x=>k==x)=jL (fun k=>k==21):=YC fun k=>by simp
  rw[aa.aP,show M.ug=M.nI ah from rfl,Yw [21] (by simp) ah _ (eU (by omega)) (by omega),e,YB h1]
 unfold M.wL;simp only[aa.aP,hb,hn,hlab,hk,hk1,aQ,aU,cD,aO,bM,aA,YD,YE,YF,yB,K7,Int.toNat_zero];unfold jH sK;have e0:decide ((0:Int)<((t.bu.length:Nat):Int))= !(t.bu.length==0):=by
  rw[sV];simp only[bh,iv,kK];omega
 have e1:decide ((1:Int)<=((t.Kids.length:Nat):Int))=decide (1<=t.Kids.length):=by simp only[gK];omega
 have e2:decide (((t.Kids.length:Nat):Int)<=6)=decide (t.Kids.length<=6):=by simp only[gK];omega
 rw[e0,e1,e2];unfold K3 AX;have hz:t.Kids.length=1->decide (0<t.Kids.length)=true:=fun h1=>by rw[h1];rfl
 have hl1:(t.Kids.length==1)=true->t.Kids.length=1:=fun h1=>by simpa using h1
 have hbr:(t.Kids.length==1)=true->M.ug (M.aa.re (List.getD t.Kids 0 aa.zero)) [21]=some (kQ (fun k=>k==21) t.Kids)/\decide (0<t.Kids.length)=true:=fun h1=>⟨hh (hl1 h1),hz (hl1 h1)⟩
 clear hn hlab hk hk1 hh hz hl1 hb;simp only[aa.aP]at hbr⊢;generalize hK:t.Kind=K;generalize (t.Name==[])=nn;generalize gI t.Name=no;generalize oN t.bu=lo;generalize (t.bu.length==0)=ll;generalize M.ug (List.getD t.Kids 0 aa.zero) [21]=o at hbr⊢;generalize decide (0<t.Kids.length)=z at hbr⊢;generalize (t.Kids.length==1)=l1 at hbr⊢;generalize kQ (fun k=>k==21) t.Kids=kh at hbr⊢;generalize t.Kids.any jd=au;generalize (t.Kids.length==2)=l2;generalize (t.Kids.length==0)=l0;have YH:(t.Kids.length==t.Kids.length)=true:=by simp
 rw[YH];generalize (t.Kids.length==t.bu.length)=lk;generalize decide (1<=t.Kids.length)=ge;generalize decide (t.Kids.length<=6)=le;clear hK h e0 e1 e2 YH;cases b
 ·simp
 by_cases h12:K=12
 ·subst h12;cases l1
  ·cases no<;>cases nn<;>cases lo<;>cases ll<;>simp
  ·obtain⟨rfl,rfl⟩:=hbr rfl;cases no<;>cases nn<;>cases lo<;>cases ll<;>simp
 by_cases h13:K=13
 ·subst h13;cases l1
  ·cases no<;>cases nn<;>cases lo<;>cases ll<;>simp
  ·obtain⟨rfl,rfl⟩:=hbr rfl;cases no<;>cases nn<;>cases lo<;>cases ll<;>simp
 by_cases je:K=14
 ·subst je;cases l1
  ·cases no<;>cases nn<;>cases lo<;>cases ll<;>simp
  ·obtain⟨rfl,rfl⟩:=hbr rfl;cases no<;>cases nn<;>cases lo<;>cases ll<;>simp
 by_cases h15:K=15
 ·subst h15;cases l1
  ·cases no<;>cases nn<;>cases lo<;>cases ll<;>simp
  ·obtain⟨rfl,rfl⟩:=hbr rfl;cases no<;>cases nn<;>cases lo<;>cases ll<;>simp
 by_cases h16:K=16
 ·subst h16;cases l1
  ·cases no<;>cases nn<;>cases lo<;>cases ll<;>simp
  ·obtain⟨rfl,rfl⟩:=hbr rfl;cases no<;>cases nn<;>cases lo<;>cases ll<;>simp
 by_cases h17:K=17
 ·subst h17;cases l1
  ·cases no<;>cases nn<;>cases lo<;>cases ll<;>simp
  ·obtain⟨rfl,rfl⟩:=hbr rfl;cases no<;>cases nn<;>cases lo<;>cases ll<;>simp
 by_cases h18:K=18
 ·subst h18;cases l1
  ·cases no<;>cases nn<;>cases lo<;>cases ll<;>simp
  ·obtain⟨rfl,rfl⟩:=hbr rfl;cases no<;>cases nn<;>cases lo<;>cases ll<;>simp
 by_cases h19:K=19
 ·subst h19;cases l1
  ·cases no<;>cases nn<;>cases lo<;>cases ll<;>simp
  ·obtain⟨rfl,rfl⟩:=hbr rfl;cases no<;>cases nn<;>cases lo<;>cases ll<;>simp
 by_cases h20:K=20
 ·subst h20;cases l1
  ·cases no<;>cases nn<;>cases lo<;>cases ll<;>simp
  ·obtain⟨rfl,rfl⟩:=hbr rfl;cases no<;>cases nn<;>cases lo<;>cases ll<;>simp
 by_cases h21:K=21
 ·subst h21;cases l1
  ·cases no<;>cases nn<;>cases lo<;>cases ll<;>simp
  ·obtain⟨rfl,rfl⟩:=hbr rfl;cases no<;>cases nn<;>cases lo<;>cases ll<;>simp
 by_cases h22:K=22
 ·subst h22;cases l1
  ·cases no<;>cases nn<;>cases lo<;>cases ll<;>simp
  ·obtain⟨rfl,rfl⟩:=hbr rfl;cases no<;>cases nn<;>cases lo<;>cases ll<;>simp
 by_cases h23:K=23
 ·subst h23;cases l1
  ·cases no<;>cases nn<;>cases lo<;>cases ll<;>simp
  ·obtain⟨rfl,rfl⟩:=hbr rfl;cases no<;>cases nn<;>cases lo<;>cases ll<;>simp
 have q1:(K==20)=false:=by simpa using h20
 have q2:(K==21)=false:=by simpa using h21
 have q3:(decide ((16:Int)<=K)&&decide (K<=19))=false:=by
  rw[E4];simp only[ne_eq,aZ,bh];omega
 have q4:(K==12)=false:=by simpa using h12
 have q5:(K==13)=false:=by simpa using h13
 have q6:(K==14)=false:=by simpa using je
 have q7:(K==15)=false:=by simpa using h15
 have q8:(K==16)=false:=by simpa using h16
 have q9:(K==17)=false:=by simpa using h17
 have q10:(K==22)=false:=by simpa using h22
 have q11:(K==23)=false:=by simpa using h23
 simp only[q1,q2,q3,q4,q5,q6,q7,q8,q9,q10,q11,h12,h13,je,h15,h16,h17,h22,h23,or_self,fa];cases nn<;>cases ll<;>simp
theorem YI:∀(m:Nat)(t:aa),t.sz<m->t.sz<=1048576->M.pM m t=some (bj t)
 |0,t,h,_=>absurd h (en _)
 |m+1,t,h,hN=>by
  have hl:=aa.fw hN;have e:=sW (p:=fun x=> !bj x) (F:=M.ua (M.pM m) t.Kids (t.Kids.length:Int)) (e:=()) (fun k=>k) t.Kids (by omega) (fun f k hk=>by
   rw[M.ua];have hx:=aa.cX (bn hk);have c:M.wz (M.pM m) t.Kids[k]=some (!bj t.Kids[k]):=by
    unfold M.wz;simp only[aa.aP,YI m t.Kids[k] (by omega) (by omega)];rfl
   simp only[aa.aP,getD_lt hk,c,bL,cq,cJ,hk,cn,aA,cD,bM,aO,cm hk (by omega:t.Kids.length<2^62),aQ,aU]) (fun f=>by
   rw[M.ua];simp)
  have e2:M.ub (M.pM m) t.Kids=some (!vm t.Kids):=by
   unfold M.ub M.zI;have e3:(!vm t.Kids)=t.Kids.any fun x=> !bj x:=by rw[yA,Kz]
   rw[e,e3,sX];cases t.Kids.findIdx? (fun x=> !bj x)<;>simp
  show M.wL (M.pM m) t=_
  rw[amk t hN _ _ e2,oM,Bool.and_comm]
theorem akV(t:aa)(h:t.sz<=1048576):M.wR t=some (fP t):=by
 unfold M.wR;have e1:M.C6 t=some (bj t):=YI ah t (eU h) h;have e2:M.CQ t 4=some ((min (gJ t) 5:Nat):Int):=Yz ah t 4 (by have:=cC;omega) (by omega) h;have e3:M.CU t=some ((dO t:Nat):Int):=Yy ah t (eU h) h;simp only[aa.aP,e1,e2,e3,aQ,aU,cD,aO,aA];have a1:decide (((min (gJ t) 5:Nat):Int)<=4)=decide (gJ t<=4):=by simp only[gK];omega
 have a2:decide (((dO t:Nat):Int)<=24)=decide (dO t<=24):=by simp only[gK];omega
 rw[a1,a2];rfl
end M
namespace M
open Go.V (inB bV ah cC)
def bB(t:aa):List aa:=if t.Kind=13 then[.mk 1 [] [] [],t.Kids.getD 0 aa.zero]else t.Kids
theorem sH{t:aa}(h:bj t=true)(hk:t.Kind=13):0<t.Kids.length:=by
 rw[oM]at h;have h1:jH t=true:=by rw[aZ]at h;exact h.1
 unfold jH sK at h1;rw[av (.inr hk:t.Kind=12\/t.Kind=13)]at h1;simp only[aZ,kO]at h1;omega
theorem fu{t:aa}(h:bj t=true):∀x∈t.Kids,bj x=true:=by
 rw[oM,aZ,yA,eP]at h;exact h.2
theorem ym(t:aa)(h:bj t=true)(hk:t.Kind=13\/t.Kind=14\/t.Kind=17):M.kA t=some (bB t):=by
 unfold M.kA bB;by_cases h13:t.Kind=13
 ·have hp:=sH h h13;rw[av h13];simp only[aa.aP,h13,K7,hp,cn,aO,aA,Int.toNat_zero,lH]
 ·rw[an h13];rcases hk with hk|hk|hk
  ·exact absurd hk h13
  ·rw[hk];rfl
  ·rw[hk];rfl
theorem yo(t:aa)(h:bj t=true)(hk:t.Kind=13\/t.Kind=14\/t.Kind=17):M.l7 t=some (bB t):=ym t h hk
theorem lF{t:aa}(h:bj t=true)(hk:t.Kind=13\/t.Kind=14\/t.Kind=17):∀x∈bB t,bj x=true:=by
 unfold bB;by_cases h13:t.Kind=13
 ·have hp:=sH h h13;rw[av h13,getD_lt hp];intro x hx;rcases dY.1 hx with rfl|hx
  ·decide
  ·rcases dY.1 hx with rfl|hx
   ·exact fu h _ (bn _)
   ·simp at hx
 ·rw[an h13];exact fu h
theorem kL{t:aa}(h:bj t=true)(hk:t.Kind=13\/t.Kind=14\/t.Kind=17):∀x∈bB t,x.sz<t.sz:=by
 unfold bB;by_cases h13:t.Kind=13
 ·have hp:=sH h h13;rw[av h13,getD_lt hp];have hg:(t.Kids[0]).sz<t.sz:=aa.cX (bn _);intro x hx;rcases dY.1 hx with rfl|hx
  ·have:(aa.mk 1 [] [] []).sz=0:=by rw[aa.dW];rfl
   omega
  ·rcases dY.1 hx with rfl|hx
   ·exact hg
   ·simp at hx
 ·rw[an h13];exact fun x hx=>aa.cX hx
end M
